/- packed by slim.py -/
import Derived.Maps.Range
import Derived.StringKeys
import Derived.Test.YtdcdgmiojlldaaaDoorZP9
/- The disk's map: no file, or one, named "l". -/
namespace Go.Proofs.YtdcdgmiojlldaaaDoor.Wl
open Go Big Go.RowKit Go.Maps Go.WideShapes
set_option linter.unusedVariables false
set_option linter.unusedSimpArgs false
def PtR (v : Value) : Option (DataW Unit × List MemPlace) := match v with
  | .pointer none => some (.lit (.bool false), [])
  | .pointer (some ⟨p, 0, none⟩) => some (.lit (.int .i64 p), [])
  | _ => none
def ptr (f : Option Nat) : Value := .pointer (f.map fun p => ⟨p, 0, none⟩)
def pdt (f : Option Nat) : DataW Unit := match f with
  | none => .lit (.bool false)
  | some p => .lit (.int .i64 p)
theorem PtR_ptr (f : Option Nat) : PtR (ptr f) = some (pdt f, []) := by cases f <;> rfl
theorem PtR_inv {v : Value} {f : Option Nat} {ps : List MemPlace} (h : PtR v = some (pdt f, ps)) : v = ptr f := by
  unfold PtR at h
  split at h
  · cases f with
    | none => rfl
    | some q => simp [pdt] at h
  · cases f with
    | none => simp [pdt] at h
    | some q =>
      simp [pdt] at h
      obtain ⟨h, _⟩ := h
      rw [show _ = q from Int.ofNat.inj h]; rfl
  · cases h
def Dd (f : Option Nat) : DataW Unit := .map (match f with
  | none => []
  | some p => [(.string [108], .lit (.int .i64 p))])
def Fm (w : World) (b : Nat) (f : Option Nat) : Prop := ∃ n, w.ownsMap (H := Unit) Tryd.prog 9 PtR b n (Dd f) ∧ n ≤ 1
theorem k9 : Tryd.prog.underlying 9 = some .string := by kernel_rfl
theorem k58 : Tryd.prog.underlying 58 = some (.map 9 66) := by kernel_rfl
theorem z66 (w : World) : (zeroValue 66).run Tryd.prog w = .ok (ptr none) w := by kernel_rfl
section
variable {α : Type} {Q : α → Prop} {w w' : World} {b p : Nat} {f : Option Nat} {S : Nat → Prop}
theorem rn_run {P : Program} {s : Sem Value} {v : Value} {g : Value → World → Option α} (h : s.run P w = .ok v w') : rn P s w g = g v w' := by simp only [rn, h]
theorem rn_do {P : Program} {s : Sem Unit} {u : Value} {g : Value → World → Option α} (h : s.run P w = .ok () w') : rn P (do s; pure u) w g = g u w' := by simp [rn, h]
theorem Fm.lt (h : Fm w b f) : b < w.heap.size := by obtain ⟨n, h, _⟩ := h; exact h.lt
theorem Fm.new (w : World) : Fm (w.alloc (.map #[] 0)) w.heap.size none := ⟨0, World.ownsMap_made w _ _ _, by decide⟩
theorem owns_gx {n : Nat} {D : DataW Unit} (h : w.ownsMap Tryd.prog 9 PtR b n D) (hg : Gx S w w') (hn : ¬ S b) : w'.ownsMap Tryd.prog 9 PtR b n D := by
  obtain ⟨es, clock, hb, h2⟩ := h
  exact ⟨es, clock, (hg.block b (Array.getElem?_eq_some_iff.1 hb).1 hn).trans hb, h2⟩
theorem Fm.gx (h : Fm w b f) (hg : Gx S w w') (hn : ¬ S b) : Fm w' b f := by
  obtain ⟨n, h, h3⟩ := h
  exact ⟨n, owns_gx h hg hn, h3⟩
theorem Fm.kp (h : Fm w b f) (hk : Kp w w') : Fm w' b f := h.gx (S := fun _ => False) hk.gx fun h => h
theorem keyL : keyOf Tryd.prog 9 (.string (⟨#[108]⟩ : ByteArray)) = some (.string [108]) := WideMaps.keyOf_string_mk k9 (by decide)
theorem Dd_at (f : Option Nat) : (Dd f).atKey (.string [108]) (pdt none) = pdt f := by cases f <;> rfl
theorem Rt.lookF (h : Fm w b f) {g : Value → World → Option α} (hf : Rt (g (ptr f) w) Q) : Rt (rn Tryd.prog (Instr.lookup 58 (.map (some b)) (.string (⟨#[108]⟩ : ByteArray)) false) w g) Q := by
  obtain ⟨n, h1, h2⟩ := h
  obtain ⟨v, ps, hrun, hv⟩ := h1.lookup (string_keyed k9) k58 (z66 w) (PtR_ptr none) keyL
  rw [Dd_at] at hv
  obtain rfl := PtR_inv hv
  rw [rn_run hrun]
  exact hf
theorem Rt.putG {s : ByteArray} (hkey : keyOf Tryd.prog 9 (.string s) = some (.string [108])) (h : Fm w b none) {g : Value → World → Option α} {u : Value} (hf : ∀ w', Fm w' b (some p) → Gx (fun k => k = b) w w' → Rt (g u w') Q) :
    Rt (rn Tryd.prog (do Instr.mapUpdate 58 (.map (some b)) (.string s) (.pointer (some ⟨p, 0, none⟩)); pure u) w g) Q := by
  obtain ⟨n, h1, h2⟩ := h
  have h0 : w.ownsMap Tryd.prog 9 PtR b 0 (Dd none) := by
    obtain ⟨es, clock, hb, F, hs, hD⟩ := h1
    refine ⟨es, clock, hb, F, ?_, hD⟩
    have e1 : ((es.toList.map (WideElems.rg Tryd.prog 9 PtR)).foldr DataW.insert []).length = es.size := by rw [length_sorted]; simp
    have e2 := (DataW.map.inj hD)
    rw [← e1, ← e2]; exact Nat.le_refl _
  obtain ⟨w', hrun, o, g1⟩ := h0.update (string_keyed k9) k58 (show (0 : Nat) < maxLen by unfold maxLen; omega) hkey (PtR_ptr (some p))
  have hrun' : (Instr.mapUpdate 58 (.map (some b)) (.string s) (.pointer (some ⟨p, 0, none⟩))).run Tryd.prog w = .ok () w' := hrun
  rw [rn_do hrun']
  exact hf w' ⟨1, o, Nat.le_refl _⟩ ((Gx.of_grown g1).wide fun k _ e => (Option.some.inj e).symm)
theorem Rt.putF (h : Fm w b none) {g : Value → World → Option α} {u : Value} (hf : ∀ w', Fm w' b (some p) → Gx (fun k => k = b) w w' → Rt (g u w') Q) :
    Rt (rn Tryd.prog (do Instr.mapUpdate 58 (.map (some b)) (.string (⟨#[108]⟩ : ByteArray)) (.pointer (some ⟨p, 0, none⟩)); pure u) w g) Q := Rt.putG keyL h hf
theorem Rt.lenF (h : Fm w b f) {ty : TypeId} {g : Value → World → Option α} (hf : Rt (g (.int .i64 (if f.isSome then 1 else 0)) w) Q) : Rt (rn Tryd.prog (Builtin.len_ #[58] ty #[.map (some b)]) w g) Q := by
  obtain ⟨n, h1, h2⟩ := h
  have hrun := h1.len k58 ty
  have e : (Maps.size (Dd f) : Int) = if f.isSome then 1 else 0 := by cases f <;> rfl
  rw [e] at hrun
  rw [rn_run hrun]
  exact hf
def Rg (w : World) (b r : Nat) (f : Option Nat) (c : Nat) : Prop := ∃ n left, w.ranges (H := Unit) Tryd.prog 9 PtR b r n (Dd f) left c ∧ n ≤ 1 ∧ ∀ kl, left kl = true → kl = .string [108]
theorem Rg.fm {r c : Nat} (h : Rg w b r f c) : Fm w b f := by obtain ⟨n, l, h, h1, _⟩ := h; exact ⟨n, h.owns, h1⟩
theorem Rg.gx {r c : Nat} (h : Rg w b r f c) (hg : Gx S w w') (hb : ¬ S b) (hr : ¬ S r) : Rg w' b r f c := by
  obtain ⟨n, l, h, h1, h2⟩ := h
  refine ⟨n, l, ?_, h1, h2⟩
  have hbl := h.owns.lt
  have hrl := h.lt
  obtain ⟨es, clock, since, seen, c0, hb', F, hs, hD, hr', rest⟩ := h
  exact ⟨es, clock, since, seen, c0, (hg.block b hbl hb).trans hb', F, hs, hD, (hg.block r hrl hr).trans hr', rest⟩
theorem Rt.range (h : Fm w b f) {g : Value → World → Option α} (hf : ∀ w', Rg w' b w.heap.size f (if f.isSome then 1 else 0) → Kp w w' → w.heap.size < w'.heap.size → Rt (g (.pointer (some ⟨w.heap.size, 0, none⟩)) w') Q) : Rt (rn Tryd.prog (Instr.range 58 (.map (some b))) w g) Q := by
  obtain ⟨n, h1, h2⟩ := h
  obtain ⟨w', hrun, hr, hg, hsz⟩ := h1.range (string_keyed k9) k58
  rw [rn_run hrun]
  refine hf w' ⟨n, Maps.has (Dd f), ?_, h2, fun kl hkl => ?_⟩ (Gx.kp (S := fun _ => False) ((Gx.of_grown hg).wide fun k _ e => by cases e) (fun _ h => h.elim)) (by omega)
  · have e : Maps.size (Dd f) = if f.isSome then 1 else 0 := by cases f <;> rfl
    rw [← e]; exact hr
  · cases f with
    | none => simp [Dd, Maps.has] at hkl
    | some p => simp [Dd, Maps.has] at hkl; exact ((WideAt.sameKey_eq hkl).symm)
theorem Rt.next0 {r : Nat} (h : Rg w b r f 0) {ty : TypeId} {gw : World → Option α} (hf : Rt (gw w) Q) {k : World → Value → Value → Option α} :
    Rt (rn Tryd.prog (Instr.next (.pointer (some ⟨r, 0, none⟩)) false ty) w fun v w' => nxV v (gw w') (k w')) Q := by
  obtain ⟨n, left, h1, h2, h3⟩ := h
  rcases h1.next (string_keyed k9) ty with ⟨_, _, hrun⟩ | ⟨key, v, kl, y, w', c', _, _, _, _, _, _, hc, _⟩
  · rw [show rn Tryd.prog (Instr.next (.pointer (some ⟨r, 0, none⟩)) false ty) w (fun v w' => nxV v (gw w') (k w')) = nxV (.tuple #[.bool false]) (gw w) (k w) by simp only [rn, hrun]]
    exact hf
  · omega
theorem Rt.next1 {r : Nat} (h : Rg w b r (some p) 1) {ty : TypeId} {gw : World → Option α} {k : World → Value → Option α} (hf : ∀ w', Rg w' b r (some p) 0 → Gx (fun k => k = r) w w' → Rt (k w' (ptr (some p))) Q) :
    Rt (rn Tryd.prog (Instr.next (.pointer (some ⟨r, 0, none⟩)) false ty) w fun v w' => nxV v (gw w') fun _ _ => rn Tryd.prog (Instr.entry (.pointer (some ⟨r, 0, none⟩))) w' fun v w'' => enV v fun _ a => k w'' a) Q := by
  obtain ⟨n, left, h1, h2, h3⟩ := h
  rcases h1.next (string_keyed k9) ty with ⟨h0, _⟩ | ⟨key, v, kl, y, w', c', hk, hl, hv, hat, hrun, hrg, hc, hg, hsz, hen⟩
  · omega
  · obtain rfl := h3 kl hl
    have hy : y.1 = pdt (some p) := by rw [← hat (pdt none), Dd_at]
    obtain rfl : v = ptr (some p) := PtR_inv (ps := y.2) (by rw [hv, ← hy])
    rw [rn_run hrun]
    show Rt (rn Tryd.prog (Instr.entry (.pointer (some ⟨r, 0, none⟩))) w' fun v w'' => enV v fun _ a => k w'' a) Q
    rw [rn_run hen]
    refine hf w' ⟨n, fun x => left x && !x.sameKey (.string [108]), ?_, h2, fun kl hkl => h3 kl (by simp at hkl; exact hkl.1)⟩ ((Gx.of_grown hg).wide fun k _ e => (Option.some.inj e).symm)
    have : c' = 0 := by omega
    rw [← this]; exact hrg
end
end Go.Proofs.YtdcdgmiojlldaaaDoor.Wl
/- Batches: what Check, Size and Big compute; the laws of limits and sizes. -/
namespace Go.Proofs.YtdcdgmiojlldaaaDoor.Ba
open Go Big Go.RowKit Go.IntWalk
set_option linter.unusedVariables false
set_option linter.unusedSimpArgs false
theorem slB : ∃ i, SlT Tryd.prog 28 5 .u8 i := slT (by kernel_rfl)
theorem slO : ∃ i v, SlTE Tryd.prog 31 30 3 i v := slTE (by kernel_rfl)
theorem conv : ConvB Tryd.prog 28 := fun a l c w => by kernel_rfl
abbrev Bytes (xs : List Int) : Prop := ∀ x ∈ xs, (Lit.int .u8 x).wf = true
structure OpD where
  kind : Int
  key : List Int
  val : List Int
abbrev ov (k : Int) (A : Option Addr) (l c : Nat) (B : Option Addr) (m d : Nat) : Value := .agg #[.int .i64 k, .slice A l c, .slice B m d]
structure OpV (w : World) (k : Int) (A : Option Addr) (l c : Nat) (B : Option Addr) (m d : Nat) (x : OpD) : Prop where
  kind : k = x.kind
  rk : (Lit.int .i64 x.kind).wf = true
  key : Bv .u8 w A l c x.key
  val : Bv .u8 w B m d x.val
theorem OpV.kp {w w' : World} {k : Int} {A : Option Addr} {l c : Nat} {B : Option Addr} {m d : Nat} {x : OpD} (h : OpV w k A l c B m d x) (hk : Kp w w') : OpV w' k A l c B m d x := ⟨h.kind, h.rk, h.key.kp hk, h.val.kp hk⟩
def opEl : El OpD where
  sz := 3
  rd w vs x := ∃ k A l c B m d, vs = [.int .i64 k, .slice A l c, .slice B m d] ∧ OpV w k A l c B m d x
  kp := fun hk ⟨k, A, l, c, B, m, d, e, h⟩ => ⟨k, A, l, c, B, m, d, e, h.kp hk⟩
  one := fun ⟨k, A, l, c, B, m, d, e, h⟩ u hu => by subst e; simp only [List.mem_cons, List.not_mem_nil, or_false] at hu; rcases hu with rfl | rfl | rfl <;> rfl
def rightO (x : OpD) : Prop := (x.kind = 0 ∧ x.val.length = 0 ∨ x.kind = 1) ∧ 1 ≤ x.key.length ∧ x.key.length ≤ 256 ∧ x.val.length ≤ 4096
open Classical in
noncomputable def checkC (l : List OpD) : Int := if l.length < 1 ∨ l.length > 100 then 3 else if ∀ o ∈ l, rightO o then 0 else 1
def bigO (l : List OpD) : Prop := (∃ o ∈ l, o.key.length > 300 ∨ o.val.length > 5000) ∨ l.length > 110
section
variable {α : Type} {Q : α → Prop} {n : Nat} {w w0 : World} {A B C : Option Addr} {l c m d : Nat} {k : Int} {x : OpD} {xs ys : List OpD}
theorem Rt.ixO (hs : SlE opEl w A l xs) {i : Int} (h0 : 0 ≤ i) (h1 : i < l) {f : Addr → Option α}
    (h : ∀ x a k B m d C p q, xs[i.toNat]? = some x → OpV w k B m d C p q x → w.cell? a = some (.int .i64 k) → w.cell? (a.add 1) = some (.slice B m d) → w.cell? (a.add 2) = some (.slice C p q) → Rt (f a) Q) : Rt (ixA A l i 3 f) Q := by
  refine Rt.ixe hs rfl h0 h1 fun x a us e1 _ e3 e4 => ?_
  obtain ⟨k, B, m, d, C, p, q, rfl, hv⟩ := e3
  have c0 := e4 0 _ rfl
  rw [Addr.add_zero'] at c0
  exact h x a k B m d C p q e1 hv c0 (e4 1 _ rfl) (e4 2 _ rfl)
theorem right_spec (hx : OpV w k A l c B m d x) : Rt (batch_right n [ov k A l c B m d] w) (RB (rightO x) w) := by
  have h1 := hx.kind
  have h2 := hx.key.len
  have h3 := hx.val.len
  rw [batch_right_eq]
  unfold rightO
  refine Rt.fin (Rt.al fun w1 l1 k1 _ => ?_)
  have tail : ∀ {y : Option Res}, (x.kind = 0 ∧ x.val.length = 0 ∨ x.kind = 1) → y = (opt (w1.cell? (Addr.add ⟨w.heap.size, 0, none⟩ 1)) fun v7 => tL v7 fun A8 l9 c10 => cond (decide ((l9 : Int) ≥ 1)) (opt (w1.cell? (Addr.add ⟨w.heap.size, 0, none⟩ 1)) fun v11 => tL v11 fun A12 l13 c14 => cond (decide ((l13 : Int) ≤ 256)) (opt (w1.cell? (Addr.add ⟨w.heap.size, 0, none⟩ 2)) fun v15 => tL v15 fun A16 l17 c18 => some ⟨.ret, [(.bool (decide ((l17 : Int) ≤ 4096)))], w1⟩) (some ⟨.ret, [(.bool false)], w1⟩)) (some ⟨.ret, [(.bool false)], w1⟩)) →
      Rt y (fun r => r.ex = .ret ∧ RB ((x.kind = 0 ∧ x.val.length = 0 ∨ x.kind = 1) ∧ 1 ≤ x.key.length ∧ x.key.length ≤ 256 ∧ x.val.length ≤ 4096) w (r.vals, r.w)) := by
    intro y hk e
    subst e
    (repeat' (first|(with_reducible (first|apply Rt.fin|apply Rt.tL|apply Rt.tI|apply Rt.tB|apply Rt.tS|apply Rt.tP|apply Rt.tD|apply Rt.tM|apply Rt.tC|apply Rt.tN|apply Rt.tA|apply Rt.tG|apply Rt.tF|apply Rt.os|apply Rt.clS|apply Rt.jmN|apply Rt.jbN|apply Rt.jbE|apply Rt.ckR|exact Rt.some' rfl))|((with_reducible (first|apply Rt.ld0|apply Rt.ld1|apply Rt.ld2|apply Rt.ld3|apply Rt.ld4|apply Rt.ld5)); first|assumption|exact Lc.kp (by assumption) (by assumption))|((with_reducible apply Rt.ol); first|assumption|exact cell_kp (by assumption) (by assumption))|fail))
    refine Rt.cD (fun h => ?_) fun h => ?_
    · (repeat' (first|(with_reducible (first|apply Rt.fin|apply Rt.tL|apply Rt.tI|apply Rt.tB|apply Rt.tS|apply Rt.tP|apply Rt.tD|apply Rt.tM|apply Rt.tC|apply Rt.tN|apply Rt.tA|apply Rt.tG|apply Rt.tF|apply Rt.os|apply Rt.clS|apply Rt.jmN|apply Rt.jbN|apply Rt.jbE|apply Rt.ckR|exact Rt.some' rfl))|((with_reducible (first|apply Rt.ld0|apply Rt.ld1|apply Rt.ld2|apply Rt.ld3|apply Rt.ld4|apply Rt.ld5)); first|assumption|exact Lc.kp (by assumption) (by assumption))|((with_reducible apply Rt.ol); first|assumption|exact cell_kp (by assumption) (by assumption))|fail))
      refine Rt.cD (fun h => ?_) fun h => ?_
      · (repeat' (first|(with_reducible (first|apply Rt.fin|apply Rt.tL|apply Rt.tI|apply Rt.tB|apply Rt.tS|apply Rt.tP|apply Rt.tD|apply Rt.tM|apply Rt.tC|apply Rt.tN|apply Rt.tA|apply Rt.tG|apply Rt.tF|apply Rt.os|apply Rt.clS|apply Rt.jmN|apply Rt.jbN|apply Rt.jbE|apply Rt.ckR|exact Rt.some' rfl))|((with_reducible (first|apply Rt.ld0|apply Rt.ld1|apply Rt.ld2|apply Rt.ld3|apply Rt.ld4|apply Rt.ld5)); first|assumption|exact Lc.kp (by assumption) (by assumption))|((with_reducible apply Rt.ol); first|assumption|exact cell_kp (by assumption) (by assumption))|fail))
        exact Rt.endB (by simp only [decide_eq_true_eq]; omega) k1
      · exact Rt.endB (by simp only [Bool.false_eq_true, false_iff]; omega) k1
    · exact Rt.endB (by simp only [Bool.false_eq_true, false_iff]; omega) k1
  (repeat' (first|(with_reducible (first|apply Rt.fin|apply Rt.tL|apply Rt.tI|apply Rt.tB|apply Rt.tS|apply Rt.tP|apply Rt.tD|apply Rt.tM|apply Rt.tC|apply Rt.tN|apply Rt.tA|apply Rt.tG|apply Rt.tF|apply Rt.os|apply Rt.clS|apply Rt.jmN|apply Rt.jbN|apply Rt.jbE|apply Rt.ckR|exact Rt.some' rfl))|((with_reducible (first|apply Rt.ld0|apply Rt.ld1|apply Rt.ld2|apply Rt.ld3|apply Rt.ld4|apply Rt.ld5)); first|assumption|exact Lc.kp (by assumption) (by assumption))|((with_reducible apply Rt.ol); first|assumption|exact cell_kp (by assumption) (by assumption))|fail))
  refine Rt.cQ (fun h => ?_) fun h => ?_
  · (repeat' (first|(with_reducible (first|apply Rt.fin|apply Rt.tL|apply Rt.tI|apply Rt.tB|apply Rt.tS|apply Rt.tP|apply Rt.tD|apply Rt.tM|apply Rt.tC|apply Rt.tN|apply Rt.tA|apply Rt.tG|apply Rt.tF|apply Rt.os|apply Rt.clS|apply Rt.jmN|apply Rt.jbN|apply Rt.jbE|apply Rt.ckR|exact Rt.some' rfl))|((with_reducible (first|apply Rt.ld0|apply Rt.ld1|apply Rt.ld2|apply Rt.ld3|apply Rt.ld4|apply Rt.ld5)); first|assumption|exact Lc.kp (by assumption) (by assumption))|((with_reducible apply Rt.ol); first|assumption|exact cell_kp (by assumption) (by assumption))|fail))
    refine Rt.cQ (fun h => ?_) fun h => ?_
    · exact tail (by omega) rfl
    · (repeat' (first|(with_reducible (first|apply Rt.fin|apply Rt.tL|apply Rt.tI|apply Rt.tB|apply Rt.tS|apply Rt.tP|apply Rt.tD|apply Rt.tM|apply Rt.tC|apply Rt.tN|apply Rt.tA|apply Rt.tG|apply Rt.tF|apply Rt.os|apply Rt.clS|apply Rt.jmN|apply Rt.jbN|apply Rt.jbE|apply Rt.ckR|exact Rt.some' rfl))|((with_reducible (first|apply Rt.ld0|apply Rt.ld1|apply Rt.ld2|apply Rt.ld3|apply Rt.ld4|apply Rt.ld5)); first|assumption|exact Lc.kp (by assumption) (by assumption))|((with_reducible apply Rt.ol); first|assumption|exact cell_kp (by assumption) (by assumption))|fail))
      refine Rt.cQ (fun h => ?_) fun h => ?_
      · exact tail (by omega) rfl
      · exact Rt.endB (by simp only [Bool.false_eq_true, false_iff]; omega) k1
  · (repeat' (first|(with_reducible (first|apply Rt.fin|apply Rt.tL|apply Rt.tI|apply Rt.tB|apply Rt.tS|apply Rt.tP|apply Rt.tD|apply Rt.tM|apply Rt.tC|apply Rt.tN|apply Rt.tA|apply Rt.tG|apply Rt.tF|apply Rt.os|apply Rt.clS|apply Rt.jmN|apply Rt.jbN|apply Rt.jbE|apply Rt.ckR|exact Rt.some' rfl))|((with_reducible (first|apply Rt.ld0|apply Rt.ld1|apply Rt.ld2|apply Rt.ld3|apply Rt.ld4|apply Rt.ld5)); first|assumption|exact Lc.kp (by assumption) (by assumption))|((with_reducible apply Rt.ol); first|assumption|exact cell_kp (by assumption) (by assumption))|fail))
    refine Rt.cQ (fun h => ?_) fun h => ?_
    · exact tail (by omega) rfl
    · exact Rt.endB (by simp only [Bool.false_eq_true, false_iff]; omega) k1
theorem Check_l0 (hs : Ev opEl w A l c xs) (hl : l ≤ 100) : ∀ (q i j : Nat) (w' : World), i + q = l → q < j → Kp w w' → (∀ o ∈ xs.take i, rightO o) →
    Rt (batch_Check.l0 n j A l c (l : Int) (i : Int) w') fun r => Kp w r.w ∧ (r.ex = .exit 0 ∧ r.vals = [] ∧ (∀ o ∈ xs, rightO o) ∨ r.ex = .ret ∧ r.vals = [.int .i64 1] ∧ ¬(∀ o ∈ xs, rightO o)) := by
  intro q
  have hxl := hs.len
  induction q with
  | zero =>
    intro i j w' hi hj hk hr
    obtain ⟨j, rfl⟩ : ∃ j', j = j' + 1 := ⟨j - 1, by omega⟩
    rw [batch_Check.l0_succ]
    exact Rt.cDF (by omega) (Rt.some' ⟨hk, .inl ⟨rfl, rfl, by rwa [List.take_of_length_le (by omega)] at hr⟩⟩)
  | succ q ih =>
    intro i j w' hi hj hk hr
    obtain ⟨j, rfl⟩ : ∃ j', j = j' + 1 := ⟨j - 1, by omega⟩
    rw [batch_Check.l0_succ]
    refine Rt.cDT (by omega) (Rt.ixO (hs.kp hk).sl (by omega) (by omega) fun x a k B m d C p q ex hv c0 c1 c2 => ?_)
    (repeat' (first|(with_reducible (first|apply Rt.fin|apply Rt.tL|apply Rt.tI|apply Rt.tB|apply Rt.tS|apply Rt.tP|apply Rt.tD|apply Rt.tM|apply Rt.tC|apply Rt.tN|apply Rt.tA|apply Rt.tG|apply Rt.tF|apply Rt.os|apply Rt.clS|apply Rt.jmN|apply Rt.jbN|apply Rt.jbE|apply Rt.ckR|exact Rt.some' rfl))|((with_reducible (first|apply Rt.ld0|apply Rt.ld1|apply Rt.ld2|apply Rt.ld3|apply Rt.ld4|apply Rt.ld5)); first|assumption|exact Lc.kp (by assumption) (by assumption))|((with_reducible apply Rt.ol); first|assumption|exact cell_kp (by assumption) (by assumption))|fail))
    refine Rt.al3 fun w1 l1 k1 _ => ?_
    (repeat' (first|(with_reducible (first|apply Rt.fin|apply Rt.tL|apply Rt.tI|apply Rt.tB|apply Rt.tS|apply Rt.tP|apply Rt.tD|apply Rt.tM|apply Rt.tC|apply Rt.tN|apply Rt.tA|apply Rt.tG|apply Rt.tF|apply Rt.os|apply Rt.clS|apply Rt.jmN|apply Rt.jbN|apply Rt.jbE|apply Rt.ckR|exact Rt.some' rfl))|((with_reducible (first|apply Rt.ld0|apply Rt.ld1|apply Rt.ld2|apply Rt.ld3|apply Rt.ld4|apply Rt.ld5)); first|assumption|exact Lc.kp (by assumption) (by assumption))|((with_reducible apply Rt.ol); first|assumption|exact cell_kp (by assumption) (by assumption))|fail))
    refine Rt.cBo (right_spec (hv.kp k1)) fun b w2 hb k2 => ?_
    have hk2 := (hk.tr k1).tr k2
    have hmem : x ∈ xs := List.mem_of_getElem? ex
    cases b with
    | false => exact Rt.cT rfl (Rt.some' ⟨hk2, .inr ⟨rfl, rfl, fun h => by simpa using hb.2 (h x hmem)⟩⟩)
    | true =>
      refine Rt.cF rfl ?_
      rw [i64_in _ (by omega), show ((i : Int) + 1) = ((i + 1 : Nat) : Int) by omega]
      refine ih (i + 1) j w2 (by omega) (by omega) hk2 fun o ho => ?_
      have ex' : xs[i]? = some x := by simpa using ex
      rw [List.take_add_one, ex', List.mem_append] at ho
      rcases ho with ho | ho
      · exact hr o ho
      · simp at ho; subst ho; exact hb.1 rfl
theorem Check_spec (hs : Ev opEl w A l c xs) (hn : 200 < n) : Rt (batch_Check n [.slice A l c] w) (RI .i64 (checkC xs) w) := by
  have hxl := hs.len
  rw [batch_Check_eq]
  unfold checkC
  refine Rt.fin (Rt.cD (fun h => ?_) fun h1 => Rt.cD (fun h => ?_) fun h2 => ?_)
  · exact Rt.endI (by rw [if_pos (by omega)]) (Kp.rfl' w)
  · exact Rt.endI (by rw [if_pos (by omega)]) (Kp.rfl' w)
  · rw [if_neg (by omega)]
    refine Rt.jb (Rt.mono (Check_l0 (n := n) hs (by omega) l 0 n w (by omega) (by omega) (Kp.rfl' w) (by simp)) ?_)
    rintro ⟨ex, vs, w1⟩ ⟨k1, ⟨h3, h4, h5⟩ | ⟨h3, h4, h5⟩⟩
    · dsimp only at h3 h4 k1
      subst h3 h4
      refine .inl ⟨.inr rfl, ?_⟩
      (repeat' (first|(with_reducible (first|apply Rt.fin|apply Rt.tL|apply Rt.tI|apply Rt.tB|apply Rt.tS|apply Rt.tP|apply Rt.tD|apply Rt.tM|apply Rt.tC|apply Rt.tN|apply Rt.tA|apply Rt.tG|apply Rt.tF|apply Rt.os|apply Rt.clS|apply Rt.jmN|apply Rt.jbN|apply Rt.jbE|apply Rt.ckR|exact Rt.some' rfl))|((with_reducible (first|apply Rt.ld0|apply Rt.ld1|apply Rt.ld2|apply Rt.ld3|apply Rt.ld4|apply Rt.ld5)); first|assumption|exact Lc.kp (by assumption) (by assumption))|((with_reducible apply Rt.ol); first|assumption|exact cell_kp (by assumption) (by assumption))|fail))
      exact Rt.endI (by rw [if_pos h5]) k1
    · dsimp only at h3 h4 k1
      subst h3 h4
      exact .inr ⟨rfl, rfl, w1, by rw [if_neg h5], k1⟩
theorem Big_l0 (hs : Ev opEl w A l c xs) (hl : l < 2 ^ 63) : ∀ (q i j : Nat), i + q = l → q < j → (∀ o ∈ xs.take i, ¬(o.key.length > 300 ∨ o.val.length > 5000)) →
    Rt (butterylaw5_Big.l0 n j A l c (i : Int) w) fun r => r.w = w ∧ (r.ex = .exit 0 ∧ r.vals = [.slice A l c] ∧ (∀ o ∈ xs, ¬(o.key.length > 300 ∨ o.val.length > 5000)) ∨ r.ex = .ret ∧ r.vals = [.bool true] ∧ ∃ o ∈ xs, o.key.length > 300 ∨ o.val.length > 5000) := by
  intro q
  have hxl := hs.len
  induction q with
  | zero =>
    intro i j hi hj hr
    obtain ⟨j, rfl⟩ : ∃ j', j = j' + 1 := ⟨j - 1, by omega⟩
    rw [butterylaw5_Big.l0_succ]
    exact Rt.cDF (by omega) (Rt.some' ⟨rfl, .inl ⟨rfl, rfl, by rwa [List.take_of_length_le (by omega)] at hr⟩⟩)
  | succ q ih =>
    intro i j hi hj hr
    obtain ⟨j, rfl⟩ : ∃ j', j = j' + 1 := ⟨j - 1, by omega⟩
    rw [butterylaw5_Big.l0_succ]
    refine Rt.cDT (by omega) (Rt.ixO hs.sl (by omega) (by omega) fun x a k B m d C p q ex hv c0 c1 c2 => ?_)
    have hmem : x ∈ xs := List.mem_of_getElem? ex
    have h1 := hv.key.len
    (repeat' (first|(with_reducible (first|apply Rt.fin|apply Rt.tL|apply Rt.tI|apply Rt.tB|apply Rt.tS|apply Rt.tP|apply Rt.tD|apply Rt.tM|apply Rt.tC|apply Rt.tN|apply Rt.tA|apply Rt.tG|apply Rt.tF|apply Rt.os|apply Rt.clS|apply Rt.jmN|apply Rt.jbN|apply Rt.jbE|apply Rt.ckR|exact Rt.some' rfl))|((with_reducible (first|apply Rt.ld0|apply Rt.ld1|apply Rt.ld2|apply Rt.ld3|apply Rt.ld4|apply Rt.ld5)); first|assumption|exact Lc.kp (by assumption) (by assumption))|((with_reducible apply Rt.ol); first|assumption|exact cell_kp (by assumption) (by assumption))|fail))
    refine Rt.cD (fun h => Rt.some' ⟨rfl, .inr ⟨rfl, rfl, x, hmem, .inl (by omega)⟩⟩) fun g1 => ?_
    refine Rt.ixO hs.sl (by omega) (by omega) fun x' a' k' B' m' d' C' p' q' ex' hv' c0' c1' c2' => ?_
    rw [ex] at ex'
    injection ex' with ex'
    subst ex'
    have h2 := hv'.val.len
    (repeat' (first|(with_reducible (first|apply Rt.fin|apply Rt.tL|apply Rt.tI|apply Rt.tB|apply Rt.tS|apply Rt.tP|apply Rt.tD|apply Rt.tM|apply Rt.tC|apply Rt.tN|apply Rt.tA|apply Rt.tG|apply Rt.tF|apply Rt.os|apply Rt.clS|apply Rt.jmN|apply Rt.jbN|apply Rt.jbE|apply Rt.ckR|exact Rt.some' rfl))|((with_reducible (first|apply Rt.ld0|apply Rt.ld1|apply Rt.ld2|apply Rt.ld3|apply Rt.ld4|apply Rt.ld5)); first|assumption|exact Lc.kp (by assumption) (by assumption))|((with_reducible apply Rt.ol); first|assumption|exact cell_kp (by assumption) (by assumption))|fail))
    refine Rt.cD (fun h => Rt.some' ⟨rfl, .inr ⟨rfl, rfl, x, hmem, .inr (by omega)⟩⟩) fun g2 => ?_
    rw [i64_in _ (by omega), show ((i : Int) + 1) = ((i + 1 : Nat) : Int) by omega]
    refine ih (i + 1) j (by omega) (by omega) fun o ho => ?_
    have ex' : xs[i]? = some x := by simpa using ex
    rw [List.take_add_one, ex', List.mem_append] at ho
    rcases ho with ho | ho
    · exact hr o ho
    · simp at ho; subst ho; omega
theorem Big_spec (hs : Ev opEl w A l c xs) (hn : 2 ^ 63 < n) : Rt (butterylaw5_Big n [.slice A l c] w) (RB (bigO xs) w) := by
  have hxl := hs.len
  have hm := hs.max
  have hc := hs.cap
  have hmx : maxLen < 2 ^ 63 := by decide
  rw [butterylaw5_Big_eq]
  unfold bigO
  refine Rt.fin (Rt.jb (Rt.mono (Big_l0 (n := n) hs (by omega) l 0 n (by omega) (by omega) (by simp)) ?_))
  rintro ⟨ex, vs, w1⟩ ⟨k1, ⟨h3, h4, h5⟩ | ⟨h3, h4, h5⟩⟩
  · dsimp only at h3 h4 k1
    subst h3 h4 k1
    refine .inl ⟨.inr rfl, ?_⟩
    (repeat' (first|(with_reducible (first|apply Rt.fin|apply Rt.tL|apply Rt.tI|apply Rt.tB|apply Rt.tS|apply Rt.tP|apply Rt.tD|apply Rt.tM|apply Rt.tC|apply Rt.tN|apply Rt.tA|apply Rt.tG|apply Rt.tF|apply Rt.os|apply Rt.clS|apply Rt.jmN|apply Rt.jbN|apply Rt.jbE|apply Rt.ckR|exact Rt.some' rfl))|((with_reducible (first|apply Rt.ld0|apply Rt.ld1|apply Rt.ld2|apply Rt.ld3|apply Rt.ld4|apply Rt.ld5)); first|assumption|exact Lc.kp (by assumption) (by assumption))|((with_reducible apply Rt.ol); first|assumption|exact cell_kp (by assumption) (by assumption))|fail))
    refine Rt.endB ?_ (Kp.rfl' _)
    rw [decide_eq_true_eq]
    exact ⟨fun h => .inr (by omega), fun h => h.elim (fun ⟨o, ho, h⟩ => absurd h (h5 o ho)) fun h => by omega⟩
  · dsimp only at h3 h4 k1
    subst h3 h4 k1
    exact .inr ⟨rfl, rfl, true, _, rfl, ⟨fun _ => .inl h5, fun _ => rfl⟩, Kp.rfl' _⟩
theorem nilB (w : World) : Bv .u8 w none 0 0 [] := ⟨Sl.nil .., fun _ => ⟨rfl, rfl⟩, Nat.le_refl _, Nat.zero_le _, by simp⟩
end
end Go.Proofs.YtdcdgmiojlldaaaDoor.Ba
/- Batches: the law of limits; arguments. -/
namespace Go.Proofs.YtdcdgmiojlldaaaDoor.Ba
open Go Big Go.RowKit Go.IntWalk
set_option linter.unusedVariables false
set_option linter.unusedSimpArgs false
section
variable {α : Type} {Q : α → Prop} {n : Nat} {w w0 : World} {A B C : Option Addr} {l c m d : Nat} {k : Int} {x : OpD} {xs ys : List OpD}
theorem len3 {l : List Value} (h : l.length = 3) : ∃ a b c, l = [a, b, c] := by
  match l, h with
  | [a, b, c], _ => exact ⟨a, b, c, rfl⟩
theorem op_open {H : Type} {enc : TypeId × Value → H} {W : World} {base : Nat} {spare : Nat → Bool} {held : Bool} (n : Nat) (cs : List Value) (y : DataW H × List MemPlace) (h : DataW.trod enc Tryd.prog W base spare held n 30 cs = some y) : ∃ x, opEl.rd W cs x := by
  obtain ⟨hl, hg⟩ := st_open Tryd.underlying30 h
  have hl : cs.length = 3 := hl.trans (by kernel_rfl)
  obtain ⟨c0, c1, c2, rfl⟩ := len3 hl
  clear hl h
  obtain ⟨_, _, g0⟩ := hg 0 _ rfl
  obtain ⟨_, _, g1⟩ := hg 1 _ rfl
  obtain ⟨_, _, g2⟩ := hg 2 _ rfl
  obtain ⟨k, e0, r0⟩ := int_open (k := .i64) Tryd.underlying3 g0
  obtain ⟨A, l, c, xs, e1, b1⟩ := bv_open (e := 5) (k := .u8) Tryd.underlying28 Tryd.underlying5 (by kernel_rfl) g1
  obtain ⟨B, m, d, ys, e2, b2⟩ := bv_open (e := 5) (k := .u8) Tryd.underlying28 Tryd.underlying5 (by kernel_rfl) g2
  have f0 : c0 = Value.int .i64 k := (List.cons.inj ((show [c0] = List.take (Tryd.prog.cellsOf 3) (List.drop 0 [c0, c1, c2]) by rw [show Tryd.prog.cellsOf 3 = 1 by kernel_rfl]; rfl).trans e0)).1
  have f1 : c1 = Value.slice A l c := (List.cons.inj ((show [c1] = List.take (Tryd.prog.cellsOf 28) (List.drop 1 [c0, c1, c2]) by rw [show Tryd.prog.cellsOf 28 = 1 by kernel_rfl]; rfl).trans e1)).1
  have f2 : c2 = Value.slice B m d := (List.cons.inj ((show [c2] = List.take (Tryd.prog.cellsOf 28) (List.drop 2 [c0, c1, c2]) by rw [show Tryd.prog.cellsOf 28 = 1 by kernel_rfl]; rfl).trans e2)).1
  clear e0 e1 e2
  subst f0 f1 f2
  exact ⟨⟨k, xs, ys⟩, k, A, l, c, B, m, d, rfl, rfl, r0, b1, b2⟩
end
end Go.Proofs.YtdcdgmiojlldaaaDoor.Ba
/- What the functions of package varint compute, and the document's own. -/
namespace Go.Proofs.YtdcdgmiojlldaaaDoor.Var
open Go Big Go.RowKit Go.IntWalk
set_option linter.unusedVariables false
set_option linter.unusedSimpArgs false
theorem slV : ∃ i, SlT Tryd.prog 28 5 .u8 i := slT (by kernel_rfl)
def enc (x : Nat) : List Int := if h : x < 128 then [(x : Int)] else ((x % 128 + 128 : Nat) : Int) :: enc (x / 128)
theorem enc_small {x : Nat} (h : x < 128) : enc x = [(x : Int)] := by rw [enc, dif_pos h]
theorem enc_big {x : Nat} (h : ¬ x < 128) : enc x = ((x % 128 + 128 : Nat) : Int) :: enc (x / 128) := by rw [enc, dif_neg h]
theorem or128 : ∀ y : Fin 256, bits .or .u8 ((y.val : Nat) : Int) 128 = ((y.val % 128 + 128 : Nat) : Int) := by decide +kernel
theorem byte_more (x : Nat) : bits .or .u8 (IntKind.u8.wrap (x : Int)) 128 = ((x % 128 + 128 : Nat) : Int) := by
  have e : IntKind.u8.wrap (x : Int) = ((x % 256 : Nat) : Int) := by rw [IntKind.wrap_u8]; omega
  have h := or128 ⟨x % 256, Nat.mod_lt _ (by decide)⟩
  simp only at h
  rw [e, h]
  congr 2; omega
theorem enc_len : ∀ (k x : Nat), x < 2 ^ (7 * k + 7) → (enc x).length ≤ k + 1
  | 0, x, h => by rw [enc_small (by simpa using h)]; simp
  | k + 1, x, h => by
    by_cases hx : x < 128
    · rw [enc_small hx]; simp
    · rw [enc_big hx, List.length_cons]
      have : x / 128 < 2 ^ (7 * k + 7) := by
        have e : 2 ^ (7 * (k + 1) + 7) = 2 ^ (7 * k + 7) * 128 := by rw [show 7 * (k + 1) + 7 = 7 * k + 7 + 7 by omega, Nat.pow_add]
        rw [e] at h
        omega
      have := enc_len k _ this
      omega
theorem Put_l0 {n : Nat} {w0 : World} : ∀ (k m x : Nat) (A : Option Addr) (c : Nat) (xs : List Int) (w : World), x < 2 ^ (7 * k + 7) → k < m → xs.length + k ≤ 2 ^ 39 →
    Own .u8 5 w w0.heap.size (.slice A xs.length c) xs → Kp w0 w →
    ∃ A' c' ys w' y, varint_Put.l0 n m (x : Int) A xs.length c w = some ⟨.exit 0, [.int .u64 ((y : Nat) : Int), .slice A' ys.length c'], w'⟩ ∧ Own .u8 5 w' w0.heap.size (.slice A' ys.length c') ys ∧ Kp w0 w' ∧ y < 128 ∧ xs ++ enc x = ys ++ [(y : Int)] ∧ ys.length ≤ xs.length + k := by
  intro k
  induction k with
  | zero =>
    intro m x A c xs w hx hm hl ho hk
    obtain ⟨m, rfl⟩ : ∃ m', m = m' + 1 := ⟨m - 1, by omega⟩
    have hx : x < 128 := by simpa using hx
    exact ⟨A, c, xs, w, x, by rw [varint_Put.l0_succ, cF (by simp; omega)], ho, hk, hx, by rw [enc_small hx], by omega⟩
  | succ k ih =>
    intro m x A c xs w hx hm hl ho hk
    obtain ⟨m, rfl⟩ : ∃ m', m = m' + 1 := ⟨m - 1, by omega⟩
    by_cases h128 : x < 128
    · exact ⟨A, c, xs, w, x, by rw [varint_Put.l0_succ, cF (by simp; omega)], ho, hk, h128, by rw [enc_small h128], by omega⟩
    · obtain ⟨i8, hT⟩ := slV
      have hlit : Own .u8 5 (w.alloc (.cells ([((x % 128 + 128 : Nat) : Int)].map (Value.int .u8)).toArray 5)) w.heap.size (.slice (some ⟨w.heap.size, 0, none⟩) 1 1) [((x % 128 + 128 : Nat) : Int)] := Own.lit w [((x % 128 + 128 : Nat) : Int)] (by simp [maxLen])
      have k1 : Kp w (w.alloc (.cells ([((x % 128 + 128 : Nat) : Int)].map (Value.int .u8)).toArray 5)) := (Kp.rfl' w).al _
      obtain ⟨v, w2, e2, o2, g2, b2⟩ := append_run (P := Tryd.prog) hT _ w0.heap.size 28 (ho.kp k1) hlit.sl.2 (fun h => by cases h) (by omega) (Nat.le_trans hk.size k1.size)
      obtain ⟨A', c', rfl⟩ := o2.slice
      have hx' : x / 128 < 2 ^ (7 * k + 7) := by
        have e : 2 ^ (7 * (k + 1) + 7) = 2 ^ (7 * k + 7) * 128 := by rw [show 7 * (k + 1) + 7 = 7 * k + 7 + 7 by omega, Nat.pow_add]
        rw [e] at hx
        omega
      obtain ⟨A2, c2, ys, w3, y, e3, o3, k3, hy, happ, hlen⟩ := ih m (x / 128) A' c' (xs ++ [((x % 128 + 128 : Nat) : Int)]) w2 hx' (by omega) (by simp; omega) o2 ((hk.tr k1).gr g2 (fun b hb => (ho.lt b hb).1))
      refine ⟨A2, c2, ys, w3, y, ?_, o3, k3, hy, ?_, by simp at hlen; omega⟩
      · have ef : Int.fdiv (x : Int) (2 ^ 7) = ((x / 128 : Nat) : Int) := by rw [Int.fdiv_eq_ediv_of_nonneg _ (by decide)]; rfl
        have e2' := fun (f : Value → World → Option Res) => e2 f
        have ee : ∀ z : Int, (w.alloc (.cells #[(.int .u8 z)] 5)) = w.alloc (.cells ([z].map (Value.int .u8)).toArray 5) := fun z => rfl
        rw [varint_Put.l0_succ, cT (by simp; omega), byte_more, al_eq, ee, e2', tL_mk, ef, e3]
      · rw [enc_big h128, ← happ]; simp
theorem Put_spec {n : Nat} (hn : 100 < n) {w : World} {B : Option Addr} {l d : Nat} {bs : List Int} (hb : Sl .u8 w B l bs) (hB : B = none → l = 0 ∧ d = 0) (hl : l ≤ 2 ^ 38) (x : Nat) (hx : x < 2 ^ 64) :
    ∃ A c w', varint_Put n [.slice B l d, .int .u64 (x : Int)] w = some ([.slice A (bs ++ enc x).length c], w') ∧ Own .u8 5 w' w.heap.size (.slice A (bs ++ enc x).length c) (bs ++ enc x) ∧ Kp w w' := by
  obtain ⟨i8, hT⟩ := slV
  have hbl := hb.1
  obtain ⟨v, w2, e2, o2, g2, b2⟩ := append_run (P := Tryd.prog) hT w w.heap.size 28 (Own.nil w _) hb hB (by simp; omega) (Nat.le_refl _)
  rw [List.nil_append] at o2
  obtain ⟨A', c', rfl⟩ := o2.slice
  obtain ⟨A2, c2, ys, w3, y, e3, o3, k3, hy, happ, hlen⟩ := Put_l0 (n := n) (w0 := w) 9 n x A' c' bs w2 (by omega) (by omega) (by omega) o2 ((Kp.rfl' w).gr g2 (by simp [Value.ownBlock]))
  have hlit : Own .u8 5 (w3.alloc (.cells ([(y : Int)].map (Value.int .u8)).toArray 5)) w3.heap.size (.slice (some ⟨w3.heap.size, 0, none⟩) 1 1) [(y : Int)] := Own.lit w3 [(y : Int)] (by simp [maxLen])
  have k4 : Kp w3 (w3.alloc (.cells ([(y : Int)].map (Value.int .u8)).toArray 5)) := (Kp.rfl' w3).al _
  obtain ⟨v, w5, e5, o5, g5, b5⟩ := append_run (P := Tryd.prog) hT _ w.heap.size 28 (o3.kp k4) hlit.sl.2 (fun h => by cases h) (by omega) (Nat.le_trans k3.size k4.size)
  rw [← happ] at o5
  obtain ⟨A3, c3, rfl⟩ := o5.slice
  refine ⟨A3, c3, w5, ?_, o5, (k3.tr k4).gr g5 (fun b hb => (o3.lt b hb).1)⟩
  have e2' := fun (f : Value → World → Option Res) => e2 f
  have e5' := fun (f : Value → World → Option Res) => e5 f
  have ee : ∀ z : Int, (w3.alloc (.cells #[(.int .u8 z)] 5)) = w3.alloc (.cells ([z].map (Value.int .u8)).toArray 5) := fun z => rfl
  have hu : IntKind.u8.wrap (y : Int) = y := u8_in _ (by omega)
  rw [varint_Put_eq, e2', tL_mk, e3, jb_exit, tC_mk, tI_mk, tC_mk, tL_mk, tN_mk, hu, al_eq, ee, e5', tL_mk, fin_ret]
def gv (at' : Int) : Nat → Int → List Int → Int × Int × Int
  | _, _, [] => (0, 0, 4)
  | i, acc, c :: cs =>
    if ((i : Int) = 9 ∧ c > 1) ∨ (0 < (i : Int) ∧ c = 0) then (0, 0, 2)
    else if c < 128 then (bits .or .u64 acc (IntKind.u64.wrap ((IntKind.u64.wrap (bits .and .u8 c 127)) * 2 ^ (7 * i))), at' + i + 1, 0)
    else gv at' (i + 1) (bits .or .u64 acc (IntKind.u64.wrap ((IntKind.u64.wrap (bits .and .u8 c 127)) * 2 ^ (7 * i)))) cs
def gr (r : Int × Int × Int) : List Value := [.int .u64 r.1, .int .i64 r.2.1, .int .i64 r.2.2]
theorem tree {α : Type} (i c : Int) (R N : α) : cond (i == 9) (cond (decide (c > 1)) R (cond (decide (i > 0)) (cond (c == 0) R N) N)) (cond (decide (i > 0)) (cond (c == 0) R N) N) = if (i = 9 ∧ c > 1) ∨ (0 < i ∧ c = 0) then R else N := by
  have b0 : ∀ x : Int, (x == 0) = decide (x = 0) := fun x => by by_cases h : x = 0 <;> simp [h]
  have b9 : ∀ x : Int, (x == 9) = decide (x = 9) := fun x => by by_cases h : x = 9 <;> simp [h]
  rw [b0, b9]
  by_cases h1 : i = 9 <;> by_cases h2 : c > 1 <;> by_cases h3 : i > 0 <;> by_cases h4 : c = 0 <;> simp [h1, h2, h3, h4] <;> omega
theorem Get_l0 {n : Nat} {w : World} {A : Option Addr} {l c : Nat} {xs : List Int} (hs : Sl .u8 w A l xs) (hb : ∀ x ∈ xs, 0 ≤ x ∧ x ≤ 255) (hl : l < 2 ^ 60) (at' : Int) (h0 : 0 ≤ at') (h1 : at' < 2 ^ 60) :
    ∀ (k i m : Nat) (acc : Int), i + k = l → k < m → i ≤ 9 →
    (jb 0 (varint_Get.l0 n m at' acc A l c (l : Int) (i : Int) w) fun vs w => tN vs (some ⟨.ret, [.int .u64 0, .int .i64 0, .int .i64 4], w⟩)) = some ⟨.ret, gr (gv at' i acc (xs.drop i)), w⟩ := by
  intro k
  induction k with
  | zero =>
    intro i m acc hi hm h9
    obtain ⟨m, rfl⟩ : ∃ m', m = m' + 1 := ⟨m - 1, by omega⟩
    rw [varint_Get.l0_succ, cF (by simp; omega), jb_exit, tN_mk, List.drop_of_length_le (by rw [hs.1]; omega)]
    rfl
  | succ k ih =>
    intro i m acc hi hm h9
    obtain ⟨m, rfl⟩ : ∃ m', m = m' + 1 := ⟨m - 1, by omega⟩
    have hlen : i < xs.length := by rw [hs.1]; omega
    have e1 : xs.getD (i : Int).toNat 0 = xs[i] := by simp [List.getD_eq_getElem?_getD, hlen]
    have hc := hb xs[i] (List.getElem_mem _)
    rw [varint_Get.l0_succ, cT (by simp; omega), hs.ix (by omega) (by omega), e1, tree, List.drop_eq_getElem_cons hlen, gv]
    generalize hz : xs[i] = z at hc ⊢
    by_cases hbad : ((i : Int) = 9 ∧ z > 1) ∨ (0 < (i : Int) ∧ z = 0)
    · rw [if_pos hbad, if_pos hbad, jm_ret, jb_ret]; rfl
    · rw [if_neg hbad, if_neg hbad, jm_norm, tC_mk, tI_mk, tC_mk, tI_mk, tC_mk, tI_mk, tC_mk, tI_mk, tC_mk, tL_mk, tC_mk, tI_mk, tC_mk, tI_mk, tN_mk]
      have e7 : IntKind.i64.wrap (7 * (i : Int)) = ((7 * i : Nat) : Int) := by rw [i64_in _ (by omega)]; omega
      have em : min ((7 * i : Nat) : Int).toNat 64 = 7 * i := by omega
      rw [e7, if_neg (by omega), em]
      by_cases h128 : z < 128
      · have e8 : IntKind.i64.wrap (IntKind.i64.wrap (at' + (i : Int)) + 1) = at' + i + 1 := by rw [i64_in (at' + i) (by omega), i64_in _ (by omega)]
        rw [cT (by simpa using h128), if_pos h128, jb_ret, e8]; rfl
      · have e9 : IntKind.i64.wrap ((i : Int) + 1) = ((i + 1 : Nat) : Int) := by rw [i64_in _ (by omega)]; omega
        rw [cF (by simpa using h128), if_neg h128, e9]
        exact ih (i + 1) m _ (by omega) (by omega) (by omega)
def getR (bs : List Int) (at' : Int) : Int × Int × Int := if at' < 0 then (0, 0, 1) else if at' > bs.length then (0, 0, 1) else gv at' 0 0 (bs.drop at'.toNat)
theorem Get_spec {n : Nat} (hn : 2 ^ 59 < n) {w : World} {A : Option Addr} {l c : Nat} {bs : List Int} (hs : Sl .u8 w A l bs) (hb : ∀ x ∈ bs, 0 ≤ x ∧ x ≤ 255) (hl : l < 2 ^ 58) (hc : l ≤ c) (at' : Int) :
    varint_Get n [.slice A l c, .int .i64 at'] w = some (gr (getR bs at'), w) := by
  have hlen := hs.1
  rw [varint_Get_eq]
  unfold getR
  by_cases g1 : at' < 0
  · rw [cT (by simpa using g1), if_pos g1, fin_ret]; rfl
  rw [cF (by simpa using g1), if_neg g1]
  by_cases g2 : at' > (l : Int)
  · rw [cT (by simpa using g2), if_pos (by omega), fin_ret]; rfl
  rw [cF (by simpa using g2), if_neg (by omega)]
  obtain ⟨A', e, hs', _, hc'⟩ := hs.cut (lo := at') (hi := l) (c := c) (by omega) (by omega) (by omega) hc
  rw [e]
  have e2 : (bs.take (l : Int).toNat).drop at'.toNat = bs.drop at'.toNat := by rw [Int.toNat_natCast, List.take_of_length_le (by omega)]
  rw [e2] at hs'
  have h := Get_l0 (n := n) (c := c - at'.toNat) hs' (fun x hx => hb x (List.mem_of_mem_drop hx)) (by omega) at' (by omega) (by omega) ((l : Int).toNat - at'.toNat) 0 n 0 (by omega) (by omega) (by omega)
  have h : (jb 0 (varint_Get.l0 n n at' 0 A' ((l : Int).toNat - at'.toNat) (c - at'.toNat) (((l : Int).toNat - at'.toNat : Nat) : Int) 0 w) _) = _ := h
  rw [h, fin_ret]; rfl
theorem fdiv7 (y : Nat) : Int.fdiv (y : Int) (2 ^ 7) = ((y / 128 : Nat) : Int) := by rw [Int.fdiv_eq_ediv_of_nonneg _ (by decide)]; rfl
theorem clG {α : Type} {r : Int × Int × Int} {w : World} {f : Int → Int → Int → World → Option α} :
    (cl (some (gr r, w)) fun vs w => tC vs fun v cs => tI .u64 v fun a => tC cs fun v cs => tI .i64 v fun b => tC cs fun v cs => tI .i64 v fun c => tN cs (f a b c w)) = f r.1 r.2.1 r.2.2 w := by
  rw [cl_some, gr, tC_mk, tI_mk, tC_mk, tI_mk, tC_mk, tI_mk, tN_mk]
theorem Ref_l0 {n : Nat} {w : World} {A : Option Addr} {l c : Nat} {xs : List Int} (hs : Sl .u8 w A l xs) (hb : ∀ x ∈ xs, 0 ≤ x ∧ x ≤ 255) (hl : l < 2 ^ 60) (at' : Nat) (h1 : at' ≤ l) :
    ∀ (k i m : Nat) (acc : Int), at' + i + k = l → k < m → i ≤ 9 → butteryref1_GetVar.l0 n m A l c (at' : Int) acc (i : Int) w = some ⟨.ret, gr (gv at' i acc (xs.drop (at' + i))), w⟩ := by
  intro k
  induction k with
  | zero =>
    intro i m acc hi hm h9
    obtain ⟨m, rfl⟩ : ∃ m', m = m' + 1 := ⟨m - 1, by omega⟩
    have ew : IntKind.i64.wrap ((at' : Int) + (i : Int)) = ((at' + i : Nat) : Int) := by rw [i64_in _ (by omega)]; omega
    rw [butteryref1_GetVar.l0_succ, ew, cT (by simp; omega), List.drop_of_length_le (by rw [hs.1]; omega)]
    rfl
  | succ k ih =>
    intro i m acc hi hm h9
    obtain ⟨m, rfl⟩ : ∃ m', m = m' + 1 := ⟨m - 1, by omega⟩
    have ew : IntKind.i64.wrap ((at' : Int) + (i : Int)) = ((at' + i : Nat) : Int) := by rw [i64_in _ (by omega)]; omega
    have hlen : at' + i < xs.length := by rw [hs.1]; omega
    have e1 : xs.getD ((at' + i : Nat) : Int).toNat 0 = xs[at' + i] := by rw [Int.toNat_natCast, List.getD_eq_getElem?_getD, List.getElem?_eq_getElem hlen]; rfl
    have hc := hb xs[at' + i] (List.getElem_mem _)
    rw [butteryref1_GetVar.l0_succ, ew, cF (by simp; omega), hs.ix (by omega) (by omega), e1, tree, List.drop_eq_getElem_cons hlen, gv]
    generalize hz : xs[at' + i] = z at hc ⊢
    by_cases hbad : ((i : Int) = 9 ∧ z > 1) ∨ (0 < (i : Int) ∧ z = 0)
    · rw [if_pos hbad, if_pos hbad, jm_ret]; rfl
    · rw [if_neg hbad, if_neg hbad, jm_norm, tC_mk, tL_mk, tC_mk, tI_mk, tC_mk, tI_mk, tC_mk, tI_mk, tC_mk, tI_mk, tN_mk]
      have e7 : IntKind.u64.wrap (IntKind.i64.wrap (7 * (i : Int))) = ((7 * i : Nat) : Int) := by rw [i64_in _ (by omega), u64_in _ (by omega)]; omega
      have em : min ((7 * i : Nat) : Int).toNat 64 = 7 * i := by omega
      rw [e7, if_neg (by omega), em]
      by_cases h128 : z < 128
      · have e8 : IntKind.i64.wrap (((at' + i : Nat) : Int) + 1) = (at' : Int) + i + 1 := by rw [i64_in _ (by omega)]; omega
        rw [cT (by simpa using h128), if_pos h128, ew, e8]; rfl
      · have e9 : IntKind.i64.wrap ((i : Int) + 1) = ((i + 1 : Nat) : Int) := by rw [i64_in _ (by omega)]; omega
        rw [cF (by simpa using h128), if_neg h128, e9]
        exact ih (i + 1) m _ (by omega) (by omega) (by omega)
theorem Ref_spec {n : Nat} (hn : 2 ^ 59 < n) {w : World} {A : Option Addr} {l c : Nat} {bs : List Int} (hs : Sl .u8 w A l bs) (hb : ∀ x ∈ bs, 0 ≤ x ∧ x ≤ 255) (hl : l < 2 ^ 58) (at' : Int) :
    butteryref1_GetVar n [.slice A l c, .int .i64 at'] w = some (gr (getR bs at'), w) := by
  have hlen := hs.1
  rw [butteryref1_GetVar_eq]
  unfold getR
  by_cases g1 : at' < 0
  · rw [cT (by simpa using g1), if_pos g1, fin_ret]; rfl
  rw [cF (by simpa using g1), if_neg g1]
  by_cases g2 : at' > (l : Int)
  · rw [cT (by simpa using g2), if_pos (by omega), fin_ret]; rfl
  rw [cF (by simpa using g2), if_neg (by omega)]
  obtain ⟨a, rfl⟩ : ∃ a : Nat, at' = a := ⟨at'.toNat, by omega⟩
  have h := Ref_l0 (n := n) (c := c) hs hb (by omega) a (by omega) (l - a) 0 n 0 (by omega) (by omega) (by omega)
  have h : butteryref1_GetVar.l0 n n A l c (a : Int) 0 0 w = _ := h
  rw [h, fin_ret]; rfl
theorem or64 {x y k : Nat} (hx : x < 2 ^ k) (h : x + y * 2 ^ k < 2 ^ 64) : bits .or .u64 (x : Int) ((y * 2 ^ k : Nat) : Int) = ((x + y * 2 ^ k : Nat) : Int) := by
  have e : x ||| y * 2 ^ k = x + y * 2 ^ k := by
    rw [Nat.or_comm, Nat.mul_comm, ← Nat.two_pow_add_eq_or_of_lt hx, Nat.add_comm]
  have hx64 : x < 2 ^ 64 := by omega
  have hy64 : y * 2 ^ k < 2 ^ 64 := by omega
  have hb : (BitVec.ofNat 64 x ||| BitVec.ofNat 64 (y * 2 ^ k)).toNat = x + y * 2 ^ k := by
    rw [BitVec.toNat_or, BitVec.toNat_ofNat, BitVec.toNat_ofNat, Nat.mod_eq_of_lt hx64, Nat.mod_eq_of_lt hy64, e]
  unfold bits
  simp only [IntKind.bits, BitVec.ofInt_natCast]
  show IntKind.u64.wrap (((BitVec.ofNat 64 x ||| BitVec.ofNat 64 (y * 2 ^ k)).toNat : Nat) : Int) = _
  rw [hb]
  generalize x + y * 2 ^ k = z at h ⊢
  exact u64_in (z : Int) (by omega)
theorem and127f : ∀ y : Fin 256, bits .and .u8 ((y.val : Nat) : Int) 127 = ((y.val % 128 : Nat) : Int) := by decide +kernel
theorem and127 {y : Nat} (h : y < 256) : bits .and .u8 (y : Int) 127 = ((y % 128 : Nat) : Int) := and127f ⟨y, h⟩
theorem join {acc c i : Nat} (ha : acc < 2 ^ (7 * i)) (hc : c < 256) (h : acc + (c % 128) * 2 ^ (7 * i) < 2 ^ 64) :
    bits .or .u64 (acc : Int) (IntKind.u64.wrap ((IntKind.u64.wrap (bits .and .u8 (c : Int) 127)) * 2 ^ (7 * i))) = ((acc + (c % 128) * 2 ^ (7 * i) : Nat) : Int) := by
  have e1 : IntKind.u64.wrap ((c % 128 : Nat) : Int) = ((c % 128 : Nat) : Int) := u64_in _ (by omega)
  have e2 : ((c % 128 : Nat) : Int) * 2 ^ (7 * i) = (((c % 128) * 2 ^ (7 * i) : Nat) : Int) := by rw [Int.natCast_mul, Int.natCast_pow]; rfl
  have e3 : IntKind.u64.wrap (((c % 128) * 2 ^ (7 * i) : Nat) : Int) = (((c % 128) * 2 ^ (7 * i) : Nat) : Int) := by
    generalize (c % 128) * 2 ^ (7 * i) = z at h ⊢
    exact u64_in _ (by omega)
  rw [and127 hc, e1, e2, e3, or64 ha h]
theorem pow_split (i : Nat) (h : 7 * i + 7 ≤ 64) : 2 ^ (64 - 7 * i) = 2 ^ (64 - 7 * (i + 1)) * 128 := by
  rw [show (128 : Nat) = 2 ^ 7 from rfl, ← Nat.pow_add]; congr 1; omega
theorem fit {acc x i : Nat} (hi : 7 * i ≤ 64) (ha : acc < 2 ^ (7 * i)) (hx : x < 2 ^ (64 - 7 * i)) : acc + x * 2 ^ (7 * i) < 2 ^ 64 := by
  have h1 : (x + 1) * 2 ^ (7 * i) ≤ 2 ^ (64 - 7 * i) * 2 ^ (7 * i) := Nat.mul_le_mul_right _ hx
  rw [← Nat.pow_add, show 64 - 7 * i + 7 * i = 64 by omega, Nat.add_mul, Nat.one_mul] at h1
  omega
theorem gv_enc (at' : Int) (rest : List Int) : ∀ (k x i acc : Nat), x < 2 ^ (7 * k + 7) → i ≤ 9 → acc < 2 ^ (7 * i) → x < 2 ^ (64 - 7 * i) → (0 < i → 0 < x) →
    gv at' i (acc : Int) (enc x ++ rest) = (((acc + x * 2 ^ (7 * i) : Nat) : Int), at' + i + (enc x).length, 0) := by
  intro k
  induction k with
  | zero =>
    intro x i acc hk hi ha hx h0
    have h128 : x < 128 := by simpa using hk
    have h9 : ¬ (((i : Int) = 9 ∧ (x : Int) > 1) ∨ (0 < (i : Int) ∧ (x : Int) = 0)) := by
      rintro (⟨h, h'⟩ | ⟨h, h'⟩)
      · have : i = 9 := by omega
        subst this
        have : x < 2 := by simpa using hx
        omega
      · have := h0 (by omega); omega
    have hm : x % 128 = x := Nat.mod_eq_of_lt h128
    have hj := join (acc := acc) (c := x) (i := i) ha (by omega) (by rw [hm]; exact fit (by omega) ha hx)
    rw [enc_small h128, List.cons_append, gv, if_neg h9, if_pos (by omega), hj, hm]
    rfl
  | succ k ih =>
    intro x i acc hk hi ha hx h0
    by_cases h128 : x < 128
    · have h9 : ¬ (((i : Int) = 9 ∧ (x : Int) > 1) ∨ (0 < (i : Int) ∧ (x : Int) = 0)) := by
        rintro (⟨h, h'⟩ | ⟨h, h'⟩)
        · have : i = 9 := by omega
          subst this
          have : x < 2 := by simpa using hx
          omega
        · have := h0 (by omega); omega
      have hm : x % 128 = x := Nat.mod_eq_of_lt h128
      have hj := join (acc := acc) (c := x) (i := i) ha (by omega) (by rw [hm]; exact fit (by omega) ha hx)
      rw [enc_small h128, List.cons_append, gv, if_neg h9, if_pos (by omega), hj, hm]
      rfl
    · have hi8 : i ≤ 8 := by
        rcases Nat.lt_or_ge 8 i with h | h
        · have : i = 9 := by omega
          subst this
          have : x < 2 := by simpa using hx
          omega
        · exact h
      have h9 : ¬ (((i : Int) = 9 ∧ ((x % 128 + 128 : Nat) : Int) > 1) ∨ (0 < (i : Int) ∧ ((x % 128 + 128 : Nat) : Int) = 0)) := by omega
      have hm : (x % 128 + 128) % 128 = x % 128 := by omega
      have hf := fit (by omega) ha hx
      have hle : x % 128 * 2 ^ (7 * i) ≤ x * 2 ^ (7 * i) := Nat.mul_le_mul_right _ (Nat.mod_le _ _)
      have hj := join (acc := acc) (c := x % 128 + 128) (i := i) ha (by omega) (by rw [hm]; omega)
      have hp : 2 ^ (7 * (i + 1)) = 128 * 2 ^ (7 * i) := by rw [show 7 * (i + 1) = 7 + 7 * i by omega, Nat.pow_add]
      have hacc : acc + x % 128 * 2 ^ (7 * i) < 2 ^ (7 * (i + 1)) := by
        rw [hp]
        have h1 : (x % 128 + 1) * 2 ^ (7 * i) ≤ 128 * 2 ^ (7 * i) := Nat.mul_le_mul_right _ (Nat.mod_lt _ (by decide))
        rw [Nat.add_mul, Nat.one_mul] at h1
        omega
      have hx' : x / 128 < 2 ^ (64 - 7 * (i + 1)) := by
        rw [pow_split i (by omega)] at hx; omega
      have hk' : x / 128 < 2 ^ (7 * k + 7) := by
        have e : 2 ^ (7 * (k + 1) + 7) = 2 ^ (7 * k + 7) * 128 := by rw [show 7 * (k + 1) + 7 = 7 * k + 7 + 7 by omega, Nat.pow_add]
        rw [e] at hk; omega
      have hr := ih (x / 128) (i + 1) (acc + x % 128 * 2 ^ (7 * i)) hk' (by omega) hacc hx' (fun _ => by omega)
      rw [enc_big h128, List.cons_append, gv, if_neg h9, if_neg (by omega), hj, hm, hr]
      have e1 : acc + x % 128 * 2 ^ (7 * i) + x / 128 * 2 ^ (7 * (i + 1)) = acc + x * 2 ^ (7 * i) := by
        rw [hp, ← Nat.mul_assoc, Nat.add_assoc, ← Nat.add_mul]
        congr 2; omega
      rw [e1, List.length_cons]
      congr 2; omega
theorem enc_bytes : ∀ (k x : Nat), x < 2 ^ (7 * k + 7) → ∀ y ∈ enc x, 0 ≤ y ∧ y ≤ 255
  | 0, x, h => by rw [enc_small (by simpa using h)]; have : x < 128 := by simpa using h
                  intro y hy; rw [List.mem_singleton] at hy; omega
  | k + 1, x, h => by
    by_cases h128 : x < 128
    · rw [enc_small h128]; intro y hy; rw [List.mem_singleton] at hy; omega
    · rw [enc_big h128]
      have hk' : x / 128 < 2 ^ (7 * k + 7) := by
        have e : 2 ^ (7 * (k + 1) + 7) = 2 ^ (7 * k + 7) * 128 := by rw [show 7 * (k + 1) + 7 = 7 * k + 7 + 7 by omega, Nat.pow_add]
        rw [e] at h; omega
      intro y hy
      rcases List.mem_cons.1 hy with rfl | hy
      · omega
      · exact enc_bytes k _ hk' y hy
theorem getR_enc (bs rest : List Int) (x : Nat) (hx : x < 2 ^ 64) : getR (bs ++ enc x ++ rest) (bs.length : Int) = ((x : Int), ((bs.length + (enc x).length : Nat) : Int), 0) := by
  have h := gv_enc (bs.length : Int) rest 9 x 0 0 (by omega) (by omega) (by decide) (by simpa using hx) (fun h => absurd h (by omega))
  unfold getR
  rw [if_neg (by omega), if_neg (by simp; omega), List.append_assoc, Int.toNat_natCast, List.drop_left]
  have h : gv (bs.length : Int) 0 0 (enc x ++ rest) = _ := h
  rw [h]; simp
theorem and_127 (z : Nat) (h : z < 2 ^ 64) : bits .and .u64 (z : Int) 127 = ((z % 128 : Nat) : Int) := by
  have hb : (BitVec.ofNat 64 z &&& BitVec.ofNat 64 127).toNat = z % 128 := by
    rw [BitVec.toNat_and, BitVec.toNat_ofNat, BitVec.toNat_ofNat, Nat.mod_eq_of_lt h]
    exact Nat.and_two_pow_sub_one_eq_mod z 7
  unfold bits
  simp only [IntKind.bits]
  show IntKind.u64.wrap (((BitVec.ofInt 64 (z : Int) &&& BitVec.ofInt 64 ((127 : Nat) : Int)).toNat : Nat) : Int) = _
  rw [BitVec.ofInt_natCast, BitVec.ofInt_natCast, hb]
  exact u64_in _ (by omega)
theorem byte_more' (x : Nat) (h : x < 2 ^ 64) : IntKind.u8.wrap (bits .or .u64 (bits .and .u64 (x : Int) 127) 128) = ((x % 128 + 128 : Nat) : Int) := by
  have := or64 (x := x % 128) (y := 1) (k := 7) (by omega) (by omega)
  rw [and_127 x h]
  have e : bits .or .u64 ((x % 128 : Nat) : Int) 128 = ((x % 128 + 128 : Nat) : Int) := this
  rw [e]
  exact u8_in _ (by omega)
theorem RPut_l0 {n : Nat} {w0 : World} : ∀ (k m x : Nat) (A : Option Addr) (c : Nat) (xs : List Int) (w : World), x < 2 ^ (7 * k + 7) → x < 2 ^ 64 → k < m → xs.length + k ≤ 2 ^ 39 →
    Own .u8 5 w w0.heap.size (.slice A xs.length c) xs → Kp w0 w →
    ∃ A' c' ys w' y, butteryref1_PutVar.l0 n m (x : Int) A xs.length c w = some ⟨.exit 0, [.int .u64 ((y : Nat) : Int), .slice A' ys.length c'], w'⟩ ∧ Own .u8 5 w' w0.heap.size (.slice A' ys.length c') ys ∧ Kp w0 w' ∧ y < 128 ∧ xs ++ enc x = ys ++ [(y : Int)] ∧ ys.length ≤ xs.length + k := by
  intro k
  induction k with
  | zero =>
    intro m x A c xs w hx h64 hm hl ho hk
    obtain ⟨m, rfl⟩ : ∃ m', m = m' + 1 := ⟨m - 1, by omega⟩
    have hx : x < 128 := by simpa using hx
    exact ⟨A, c, xs, w, x, by rw [butteryref1_PutVar.l0_succ, cF (by simp; omega)], ho, hk, hx, by rw [enc_small hx], by omega⟩
  | succ k ih =>
    intro m x A c xs w hx h64 hm hl ho hk
    obtain ⟨m, rfl⟩ : ∃ m', m = m' + 1 := ⟨m - 1, by omega⟩
    by_cases h128 : x < 128
    · exact ⟨A, c, xs, w, x, by rw [butteryref1_PutVar.l0_succ, cF (by simp; omega)], ho, hk, h128, by rw [enc_small h128], by omega⟩
    · obtain ⟨i8, hT⟩ := slV
      have hlit : Own .u8 5 (w.alloc (.cells ([((x % 128 + 128 : Nat) : Int)].map (Value.int .u8)).toArray 5)) w.heap.size (.slice (some ⟨w.heap.size, 0, none⟩) 1 1) [((x % 128 + 128 : Nat) : Int)] := Own.lit w [((x % 128 + 128 : Nat) : Int)] (by simp [maxLen])
      have k1 : Kp w (w.alloc (.cells ([((x % 128 + 128 : Nat) : Int)].map (Value.int .u8)).toArray 5)) := (Kp.rfl' w).al _
      obtain ⟨v, w2, e2, o2, g2, b2⟩ := append_run (P := Tryd.prog) hT _ w0.heap.size 28 (ho.kp k1) hlit.sl.2 (fun h => by cases h) (by omega) (Nat.le_trans hk.size k1.size)
      obtain ⟨A', c', rfl⟩ := o2.slice
      have hx' : x / 128 < 2 ^ (7 * k + 7) := by
        have e : 2 ^ (7 * (k + 1) + 7) = 2 ^ (7 * k + 7) * 128 := by rw [show 7 * (k + 1) + 7 = 7 * k + 7 + 7 by omega, Nat.pow_add]
        rw [e] at hx
        omega
      obtain ⟨A2, c2, ys, w3, y, e3, o3, k3, hy, happ, hlen⟩ := ih m (x / 128) A' c' (xs ++ [((x % 128 + 128 : Nat) : Int)]) w2 hx' (by omega) (by omega) (by simp; omega) o2 ((hk.tr k1).gr g2 (fun b hb => (ho.lt b hb).1))
      refine ⟨A2, c2, ys, w3, y, ?_, o3, k3, hy, ?_, by simp at hlen; omega⟩
      · have e2' := fun (f : Value → World → Option Res) => e2 f
        have ee : ∀ z : Int, (w.alloc (.cells #[(.int .u8 z)] 5)) = w.alloc (.cells ([z].map (Value.int .u8)).toArray 5) := fun z => rfl
        rw [butteryref1_PutVar.l0_succ, cT (by simp; omega), byte_more' x h64, al_eq, ee, e2', tL_mk, fdiv7, e3]
      · rw [enc_big h128, ← happ]; simp
theorem RPut_spec {n : Nat} (hn : 100 < n) {w : World} {B : Option Addr} {l d : Nat} {bs : List Int} (hb : Sl .u8 w B l bs) (hB : B = none → l = 0 ∧ d = 0) (hl : l ≤ 2 ^ 38) (x : Nat) (hx : x < 2 ^ 64) :
    ∃ A c w', butteryref1_PutVar n [.slice B l d, .int .u64 (x : Int)] w = some ([.slice A (bs ++ enc x).length c], w') ∧ Own .u8 5 w' w.heap.size (.slice A (bs ++ enc x).length c) (bs ++ enc x) ∧ Kp w w' := by
  obtain ⟨i8, hT⟩ := slV
  have hbl := hb.1
  obtain ⟨v, w2, e2, o2, g2, b2⟩ := append_run (P := Tryd.prog) hT w w.heap.size 28 (Own.nil w _) hb hB (by simp; omega) (Nat.le_refl _)
  rw [List.nil_append] at o2
  obtain ⟨A', c', rfl⟩ := o2.slice
  obtain ⟨A2, c2, ys, w3, y, e3, o3, k3, hy, happ, hlen⟩ := RPut_l0 (n := n) (w0 := w) 9 n x A' c' bs w2 (by omega) hx (by omega) (by omega) o2 ((Kp.rfl' w).gr g2 (by simp [Value.ownBlock]))
  have hlit : Own .u8 5 (w3.alloc (.cells ([(y : Int)].map (Value.int .u8)).toArray 5)) w3.heap.size (.slice (some ⟨w3.heap.size, 0, none⟩) 1 1) [(y : Int)] := Own.lit w3 [(y : Int)] (by simp [maxLen])
  have k4 : Kp w3 (w3.alloc (.cells ([(y : Int)].map (Value.int .u8)).toArray 5)) := (Kp.rfl' w3).al _
  obtain ⟨v, w5, e5, o5, g5, b5⟩ := append_run (P := Tryd.prog) hT _ w.heap.size 28 (o3.kp k4) hlit.sl.2 (fun h => by cases h) (by omega) (Nat.le_trans k3.size k4.size)
  rw [← happ] at o5
  obtain ⟨A3, c3, rfl⟩ := o5.slice
  refine ⟨A3, c3, w5, ?_, o5, (k3.tr k4).gr g5 (fun b hb => (o3.lt b hb).1)⟩
  have e2' := fun (f : Value → World → Option Res) => e2 f
  have e5' := fun (f : Value → World → Option Res) => e5 f
  have ee : ∀ z : Int, (w3.alloc (.cells #[(.int .u8 z)] 5)) = w3.alloc (.cells ([z].map (Value.int .u8)).toArray 5) := fun z => rfl
  have hu : IntKind.u8.wrap (y : Int) = y := u8_in _ (by omega)
  rw [butteryref1_PutVar_eq, e2', tL_mk, e3, jb_exit, tC_mk, tI_mk, tC_mk, tL_mk, tN_mk, hu, al_eq, ee, e5', tL_mk, fin_ret]
theorem enc_wf {x : Nat} (hx : x < 2 ^ 64) : ∀ z ∈ enc x, (Lit.int .u8 z).wf = true := fun z hz => by
  have := enc_bytes 9 x (by omega) z hz
  have h0 : IntKind.u8.min = 0 := rfl
  have h1 : IntKind.u8.max = 255 := rfl
  simp only [Lit.wf, h0, h1, Bool.and_eq_true, decide_eq_true_eq]; omega
section
variable {n : Nat} {w : World} {A : Option Addr} {l c : Nat} {xs : List Int}
theorem PutS (hx : Bv .u8 w A l c xs) (hl : l ≤ 2 ^ 38) {x : Int} (h : 0 ≤ x ∧ x < 2 ^ 64) (hn : 100 < n) : Rt (varint_Put n [.slice A l c, .int .u64 x] w) (RO .u8 5 w (xs ++ enc x.toNat)) := by
  obtain ⟨B, d, w', h1, h2, h3⟩ := Put_spec (n := n) hn hx.sl hx.nil hl x.toNat (by omega)
  rw [show ((x.toNat : Nat) : Int) = x by omega] at h1
  exact ⟨_, h1, B, d, w', rfl, h2, h3⟩
theorem u8b {xs : List Int} (h : ∀ x ∈ xs, (Lit.int .u8 x).wf = true) : ∀ x ∈ xs, 0 ≤ x ∧ x ≤ 255 := fun x hx => by have := u8wf (h x hx); omega
theorem GetS (hx : Bv .u8 w A l c xs) (hl : l < 2 ^ 58) (hn : 2 ^ 59 < n) (i : Int) : varint_Get n [.slice A l c, .int .i64 i] w = some (gr (getR xs i), w) := Get_spec hn hx.sl (u8b hx.rng) hl hx.cap i
theorem RGetS (hx : Bv .u8 w A l c xs) (hl : l < 2 ^ 58) (hn : 2 ^ 59 < n) (i : Int) : butteryref1_GetVar n [.slice A l c, .int .i64 i] w = some (gr (getR xs i), w) := Ref_spec hn hx.sl (u8b hx.rng) hl i
theorem own_nil {e : TypeId} {k : IntKind} {base : Nat} {A : Option Addr} {l c : Nat} {xs : List Int} (h : Own k e w base (.slice A l c) xs) : A = none → l = 0 ∧ c = 0 := by
  intro hA; subst hA
  rcases h.2 with ⟨h', hn'⟩ | ⟨g, cap, cur, h', _⟩
  · injection h' with _ h1 h2; exact ⟨h1, h2⟩
  · injection h' with h1 _ _; cases h1
theorem PutO {base : Nat} (ho : Own .u8 5 w base (.slice A l c) xs) (hl : l ≤ 2 ^ 38) {x : Int} (h : 0 ≤ x ∧ x < 2 ^ 64) (hn : 100 < n) : Rt (varint_Put n [.slice A l c, .int .u64 x] w) (RO .u8 5 w (xs ++ enc x.toNat)) := by
  obtain ⟨B, d, w', h1, h2, h3⟩ := Put_spec (n := n) hn ho.sl.2 (own_nil ho) hl x.toNat (by omega)
  rw [show ((x.toNat : Nat) : Int) = x by omega] at h1
  exact ⟨_, h1, B, d, w', rfl, h2, h3⟩
theorem RPutO {base : Nat} (ho : Own .u8 5 w base (.slice A l c) xs) (hl : l ≤ 2 ^ 38) {x : Int} (h : 0 ≤ x ∧ x < 2 ^ 64) (hn : 100 < n) : Rt (butteryref1_PutVar n [.slice A l c, .int .u64 x] w) (RO .u8 5 w (xs ++ enc x.toNat)) := by
  obtain ⟨B, d, w', h1, h2, h3⟩ := RPut_spec (n := n) hn ho.sl.2 (own_nil ho) hl x.toNat (by omega)
  rw [show ((x.toNat : Nat) : Int) = x by omega] at h1
  exact ⟨_, h1, B, d, w', rfl, h2, h3⟩
end
end Go.Proofs.YtdcdgmiojlldaaaDoor.Var
/- Numbers in so many bytes, as the document's own text writes and reads them. -/
namespace Go.Proofs.YtdcdgmiojlldaaaDoor.Low
open Go Big Go.RowKit Go.IntWalk
set_option linter.unusedVariables false
set_option linter.unusedSimpArgs false
theorem slV : ∃ i, SlT Tryd.prog 28 5 .u8 i := slT (by kernel_rfl)
abbrev Bytes (xs : List Int) : Prop := ∀ x ∈ xs, (Lit.int .u8 x).wf = true
section
variable {n : Nat} {w w0 : World} {A B : Option Addr} {l c m d : Nat} {xs ys : List Int}
theorem Low_l0 {base : Nat} {v : Int} {mm : Nat} (hv : 0 ≤ v ∧ v < 2 ^ 64) (hm : mm ≤ 8) {w0 : World} (hb0 : w0.heap.size ≤ base) : ∀ (q i j : Nat) (A : Option Addr) (c : Nat) (w : World), i + q = mm → q < j → xs.length ≤ 2 ^ 38 → Own .u8 5 w base (.slice A (xs.length + i) c) (xs ++ lowB i v) → Kp w0 w → base ≤ w.heap.size →
    Rt (butteryref1_Low.l0 n j v (mm : Int) A (xs.length + i) c (i : Int) w) fun r => r.ex = .exit 0 ∧ ∃ B d, r.vals = [.slice B (xs.length + mm) d] ∧ Own .u8 5 r.w base (.slice B (xs.length + mm) d) (xs ++ lowB mm v) ∧ Kp w0 r.w := by
  obtain ⟨t, hT⟩ := slV
  intro q
  induction q with
  | zero =>
    intro i j A c w hi hj hl ho hk hbs
    obtain ⟨j, rfl⟩ : ∃ j', j = j' + 1 := ⟨j - 1, by omega⟩
    obtain rfl : i = mm := by omega
    rw [butteryref1_Low.l0_succ]
    exact Rt.cDF (by omega) (Rt.some' ⟨rfl, A, c, rfl, ho, hk⟩)
  | succ q ih =>
    intro i j A c w hi hj hl ho hk hbs
    obtain ⟨j, rfl⟩ : ∃ j', j = j' + 1 := ⟨j - 1, by omega⟩
    rw [butteryref1_Low.l0_succ]
    have e1 : IntKind.u64.wrap (IntKind.i64.wrap (8 * (i : Int))) = ((8 * i : Nat) : Int) := by rw [i64_in _ (by omega), u64_in _ (by omega)]; omega
    have e2 : min (Int.toNat ((8 * i : Nat) : Int)) 64 = 8 * i := by omega
    have e3 : IntKind.u8.wrap (bits .and .u64 (Int.fdiv v (2 ^ (8 * i))) 255) = v / 256 ^ i % 256 := by
      have e4 : (2 : Int) ^ (8 * i) = 256 ^ i := by rw [Int.pow_mul]; rfl
      have hp : (0 : Int) < 256 ^ i := Int.pow_pos (by decide)
      have h0 : 0 ≤ v / 256 ^ i := Int.ediv_nonneg hv.1 (by omega)
      have h1 : v / 256 ^ i ≤ v := Int.ediv_le_self _ hv.1
      rw [fdivI, e4, and255 h0 (by omega), u8w]; omega
    refine Rt.cDT (by omega) (Rt.iF (by rw [e1]; omega) ?_)
    rw [e1, e2, e3]
    refine Rt.alo [_] 1 rfl rfl (by decide) fun w1 o1 k1 => ?_
    refine Rt.app hT (ho.kp k1) o1.sl.2 (fun h => by cases h) (by rw [List.length_append, lowB_len]; omega) (Nat.le_trans hbs k1.size) fun B d w2 o2 hk2 _ hsz => ?_
    (repeat' (first|(with_reducible (first|apply Rt.fin|apply Rt.tL|apply Rt.tI|apply Rt.tB|apply Rt.tS|apply Rt.tP|apply Rt.tD|apply Rt.tM|apply Rt.tC|apply Rt.tN|apply Rt.tA|apply Rt.tG|apply Rt.tF|apply Rt.os|apply Rt.clS|apply Rt.jmN|apply Rt.jbN|apply Rt.jbE|apply Rt.ckR|exact Rt.some' rfl))|((with_reducible (first|apply Rt.ld0|apply Rt.ld1|apply Rt.ld2|apply Rt.ld3|apply Rt.ld4|apply Rt.ld5)); first|assumption|exact Lc.kp (by assumption) (by assumption))|((with_reducible apply Rt.ol); first|assumption|exact cell_kp (by assumption) (by assumption))|fail))
    have hkk := hk2 w0 (hk.tr k1) hb0
    rw [List.length_append, lowB_len, List.append_assoc, ← lowB_snoc] at o2
    rw [List.length_append, lowB_len, i64_in _ (by omega), show ((i : Int) + 1) = ((i + 1 : Nat) : Int) by omega]
    exact ih (i + 1) j B d w2 (by omega) (by omega) hl o2 hkk (by have := k1.size; omega)
theorem Low_spec {v : Int} {mm : Nat} (hx : Bv .u8 w A l c xs) (hv : 0 ≤ v ∧ v < 2 ^ 64) (hm : mm ≤ 8) (hl : l ≤ 2 ^ 38) (hn : 10 < n) : Rt (butteryref1_Low n [.slice A l c, .int .u64 v, .int .i64 (mm : Int)] w) (RO .u8 5 w (xs ++ lowB mm v)) := by
  obtain ⟨t, hT⟩ := slV
  have hxl := hx.len
  rw [butteryref1_Low_eq]
  refine Rt.fin (Rt.app0 hT hx.sl hx.nil (by omega) fun B d w1 o1 k1 => ?_)
  (repeat' (first|(with_reducible (first|apply Rt.fin|apply Rt.tL|apply Rt.tI|apply Rt.tB|apply Rt.tS|apply Rt.tP|apply Rt.tD|apply Rt.tM|apply Rt.tC|apply Rt.tN|apply Rt.tA|apply Rt.tG|apply Rt.tF|apply Rt.os|apply Rt.clS|apply Rt.jmN|apply Rt.jbN|apply Rt.jbE|apply Rt.ckR|exact Rt.some' rfl))|((with_reducible (first|apply Rt.ld0|apply Rt.ld1|apply Rt.ld2|apply Rt.ld3|apply Rt.ld4|apply Rt.ld5)); first|assumption|exact Lc.kp (by assumption) (by assumption))|((with_reducible apply Rt.ol); first|assumption|exact cell_kp (by assumption) (by assumption))|fail))
  subst hxl
  refine Rt.jb (Rt.mono (Low_l0 (xs := xs) (base := w.heap.size) (w0 := w) hv hm (Nat.le_refl _) mm 0 n B d w1 (by omega) (by omega) hl (by simpa [lowB] using o1) k1 k1.size) ?_)
  rintro ⟨ex, vs, w2⟩ ⟨h1, C, e, h2, h3, h4⟩
  dsimp only at h1 h2 h3 h4
  subst h1 h2
  refine .inl ⟨.inr rfl, ?_⟩
  (repeat' (first|(with_reducible (first|apply Rt.fin|apply Rt.tL|apply Rt.tI|apply Rt.tB|apply Rt.tS|apply Rt.tP|apply Rt.tD|apply Rt.tM|apply Rt.tC|apply Rt.tN|apply Rt.tA|apply Rt.tG|apply Rt.tF|apply Rt.os|apply Rt.clS|apply Rt.jmN|apply Rt.jbN|apply Rt.jbE|apply Rt.ckR|exact Rt.some' rfl))|((with_reducible (first|apply Rt.ld0|apply Rt.ld1|apply Rt.ld2|apply Rt.ld3|apply Rt.ld4|apply Rt.ld5)); first|assumption|exact Lc.kp (by assumption) (by assumption))|((with_reducible apply Rt.ol); first|assumption|exact cell_kp (by assumption) (by assumption))|fail))
  exact Rt.endO h3 (Nat.le_refl _) h4
theorem shl_or {x y : Int} (h : 0 ≤ x ∧ x < 256) (hy : 0 ≤ y ∧ y < 2 ^ 56) : bits .or .u64 (IntKind.u64.wrap (y * 2 ^ 8)) (IntKind.u64.wrap x) = x + 256 * y := by
  have e : y * 2 ^ 8 = y * 256 := by rw [show (2 : Int) ^ 8 = 256 from rfl]
  rw [u64_in _ (by omega), u64_in x (by omega), (orI 8 (by omega) (by omega) (by omega) (by omega)).2]
  omega
theorem byte_at (hb : Bytes xs) {i : Nat} (hi : i < xs.length) : 0 ≤ xs.getD i 0 ∧ xs.getD i 0 < 256 := by
  have : xs.getD i 0 ∈ xs := by simp [List.getD_eq_getElem?_getD, hi]
  exact u8wf (hb _ this)
def slc (xs : List Int) (at_ m : Nat) : List Int := (xs.drop at_).take m
theorem slc_wf (hb : Bytes xs) (a m : Nat) : Bytes (slc xs a m) := fun z hz => hb z (List.mem_of_mem_drop (List.mem_of_mem_take hz))
theorem le_slc (hb : Bytes xs) {a m q : Nat} (h : a + m ≤ xs.length) (hq : q < m) : le ((slc xs a m).drop q) = xs.getD (a + q) 0 + 256 * le ((slc xs a m).drop (q + 1)) := by
  have hl : (slc xs a m).length = m := by simp [slc]; omega
  rw [List.drop_eq_getElem_cons (by omega), le]
  congr 1
  simp [slc, List.getD_eq_getElem?_getD, show a + q < xs.length by omega]
theorem le_small (hb : Bytes xs) (h : xs.length ≤ 7) : 0 ≤ le xs ∧ le xs < 2 ^ 56 := by
  have := le_nonneg hb
  have key : ∀ a : Nat, a < 8 → (256 : Int) ^ a ≤ 2 ^ 56 := by decide
  have h2 := key xs.length (by omega)
  omega
theorem Get_l0 (hx : Bv .u8 w A l c xs) {a mm : Nat} (h9 : a + mm ≤ l) (h8 : mm ≤ 8) (hl : l ≤ 2 ^ 38) : ∀ (q j : Nat), q ≤ mm → q < j →
    Rt (butteryref1_Get.l0 n j A l c (a : Int) (le ((slc xs a mm).drop q)) ((q : Int) - 1) w) fun r => r = ⟨.exit 0, [.int .u64 (le (slc xs a mm))], w⟩ := by
  have hxl := hx.len
  intro q
  induction q with
  | zero =>
    intro j _ hj
    obtain ⟨j, rfl⟩ : ∃ j', j = j' + 1 := ⟨j - 1, by omega⟩
    rw [butteryref1_Get.l0_succ]
    exact Rt.cDF (by omega) (Rt.some' rfl)
  | succ q ih =>
    intro j hq hj
    obtain ⟨j, rfl⟩ : ∃ j', j = j' + 1 := ⟨j - 1, by omega⟩
    rw [butteryref1_Get.l0_succ]
    have e0 : IntKind.i64.wrap ((a : Int) + (((q + 1 : Nat) : Int) - 1)) = ((a + q : Nat) : Int) := by rw [i64_in _ (by omega)]; omega
    have hl1 : (slc xs a mm).length = mm := by simp [slc]; omega
    rw [e0]
    refine Rt.cDT (by omega) (Rt.ix hx.sl (by omega) (by omega) ?_)
    rw [Int.toNat_natCast, shl_or (byte_at hx.rng (by omega)) (le_small (fun z hz => slc_wf hx.rng a mm z (List.mem_of_mem_drop hz)) (by rw [List.length_drop]; omega)), ← le_slc hx.rng (by omega) (by omega), i64_in _ (by omega),
      show ((q + 1 : Nat) : Int) - 1 - 1 = (q : Int) - 1 by omega]
    exact ih j (by omega) (by omega)
theorem Get_spec (hx : Bv .u8 w A l c xs) {a mm : Nat} (h9 : a + mm ≤ l) (h8 : mm ≤ 8) (hl : l ≤ 2 ^ 38) (hn : 20 < n) : butteryref1_Get n [.slice A l c, .int .i64 (a : Int), .int .i64 (mm : Int)] w = some ([.int .u64 (le (slc xs a mm))], w) := by
  have hxl := hx.len
  have hl1 : (slc xs a mm).length = mm := by simp [slc]; omega
  rw [butteryref1_Get_eq, i64_in _ (by omega)]
  have h := Get_l0 (n := n) hx h9 h8 hl mm n (by omega) (by omega)
  rw [List.drop_of_length_le (by omega)] at h
  obtain ⟨_, e, rfl⟩ := h
  have e' : butteryref1_Get.l0 n n A l c (a : Int) 0 ((mm : Int) - 1) w = _ := e
  rw [e', jb_exit]
  rfl
theorem Clone_spec (hx : Bv .u8 w A l c xs) (hl : l ≤ 2 ^ 38) : Rt (bytes_Clone n [.slice A l c] w) (RO .u8 5 w xs) := by
  obtain ⟨i, hT⟩ := slV
  have hxl := hx.len
  rw [bytes_Clone_eq]
  refine Rt.fin (Rt.cB (fun h => ?_) fun h => ?_)
  · have : A = none := by simpa using h
    have h2 := hx.nil this
    have : xs = [] := List.length_eq_zero_iff.1 (by omega)
    subst this
    exact Rt.endO (Own.nil w w.heap.size) (Nat.le_refl _) (Kp.rfl' w)
  · refine Rt.alo (k := .u8) [] 0 rfl rfl (by decide) fun w1 o1 k1 => ?_
    refine Rt.app hT o1 (hx.kp k1).sl hx.nil (by simp; omega) k1.size fun B d w2 o2 hk _ _ => ?_
    (repeat' (first|(with_reducible (first|apply Rt.fin|apply Rt.tL|apply Rt.tI|apply Rt.tB|apply Rt.tS|apply Rt.tP|apply Rt.tD|apply Rt.tM|apply Rt.tC|apply Rt.tN|apply Rt.tA|apply Rt.tG|apply Rt.tF|apply Rt.os|apply Rt.clS|apply Rt.jmN|apply Rt.jbN|apply Rt.jbE|apply Rt.ckR|exact Rt.some' rfl))|((with_reducible (first|apply Rt.ld0|apply Rt.ld1|apply Rt.ld2|apply Rt.ld3|apply Rt.ld4|apply Rt.ld5)); first|assumption|exact Lc.kp (by assumption) (by assumption))|((with_reducible apply Rt.ol); first|assumption|exact cell_kp (by assumption) (by assumption))|fail))
    have hk2 := hk w k1 (Nat.le_refl _)
    rw [List.nil_append] at o2
    exact Rt.endO o2 (Nat.le_refl _) hk2
end
end Go.Proofs.YtdcdgmiojlldaaaDoor.Low
/- Numbers in few bytes: what is read is what was written, and nothing else is. -/
namespace Go.Proofs.YtdcdgmiojlldaaaDoor.Var
open Go Big Go.RowKit Go.IntWalk
set_option linter.unusedVariables false
set_option linter.unusedSimpArgs false
theorem gv_ext (at' : Int) (ys : List Int) : ∀ (cs : List Int) (i : Nat) (acc : Int), (gv at' i acc cs).2.2 = 0 → gv at' i acc (cs ++ ys) = gv at' i acc cs
  | [], i, acc, h => by simp [gv] at h
  | c :: cs, i, acc, h => by
    rw [List.cons_append]
    simp only [gv] at h ⊢
    split
    · rfl
    · rename_i hb
      rw [if_neg hb] at h
      split
      · rfl
      · rename_i h8
        rw [if_neg h8] at h
        exact gv_ext at' ys cs _ _ h
theorem gv_to (at' : Int) : ∀ (cs : List Int) (i : Nat) (acc : Int), (gv at' i acc cs).2.2 = 0 → ∃ m, 1 ≤ m ∧ m ≤ cs.length ∧ (gv at' i acc cs).2.1 = at' + i + m ∧ ∀ k, k < m → gv at' i acc (cs.take k) = (0, 0, 4)
  | [], i, acc, h => by simp [gv] at h
  | c :: cs, i, acc, h => by
    by_cases hb : ((i : Int) = 9 ∧ c > 1) ∨ (0 < (i : Int) ∧ c = 0)
    · simp only [gv] at h; rw [if_pos hb] at h; simp at h
    · by_cases h8 : c < 128
      · refine ⟨1, by omega, by simp, by simp only [gv]; rw [if_neg hb, if_pos h8]; rfl, fun k hk => ?_⟩
        obtain rfl : k = 0 := by omega
        rfl
      · have h' := h
        simp only [gv] at h'
        rw [if_neg hb, if_neg h8] at h'
        obtain ⟨m, h1, h2, h3, h4⟩ := gv_to at' cs _ _ h'
        refine ⟨m + 1, by omega, by simp; omega, ?_, fun k hk => ?_⟩
        · simp only [gv]; rw [if_neg hb, if_neg h8, h3]; omega
        · cases k with
          | zero => rfl
          | succ k =>
            rw [List.take_succ_cons]
            simp only [gv]
            rw [if_neg hb, if_neg h8]
            exact h4 k (by omega)
theorem gv_can (at' : Int) : ∀ (cs : List Int) (i acc : Nat), (∀ z ∈ cs, 0 ≤ z ∧ z ≤ 255) → i ≤ 9 → acc < 2 ^ (7 * i) → (gv at' i (acc : Int) cs).2.2 = 0 →
    ∃ y : Nat, y < 2 ^ (64 - 7 * i) ∧ (0 < i → 0 < y) ∧ gv at' i (acc : Int) cs = (((acc + y * 2 ^ (7 * i) : Nat) : Int), at' + i + (enc y).length, 0) ∧ cs.take (enc y).length = enc y
  | [], i, acc, _, _, _, h => by simp [gv] at h
  | c :: cs, i, acc, hc, hi, ha, h => by
    have hcb := hc c List.mem_cons_self
    obtain ⟨c, rfl⟩ := Int.eq_ofNat_of_zero_le hcb.1
    by_cases hb : ((i : Int) = 9 ∧ (c : Int) > 1) ∨ (0 < (i : Int) ∧ (c : Int) = 0)
    · simp only [gv] at h; rw [if_pos hb] at h; simp at h
    · by_cases h8 : (c : Int) < 128
      · have hm : c % 128 = c := Nat.mod_eq_of_lt (by omega)
        have hx : c < 2 ^ (64 - 7 * i) := by
          rcases Nat.lt_or_ge i 9 with h9 | h9
          · have : (2 : Nat) ^ 7 ≤ 2 ^ (64 - 7 * i) := Nat.pow_le_pow_right (by decide) (by omega)
            omega
          · obtain rfl : i = 9 := by omega
            have : (2 : Nat) ^ (64 - 7 * 9) = 2 := rfl
            omega
        have hj := join (acc := acc) (c := c) (i := i) ha (by omega) (by rw [hm]; exact fit (by omega) ha hx)
        rw [hm] at hj
        refine ⟨c, hx, fun h0 => by omega, ?_, by rw [enc_small (by omega)]; rfl⟩
        simp only [gv]
        rw [if_neg hb, if_pos h8, hj, enc_small (by omega)]; rfl
      · have hi8 : i ≤ 8 := by omega
        have hf := fit (i := i) (acc := acc) (x := c % 128) (by omega) ha (by
          have : (2 : Nat) ^ 8 ≤ 2 ^ (64 - 7 * i) := Nat.pow_le_pow_right (by decide) (by omega)
          omega)
        have hj := join (acc := acc) (c := c) (i := i) ha (by omega) hf
        have hp : 2 ^ (7 * (i + 1)) = 128 * 2 ^ (7 * i) := by rw [show 7 * (i + 1) = 7 + 7 * i by omega, Nat.pow_add]
        have hacc : acc + c % 128 * 2 ^ (7 * i) < 2 ^ (7 * (i + 1)) := by
          rw [hp]
          have h1 : (c % 128 + 1) * 2 ^ (7 * i) ≤ 128 * 2 ^ (7 * i) := Nat.mul_le_mul_right _ (Nat.mod_lt _ (by decide))
          rw [Nat.add_mul, Nat.one_mul] at h1
          omega
        have h' := h
        simp only [gv] at h'
        rw [if_neg hb, if_neg h8, hj] at h'
        obtain ⟨y, h1, h2, h3, h4⟩ := gv_can at' cs (i + 1) (acc + c % 128 * 2 ^ (7 * i)) (fun z hz => hc z (List.mem_cons_of_mem _ hz)) (by omega) hacc h'
        have hy := h2 (by omega)
        have hbig : ¬ (c % 128 + 128 * y) < 128 := by omega
        have e1 : (c % 128 + 128 * y) % 128 + 128 = c := by omega
        have e2 : (c % 128 + 128 * y) / 128 = y := by omega
        refine ⟨c % 128 + 128 * y, ?_, fun _ => by omega, ?_, ?_⟩
        · rw [pow_split i (by omega)]; omega
        · have e3 : acc + c % 128 * 2 ^ (7 * i) + y * 2 ^ (7 * (i + 1)) = acc + (c % 128 + 128 * y) * 2 ^ (7 * i) := by
            rw [hp, Nat.add_mul, ← Nat.mul_assoc, Nat.mul_comm y 128]; omega
          simp only [gv]
          rw [if_neg hb, if_neg h8, hj, h3, e3, enc_big hbig, e1, e2, List.length_cons]
          congr 2
          omega
        · rw [enc_big hbig, e1, e2, List.length_cons, List.take_succ_cons, h4]
theorem getR_in {xs : List Int} {i : Int} (h : (getR xs i).2.2 = 0) : 0 ≤ i ∧ i ≤ xs.length := by
  unfold getR at h
  split at h
  · simp at h
  · split at h
    · simp at h
    · omega
theorem getR_ext {xs : List Int} (ys : List Int) {i : Int} (h : (getR xs i).2.2 = 0) : getR (xs ++ ys) i = getR xs i := by
  have hi := getR_in h
  unfold getR at h ⊢
  rw [if_neg (by omega), if_neg (by omega)] at h
  rw [if_neg (by omega), if_neg (by simp; omega), if_neg (by omega), if_neg (by omega), List.drop_append_of_le_length (by omega)]
  exact gv_ext _ _ _ _ _ h
theorem getR_can {xs : List Int} (hb : ∀ z ∈ xs, 0 ≤ z ∧ z ≤ 255) {i : Nat} (h : (getR xs (i : Int)).2.2 = 0) : ∃ y : Nat, y < 2 ^ 64 ∧ getR xs (i : Int) = ((y : Int), ((i + (enc y).length : Nat) : Int), 0) ∧ i + (enc y).length ≤ xs.length ∧ (xs.drop i).take (enc y).length = enc y := by
  have hi := getR_in h
  unfold getR at h ⊢
  rw [if_neg (by omega), if_neg (by omega), Int.toNat_natCast] at h
  rw [if_neg (by omega), if_neg (by omega), Int.toNat_natCast]
  obtain ⟨y, h1, _, h3, h4⟩ := gv_can (i : Int) (xs.drop i) 0 0 (fun z hz => hb z (List.mem_of_mem_drop hz)) (by omega) (by decide) h
  have h3 : gv (i : Int) 0 0 (xs.drop i) = _ := h3
  have hl := congrArg List.length h4
  rw [List.length_take, List.length_drop] at hl
  refine ⟨y, by simpa using h1, ?_, by omega, h4⟩
  rw [h3]; simp
theorem getR_cut {xs : List Int} {i : Nat} (h : (getR xs (i : Int)).2.2 = 0) {k : Nat} (hk : i ≤ k) (hkl : k ≤ xs.length) : getR (xs.take k) (i : Int) = if (getR xs (i : Int)).2.1 ≤ k then getR xs (i : Int) else (0, 0, 4) := by
  have hi := getR_in h
  have e : getR xs (i : Int) = gv (i : Int) 0 0 (xs.drop i) := by unfold getR; rw [if_neg (by omega), if_neg (by omega), Int.toNat_natCast]
  have e' : getR (xs.take k) (i : Int) = gv (i : Int) 0 0 ((xs.drop i).take (k - i)) := by
    unfold getR; rw [if_neg (by omega), if_neg (by simp; omega), Int.toNat_natCast, List.drop_take]
  rw [e] at h
  obtain ⟨m, h1, h2, h3, h4⟩ := gv_to (i : Int) (xs.drop i) 0 0 h
  rw [List.length_drop] at h2
  rw [e', e, h3]
  by_cases hm : k - i < m
  · rw [if_neg (by omega), h4 _ hm]
  · rw [if_pos (by omega)]
    have hx := gv_ext (i : Int) ((xs.drop i).drop (k - i)) ((xs.drop i).take (k - i)) 0 0
    rw [List.take_append_drop] at hx
    -- the part that is left says no error
    have hne : (gv (i : Int) 0 0 ((xs.drop i).take (k - i))).2.2 = 0 := by
      have key : ∀ (cs : List Int) (j : Nat) (acc : Int) (m : Nat), (gv (i : Int) j acc cs).2.2 = 0 → (gv (i : Int) j acc cs).2.1 = i + j + m → ∀ q, m ≤ q → (gv (i : Int) j acc (cs.take q)).2.2 = 0 := by
        intro cs
        induction cs with
        | nil => intro j acc m h; simp [gv] at h
        | cons c cs ih =>
          intro j acc m h hm q hq
          by_cases hb : ((j : Int) = 9 ∧ c > 1) ∨ (0 < (j : Int) ∧ c = 0)
          · simp only [gv] at h; rw [if_pos hb] at h; simp at h
          · simp only [gv] at h hm
            rw [if_neg hb] at h hm
            by_cases h8 : c < 128
            · rw [if_pos h8] at hm
              have hm : (i : Int) + j + 1 = i + j + m := hm
              obtain ⟨q, rfl⟩ : ∃ q', q = q' + 1 := ⟨q - 1, by omega⟩
              rw [List.take_succ_cons]
              simp only [gv]
              rw [if_neg hb, if_pos h8]
            · rw [if_neg h8] at h hm
              obtain ⟨m', g1, _, g3, _⟩ := gv_to (i : Int) cs _ _ h
              rw [g3] at hm
              obtain ⟨q, rfl⟩ : ∃ q', q = q' + 1 := ⟨q - 1, by omega⟩
              rw [List.take_succ_cons]
              simp only [gv]
              rw [if_neg hb, if_neg h8]
              exact ih (j + 1) _ m' h g3 q (by omega)
      exact key _ 0 0 m h h3 _ (by omega)
    exact (hx hne).symm
end Go.Proofs.YtdcdgmiojlldaaaDoor.Var
/- Readings of bytes, put together of readings: what goes on when more stands behind, or when an end is cut off. -/
namespace Go.Proofs.YtdcdgmiojlldaaaDoor.Par
open Go Big Go.RowKit Go.IntWalk Var Low
set_option linter.unusedVariables false
set_option linter.unusedSimpArgs false
set_option linter.unusedSectionVars false
abbrev Pa (α : Type) := List Int → Nat → Int × α × Nat
section
variable {α β : Type} [Inhabited α] [Inhabited β]
def retP (a : α) : Pa α := fun _ i => (0, a, i)
def failP (e : Int) : Pa α := fun _ _ => (e, default, 0)
def bindP (f : Pa α) (g : α → Pa β) : Pa β := fun xs i => if (f xs i).1 = 0 then g (f xs i).2.1 xs (f xs i).2.2 else ((f xs i).1, default, 0)
def numP : Pa Int := fun xs i => ((getR xs i).2.2, (getR xs i).1, (getR xs i).2.1.toNat)
def takeP (n : Nat) : Pa (List Int) := fun xs i => if xs.length < i + n then (4, [], 0) else (0, slc xs i n, i + n)
structure Good (f : Pa α) : Prop where
  le : ∀ {xs i a j}, i ≤ xs.length → f xs i = (0, a, j) → i ≤ j ∧ j ≤ xs.length
  ext : ∀ {xs i a j}, i ≤ xs.length → f xs i = (0, a, j) → ∀ ys, f (xs ++ ys) i = (0, a, j)
  cut : ∀ {xs i a j}, i ≤ xs.length → f xs i = (0, a, j) → ∀ k, i ≤ k → k ≤ xs.length → (j ≤ k → f (xs.take k) i = (0, a, j)) ∧ (k < j → (f (xs.take k) i).1 = 4)
theorem triple {f : Pa α} {xs : List Int} {i : Nat} (h : (f xs i).1 = 0) : f xs i = (0, (f xs i).2.1, (f xs i).2.2) := by rw [← h]
theorem bindP_ok {f : Pa α} {g : α → Pa β} {xs : List Int} {i j : Nat} {b : β} : bindP f g xs i = (0, b, j) ↔ ∃ a m, f xs i = (0, a, m) ∧ g a xs m = (0, b, j) := by
  unfold bindP
  constructor
  · intro h
    split at h
    · rename_i h0; exact ⟨_, _, triple h0, h⟩
    · rename_i h0; injection h with h; exact absurd h h0
  · rintro ⟨a, m, h1, h2⟩
    rw [h1]; exact h2
theorem Good.ret (a : α) : Good (retP a) := by
  refine ⟨fun hi h => ?_, fun hi h ys => ?_, fun hi h k h1 h2 => ?_⟩ <;> simp only [retP, Prod.mk.injEq] at h ⊢ <;> obtain ⟨_, rfl, rfl⟩ := h
  · omega
  · simp
  · exact ⟨fun _ => by simp, fun h => by omega⟩
theorem Good.fail {e : Int} (h : e ≠ 0) : Good (failP e : Pa α) := by
  refine ⟨fun hi h' => ?_, fun hi h' ys => ?_, fun hi h' k h1 h2 => ?_⟩ <;> (simp only [failP, Prod.mk.injEq] at h'; exact absurd h'.1 h)
theorem Good.bind {f : Pa α} {g : α → Pa β} (hf : Good f) (hg : ∀ a, Good (g a)) : Good (bindP f g) := by
  refine ⟨fun {xs i b j} hi h => ?_, fun {xs i b j} hi h ys => ?_, fun {xs i b j} hi h k h1 h2 => ?_⟩ <;> obtain ⟨a, m, e1, e2⟩ := bindP_ok.1 h
  · have l1 := hf.le hi e1
    have l2 := (hg a).le l1.2 e2
    omega
  · have l1 := hf.le hi e1
    exact bindP_ok.2 ⟨a, m, hf.ext hi e1 ys, (hg a).ext l1.2 e2 ys⟩
  · have l1 := hf.le hi e1
    have l2 := (hg a).le l1.2 e2
    obtain ⟨c1, c2⟩ := hf.cut hi e1 k h1 h2
    by_cases hm : m ≤ k
    · obtain ⟨d1, d2⟩ := (hg a).cut l1.2 e2 k hm h2
      refine ⟨fun hj => bindP_ok.2 ⟨a, m, c1 hm, d1 hj⟩, fun hj => ?_⟩
      unfold bindP
      rw [c1 hm]
      exact d2 hj
    · refine ⟨fun hj => by omega, fun hj => ?_⟩
      have := c2 (by omega)
      unfold bindP
      rw [if_neg (by rw [this]; decide)]
      exact this
theorem Good.num : Good numP := by
  have key : ∀ {xs : List Int} {i : Nat} {a : Int} {j : Nat}, i ≤ xs.length → numP xs i = (0, a, j) → (getR xs (i : Int)).2.2 = 0 ∧ (getR xs (i : Int)).1 = a ∧ (getR xs (i : Int)).2.1 = (j : Int) ∧ i ≤ j ∧ j ≤ xs.length := by
    intro xs i a j hi h
    simp only [numP, Prod.mk.injEq] at h
    obtain ⟨h1, h2, h3⟩ := h
    have hin := getR_in h1
    have e : getR xs (i : Int) = gv (i : Int) 0 0 (xs.drop i) := by unfold getR; rw [if_neg (by omega), if_neg (by omega), Int.toNat_natCast]
    have h1' := h1
    rw [e] at h1'
    obtain ⟨m, g1, g2, g3, _⟩ := gv_to (i : Int) (xs.drop i) 0 0 h1'
    rw [List.length_drop] at g2
    rw [← e] at g3
    refine ⟨h1, h2, ?_, ?_, ?_⟩ <;> omega
  refine ⟨fun hi h => ?_, fun hi h ys => ?_, fun {xs i a j} hi h k h1 h2 => ?_⟩ <;> obtain ⟨e1, e2, e3, e4, e5⟩ := key hi h
  · exact ⟨e4, e5⟩
  · simp only [numP, getR_ext ys e1]; exact h
  · have := getR_cut e1 h1 h2
    rw [e3] at this
    refine ⟨fun hj => ?_, fun hj => ?_⟩
    · simp only [numP]; rw [this, if_pos (by omega)]; exact h
    · simp only [numP]; rw [this, if_neg (by omega)]
theorem Good.take (n : Nat) : Good (takeP n) := by
  have key : ∀ {xs : List Int} {i : Nat} {a : List Int} {j : Nat}, takeP n xs i = (0, a, j) → i + n ≤ xs.length ∧ a = slc xs i n ∧ j = i + n := by
    intro xs i a j h
    unfold takeP at h
    split at h
    · simp at h
    · simp only [Prod.mk.injEq] at h; exact ⟨by omega, h.2.1.symm, h.2.2.symm⟩
  refine ⟨fun hi h => ?_, fun hi h ys => ?_, fun {xs i a j} hi h k h1 h2 => ?_⟩ <;> obtain ⟨e1, rfl, rfl⟩ := key h
  · omega
  · unfold takeP
    rw [if_neg (by simp; omega)]
    simp only [slc, Prod.mk.injEq, true_and, and_true]
    rw [List.drop_append_of_le_length (by omega), List.take_append_of_le_length (by simp; omega)]
  · unfold takeP
    refine ⟨fun hj => ?_, fun hj => ?_⟩
    · rw [if_neg (by simp; omega)]
      simp only [slc, Prod.mk.injEq, true_and, and_true]
      rw [List.drop_take, List.take_take, Nat.min_eq_left (by omega)]
    · rw [if_pos (by simp; omega)]
theorem Good.ite {c : Prop} [Decidable c] {f g : Pa α} (hf : Good f) (hg : Good g) : Good (if c then f else g) := by split <;> assumption
def Enc (f : Pa α) (a : α) (bs : List Int) : Prop := ∀ pre rest, f (pre ++ (bs ++ rest)) pre.length = (0, a, pre.length + bs.length)
theorem Enc.ret (a : α) : Enc (retP a) a [] := fun pre rest => rfl
theorem Enc.bind {f : Pa α} {g : α → Pa β} {a : α} {b : β} {bs cs : List Int} (hf : Enc f a bs) (hg : Enc (g a) b cs) : Enc (bindP f g) b (bs ++ cs) := fun pre rest => by
  refine bindP_ok.2 ⟨a, pre.length + bs.length, by rw [List.append_assoc]; exact hf pre (cs ++ rest), ?_⟩
  have := hg (pre ++ bs) rest
  rw [List.length_append, List.append_assoc] at this
  rw [List.append_assoc, List.length_append, this]
  simp only [Prod.mk.injEq, true_and]; omega
theorem Enc.num {x : Int} (h : 0 ≤ x ∧ x < 2 ^ 64) : Enc numP x (enc x.toNat) := fun pre rest => by
  have := getR_enc pre rest x.toNat (by omega)
  rw [List.append_assoc] at this
  simp only [numP, this, Prod.mk.injEq, true_and]
  omega
theorem Enc.take {n : Nat} {bs : List Int} (h : bs.length = n) : Enc (takeP n) bs bs := fun pre rest => by
  unfold takeP
  rw [if_neg (by simp; omega)]
  simp only [slc, Prod.mk.injEq, true_and]
  refine ⟨?_, by omega⟩
  rw [List.drop_left, ← h, List.take_left]
def Can (f : Pa α) (E : α → List Int → Prop) : Prop := ∀ xs i a j, (∀ z ∈ xs, (Lit.int .u8 z).wf = true) → i ≤ xs.length → f xs i = (0, a, j) → i ≤ j ∧ j ≤ xs.length ∧ E a (slc xs i (j - i))
theorem slc_split {xs : List Int} {i m j : Nat} (h1 : i ≤ m) (h2 : m ≤ j) : slc xs i (j - i) = slc xs i (m - i) ++ slc xs m (j - m) := by
  unfold slc
  rw [show j - i = (m - i) + (j - m) by omega, List.take_add, List.drop_drop, show i + (m - i) = m by omega]
theorem Can.bind {f : Pa α} {g : α → Pa β} {E : α → List Int → Prop} {F : β → List Int → Prop} (G : α → β → List Int → Prop) (hf : Can f E) (hg : ∀ a, Can (g a) (G a)) (h : ∀ a b p q, E a p → G a b q → F b (p ++ q)) : Can (bindP f g) F := by
  intro xs i b j hb hi hr
  obtain ⟨a, m, e1, e2⟩ := bindP_ok.1 hr
  obtain ⟨f1, f2, f3⟩ := hf xs i a m hb hi e1
  obtain ⟨g1, g2, g3⟩ := hg a xs m b j hb f2 e2
  refine ⟨by omega, g2, ?_⟩
  rw [slc_split f1 g1]
  exact h a b _ _ f3 g3
theorem Can.ret (a : α) : Can (retP a) fun b bs => b = a ∧ bs = [] := by
  intro xs i b j _ hi h
  simp only [retP, Prod.mk.injEq] at h
  obtain ⟨_, rfl, rfl⟩ := h
  exact ⟨Nat.le_refl _, hi, rfl, by simp [slc]⟩
theorem Can.fail {e : Int} (h : e ≠ 0) (E : α → List Int → Prop) : Can (failP e : Pa α) E := by
  intro xs i b j _ hi h'
  simp only [failP, Prod.mk.injEq] at h'
  exact absurd h'.1 h
theorem Can.num : Can numP fun x bs => (0 ≤ x ∧ x < 2 ^ 64) ∧ bs = enc x.toNat := by
  intro xs i a j hb hi h
  simp only [numP, Prod.mk.injEq] at h
  obtain ⟨h1, h2, h3⟩ := h
  obtain ⟨y, y1, y2, y3, y4⟩ := getR_can (u8b hb) h1
  rw [y2] at h2 h3
  simp only at h2 h3
  subst h2
  rw [Int.toNat_natCast] at h3
  subst h3
  refine ⟨by omega, y3, ⟨by omega, by omega⟩, ?_⟩
  rw [Nat.add_sub_cancel_left, Int.toNat_natCast]
  exact y4
theorem Can.take (n : Nat) : Can (takeP n) fun a bs => bs = a ∧ a.length = n ∧ ∀ z ∈ a, (Lit.int .u8 z).wf = true := by
  intro xs i a j hb hi h
  unfold takeP at h
  split at h
  · simp at h
  · simp only [Prod.mk.injEq] at h
    obtain ⟨_, rfl, rfl⟩ := h
    refine ⟨by omega, by omega, by rw [Nat.add_sub_cancel_left], by simp [slc]; omega, fun z hz => hb z (List.mem_of_mem_drop (List.mem_of_mem_take hz))⟩
theorem Can.ite {c : Prop} [Decidable c] {f g : Pa α} {E F G : α → List Int → Prop} (hf : Can f E) (hg : Can g F) (h1 : c → ∀ a p, E a p → G a p) (h2 : ¬c → ∀ a p, F a p → G a p) : Can (if c then f else g) G := by
  intro xs i a j hb hi h
  by_cases hc : c
  · rw [if_pos hc] at h
    obtain ⟨a1, a2, a3⟩ := hf xs i a j hb hi h
    exact ⟨a1, a2, h1 hc _ _ a3⟩
  · rw [if_neg hc] at h
    obtain ⟨a1, a2, a3⟩ := hg xs i a j hb hi h
    exact ⟨a1, a2, h2 hc _ _ a3⟩
theorem Can.mono {f : Pa α} {E F : α → List Int → Prop} (hf : Can f E) (h : ∀ a p, E a p → F a p) : Can f F := fun xs i a j hb hi hr => by
  obtain ⟨a1, a2, a3⟩ := hf xs i a j hb hi hr
  exact ⟨a1, a2, h _ _ a3⟩
def allP (f : Pa α) (xs : List Int) : Int × α := if (f xs 0).1 ≠ 0 then ((f xs 0).1, default) else if (f xs 0).2.2 ≠ xs.length then (2, default) else (0, (f xs 0).2.1)
theorem allP_enc {f : Pa α} {a : α} {bs : List Int} (h : Enc f a bs) : allP f bs = (0, a) := by
  have := h [] []
  simp only [List.nil_append, List.append_nil, List.length_nil, Nat.zero_add] at this
  unfold allP
  rw [this]; simp
theorem allP_can {f : Pa α} {E : α → List Int → Prop} (hc : Can f E) {xs : List Int} (hb : ∀ z ∈ xs, (Lit.int .u8 z).wf = true) {a : α} (h : allP f xs = (0, a)) : E a xs := by
  unfold allP at h
  split at h
  · rename_i h0; injection h with h; exact absurd h h0
  · rename_i h0
    split at h
    · simp at h
    · rename_i h1
      have h0 : (f xs 0).1 = 0 := by simpa using h0
      have h1 : (f xs 0).2.2 = xs.length := by simpa using h1
      injection h with _ h
      have := (hc xs 0 _ _ hb (Nat.zero_le _) (triple h0)).2.2
      rw [h1, h] at this
      simpa [slc] using this
end
end Go.Proofs.YtdcdgmiojlldaaaDoor.Par
/- Batches: how they are written, and when two are one. -/
namespace Go.Proofs.YtdcdgmiojlldaaaDoor.Ba
open Go Big Go.RowKit Go.IntWalk Var Low Par
set_option linter.unusedVariables false
set_option linter.unusedSimpArgs false
def encO (o : OpD) : List Int := [o.kind % 256] ++ enc o.key.length ++ o.key ++ (if o.kind = 1 then enc o.val.length ++ o.val else [])
def bodyB (l : List OpD) : List Int := (l.map encO).flatten
def encB (s : Int) (l : List OpD) : List Int := lowB 8 s ++ lowB 4 l.length ++ bodyB l
def numC (s : Int) (n : Nat) : Prop := 1 ≤ s ∧ s ≤ 72057594037927935 ∧ (n : Int) - 1 ≤ 72057594037927935 - s
open Classical in
noncomputable def bytesB (s : Int) (l : List OpD) : List Int × Int := if checkC l ≠ 0 then ([], checkC l) else if numC s l.length then (encB s l, 0) else ([], 1)
def ROe (k : IntKind) (e : TypeId) (w0 : World) (x : List Int × Int) : List Value × World → Prop := fun r => ∃ B d w', r = ([.slice B x.1.length d, .int .i64 x.2], w') ∧ Own k e w' w0.heap.size (.slice B x.1.length d) x.1 ∧ Kp w0 w'
theorem enc_len10 {x : Nat} (h : x < 2 ^ 64) : (enc x).length ≤ 10 := enc_len 9 x (by omega)
theorem checkC_ok {l : List OpD} : checkC l = 0 ↔ 1 ≤ l.length ∧ l.length ≤ 100 ∧ ∀ o ∈ l, rightO o := by
  unfold checkC
  by_cases h1 : l.length < 1 ∨ l.length > 100
  · rw [if_pos h1]; simp; omega
  · rw [if_neg h1]
    by_cases h2 : ∀ o ∈ l, rightO o
    · rw [if_pos h2]; simp only [true_iff]; exact ⟨by omega, by omega, h2⟩
    · rw [if_neg h2]; simp [h2]
theorem encO_len {o : OpD} (h : rightO o) : (encO o).length ≤ 5000 := by
  unfold rightO at h
  have h1 := enc_len10 (x := o.key.length) (by omega)
  have h2 := enc_len10 (x := o.val.length) (by omega)
  unfold encO
  simp only [List.length_append, List.length_singleton]
  split
  · simp only [List.length_append]; omega
  · simp only [List.length_nil]; omega
theorem bodyB_len : ∀ {l : List OpD}, (∀ o ∈ l, rightO o) → (bodyB l).length ≤ 5000 * l.length
  | [], _ => by simp [bodyB]
  | o :: l, h => by
    have h1 := encO_len (h o List.mem_cons_self)
    have h2 := bodyB_len (l := l) fun x hx => h x (List.mem_cons_of_mem _ hx)
    have e : bodyB (o :: l) = encO o ++ bodyB l := by simp [bodyB]
    rw [e, List.length_append, List.length_cons]; omega
theorem bodyB_snoc {l : List OpD} {i : Nat} {o : OpD} (h : l[i]? = some o) : bodyB (l.take (i + 1)) = bodyB (l.take i) ++ encO o := by
  rw [List.take_add_one, h]; simp [bodyB]
section
variable {α : Type} {Q : α → Prop} {n : Nat} {w w0 : World} {A B C : Option Addr} {l c m d : Nat} {k : Int} {x : OpD} {xs ys : List OpD} {bs : List Int}
theorem numbered_spec {s : Int} {m : Nat} (hs : 0 ≤ s ∧ s < 2 ^ 64) (hm : 1 ≤ m) (hm2 : m ≤ 2 ^ 40) : Rt (batch_numbered n [.int .u64 s, .int .i64 (m : Int)] w) (RB (numC s m) w) := by
  rw [batch_numbered_eq]
  unfold numC
  refine Rt.fin (Rt.cD (fun h1 => Rt.cD (fun h2 => ?_) fun h2 => ?_) fun h1 => ?_)
  · rw [u64_in (72057594037927935 - s) (by omega), i64_in _ (by omega), u64_in _ (by omega)]
    exact Rt.endB (by rw [decide_eq_true_eq]; omega) (Kp.rfl' w)
  · exact Rt.endB (by simp only [Bool.false_eq_true, false_iff]; omega) (Kp.rfl' w)
  · exact Rt.endB (by simp only [Bool.false_eq_true, false_iff]; omega) (Kp.rfl' w)
theorem Rnumbered_spec {s : Int} {m : Nat} (hs : 0 ≤ s ∧ s < 2 ^ 64) (hm : 1 ≤ m) (hm2 : m ≤ 2 ^ 40) : Rt (butteryref1_numbered n [.int .u64 s, .int .i64 (m : Int)] w) (RB (numC s m) w) := by
  rw [butteryref1_numbered_eq]
  unfold numC
  refine Rt.fin (Rt.cD (fun h1 => Rt.cD (fun h2 => ?_) fun h2 => ?_) fun h1 => ?_)
  · rw [u64_in (72057594037927935 - s) (by omega), i64_in _ (by omega), u64_in _ (by omega)]
    exact Rt.endB (by rw [decide_eq_true_eq]; omega) (Kp.rfl' w)
  · exact Rt.endB (by simp only [Bool.false_eq_true, false_iff]; omega) (Kp.rfl' w)
  · exact Rt.endB (by simp only [Bool.false_eq_true, false_iff]; omega) (Kp.rfl' w)
theorem low_l0 {v : Int} {mm : Nat} (hv : 0 ≤ v ∧ v < 2 ^ 64) (hm : mm ≤ 8) {base : Nat} (hb0 : w0.heap.size ≤ base) : ∀ (q i j : Nat) (A : Option Addr) (c : Nat) (w : World), i + q = mm → q < j → bs.length ≤ 2 ^ 38 → Own .u8 5 w base (.slice A (bs.length + i) c) (bs ++ lowB i v) → Kp w0 w → base ≤ w.heap.size →
    Rt (batch_low.l0 n j A (bs.length + i) c (v / 256 ^ i) (mm : Int) (i : Int) w) fun r => r.ex = .exit 0 ∧ ∃ B d, r.vals = [.slice B (bs.length + mm) d] ∧ Own .u8 5 r.w base (.slice B (bs.length + mm) d) (bs ++ lowB mm v) ∧ Kp w0 r.w := by
  obtain ⟨t, hT⟩ := slB
  intro q
  induction q with
  | zero =>
    intro i j A c w hi hj hl ho hk hbs
    obtain ⟨j, rfl⟩ : ∃ j', j = j' + 1 := ⟨j - 1, by omega⟩
    obtain rfl : i = mm := by omega
    rw [batch_low.l0_succ]
    exact Rt.cDF (by omega) (Rt.some' ⟨rfl, A, c, rfl, ho, hk⟩)
  | succ q ih =>
    intro i j A c w hi hj hl ho hk hbs
    obtain ⟨j, rfl⟩ : ∃ j', j = j' + 1 := ⟨j - 1, by omega⟩
    rw [batch_low.l0_succ, u8w]
    refine Rt.cDT (by omega) (Rt.alo [_] 1 rfl rfl (by decide) fun w1 o1 k1 => ?_)
    refine Rt.app hT (ho.kp k1) o1.sl.2 (fun h => by cases h) (by rw [List.length_append, lowB_len]; omega) (Nat.le_trans hbs k1.size) fun B d w2 o2 hk2 _ hsz => ?_
    (repeat' (first|(with_reducible (first|apply Rt.fin|apply Rt.tL|apply Rt.tI|apply Rt.tB|apply Rt.tS|apply Rt.tP|apply Rt.tD|apply Rt.tM|apply Rt.tC|apply Rt.tN|apply Rt.tA|apply Rt.tG|apply Rt.tF|apply Rt.os|apply Rt.clS|apply Rt.jmN|apply Rt.jbN|apply Rt.jbE|apply Rt.ckR|exact Rt.some' rfl))|((with_reducible (first|apply Rt.ld0|apply Rt.ld1|apply Rt.ld2|apply Rt.ld3|apply Rt.ld4|apply Rt.ld5)); first|assumption|exact Lc.kp (by assumption) (by assumption))|((with_reducible apply Rt.ol); first|assumption|exact cell_kp (by assumption) (by assumption))|fail))
    have hkk := hk2 w0 (hk.tr k1) hb0
    have e : Int.fdiv (v / 256 ^ i) (2 ^ 8) = v / 256 ^ (i + 1) := by
      rw [fdivI, Int.ediv_ediv_of_nonneg (Int.le_of_lt (Int.pow_pos (by decide))), Int.pow_succ]; rfl
    rw [List.length_append, lowB_len, List.append_assoc, ← lowB_snoc] at o2
    rw [List.length_append, lowB_len, i64_in _ (by omega), show ((i : Int) + 1) = ((i + 1 : Nat) : Int) by omega, e]
    exact ih (i + 1) j B d w2 (by omega) (by omega) hl o2 hkk (by have := k1.size; omega)
theorem low_spec {v : Int} {mm : Nat} (hv : 0 ≤ v ∧ v < 2 ^ 64) (hm : mm ≤ 8) {base : Nat} (hb0 : w0.heap.size ≤ base) (ho : Own .u8 5 w base (.slice A bs.length c) bs) (hk : Kp w0 w) (hbs : base ≤ w.heap.size) (hl : bs.length ≤ 2 ^ 38) (hn : 10 < n) :
    Rt (batch_low n [.slice A bs.length c, .int .u64 v, .int .i64 (mm : Int)] w) fun r => ∃ B d w', r = ([.slice B (bs ++ lowB mm v).length d], w') ∧ Own .u8 5 w' base (.slice B (bs ++ lowB mm v).length d) (bs ++ lowB mm v) ∧ Kp w0 w' := by
  rw [batch_low_eq]
  have h := low_l0 (n := n) (bs := bs) hv hm hb0 mm 0 n A c w (by omega) (by omega) hl (by simpa [lowB] using ho) hk hbs
  rw [Int.pow_zero, Int.ediv_one] at h
  refine Rt.fin (Rt.jb (Rt.mono h ?_))
  rintro ⟨ex, vs, w1⟩ ⟨h1, B, d, h2, h3, h4⟩
  dsimp only at h1 h2 h3 h4
  subst h1 h2
  refine .inl ⟨.inr rfl, ?_⟩
  (repeat' (first|(with_reducible (first|apply Rt.fin|apply Rt.tL|apply Rt.tI|apply Rt.tB|apply Rt.tS|apply Rt.tP|apply Rt.tD|apply Rt.tM|apply Rt.tC|apply Rt.tN|apply Rt.tA|apply Rt.tG|apply Rt.tF|apply Rt.os|apply Rt.clS|apply Rt.jmN|apply Rt.jbN|apply Rt.jbE|apply Rt.ckR|exact Rt.some' rfl))|((with_reducible (first|apply Rt.ld0|apply Rt.ld1|apply Rt.ld2|apply Rt.ld3|apply Rt.ld4|apply Rt.ld5)); first|assumption|exact Lc.kp (by assumption) (by assumption))|((with_reducible apply Rt.ol); first|assumption|exact cell_kp (by assumption) (by assumption))|fail))
  have e : (bs ++ lowB mm v).length = bs.length + mm := by rw [List.length_append, lowB_len]
  exact Rt.some' ⟨rfl, B, d, w1, by rw [e], by rw [e]; exact h3, h4⟩
theorem Bytes_l0 (hs : Ev opEl w0 A l c xs) (hr : ∀ o ∈ xs, rightO o) (hl : l ≤ 100) {h0 : List Int} (hh : h0.length ≤ 100) (hn : 200 < n) : ∀ (q i j : Nat) (B : Option Addr) (d : Nat) (w : World), i + q = l → q < j → Kp w0 w → Own .u8 5 w w0.heap.size (.slice B (h0 ++ bodyB (xs.take i)).length d) (h0 ++ bodyB (xs.take i)) →
    Rt (batch_Bytes.l0 n j B (h0 ++ bodyB (xs.take i)).length d A l c (l : Int) (i : Int) w) fun r => r.ex = .exit 0 ∧ ∃ B d, r.vals = [.slice B (h0 ++ bodyB xs).length d] ∧ Own .u8 5 r.w w0.heap.size (.slice B (h0 ++ bodyB xs).length d) (h0 ++ bodyB xs) ∧ Kp w0 r.w := by
  obtain ⟨t, hT⟩ := slB
  have hxl := hs.len
  intro q
  induction q with
  | zero =>
    intro i j B d w hi hj hk ho
    obtain ⟨j, rfl⟩ : ∃ j', j = j' + 1 := ⟨j - 1, by omega⟩
    rw [List.take_of_length_le (by omega)] at ho ⊢
    rw [batch_Bytes.l0_succ]
    exact Rt.cDF (by omega) (Rt.some' ⟨rfl, B, d, rfl, ho, hk⟩)
  | succ q ih =>
    intro i j B d w hi hj hk ho
    obtain ⟨j, rfl⟩ : ∃ j', j = j' + 1 := ⟨j - 1, by omega⟩
    rw [batch_Bytes.l0_succ]
    refine Rt.cDT (by omega) (Rt.jb (Rt.ixO hs.sl (by omega) (by omega) fun x a k K kl kc V vl vc ex hv c0 c1 c2 => ?_))
    have hmem : x ∈ xs := List.mem_of_getElem? ex
    have ex' : xs[i]? = some x := by simpa using ex
    have hrx := hr x hmem
    unfold rightO at hrx
    have hkl := hv.key.len
    have hvl := hv.val.len
    have hkk := hv.kind
    have hbl := bodyB_len (l := xs.take i) fun o ho => hr o (List.mem_of_mem_take ho)
    have hbi : (xs.take i).length = i := by simp; omega
    have hel := enc_len10 (x := kl) (by omega)
    have hel' := enc_len10 (x := vl) (by omega)
    have hlen : (h0 ++ bodyB (xs.take i)).length ≤ 600000 := by rw [List.length_append]; omega
    have hnext : h0 ++ bodyB (xs.take (i + 1)) = (h0 ++ bodyB (xs.take i)) ++ encO x := by rw [bodyB_snoc ex', List.append_assoc]
    generalize hrow : h0 ++ bodyB (xs.take i) = row at ho hlen hnext ⊢
    (repeat' (first|(with_reducible (first|apply Rt.fin|apply Rt.tL|apply Rt.tI|apply Rt.tB|apply Rt.tS|apply Rt.tP|apply Rt.tD|apply Rt.tM|apply Rt.tC|apply Rt.tN|apply Rt.tA|apply Rt.tG|apply Rt.tF|apply Rt.os|apply Rt.clS|apply Rt.jmN|apply Rt.jbN|apply Rt.jbE|apply Rt.ckR|exact Rt.some' rfl))|((with_reducible (first|apply Rt.ld0|apply Rt.ld1|apply Rt.ld2|apply Rt.ld3|apply Rt.ld4|apply Rt.ld5)); first|assumption|exact Lc.kp (by assumption) (by assumption))|((with_reducible apply Rt.ol); first|assumption|exact cell_kp (by assumption) (by assumption))|fail))
    refine Rt.al3 fun w1 l1 k1 s1 => ?_
    (repeat' (first|(with_reducible (first|apply Rt.fin|apply Rt.tL|apply Rt.tI|apply Rt.tB|apply Rt.tS|apply Rt.tP|apply Rt.tD|apply Rt.tM|apply Rt.tC|apply Rt.tN|apply Rt.tA|apply Rt.tG|apply Rt.tF|apply Rt.os|apply Rt.clS|apply Rt.jmN|apply Rt.jbN|apply Rt.jbE|apply Rt.ckR|exact Rt.some' rfl))|((with_reducible (first|apply Rt.ld0|apply Rt.ld1|apply Rt.ld2|apply Rt.ld3|apply Rt.ld4|apply Rt.ld5)); first|assumption|exact Lc.kp (by assumption) (by assumption))|((with_reducible apply Rt.ol); first|assumption|exact cell_kp (by assumption) (by assumption))|fail))
    refine Rt.alo [_] 1 rfl rfl (by decide) fun w2 o2 k2 => ?_
    have k02 := (hk.tr k1).tr k2
    have k12 := k1.tr k2
    refine Rt.app hT (ho.kp k12) o2.sl.2 (fun h => by cases h) (by omega) k02.size fun D f w3 o3 hk3 g3 s3 => ?_
    have k03 := hk3 w0 k02 (Nat.le_refl _)
    have l3 := (l1.kp k2).gx (Gx.of_grown g3) fun h => by have := (ho.lt _ h).2; omega
    (repeat' (first|(with_reducible (first|apply Rt.fin|apply Rt.tL|apply Rt.tI|apply Rt.tB|apply Rt.tS|apply Rt.tP|apply Rt.tD|apply Rt.tM|apply Rt.tC|apply Rt.tN|apply Rt.tA|apply Rt.tG|apply Rt.tF|apply Rt.os|apply Rt.clS|apply Rt.jmN|apply Rt.jbN|apply Rt.jbE|apply Rt.ckR|exact Rt.some' rfl))|((with_reducible (first|apply Rt.ld0|apply Rt.ld1|apply Rt.ld2|apply Rt.ld3|apply Rt.ld4|apply Rt.ld5)); first|assumption|exact Lc.kp (by assumption) (by assumption))|((with_reducible apply Rt.ol); first|assumption|exact cell_kp (by assumption) (by assumption))|fail))
    have d3 : Kp w3 w3.drew := (Kp.rfl' w3).dr
    rw [u64_in (kl : Int) (by omega)]
    refine Rt.cO (PutO (o3.kp d3) (by omega) (by omega) (by omega)) fun D4 f4 w4 o4 k4 => ?_
    have k34 := d3.tr k4
    have k04 := k03.tr k34
    have l4 := l3.kp k34
    rw [Int.toNat_natCast] at o4
    rw [Int.toNat_natCast]
    (repeat' (first|(with_reducible (first|apply Rt.fin|apply Rt.tL|apply Rt.tI|apply Rt.tB|apply Rt.tS|apply Rt.tP|apply Rt.tD|apply Rt.tM|apply Rt.tC|apply Rt.tN|apply Rt.tA|apply Rt.tG|apply Rt.tF|apply Rt.os|apply Rt.clS|apply Rt.jmN|apply Rt.jbN|apply Rt.jbE|apply Rt.ckR|exact Rt.some' rfl))|((with_reducible (first|apply Rt.ld0|apply Rt.ld1|apply Rt.ld2|apply Rt.ld3|apply Rt.ld4|apply Rt.ld5)); first|assumption|exact Lc.kp (by assumption) (by assumption))|((with_reducible apply Rt.ol); first|assumption|exact cell_kp (by assumption) (by assumption))|fail))
    have hs1 := k02.size
    refine Rt.app hT o4 (hv.key.kp k04).sl hv.key.nil (by simp only [List.length_append, List.length_singleton]; omega) k4.size fun D5 f5 w5 o5 hk5 g5 s5 => ?_
    have k05 := hk5 w0 k04 (Nat.le_trans hs1 s3)
    have l5 := l4.gx (Gx.of_grown g5) fun h => by have := (o4.lt _ h).1; have := k12.size; have := k2.size; have : w3.drew.heap.size = w3.heap.size := rfl; omega
    have hl5 := o5.sl.1
    (repeat' (first|(with_reducible (first|apply Rt.fin|apply Rt.tL|apply Rt.tI|apply Rt.tB|apply Rt.tS|apply Rt.tP|apply Rt.tD|apply Rt.tM|apply Rt.tC|apply Rt.tN|apply Rt.tA|apply Rt.tG|apply Rt.tF|apply Rt.os|apply Rt.clS|apply Rt.jmN|apply Rt.jbN|apply Rt.jbE|apply Rt.ckR|exact Rt.some' rfl))|((with_reducible (first|apply Rt.ld0|apply Rt.ld1|apply Rt.ld2|apply Rt.ld3|apply Rt.ld4|apply Rt.ld5)); first|assumption|exact Lc.kp (by assumption) (by assumption))|((with_reducible apply Rt.ol); first|assumption|exact cell_kp (by assumption) (by assumption))|fail))
    refine Rt.cQ (fun hk1 => ?_) fun hk1 => ?_
    · have d5 : Kp w5 w5.drew := (Kp.rfl' w5).dr
      (repeat' (first|(with_reducible (first|apply Rt.fin|apply Rt.tL|apply Rt.tI|apply Rt.tB|apply Rt.tS|apply Rt.tP|apply Rt.tD|apply Rt.tM|apply Rt.tC|apply Rt.tN|apply Rt.tA|apply Rt.tG|apply Rt.tF|apply Rt.os|apply Rt.clS|apply Rt.jmN|apply Rt.jbN|apply Rt.jbE|apply Rt.ckR|exact Rt.some' rfl))|((with_reducible (first|apply Rt.ld0|apply Rt.ld1|apply Rt.ld2|apply Rt.ld3|apply Rt.ld4|apply Rt.ld5)); first|assumption|exact Lc.kp (by assumption) (by assumption))|((with_reducible apply Rt.ol); first|assumption|exact cell_kp (by assumption) (by assumption))|fail))
      rw [u64_in (vl : Int) (by omega)]
      refine Rt.cO (PutO (o5.kp d5) (by simp only [List.length_append, List.length_singleton]; omega) (by omega) (by omega)) fun D6 f6 w6 o6 k6 => ?_
      have k56 := d5.tr k6
      have k06 := k05.tr k56
      have l6 := l5.kp k56
      rw [Int.toNat_natCast] at o6
      rw [Int.toNat_natCast]
      (repeat' (first|(with_reducible (first|apply Rt.fin|apply Rt.tL|apply Rt.tI|apply Rt.tB|apply Rt.tS|apply Rt.tP|apply Rt.tD|apply Rt.tM|apply Rt.tC|apply Rt.tN|apply Rt.tA|apply Rt.tG|apply Rt.tF|apply Rt.os|apply Rt.clS|apply Rt.jmN|apply Rt.jbN|apply Rt.jbE|apply Rt.ckR|exact Rt.some' rfl))|((with_reducible (first|apply Rt.ld0|apply Rt.ld1|apply Rt.ld2|apply Rt.ld3|apply Rt.ld4|apply Rt.ld5)); first|assumption|exact Lc.kp (by assumption) (by assumption))|((with_reducible apply Rt.ol); first|assumption|exact cell_kp (by assumption) (by assumption))|fail))
      refine Rt.app hT o6 (hv.val.kp k06).sl hv.val.nil (by simp only [List.length_append, List.length_singleton]; omega) k6.size fun D7 f7 w7 o7 hk7 g7 s7 => ?_
      have k07 := hk7 w0 k06 (Nat.le_trans hs1 (Nat.le_trans s3 (Nat.le_trans k34.size s5)))
      have hl7 := o7.sl.1
      (repeat' (first|(with_reducible (first|apply Rt.fin|apply Rt.tL|apply Rt.tI|apply Rt.tB|apply Rt.tS|apply Rt.tP|apply Rt.tD|apply Rt.tM|apply Rt.tC|apply Rt.tN|apply Rt.tA|apply Rt.tG|apply Rt.tF|apply Rt.os|apply Rt.clS|apply Rt.jmN|apply Rt.jbN|apply Rt.jbE|apply Rt.ckR|exact Rt.some' rfl))|((with_reducible (first|apply Rt.ld0|apply Rt.ld1|apply Rt.ld2|apply Rt.ld3|apply Rt.ld4|apply Rt.ld5)); first|assumption|exact Lc.kp (by assumption) (by assumption))|((with_reducible apply Rt.ol); first|assumption|exact cell_kp (by assumption) (by assumption))|fail))
      refine Rt.some' (.inl ⟨.inl rfl, ?_⟩)
      (repeat' (first|(with_reducible (first|apply Rt.fin|apply Rt.tL|apply Rt.tI|apply Rt.tB|apply Rt.tS|apply Rt.tP|apply Rt.tD|apply Rt.tM|apply Rt.tC|apply Rt.tN|apply Rt.tA|apply Rt.tG|apply Rt.tF|apply Rt.os|apply Rt.clS|apply Rt.jmN|apply Rt.jbN|apply Rt.jbE|apply Rt.ckR|exact Rt.some' rfl))|((with_reducible (first|apply Rt.ld0|apply Rt.ld1|apply Rt.ld2|apply Rt.ld3|apply Rt.ld4|apply Rt.ld5)); first|assumption|exact Lc.kp (by assumption) (by assumption))|((with_reducible apply Rt.ol); first|assumption|exact cell_kp (by assumption) (by assumption))|fail))
      have e : row ++ [IntKind.u8.wrap k] ++ enc kl ++ x.key ++ enc vl ++ x.val = h0 ++ bodyB (xs.take (i + 1)) := by
        rw [hnext, u8w, hkk]
        unfold encO
        rw [if_pos (by omega), hkl, hvl]
        simp only [List.append_assoc]
      rw [hl7, e]
      rw [hl7, e] at o7
      rw [i64_in _ (by omega), show ((i : Int) + 1) = ((i + 1 : Nat) : Int) by omega]
      exact ih (i + 1) j D7 f7 w7 (by omega) (by omega) k07 (o7.mono (Nat.le_trans hs1 (Nat.le_trans s3 (Nat.le_trans k34.size s5))))
    · refine Rt.some' (.inl ⟨.inl rfl, ?_⟩)
      (repeat' (first|(with_reducible (first|apply Rt.fin|apply Rt.tL|apply Rt.tI|apply Rt.tB|apply Rt.tS|apply Rt.tP|apply Rt.tD|apply Rt.tM|apply Rt.tC|apply Rt.tN|apply Rt.tA|apply Rt.tG|apply Rt.tF|apply Rt.os|apply Rt.clS|apply Rt.jmN|apply Rt.jbN|apply Rt.jbE|apply Rt.ckR|exact Rt.some' rfl))|((with_reducible (first|apply Rt.ld0|apply Rt.ld1|apply Rt.ld2|apply Rt.ld3|apply Rt.ld4|apply Rt.ld5)); first|assumption|exact Lc.kp (by assumption) (by assumption))|((with_reducible apply Rt.ol); first|assumption|exact cell_kp (by assumption) (by assumption))|fail))
      have e : row ++ [IntKind.u8.wrap k] ++ enc kl ++ x.key = h0 ++ bodyB (xs.take (i + 1)) := by
        rw [hnext, u8w, hkk]
        unfold encO
        rw [if_neg (by omega), hkl]
        simp only [List.append_assoc, List.append_nil]
      rw [hl5, e]
      rw [hl5, e] at o5
      rw [i64_in _ (by omega), show ((i : Int) + 1) = ((i + 1 : Nat) : Int) by omega]
      exact ih (i + 1) j D5 f5 w5 (by omega) (by omega) k05 (o5.mono (Nat.le_trans hs1 s3))
end
end Go.Proofs.YtdcdgmiojlldaaaDoor.Ba
/- Batches: the writings, whole; the document's own; when two are one. -/
namespace Go.Proofs.YtdcdgmiojlldaaaDoor.Ba
open Go Big Go.RowKit Go.IntWalk Var Low Par
set_option linter.unusedVariables false
set_option linter.unusedSimpArgs false
section
variable {α : Type} {Q : α → Prop} {n : Nat} {w w0 : World} {A B C : Option Addr} {l c m d : Nat} {k : Int} {x : OpD} {xs ys : List OpD} {bs : List Int}
theorem Rt.cOb {β : Type} {Q : β → Prop} {z : Option (List Value × World)} {base : Nat} {bs : List Int} (h : Rt z fun r => ∃ B d w', r = ([.slice B bs.length d], w') ∧ Own .u8 5 w' base (.slice B bs.length d) bs ∧ Kp w0 w') {f : Option Addr → Nat → Nat → World → Option β}
    (hf : ∀ B d w1, Own .u8 5 w1 base (.slice B bs.length d) bs → Kp w0 w1 → Rt (f B bs.length d w1) Q) : Rt (cl z fun vs w => tC vs fun u cs => tL u fun A l c => tN cs (f A l c w)) Q := by
  obtain ⟨_, rfl, B, d, w1, rfl, o, k1⟩ := h
  exact hf B d w1 o k1
theorem RBytes_l0 {b base : Nat} {s : Value} (hbb : b < base) (hb0 : w0.heap.size ≤ base) (hs : Ev opEl w0 A l c xs) (hr : ∀ o ∈ xs, rightO o) (hl : l ≤ 100) {h0 : List Int} (hh : h0.length ≤ 100) (hn : 200 < n) : ∀ (q i j : Nat) (B : Option Addr) (d : Nat) (w : World), i + q = l → q < j → Kp w0 w → Lc w b [s, .slice A l c] → base ≤ w.heap.size → Own .u8 5 w base (.slice B (h0 ++ bodyB (xs.take i)).length d) (h0 ++ bodyB (xs.take i)) →
    Rt (butteryref1_BatchBytes.l0 n j ⟨b, 0, none⟩ B (h0 ++ bodyB (xs.take i)).length d (i : Int) w) fun r => r.ex = .exit 0 ∧ ∃ B d, r.vals = [.slice B (h0 ++ bodyB xs).length d] ∧ Own .u8 5 r.w base (.slice B (h0 ++ bodyB xs).length d) (h0 ++ bodyB xs) ∧ Kp w0 r.w := by
  obtain ⟨t, hT⟩ := slB
  have hxl := hs.len
  intro q
  induction q with
  | zero =>
    intro i j B d w hi hj hk hlc hbs ho
    obtain ⟨j, rfl⟩ : ∃ j', j = j' + 1 := ⟨j - 1, by omega⟩
    rw [List.take_of_length_le (by omega)] at ho ⊢
    rw [butteryref1_BatchBytes.l0_succ]
    refine Rt.ol hlc.ld1 (Rt.tL ?_)
    exact Rt.cDF (by omega) (Rt.some' ⟨rfl, B, d, rfl, ho, hk⟩)
  | succ q ih =>
    intro i j B d w hi hj hk hlc hbs ho
    obtain ⟨j, rfl⟩ : ∃ j', j = j' + 1 := ⟨j - 1, by omega⟩
    rw [butteryref1_BatchBytes.l0_succ]
    refine Rt.ol hlc.ld1 (Rt.tL ?_)
    refine Rt.cDT (by omega) (Rt.jb (Rt.ol hlc.ld1 (Rt.tL ?_)))
    refine (Rt.ixO hs.sl (by omega) (by omega) fun x a k K kl kc V vl vc ex hv c0 c1 c2 => ?_)
    have hmem : x ∈ xs := List.mem_of_getElem? ex
    have ex' : xs[i]? = some x := by simpa using ex
    have hrx := hr x hmem
    unfold rightO at hrx
    have hkl := hv.key.len
    have hvl := hv.val.len
    have hkk := hv.kind
    have hbl := bodyB_len (l := xs.take i) fun o ho => hr o (List.mem_of_mem_take ho)
    have hbi : (xs.take i).length = i := by simp; omega
    have hel := enc_len10 (x := kl) (by omega)
    have hel' := enc_len10 (x := vl) (by omega)
    have hlen : (h0 ++ bodyB (xs.take i)).length ≤ 600000 := by rw [List.length_append]; omega
    have hnext : h0 ++ bodyB (xs.take (i + 1)) = (h0 ++ bodyB (xs.take i)) ++ encO x := by rw [bodyB_snoc ex', List.append_assoc]
    generalize hrow : h0 ++ bodyB (xs.take i) = row at ho hlen hnext ⊢
    (repeat' (first|(with_reducible (first|apply Rt.fin|apply Rt.tL|apply Rt.tI|apply Rt.tB|apply Rt.tS|apply Rt.tP|apply Rt.tD|apply Rt.tM|apply Rt.tC|apply Rt.tN|apply Rt.tA|apply Rt.tG|apply Rt.tF|apply Rt.os|apply Rt.clS|apply Rt.jmN|apply Rt.jbN|apply Rt.jbE|apply Rt.ckR|exact Rt.some' rfl))|((with_reducible (first|apply Rt.ld0|apply Rt.ld1|apply Rt.ld2|apply Rt.ld3|apply Rt.ld4|apply Rt.ld5)); first|assumption|exact Lc.kp (by assumption) (by assumption))|((with_reducible apply Rt.ol); first|assumption|exact cell_kp (by assumption) (by assumption))|fail))
    refine Rt.al3 fun w1 l1 k1 s1 => ?_
    (repeat' (first|(with_reducible (first|apply Rt.fin|apply Rt.tL|apply Rt.tI|apply Rt.tB|apply Rt.tS|apply Rt.tP|apply Rt.tD|apply Rt.tM|apply Rt.tC|apply Rt.tN|apply Rt.tA|apply Rt.tG|apply Rt.tF|apply Rt.os|apply Rt.clS|apply Rt.jmN|apply Rt.jbN|apply Rt.jbE|apply Rt.ckR|exact Rt.some' rfl))|((with_reducible (first|apply Rt.ld0|apply Rt.ld1|apply Rt.ld2|apply Rt.ld3|apply Rt.ld4|apply Rt.ld5)); first|assumption|exact Lc.kp (by assumption) (by assumption))|((with_reducible apply Rt.ol); first|assumption|exact cell_kp (by assumption) (by assumption))|fail))
    refine Rt.alo [_] 1 rfl rfl (by decide) fun w2 o2 k2 => ?_
    have k02 := (hk.tr k1).tr k2
    have k12 := k1.tr k2
    have hbs2 := Nat.le_trans hbs k12.size
    have lb2 := hlc.kp k12
    refine Rt.app hT (ho.kp k12) o2.sl.2 (fun h => by cases h) (by omega) hbs2 fun D f w3 o3 hk3 g3 s3 => ?_
    have k03 := hk3 w0 k02 hb0
    have lb3 := lb2.gx (Gx.of_grown g3) fun h => by have := (ho.lt _ h).1; omega
    have l3 := (l1.kp k2).gx (Gx.of_grown g3) fun h => by have := (ho.lt _ h).2; omega
    (repeat' (first|(with_reducible (first|apply Rt.fin|apply Rt.tL|apply Rt.tI|apply Rt.tB|apply Rt.tS|apply Rt.tP|apply Rt.tD|apply Rt.tM|apply Rt.tC|apply Rt.tN|apply Rt.tA|apply Rt.tG|apply Rt.tF|apply Rt.os|apply Rt.clS|apply Rt.jmN|apply Rt.jbN|apply Rt.jbE|apply Rt.ckR|exact Rt.some' rfl))|((with_reducible (first|apply Rt.ld0|apply Rt.ld1|apply Rt.ld2|apply Rt.ld3|apply Rt.ld4|apply Rt.ld5)); first|assumption|exact Lc.kp (by assumption) (by assumption))|((with_reducible apply Rt.ol); first|assumption|exact cell_kp (by assumption) (by assumption))|fail))
    have d3 : Kp w3 w3.drew := (Kp.rfl' w3).dr
    rw [u64_in (kl : Int) (by omega)]
    refine Rt.cO (RPutO (o3.kp d3) (by omega) (by omega) (by omega)) fun D4 f4 w4 o4 k4 => ?_
    have k34 := d3.tr k4
    have k04 := k03.tr k34
    have l4 := l3.kp k34
    have lb4 := lb3.kp k34
    have hb3 := Nat.le_trans hbs2 s3
    rw [Int.toNat_natCast] at o4
    rw [Int.toNat_natCast]
    (repeat' (first|(with_reducible (first|apply Rt.fin|apply Rt.tL|apply Rt.tI|apply Rt.tB|apply Rt.tS|apply Rt.tP|apply Rt.tD|apply Rt.tM|apply Rt.tC|apply Rt.tN|apply Rt.tA|apply Rt.tG|apply Rt.tF|apply Rt.os|apply Rt.clS|apply Rt.jmN|apply Rt.jbN|apply Rt.jbE|apply Rt.ckR|exact Rt.some' rfl))|((with_reducible (first|apply Rt.ld0|apply Rt.ld1|apply Rt.ld2|apply Rt.ld3|apply Rt.ld4|apply Rt.ld5)); first|assumption|exact Lc.kp (by assumption) (by assumption))|((with_reducible apply Rt.ol); first|assumption|exact cell_kp (by assumption) (by assumption))|fail))
    have hs1 := k02.size
    refine Rt.app hT o4 (hv.key.kp k04).sl hv.key.nil (by simp only [List.length_append, List.length_singleton]; omega) k4.size fun D5 f5 w5 o5 hk5 g5 s5 => ?_
    have k05 := hk5 w0 k04 (Nat.le_trans hs1 s3)
    have l5 := l4.gx (Gx.of_grown g5) fun h => by have := (o4.lt _ h).1; have := k12.size; have := k2.size; have : w3.drew.heap.size = w3.heap.size := rfl; omega
    have hl5 := o5.sl.1
    have lb5 := lb4.gx (Gx.of_grown g5) fun h => by have := (o4.lt _ h).1; have : w3.drew.heap.size = w3.heap.size := rfl; omega
    (repeat' (first|(with_reducible (first|apply Rt.fin|apply Rt.tL|apply Rt.tI|apply Rt.tB|apply Rt.tS|apply Rt.tP|apply Rt.tD|apply Rt.tM|apply Rt.tC|apply Rt.tN|apply Rt.tA|apply Rt.tG|apply Rt.tF|apply Rt.os|apply Rt.clS|apply Rt.jmN|apply Rt.jbN|apply Rt.jbE|apply Rt.ckR|exact Rt.some' rfl))|((with_reducible (first|apply Rt.ld0|apply Rt.ld1|apply Rt.ld2|apply Rt.ld3|apply Rt.ld4|apply Rt.ld5)); first|assumption|exact Lc.kp (by assumption) (by assumption))|((with_reducible apply Rt.ol); first|assumption|exact cell_kp (by assumption) (by assumption))|fail))
    refine Rt.cQ (fun hk1 => ?_) fun hk1 => ?_
    · have d5 : Kp w5 w5.drew := (Kp.rfl' w5).dr
      (repeat' (first|(with_reducible (first|apply Rt.fin|apply Rt.tL|apply Rt.tI|apply Rt.tB|apply Rt.tS|apply Rt.tP|apply Rt.tD|apply Rt.tM|apply Rt.tC|apply Rt.tN|apply Rt.tA|apply Rt.tG|apply Rt.tF|apply Rt.os|apply Rt.clS|apply Rt.jmN|apply Rt.jbN|apply Rt.jbE|apply Rt.ckR|exact Rt.some' rfl))|((with_reducible (first|apply Rt.ld0|apply Rt.ld1|apply Rt.ld2|apply Rt.ld3|apply Rt.ld4|apply Rt.ld5)); first|assumption|exact Lc.kp (by assumption) (by assumption))|((with_reducible apply Rt.ol); first|assumption|exact cell_kp (by assumption) (by assumption))|fail))
      rw [u64_in (vl : Int) (by omega)]
      refine Rt.cO (RPutO (o5.kp d5) (by simp only [List.length_append, List.length_singleton]; omega) (by omega) (by omega)) fun D6 f6 w6 o6 k6 => ?_
      have k56 := d5.tr k6
      have k06 := k05.tr k56
      have l6 := l5.kp k56
      have lb6 := lb5.kp k56
      rw [Int.toNat_natCast] at o6
      rw [Int.toNat_natCast]
      (repeat' (first|(with_reducible (first|apply Rt.fin|apply Rt.tL|apply Rt.tI|apply Rt.tB|apply Rt.tS|apply Rt.tP|apply Rt.tD|apply Rt.tM|apply Rt.tC|apply Rt.tN|apply Rt.tA|apply Rt.tG|apply Rt.tF|apply Rt.os|apply Rt.clS|apply Rt.jmN|apply Rt.jbN|apply Rt.jbE|apply Rt.ckR|exact Rt.some' rfl))|((with_reducible (first|apply Rt.ld0|apply Rt.ld1|apply Rt.ld2|apply Rt.ld3|apply Rt.ld4|apply Rt.ld5)); first|assumption|exact Lc.kp (by assumption) (by assumption))|((with_reducible apply Rt.ol); first|assumption|exact cell_kp (by assumption) (by assumption))|fail))
      refine Rt.app hT o6 (hv.val.kp k06).sl hv.val.nil (by simp only [List.length_append, List.length_singleton]; omega) k6.size fun D7 f7 w7 o7 hk7 g7 s7 => ?_
      have k07 := hk7 w0 k06 (Nat.le_trans hs1 (Nat.le_trans s3 (Nat.le_trans k34.size s5)))
      have hl7 := o7.sl.1
      have lb7 := lb6.gx (Gx.of_grown g7) fun h => by have := (o6.lt _ h).1; have := k34.size; have : w5.drew.heap.size = w5.heap.size := rfl; omega
      (repeat' (first|(with_reducible (first|apply Rt.fin|apply Rt.tL|apply Rt.tI|apply Rt.tB|apply Rt.tS|apply Rt.tP|apply Rt.tD|apply Rt.tM|apply Rt.tC|apply Rt.tN|apply Rt.tA|apply Rt.tG|apply Rt.tF|apply Rt.os|apply Rt.clS|apply Rt.jmN|apply Rt.jbN|apply Rt.jbE|apply Rt.ckR|exact Rt.some' rfl))|((with_reducible (first|apply Rt.ld0|apply Rt.ld1|apply Rt.ld2|apply Rt.ld3|apply Rt.ld4|apply Rt.ld5)); first|assumption|exact Lc.kp (by assumption) (by assumption))|((with_reducible apply Rt.ol); first|assumption|exact cell_kp (by assumption) (by assumption))|fail))
      refine Rt.some' (.inl ⟨.inl rfl, ?_⟩)
      (repeat' (first|(with_reducible (first|apply Rt.fin|apply Rt.tL|apply Rt.tI|apply Rt.tB|apply Rt.tS|apply Rt.tP|apply Rt.tD|apply Rt.tM|apply Rt.tC|apply Rt.tN|apply Rt.tA|apply Rt.tG|apply Rt.tF|apply Rt.os|apply Rt.clS|apply Rt.jmN|apply Rt.jbN|apply Rt.jbE|apply Rt.ckR|exact Rt.some' rfl))|((with_reducible (first|apply Rt.ld0|apply Rt.ld1|apply Rt.ld2|apply Rt.ld3|apply Rt.ld4|apply Rt.ld5)); first|assumption|exact Lc.kp (by assumption) (by assumption))|((with_reducible apply Rt.ol); first|assumption|exact cell_kp (by assumption) (by assumption))|fail))
      have e : row ++ [IntKind.u8.wrap k] ++ enc kl ++ x.key ++ enc vl ++ x.val = h0 ++ bodyB (xs.take (i + 1)) := by
        rw [hnext, u8w, hkk]
        unfold encO
        rw [if_pos (by omega), hkl, hvl]
        simp only [List.append_assoc]
      rw [hl7, e]
      rw [hl7, e] at o7
      rw [i64_in _ (by omega), show ((i : Int) + 1) = ((i + 1 : Nat) : Int) by omega]
      exact ih (i + 1) j D7 f7 w7 (by omega) (by omega) k07 lb7 (Nat.le_trans hb3 (Nat.le_trans k34.size (Nat.le_trans s5 (Nat.le_trans k56.size s7)))) (o7.mono (Nat.le_trans hb3 (Nat.le_trans k34.size s5)))
    · refine Rt.some' (.inl ⟨.inl rfl, ?_⟩)
      (repeat' (first|(with_reducible (first|apply Rt.fin|apply Rt.tL|apply Rt.tI|apply Rt.tB|apply Rt.tS|apply Rt.tP|apply Rt.tD|apply Rt.tM|apply Rt.tC|apply Rt.tN|apply Rt.tA|apply Rt.tG|apply Rt.tF|apply Rt.os|apply Rt.clS|apply Rt.jmN|apply Rt.jbN|apply Rt.jbE|apply Rt.ckR|exact Rt.some' rfl))|((with_reducible (first|apply Rt.ld0|apply Rt.ld1|apply Rt.ld2|apply Rt.ld3|apply Rt.ld4|apply Rt.ld5)); first|assumption|exact Lc.kp (by assumption) (by assumption))|((with_reducible apply Rt.ol); first|assumption|exact cell_kp (by assumption) (by assumption))|fail))
      have e : row ++ [IntKind.u8.wrap k] ++ enc kl ++ x.key = h0 ++ bodyB (xs.take (i + 1)) := by
        rw [hnext, u8w, hkk]
        unfold encO
        rw [if_neg (by omega), hkl]
        simp only [List.append_assoc, List.append_nil]
      rw [hl5, e]
      rw [hl5, e] at o5
      rw [i64_in _ (by omega), show ((i : Int) + 1) = ((i + 1 : Nat) : Int) by omega]
      exact ih (i + 1) j D5 f5 w5 (by omega) (by omega) k05 lb5 (Nat.le_trans hb3 (Nat.le_trans k34.size s5)) (o5.mono hb3)
abbrev bv (s : Int) (A : Option Addr) (l c : Nat) : Value := .agg #[.int .u64 s, .slice A l c]
theorem Rt.endE {w' : World} {B : Option Addr} {d : Nat} {e : Int} {x : List Int × Int} (hx : x = (bs, e)) (ho : Own .u8 5 w' w0.heap.size (.slice B bs.length d) bs) (hk : Kp w0 w') : Rt (some (⟨.ret, [.slice B bs.length d, .int .i64 e], w'⟩ : Res)) (fun r => r.ex = .ret ∧ ROe .u8 5 w0 x (r.vals, r.w)) := by
  subst hx; exact ⟨_, rfl, rfl, B, d, w', rfl, ho, hk⟩
theorem Bytes_spec {s : Int} (hs : 0 ≤ s ∧ s < 2 ^ 64) (hx : Ev opEl w A l c xs) (hn : 200 < n) : Rt (batch_Bytes n [bv s A l c] w) (ROe .u8 5 w (bytesB s xs)) := by
  have hxl := hx.len
  rw [batch_Bytes_eq]
  refine Rt.fin (Rt.al fun w1 l1 k1 s1 => ?_)
  (repeat' (first|(with_reducible (first|apply Rt.fin|apply Rt.tL|apply Rt.tI|apply Rt.tB|apply Rt.tS|apply Rt.tP|apply Rt.tD|apply Rt.tM|apply Rt.tC|apply Rt.tN|apply Rt.tA|apply Rt.tG|apply Rt.tF|apply Rt.os|apply Rt.clS|apply Rt.jmN|apply Rt.jbN|apply Rt.jbE|apply Rt.ckR|exact Rt.some' rfl))|((with_reducible (first|apply Rt.ld0|apply Rt.ld1|apply Rt.ld2|apply Rt.ld3|apply Rt.ld4|apply Rt.ld5)); first|assumption|exact Lc.kp (by assumption) (by assumption))|((with_reducible apply Rt.ol); first|assumption|exact cell_kp (by assumption) (by assumption))|fail))
  refine Rt.cI (Check_spec (hx.kp k1) hn) fun w2 k2 => ?_
  have k12 := k1.tr k2
  unfold bytesB
  refine Rt.cN (fun h => ?_) fun h => ?_
  · obtain ⟨c1, c2, c3⟩ := checkC_ok.1 h
    rw [if_neg (by simpa using h)]
    (repeat' (first|(with_reducible (first|apply Rt.fin|apply Rt.tL|apply Rt.tI|apply Rt.tB|apply Rt.tS|apply Rt.tP|apply Rt.tD|apply Rt.tM|apply Rt.tC|apply Rt.tN|apply Rt.tA|apply Rt.tG|apply Rt.tF|apply Rt.os|apply Rt.clS|apply Rt.jmN|apply Rt.jbN|apply Rt.jbE|apply Rt.ckR|exact Rt.some' rfl))|((with_reducible (first|apply Rt.ld0|apply Rt.ld1|apply Rt.ld2|apply Rt.ld3|apply Rt.ld4|apply Rt.ld5)); first|assumption|exact Lc.kp (by assumption) (by assumption))|((with_reducible apply Rt.ol); first|assumption|exact cell_kp (by assumption) (by assumption))|fail))
    refine Rt.cBo (numbered_spec hs (by omega) (by omega)) fun b w3 hb k3 => ?_
    have k13 := k12.tr k3
    have m23 := k2.tr k3
    cases b with
    | false =>
      rw [hxl, if_neg (fun h' => by simpa using hb.2 h')]
      exact Rt.cT rfl (Rt.endE rfl (Own.nil _ _) k13)
    | true =>
      rw [hxl, if_pos (hb.1 rfl)]
      refine Rt.cF rfl ?_
      have m23' := m23.dr
      have k13' := k13.dr
      (repeat' (first|(with_reducible (first|apply Rt.fin|apply Rt.tL|apply Rt.tI|apply Rt.tB|apply Rt.tS|apply Rt.tP|apply Rt.tD|apply Rt.tM|apply Rt.tC|apply Rt.tN|apply Rt.tA|apply Rt.tG|apply Rt.tF|apply Rt.os|apply Rt.clS|apply Rt.jmN|apply Rt.jbN|apply Rt.jbE|apply Rt.ckR|exact Rt.some' rfl))|((with_reducible (first|apply Rt.ld0|apply Rt.ld1|apply Rt.ld2|apply Rt.ld3|apply Rt.ld4|apply Rt.ld5)); first|assumption|exact Lc.kp (by assumption) (by assumption))|((with_reducible apply Rt.ol); first|assumption|exact cell_kp (by assumption) (by assumption))|fail))
      refine Rt.cOb (low_spec (bs := []) (mm := 8) (w0 := w3.drew) (base := w3.drew.heap.size) hs (by decide) (Nat.le_refl _) (Own.nil _ _) (Kp.rfl' _) (Nat.le_refl _) (by simp) (by omega)) fun D f w4 o4 k4 => ?_
      have m24 := m23'.tr k4
      have k14 := k13'.tr k4
      (repeat' (first|(with_reducible (first|apply Rt.fin|apply Rt.tL|apply Rt.tI|apply Rt.tB|apply Rt.tS|apply Rt.tP|apply Rt.tD|apply Rt.tM|apply Rt.tC|apply Rt.tN|apply Rt.tA|apply Rt.tG|apply Rt.tF|apply Rt.os|apply Rt.clS|apply Rt.jmN|apply Rt.jbN|apply Rt.jbE|apply Rt.ckR|exact Rt.some' rfl))|((with_reducible (first|apply Rt.ld0|apply Rt.ld1|apply Rt.ld2|apply Rt.ld3|apply Rt.ld4|apply Rt.ld5)); first|assumption|exact Lc.kp (by assumption) (by assumption))|((with_reducible apply Rt.ol); first|assumption|exact cell_kp (by assumption) (by assumption))|fail))
      rw [u64_in (l : Int) (by omega)]
      refine Rt.cOb (low_spec (mm := 4) (w0 := w3.drew) (base := w3.drew.heap.size) (v := (l : Int)) (by omega) (by decide) (Nat.le_refl _) o4 k4 k4.size (by simp [lowB_len]) (by omega)) fun E g w5 o5 k5 => ?_
      have m25 := m23'.tr k5
      have k15 := k13'.tr k5
      (repeat' (first|(with_reducible (first|apply Rt.fin|apply Rt.tL|apply Rt.tI|apply Rt.tB|apply Rt.tS|apply Rt.tP|apply Rt.tD|apply Rt.tM|apply Rt.tC|apply Rt.tN|apply Rt.tA|apply Rt.tG|apply Rt.tF|apply Rt.os|apply Rt.clS|apply Rt.jmN|apply Rt.jbN|apply Rt.jbE|apply Rt.ckR|exact Rt.some' rfl))|((with_reducible (first|apply Rt.ld0|apply Rt.ld1|apply Rt.ld2|apply Rt.ld3|apply Rt.ld4|apply Rt.ld5)); first|assumption|exact Lc.kp (by assumption) (by assumption))|((with_reducible apply Rt.ol); first|assumption|exact cell_kp (by assumption) (by assumption))|fail))
      have h0 := Bytes_l0 (n := n) (w0 := w) hx c3 (by omega) (h0 := [] ++ lowB 8 s ++ lowB 4 l) (by simp [lowB_len]) hn l 0 n E g w5 (by omega) (by omega) k15 (by simpa [bodyB] using o5.mono k13'.size)
      have e0 : ([] ++ lowB 8 s ++ lowB 4 (l : Int) ++ bodyB (List.take 0 xs)) = [] ++ lowB 8 s ++ lowB 4 (l : Int) := by simp [bodyB]
      rw [e0] at h0
      refine Rt.jb (Rt.mono h0 ?_)
      rintro ⟨ex, vs, w6⟩ ⟨h1, F, p, h2, h3, h4⟩
      dsimp only at h1 h2 h3 h4
      subst h1 h2
      refine .inl ⟨.inr rfl, ?_⟩
      (repeat' (first|(with_reducible (first|apply Rt.fin|apply Rt.tL|apply Rt.tI|apply Rt.tB|apply Rt.tS|apply Rt.tP|apply Rt.tD|apply Rt.tM|apply Rt.tC|apply Rt.tN|apply Rt.tA|apply Rt.tG|apply Rt.tF|apply Rt.os|apply Rt.clS|apply Rt.jmN|apply Rt.jbN|apply Rt.jbE|apply Rt.ckR|exact Rt.some' rfl))|((with_reducible (first|apply Rt.ld0|apply Rt.ld1|apply Rt.ld2|apply Rt.ld3|apply Rt.ld4|apply Rt.ld5)); first|assumption|exact Lc.kp (by assumption) (by assumption))|((with_reducible apply Rt.ol); first|assumption|exact cell_kp (by assumption) (by assumption))|fail))
      exact Rt.endE (by rw [encB, hxl]; rfl) h3 h4
  · rw [if_pos h]
    exact Rt.endE rfl (Own.nil _ _) k12
theorem rightOp_spec (hx : OpV w k A l c B m d x) : Rt (butteryref1_rightOp n [ov k A l c B m d] w) (RB (rightO x) w) := by
  have h1 := hx.kind
  have h2 := hx.key.len
  have h3 := hx.val.len
  rw [butteryref1_rightOp_eq]
  unfold rightO
  refine Rt.fin (Rt.al fun w1 l1 k1 _ => ?_)
  have tail : ∀ {y : Option Res}, (x.kind = 0 ∧ x.val.length = 0 ∨ x.kind = 1) → y = (opt (w1.cell? (Addr.add ⟨w.heap.size, 0, none⟩ 1)) fun v7 => tL v7 fun A8 l9 c10 => cond (decide ((l9 : Int) ≥ 1)) (opt (w1.cell? (Addr.add ⟨w.heap.size, 0, none⟩ 1)) fun v11 => tL v11 fun A12 l13 c14 => cond (decide ((l13 : Int) ≤ 256)) (opt (w1.cell? (Addr.add ⟨w.heap.size, 0, none⟩ 2)) fun v15 => tL v15 fun A16 l17 c18 => some ⟨.ret, [(.bool (decide ((l17 : Int) ≤ 4096)))], w1⟩) (some ⟨.ret, [(.bool false)], w1⟩)) (some ⟨.ret, [(.bool false)], w1⟩)) →
      Rt y (fun r => r.ex = .ret ∧ RB ((x.kind = 0 ∧ x.val.length = 0 ∨ x.kind = 1) ∧ 1 ≤ x.key.length ∧ x.key.length ≤ 256 ∧ x.val.length ≤ 4096) w (r.vals, r.w)) := by
    intro y hk e
    subst e
    (repeat' (first|(with_reducible (first|apply Rt.fin|apply Rt.tL|apply Rt.tI|apply Rt.tB|apply Rt.tS|apply Rt.tP|apply Rt.tD|apply Rt.tM|apply Rt.tC|apply Rt.tN|apply Rt.tA|apply Rt.tG|apply Rt.tF|apply Rt.os|apply Rt.clS|apply Rt.jmN|apply Rt.jbN|apply Rt.jbE|apply Rt.ckR|exact Rt.some' rfl))|((with_reducible (first|apply Rt.ld0|apply Rt.ld1|apply Rt.ld2|apply Rt.ld3|apply Rt.ld4|apply Rt.ld5)); first|assumption|exact Lc.kp (by assumption) (by assumption))|((with_reducible apply Rt.ol); first|assumption|exact cell_kp (by assumption) (by assumption))|fail))
    refine Rt.cD (fun h => ?_) fun h => ?_
    · (repeat' (first|(with_reducible (first|apply Rt.fin|apply Rt.tL|apply Rt.tI|apply Rt.tB|apply Rt.tS|apply Rt.tP|apply Rt.tD|apply Rt.tM|apply Rt.tC|apply Rt.tN|apply Rt.tA|apply Rt.tG|apply Rt.tF|apply Rt.os|apply Rt.clS|apply Rt.jmN|apply Rt.jbN|apply Rt.jbE|apply Rt.ckR|exact Rt.some' rfl))|((with_reducible (first|apply Rt.ld0|apply Rt.ld1|apply Rt.ld2|apply Rt.ld3|apply Rt.ld4|apply Rt.ld5)); first|assumption|exact Lc.kp (by assumption) (by assumption))|((with_reducible apply Rt.ol); first|assumption|exact cell_kp (by assumption) (by assumption))|fail))
      refine Rt.cD (fun h => ?_) fun h => ?_
      · (repeat' (first|(with_reducible (first|apply Rt.fin|apply Rt.tL|apply Rt.tI|apply Rt.tB|apply Rt.tS|apply Rt.tP|apply Rt.tD|apply Rt.tM|apply Rt.tC|apply Rt.tN|apply Rt.tA|apply Rt.tG|apply Rt.tF|apply Rt.os|apply Rt.clS|apply Rt.jmN|apply Rt.jbN|apply Rt.jbE|apply Rt.ckR|exact Rt.some' rfl))|((with_reducible (first|apply Rt.ld0|apply Rt.ld1|apply Rt.ld2|apply Rt.ld3|apply Rt.ld4|apply Rt.ld5)); first|assumption|exact Lc.kp (by assumption) (by assumption))|((with_reducible apply Rt.ol); first|assumption|exact cell_kp (by assumption) (by assumption))|fail))
        exact Rt.endB (by simp only [decide_eq_true_eq]; omega) k1
      · exact Rt.endB (by simp only [Bool.false_eq_true, false_iff]; omega) k1
    · exact Rt.endB (by simp only [Bool.false_eq_true, false_iff]; omega) k1
  (repeat' (first|(with_reducible (first|apply Rt.fin|apply Rt.tL|apply Rt.tI|apply Rt.tB|apply Rt.tS|apply Rt.tP|apply Rt.tD|apply Rt.tM|apply Rt.tC|apply Rt.tN|apply Rt.tA|apply Rt.tG|apply Rt.tF|apply Rt.os|apply Rt.clS|apply Rt.jmN|apply Rt.jbN|apply Rt.jbE|apply Rt.ckR|exact Rt.some' rfl))|((with_reducible (first|apply Rt.ld0|apply Rt.ld1|apply Rt.ld2|apply Rt.ld3|apply Rt.ld4|apply Rt.ld5)); first|assumption|exact Lc.kp (by assumption) (by assumption))|((with_reducible apply Rt.ol); first|assumption|exact cell_kp (by assumption) (by assumption))|fail))
  refine Rt.cQ (fun h => ?_) fun h => ?_
  · (repeat' (first|(with_reducible (first|apply Rt.fin|apply Rt.tL|apply Rt.tI|apply Rt.tB|apply Rt.tS|apply Rt.tP|apply Rt.tD|apply Rt.tM|apply Rt.tC|apply Rt.tN|apply Rt.tA|apply Rt.tG|apply Rt.tF|apply Rt.os|apply Rt.clS|apply Rt.jmN|apply Rt.jbN|apply Rt.jbE|apply Rt.ckR|exact Rt.some' rfl))|((with_reducible (first|apply Rt.ld0|apply Rt.ld1|apply Rt.ld2|apply Rt.ld3|apply Rt.ld4|apply Rt.ld5)); first|assumption|exact Lc.kp (by assumption) (by assumption))|((with_reducible apply Rt.ol); first|assumption|exact cell_kp (by assumption) (by assumption))|fail))
    refine Rt.cQ (fun h => ?_) fun h => ?_
    · exact tail (by omega) rfl
    · (repeat' (first|(with_reducible (first|apply Rt.fin|apply Rt.tL|apply Rt.tI|apply Rt.tB|apply Rt.tS|apply Rt.tP|apply Rt.tD|apply Rt.tM|apply Rt.tC|apply Rt.tN|apply Rt.tA|apply Rt.tG|apply Rt.tF|apply Rt.os|apply Rt.clS|apply Rt.jmN|apply Rt.jbN|apply Rt.jbE|apply Rt.ckR|exact Rt.some' rfl))|((with_reducible (first|apply Rt.ld0|apply Rt.ld1|apply Rt.ld2|apply Rt.ld3|apply Rt.ld4|apply Rt.ld5)); first|assumption|exact Lc.kp (by assumption) (by assumption))|((with_reducible apply Rt.ol); first|assumption|exact cell_kp (by assumption) (by assumption))|fail))
      refine Rt.cQ (fun h => ?_) fun h => ?_
      · exact tail (by omega) rfl
      · exact Rt.endB (by simp only [Bool.false_eq_true, false_iff]; omega) k1
  · (repeat' (first|(with_reducible (first|apply Rt.fin|apply Rt.tL|apply Rt.tI|apply Rt.tB|apply Rt.tS|apply Rt.tP|apply Rt.tD|apply Rt.tM|apply Rt.tC|apply Rt.tN|apply Rt.tA|apply Rt.tG|apply Rt.tF|apply Rt.os|apply Rt.clS|apply Rt.jmN|apply Rt.jbN|apply Rt.jbE|apply Rt.ckR|exact Rt.some' rfl))|((with_reducible (first|apply Rt.ld0|apply Rt.ld1|apply Rt.ld2|apply Rt.ld3|apply Rt.ld4|apply Rt.ld5)); first|assumption|exact Lc.kp (by assumption) (by assumption))|((with_reducible apply Rt.ol); first|assumption|exact cell_kp (by assumption) (by assumption))|fail))
    refine Rt.cQ (fun h => ?_) fun h => ?_
    · exact tail (by omega) rfl
    · exact Rt.endB (by simp only [Bool.false_eq_true, false_iff]; omega) k1
theorem CheckOps_l0 (hs : Ev opEl w A l c xs) (hl : l ≤ 100) : ∀ (q i j : Nat) (w' : World), i + q = l → q < j → Kp w w' → (∀ o ∈ xs.take i, rightO o) →
    Rt (butteryref1_CheckOps.l0 n j A l c (i : Int) w') fun r => Kp w r.w ∧ (r.ex = .exit 0 ∧ r.vals = [] ∧ (∀ o ∈ xs, rightO o) ∨ r.ex = .ret ∧ r.vals = [.int .i64 1] ∧ ¬(∀ o ∈ xs, rightO o)) := by
  intro q
  have hxl := hs.len
  induction q with
  | zero =>
    intro i j w' hi hj hk hr
    obtain ⟨j, rfl⟩ : ∃ j', j = j' + 1 := ⟨j - 1, by omega⟩
    rw [butteryref1_CheckOps.l0_succ]
    exact Rt.cDF (by omega) (Rt.some' ⟨hk, .inl ⟨rfl, rfl, by rwa [List.take_of_length_le (by omega)] at hr⟩⟩)
  | succ q ih =>
    intro i j w' hi hj hk hr
    obtain ⟨j, rfl⟩ : ∃ j', j = j' + 1 := ⟨j - 1, by omega⟩
    rw [butteryref1_CheckOps.l0_succ]
    refine Rt.cDT (by omega) (Rt.ixO hs.sl (by omega) (by omega) fun x a k B m d C p q ex hv c0 c1 c2 => ?_)
    (repeat' (first|(with_reducible (first|apply Rt.fin|apply Rt.tL|apply Rt.tI|apply Rt.tB|apply Rt.tS|apply Rt.tP|apply Rt.tD|apply Rt.tM|apply Rt.tC|apply Rt.tN|apply Rt.tA|apply Rt.tG|apply Rt.tF|apply Rt.os|apply Rt.clS|apply Rt.jmN|apply Rt.jbN|apply Rt.jbE|apply Rt.ckR|exact Rt.some' rfl))|((with_reducible (first|apply Rt.ld0|apply Rt.ld1|apply Rt.ld2|apply Rt.ld3|apply Rt.ld4|apply Rt.ld5)); first|assumption|exact Lc.kp (by assumption) (by assumption))|((with_reducible apply Rt.ol); first|assumption|exact cell_kp (by assumption) (by assumption))|fail))
    refine Rt.cBo (rightOp_spec (hv.kp hk)) fun b w2 hb k2 => ?_
    have hk2 := hk.tr k2
    have hmem : x ∈ xs := List.mem_of_getElem? ex
    cases b with
    | false => exact Rt.cT rfl (Rt.some' ⟨hk2, .inr ⟨rfl, rfl, fun h => by simpa using hb.2 (h x hmem)⟩⟩)
    | true =>
      refine Rt.cF rfl ?_
      rw [i64_in _ (by omega), show ((i : Int) + 1) = ((i + 1 : Nat) : Int) by omega]
      refine ih (i + 1) j w2 (by omega) (by omega) hk2 fun o ho => ?_
      have ex' : xs[i]? = some x := by simpa using ex
      rw [List.take_add_one, ex', List.mem_append] at ho
      rcases ho with ho | ho
      · exact hr o ho
      · simp at ho; subst ho; exact hb.1 rfl
theorem CheckOps_spec (hs : Ev opEl w A l c xs) (hn : 200 < n) : Rt (butteryref1_CheckOps n [.slice A l c] w) (RI .i64 (checkC xs) w) := by
  have hxl := hs.len
  rw [butteryref1_CheckOps_eq]
  unfold checkC
  refine Rt.fin (Rt.cD (fun h => ?_) fun h1 => Rt.cD (fun h => ?_) fun h2 => ?_)
  · exact Rt.endI (by rw [if_pos (by omega)]) (Kp.rfl' w)
  · exact Rt.endI (by rw [if_pos (by omega)]) (Kp.rfl' w)
  · rw [if_neg (by omega)]
    refine Rt.jb (Rt.mono (CheckOps_l0 (n := n) hs (by omega) l 0 n w (by omega) (by omega) (Kp.rfl' w) (by simp)) ?_)
    rintro ⟨ex, vs, w1⟩ ⟨k1, ⟨h3, h4, h5⟩ | ⟨h3, h4, h5⟩⟩
    · dsimp only at h3 h4 k1
      subst h3 h4
      refine .inl ⟨.inr rfl, ?_⟩
      (repeat' (first|(with_reducible (first|apply Rt.fin|apply Rt.tL|apply Rt.tI|apply Rt.tB|apply Rt.tS|apply Rt.tP|apply Rt.tD|apply Rt.tM|apply Rt.tC|apply Rt.tN|apply Rt.tA|apply Rt.tG|apply Rt.tF|apply Rt.os|apply Rt.clS|apply Rt.jmN|apply Rt.jbN|apply Rt.jbE|apply Rt.ckR|exact Rt.some' rfl))|((with_reducible (first|apply Rt.ld0|apply Rt.ld1|apply Rt.ld2|apply Rt.ld3|apply Rt.ld4|apply Rt.ld5)); first|assumption|exact Lc.kp (by assumption) (by assumption))|((with_reducible apply Rt.ol); first|assumption|exact cell_kp (by assumption) (by assumption))|fail))
      exact Rt.endI (by rw [if_pos h5]) k1
    · dsimp only at h3 h4 k1
      subst h3 h4
      exact .inr ⟨rfl, rfl, w1, by rw [if_neg h5], k1⟩
theorem RBytes_spec {s : Int} (hs : 0 ≤ s ∧ s < 2 ^ 64) (hx : Ev opEl w A l c xs) (hn : 200 < n) : Rt (butteryref1_BatchBytes n [bv s A l c] w) (ROe .u8 5 w (bytesB s xs)) := by
  have hxl := hx.len
  rw [butteryref1_BatchBytes_eq]
  refine Rt.fin (Rt.al fun w1 l1 k1 s1 => ?_)
  (repeat' (first|(with_reducible (first|apply Rt.fin|apply Rt.tL|apply Rt.tI|apply Rt.tB|apply Rt.tS|apply Rt.tP|apply Rt.tD|apply Rt.tM|apply Rt.tC|apply Rt.tN|apply Rt.tA|apply Rt.tG|apply Rt.tF|apply Rt.os|apply Rt.clS|apply Rt.jmN|apply Rt.jbN|apply Rt.jbE|apply Rt.ckR|exact Rt.some' rfl))|((with_reducible (first|apply Rt.ld0|apply Rt.ld1|apply Rt.ld2|apply Rt.ld3|apply Rt.ld4|apply Rt.ld5)); first|assumption|exact Lc.kp (by assumption) (by assumption))|((with_reducible apply Rt.ol); first|assumption|exact cell_kp (by assumption) (by assumption))|fail))
  refine Rt.cI (CheckOps_spec (hx.kp k1) hn) fun w2 k2 => ?_
  have k12 := k1.tr k2
  unfold bytesB
  refine Rt.cN (fun h => ?_) fun h => ?_
  · obtain ⟨c1, c2, c3⟩ := checkC_ok.1 h
    rw [if_neg (by simpa using h)]
    (repeat' (first|(with_reducible (first|apply Rt.fin|apply Rt.tL|apply Rt.tI|apply Rt.tB|apply Rt.tS|apply Rt.tP|apply Rt.tD|apply Rt.tM|apply Rt.tC|apply Rt.tN|apply Rt.tA|apply Rt.tG|apply Rt.tF|apply Rt.os|apply Rt.clS|apply Rt.jmN|apply Rt.jbN|apply Rt.jbE|apply Rt.ckR|exact Rt.some' rfl))|((with_reducible (first|apply Rt.ld0|apply Rt.ld1|apply Rt.ld2|apply Rt.ld3|apply Rt.ld4|apply Rt.ld5)); first|assumption|exact Lc.kp (by assumption) (by assumption))|((with_reducible apply Rt.ol); first|assumption|exact cell_kp (by assumption) (by assumption))|fail))
    refine Rt.cBo (Rnumbered_spec hs (by omega) (by omega)) fun b w3 hb k3 => ?_
    have k13 := k12.tr k3
    have m23 := k2.tr k3
    cases b with
    | false =>
      rw [hxl, if_neg (fun h' => by simpa using hb.2 h')]
      exact Rt.cT rfl (Rt.endE rfl (Own.nil _ _) k13)
    | true =>
      rw [hxl, if_pos (hb.1 rfl)]
      refine Rt.cF rfl ?_
      have m23' := m23.dr
      have k13' := k13.dr
      (repeat' (first|(with_reducible (first|apply Rt.fin|apply Rt.tL|apply Rt.tI|apply Rt.tB|apply Rt.tS|apply Rt.tP|apply Rt.tD|apply Rt.tM|apply Rt.tC|apply Rt.tN|apply Rt.tA|apply Rt.tG|apply Rt.tF|apply Rt.os|apply Rt.clS|apply Rt.jmN|apply Rt.jbN|apply Rt.jbE|apply Rt.ckR|exact Rt.some' rfl))|((with_reducible (first|apply Rt.ld0|apply Rt.ld1|apply Rt.ld2|apply Rt.ld3|apply Rt.ld4|apply Rt.ld5)); first|assumption|exact Lc.kp (by assumption) (by assumption))|((with_reducible apply Rt.ol); first|assumption|exact cell_kp (by assumption) (by assumption))|fail))
      refine Rt.cO (Low_spec (xs := []) (mm := 8) (nilB _) hs (by decide) (by simp) (by omega)) fun D f w4 o4 k4 => ?_
      have m24 := m23'.tr k4
      have k14 := k13'.tr k4
      (repeat' (first|(with_reducible (first|apply Rt.fin|apply Rt.tL|apply Rt.tI|apply Rt.tB|apply Rt.tS|apply Rt.tP|apply Rt.tD|apply Rt.tM|apply Rt.tC|apply Rt.tN|apply Rt.tA|apply Rt.tG|apply Rt.tF|apply Rt.os|apply Rt.clS|apply Rt.jmN|apply Rt.jbN|apply Rt.jbE|apply Rt.ckR|exact Rt.some' rfl))|((with_reducible (first|apply Rt.ld0|apply Rt.ld1|apply Rt.ld2|apply Rt.ld3|apply Rt.ld4|apply Rt.ld5)); first|assumption|exact Lc.kp (by assumption) (by assumption))|((with_reducible apply Rt.ol); first|assumption|exact cell_kp (by assumption) (by assumption))|fail))
      rw [u64_in (l : Int) (by omega)]
      have b4 := o4.bv (fun z hz => by rw [List.nil_append] at hz; exact lowB_wf _ _ z hz)
      refine Rt.cO (Low_spec (mm := 4) (v := (l : Int)) b4 (by omega) (by decide) (by simp [lowB_len]) (by omega)) fun E g w5 o5 k5 => ?_
      have m25 := m24.tr k5
      have k15 := k14.tr k5
      have hlc := l1.kp m25
      have hsz := k4.size
      have hsz1 := m23'.size
      have e0 : ([] ++ lowB 8 s ++ lowB 4 (l : Int) ++ bodyB (List.take 0 xs)) = [] ++ lowB 8 s ++ lowB 4 (l : Int) := by simp [bodyB]
      (repeat' (first|(with_reducible (first|apply Rt.fin|apply Rt.tL|apply Rt.tI|apply Rt.tB|apply Rt.tS|apply Rt.tP|apply Rt.tD|apply Rt.tM|apply Rt.tC|apply Rt.tN|apply Rt.tA|apply Rt.tG|apply Rt.tF|apply Rt.os|apply Rt.clS|apply Rt.jmN|apply Rt.jbN|apply Rt.jbE|apply Rt.ckR|exact Rt.some' rfl))|((with_reducible (first|apply Rt.ld0|apply Rt.ld1|apply Rt.ld2|apply Rt.ld3|apply Rt.ld4|apply Rt.ld5)); first|assumption|exact Lc.kp (by assumption) (by assumption))|((with_reducible apply Rt.ol); first|assumption|exact cell_kp (by assumption) (by assumption))|fail))
      have h0 := RBytes_l0 (n := n) (w0 := w) (b := w.heap.size) (base := w4.heap.size) (by omega) (by omega) hx c3 (by omega) (h0 := [] ++ lowB 8 s ++ lowB 4 l) (by simp [lowB_len]) hn l 0 n E g w5 (by omega) (by omega) k15 hlc k5.size (by rw [e0]; exact o5)
      rw [e0] at h0
      refine Rt.jb (Rt.mono h0 ?_)
      rintro ⟨ex, vs, w6⟩ ⟨h1, F, p, h2, h3, h4⟩
      dsimp only at h1 h2 h3 h4
      subst h1 h2
      refine .inl ⟨.inr rfl, ?_⟩
      (repeat' (first|(with_reducible (first|apply Rt.fin|apply Rt.tL|apply Rt.tI|apply Rt.tB|apply Rt.tS|apply Rt.tP|apply Rt.tD|apply Rt.tM|apply Rt.tC|apply Rt.tN|apply Rt.tA|apply Rt.tG|apply Rt.tF|apply Rt.os|apply Rt.clS|apply Rt.jmN|apply Rt.jbN|apply Rt.jbE|apply Rt.ckR|exact Rt.some' rfl))|((with_reducible (first|apply Rt.ld0|apply Rt.ld1|apply Rt.ld2|apply Rt.ld3|apply Rt.ld4|apply Rt.ld5)); first|assumption|exact Lc.kp (by assumption) (by assumption))|((with_reducible apply Rt.ol); first|assumption|exact cell_kp (by assumption) (by assumption))|fail))
      exact Rt.endE (by rw [encB, hxl]; rfl) (h3.mono (by omega)) h4
  · rw [if_pos h]
    exact Rt.endE rfl (Own.nil _ _) k12
end
end Go.Proofs.YtdcdgmiojlldaaaDoor.Ba
/- Batches: how they are read. -/
namespace Go.Proofs.YtdcdgmiojlldaaaDoor.Ba
open Go Big Go.RowKit Go.IntWalk Var Low Par
set_option linter.unusedVariables false
set_option linter.unusedSimpArgs false
instance : Inhabited OpD := ⟨⟨0, [], []⟩⟩
def fieldP (least most : Int) : Pa (List Int) := bindP numP fun n => if n < least ∨ n > most then failP 2 else takeP n.toNat
def opP : Pa OpD := bindP (takeP 1) fun b => if b.getD 0 0 > 1 then failP 2 else bindP (fieldP 1 256) fun key => if b.getD 0 0 = 1 then bindP (fieldP 0 4096) fun v => retP ⟨1, key, v⟩ else retP ⟨b.getD 0 0, key, []⟩
def opsP : Nat → Pa (List OpD)
  | 0 => retP []
  | n + 1 => bindP opP fun o => bindP (opsP n) fun l => retP (o :: l)
open Classical in
noncomputable def batchP : Pa (Int × List OpD) := bindP (takeP 8) fun a => bindP (takeP 4) fun b => if le b < 1 ∨ le b > 100 ∨ ¬numC (le a) (le b).toNat then failP 2 else bindP (opsP (le b).toNat) fun l => retP (le a, l)
abbrev Rd (w : World) (p : Nat) (A : Option Addr) (l c : Nat) (i : Nat) (e : Int) : Prop := Lc w p [.slice A l c, .int .i64 (i : Int), .int .i64 e]
section
variable {α : Type} {Q : α → Prop} {n : Nat} {w w0 : World} {A B C : Option Addr} {l c m d p i : Nat} {k e : Int} {x : OpD} {xs ys : List OpD} {bs zs : List Int}
theorem take_spec (hr : Rd w p A l c i e) (hb : Bv .u8 w0 A l c zs) (hi : i ≤ l) (hm : m ≤ 2 ^ 40) (hl : l ≤ 2 ^ 40) : Rt (batch_reader_take n [.pointer (some ⟨p, 0, none⟩), .int .i64 (m : Int)] w) fun r => ∃ B m' c' w' i' e', r = ([.slice B m' c'], w') ∧ Rd w' p A l c i' e' ∧ i' ≤ l ∧ Gx (fun k => k = p) w w' ∧ Bv .u8 w0 B m' c' (if e = 0 then (takeP m zs i).2.1 else []) ∧
    (e ≠ 0 → e' = e) ∧ (e = 0 → e' = (takeP m zs i).1 ∧ (e' = 0 → i' = (takeP m zs i).2.2)) := by
  have hzl := hb.len
  rw [batch_reader_take_eq]
  refine Rt.fin (Rt.jm (Rt.mono (Q' := fun r => r.ex = .norm ∧ r.vals = [.pointer (some ⟨p, 0, none⟩), .int .i64 (m : Int)] ∧ Gx (fun k => k = p) w r.w ∧ Rd r.w p A l c i (if e = 0 ∧ l < i + m then 4 else e)) ?_ ?_))
  · (repeat' (first|(with_reducible (first|apply Rt.fin|apply Rt.tL|apply Rt.tI|apply Rt.tB|apply Rt.tS|apply Rt.tP|apply Rt.tD|apply Rt.tM|apply Rt.tC|apply Rt.tN|apply Rt.tA|apply Rt.tG|apply Rt.tF|apply Rt.os|apply Rt.clS|apply Rt.jmN|apply Rt.jbN|apply Rt.jbE|apply Rt.ckR|exact Rt.some' rfl))|((with_reducible (first|apply Rt.ld0|apply Rt.ld1|apply Rt.ld2|apply Rt.ld3|apply Rt.ld4|apply Rt.ld5)); first|assumption|exact Lc.kp (by assumption) (by assumption))|((with_reducible apply Rt.ol); first|assumption|exact cell_kp (by assumption) (by assumption))|fail))
    refine Rt.cQ (fun he => ?_) fun he => ?_
    · (repeat' (first|(with_reducible (first|apply Rt.fin|apply Rt.tL|apply Rt.tI|apply Rt.tB|apply Rt.tS|apply Rt.tP|apply Rt.tD|apply Rt.tM|apply Rt.tC|apply Rt.tN|apply Rt.tA|apply Rt.tG|apply Rt.tF|apply Rt.os|apply Rt.clS|apply Rt.jmN|apply Rt.jbN|apply Rt.jbE|apply Rt.ckR|exact Rt.some' rfl))|((with_reducible (first|apply Rt.ld0|apply Rt.ld1|apply Rt.ld2|apply Rt.ld3|apply Rt.ld4|apply Rt.ld5)); first|assumption|exact Lc.kp (by assumption) (by assumption))|((with_reducible apply Rt.ol); first|assumption|exact cell_kp (by assumption) (by assumption))|fail))
      rw [i64_in _ (by omega)]
      refine Rt.cD (fun h => ?_) fun h => ?_
      · (repeat' (first|(with_reducible (first|apply Rt.fin|apply Rt.tL|apply Rt.tI|apply Rt.tB|apply Rt.tS|apply Rt.tP|apply Rt.tD|apply Rt.tM|apply Rt.tC|apply Rt.tN|apply Rt.tA|apply Rt.tG|apply Rt.tF|apply Rt.os|apply Rt.clS|apply Rt.jmN|apply Rt.jbN|apply Rt.jbE|apply Rt.ckR|exact Rt.some' rfl))|((with_reducible (first|apply Rt.ld0|apply Rt.ld1|apply Rt.ld2|apply Rt.ld3|apply Rt.ld4|apply Rt.ld5)); first|assumption|exact Lc.kp (by assumption) (by assumption))|((with_reducible apply Rt.ol); first|assumption|exact cell_kp (by assumption) (by assumption))|fail))
        refine Rt.st2 (w := w.drew) hr fun w1 l1 g1 => Rt.some' ⟨rfl, rfl, (Gx.rfl' _ w).dr.tr g1, ?_⟩
        rw [if_pos ⟨he, by omega⟩]; exact l1
      · exact Rt.some' ⟨rfl, rfl, (Gx.rfl' _ w).dr, by rw [if_neg (by omega)]; exact hr⟩
    · exact Rt.some' ⟨rfl, rfl, (Gx.rfl' _ w).dr, by rw [if_neg (by omega)]; exact hr⟩
  · rintro ⟨ex, vs, w1⟩ ⟨h1, h2, h3, h4⟩
    dsimp only at h1 h2 h3 h4
    subst h1 h2
    refine ⟨rfl, ?_⟩
    dsimp only
    generalize he' : (if e = 0 ∧ l < i + m then 4 else e) = e' at h4
    (repeat' (first|(with_reducible (first|apply Rt.fin|apply Rt.tL|apply Rt.tI|apply Rt.tB|apply Rt.tS|apply Rt.tP|apply Rt.tD|apply Rt.tM|apply Rt.tC|apply Rt.tN|apply Rt.tA|apply Rt.tG|apply Rt.tF|apply Rt.os|apply Rt.clS|apply Rt.jmN|apply Rt.jbN|apply Rt.jbE|apply Rt.ckR|exact Rt.some' rfl))|((with_reducible (first|apply Rt.ld0|apply Rt.ld1|apply Rt.ld2|apply Rt.ld3|apply Rt.ld4|apply Rt.ld5)); first|assumption|exact Lc.kp (by assumption) (by assumption))|((with_reducible apply Rt.ol); first|assumption|exact cell_kp (by assumption) (by assumption))|fail))
    refine Rt.cN (fun h0 => ?_) fun h0 => ?_
    · have he : e = 0 := by
        by_cases h : e = 0 ∧ l < i + m
        · rw [if_pos h] at he'; omega
        · rw [if_neg h] at he'; omega
      have hlt : ¬ l < i + m := fun h => by rw [if_pos ⟨he, h⟩] at he'; omega
      subst he
      (repeat' (first|(with_reducible (first|apply Rt.fin|apply Rt.tL|apply Rt.tI|apply Rt.tB|apply Rt.tS|apply Rt.tP|apply Rt.tD|apply Rt.tM|apply Rt.tC|apply Rt.tN|apply Rt.tA|apply Rt.tG|apply Rt.tF|apply Rt.os|apply Rt.clS|apply Rt.jmN|apply Rt.jbN|apply Rt.jbE|apply Rt.ckR|exact Rt.some' rfl))|((with_reducible (first|apply Rt.ld0|apply Rt.ld1|apply Rt.ld2|apply Rt.ld3|apply Rt.ld4|apply Rt.ld5)); first|assumption|exact Lc.kp (by assumption) (by assumption))|((with_reducible apply Rt.ol); first|assumption|exact cell_kp (by assumption) (by assumption))|fail))
      rw [i64_in _ (by omega)]
      refine Rt.st1 h4 fun w2 l2 g2 => ?_
      have l2' : Lc w2.drew p [.slice A l c, .int .i64 ((i : Int) + m), .int .i64 e'] := l2
      (repeat' (first|(with_reducible (first|apply Rt.fin|apply Rt.tL|apply Rt.tI|apply Rt.tB|apply Rt.tS|apply Rt.tP|apply Rt.tD|apply Rt.tM|apply Rt.tC|apply Rt.tN|apply Rt.tA|apply Rt.tG|apply Rt.tF|apply Rt.os|apply Rt.clS|apply Rt.jmN|apply Rt.jbN|apply Rt.jbE|apply Rt.ckR|exact Rt.some' rfl))|((with_reducible (first|apply Rt.ld0|apply Rt.ld1|apply Rt.ld2|apply Rt.ld3|apply Rt.ld4|apply Rt.ld5)); first|assumption|exact Lc.kp (by assumption) (by assumption))|((with_reducible apply Rt.ol); first|assumption|exact cell_kp (by assumption) (by assumption))|fail))
      rw [i64_in ((i : Int) + m - m) (by omega)]
      refine Rt.cut hb (by omega) (by omega) (by omega) fun B hB => ?_
      have e1 : ((i : Int) + m).toNat - ((i : Int) + m - m).toNat = m := by omega
      have e2 : (zs.take ((i : Int) + m).toNat).drop ((i : Int) + m - m).toNat = slc zs i m := by
        rw [show ((i : Int) + m).toNat = i + m by omega, show ((i : Int) + m - m).toNat = i by omega, List.drop_take]; simp [slc]
      have et : takeP m zs i = (0, slc zs i m, i + m) := by unfold takeP; rw [if_neg (by omega)]
      rw [e1, e2] at hB
      rw [e1]
      refine Rt.some' ⟨rfl, B, m, _, _, i + m, e', rfl, ?_, by omega, (h3.tr g2).dr, by rw [if_pos rfl, et]; exact hB, fun h => absurd rfl h, fun _ => ?_⟩
      · have : Rd w2.drew p A l c (i + m) e' := by
          show Lc w2.drew p [.slice A l c, .int .i64 ((i + m : Nat) : Int), .int .i64 e']
          rw [show ((i + m : Nat) : Int) = (i : Int) + m by omega]; exact l2'
        exact this
      · rw [et]; exact ⟨h0, fun _ => rfl⟩
    · refine Rt.some' ⟨rfl, none, 0, 0, w1, i, e', rfl, h4, hi, h3, ?_, ?_, ?_⟩
      · by_cases h : e = 0
        · subst h
          have hlt : l < i + m := by
            by_cases h : l < i + m
            · exact h
            · rw [if_neg (by omega)] at he'; omega
          rw [if_pos rfl]
          unfold takeP
          rw [if_pos (by omega)]; exact nilB _
        · rw [if_neg h]; exact nilB _
      · intro h; rw [if_neg (by omega)] at he'; exact he'.symm
      · intro h
        subst h
        by_cases h : l < i + m
        · rw [if_pos ⟨rfl, h⟩] at he'
          unfold takeP
          rw [if_pos (by omega)]
          exact ⟨he'.symm, fun h => by omega⟩
        · rw [if_neg (by omega)] at he'; omega
theorem le_snoc : ∀ {zs : List Int} {i : Nat}, i < zs.length → le (zs.take (i + 1)) = le (zs.take i) + zs.getD i 0 * 256 ^ i
  | [], i, h => by simp at h
  | z :: zs, 0, h => by simp [le]
  | z :: zs, i + 1, h => by
    rw [List.take_succ_cons, List.take_succ_cons, le, le, le_snoc (by simpa using h), Int.pow_succ]
    simp only [List.getD_cons_succ]
    rw [Int.mul_add, Int.add_assoc, ← Int.mul_assoc, ← Int.mul_assoc, Int.mul_comm 256, Int.mul_assoc, Int.mul_assoc, Int.mul_comm 256, Int.mul_assoc]
theorem number_l0 (hb : Bv .u8 w B m d bs) (hm : m ≤ 8) : ∀ (q i j : Nat), i + q = m → q < j → Rt (batch_reader_number.l0 n j (le (bs.take i)) B m d (m : Int) (i : Int) w) fun r => r = ⟨.exit 0, [.int .u64 (le bs)], w⟩ := by
  have hl := hb.len
  intro q
  induction q with
  | zero =>
    intro i j hi hj
    obtain ⟨j, rfl⟩ : ∃ j', j = j' + 1 := ⟨j - 1, by omega⟩
    rw [batch_reader_number.l0_succ]
    exact Rt.cDF (by omega) (Rt.some' (by rw [List.take_of_length_le (by omega)]))
  | succ q ih =>
    intro i j hi hj
    obtain ⟨j, rfl⟩ : ∃ j', j = j' + 1 := ⟨j - 1, by omega⟩
    rw [batch_reader_number.l0_succ]
    refine Rt.cDT (by omega) (Rt.ix hb.sl (by omega) (by omega) ?_)
    rw [i64_in (8 * (i : Int)) (by omega), Int.toNat_natCast]
    refine Rt.iF (by omega) ?_
    have hx := byte_at hb.rng (i := i) (by omega)
    have hle := le_nonneg (xs := bs.take i) fun z hz => hb.rng z (List.mem_of_mem_take hz)
    have hli : (bs.take i).length = i := by simp; omega
    rw [hli] at hle
    have e1 : min (Int.toNat (8 * (i : Int))) 64 = 8 * i := by omega
    have e2 : (2 : Int) ^ (8 * i) = 256 ^ i := by rw [Int.pow_mul]; rfl
    have hp : ∀ a : Nat, a < 8 → (256 : Int) ^ a * 256 ≤ 2 ^ 64 := by decide
    have hp := hp i (by omega)
    have hp0 : (0 : Int) < 256 ^ i := Int.pow_pos (by decide)
    have hm1 : bs.getD i 0 * 256 ^ i ≤ 255 * 256 ^ i := Int.mul_le_mul_of_nonneg_right (by omega) (by omega)
    have hm0 : 0 ≤ bs.getD i 0 * 256 ^ i := Int.mul_nonneg hx.1 (by omega)
    have ho := (orI (x := le (bs.take i)) (y := bs.getD i 0) (8 * i) hle.1 (by rw [e2]; exact hle.2) hx.1 (by rw [e2]; omega)).1
    rw [e2] at ho
    rw [e1, e2, u64_in (bs.getD i 0) (by omega), u64_in (bs.getD i 0 * 256 ^ i) (by omega), ho, ← le_snoc (by omega), i64_in _ (by omega), show ((i : Int) + 1) = ((i + 1 : Nat) : Int) by omega]
    exact ih (i + 1) j (by omega) (by omega)
theorem number_spec (hr : Rd w p A l c i e) (hk : Gx (fun k => k = p) w0 w) (hp : w0.heap.size ≤ p) (hb : Bv .u8 w0 A l c zs) (hi : i ≤ l) (hm : m ≤ 8) (hl : l ≤ 2 ^ 38) (hn : 20 < n) : Rt (batch_reader_number n [.pointer (some ⟨p, 0, none⟩), .int .i64 (m : Int)] w) fun r => ∃ w' i' e', r = ([.int .u64 (le (if e = 0 then (takeP m zs i).2.1 else []))], w') ∧ Rd w' p A l c i' e' ∧ i' ≤ l ∧ Gx (fun k => k = p) w w' ∧
    (e ≠ 0 → e' = e) ∧ (e = 0 → e' = (takeP m zs i).1 ∧ (e' = 0 → i' = (takeP m zs i).2.2)) := by
  rw [batch_reader_number_eq]
  refine Rt.fin (Rt.call (take_spec hr hb hi (by omega) (by omega)) ?_)
  rintro vs w1 ⟨B, m', c', w1', i', e', hr1, h1, h2, h3, h4, h5, h6⟩
  cases hr1
  have hb1 := h4.kp ((hk.tr h3).kp fun j hj => by omega)
  have hml : m' ≤ 8 := by
    have := hb1.len
    by_cases he : e = 0
    · rw [if_pos he] at this
      unfold takeP at this
      split at this <;> simp [slc] at this <;> omega
    · rw [if_neg he] at this; simp at this; omega
  (repeat' (first|(with_reducible (first|apply Rt.fin|apply Rt.tL|apply Rt.tI|apply Rt.tB|apply Rt.tS|apply Rt.tP|apply Rt.tD|apply Rt.tM|apply Rt.tC|apply Rt.tN|apply Rt.tA|apply Rt.tG|apply Rt.tF|apply Rt.os|apply Rt.clS|apply Rt.jmN|apply Rt.jbN|apply Rt.jbE|apply Rt.ckR|exact Rt.some' rfl))|((with_reducible (first|apply Rt.ld0|apply Rt.ld1|apply Rt.ld2|apply Rt.ld3|apply Rt.ld4|apply Rt.ld5)); first|assumption|exact Lc.kp (by assumption) (by assumption))|((with_reducible apply Rt.ol); first|assumption|exact cell_kp (by assumption) (by assumption))|fail))
  obtain ⟨_, e0, rfl⟩ := number_l0 (n := n) hb1 hml m' 0 n (by omega) (by omega)
  have e0' : batch_reader_number.l0 n n 0 B m' c' (m' : Int) 0 w1 = _ := e0
  rw [e0']
  (repeat' (first|(with_reducible (first|apply Rt.fin|apply Rt.tL|apply Rt.tI|apply Rt.tB|apply Rt.tS|apply Rt.tP|apply Rt.tD|apply Rt.tM|apply Rt.tC|apply Rt.tN|apply Rt.tA|apply Rt.tG|apply Rt.tF|apply Rt.os|apply Rt.clS|apply Rt.jmN|apply Rt.jbN|apply Rt.jbE|apply Rt.ckR|exact Rt.some' rfl))|((with_reducible (first|apply Rt.ld0|apply Rt.ld1|apply Rt.ld2|apply Rt.ld3|apply Rt.ld4|apply Rt.ld5)); first|assumption|exact Lc.kp (by assumption) (by assumption))|((with_reducible apply Rt.ol); first|assumption|exact cell_kp (by assumption) (by assumption))|fail))
  exact Rt.some' ⟨rfl, w1, i', e', rfl, h1, h2, h3, h5, h6⟩
end
end Go.Proofs.YtdcdgmiojlldaaaDoor.Ba
/- Batches: a text, an operation, a batch is read. -/
namespace Go.Proofs.YtdcdgmiojlldaaaDoor.Ba
open Go Big Go.RowKit Go.IntWalk Var Low Par
set_option linter.unusedVariables false
set_option linter.unusedSimpArgs false
section
variable {α : Type} {Q : α → Prop} {n : Nat} {w w0 : World} {A B C : Option Addr} {l c m d p i : Nat} {k e : Int} {x : OpD} {xs ys : List OpD} {bs zs : List Int}
theorem bnil : Bytes [] := fun z hz => by cases hz
theorem getR_err (hb : ∀ z ∈ zs, (Lit.int .u8 z).wf = true) (hi : i ≤ zs.length) : 0 ≤ (getR zs (i : Int)).1 ∧ (getR zs (i : Int)).1 < 2 ^ 64 := by
  by_cases h : (getR zs (i : Int)).2.2 = 0
  · obtain ⟨y, h1, h2, _⟩ := getR_can (u8b hb) h
    rw [h2]; simp only; omega
  · have : ∀ (cs : List Int) (j : Nat) (acc : Int), (gv (i : Int) j acc cs).2.2 ≠ 0 → (gv (i : Int) j acc cs).1 = 0 := by
      intro cs
      induction cs with
      | nil => intro j acc _; rfl
      | cons z cs ih =>
        intro j acc h
        simp only [gv] at h ⊢
        split
        · rfl
        · rename_i hb; rw [if_neg hb] at h
          split
          · rename_i h8; rw [if_pos h8] at h; simp at h
          · rename_i h8; rw [if_neg h8] at h; exact ih _ _ h
    have e : getR zs (i : Int) = gv (i : Int) 0 0 (zs.drop i) := by unfold getR; rw [if_neg (by omega), if_neg (by omega), Int.toNat_natCast]
    rw [e] at h ⊢
    rw [this _ _ _ h]; omega
theorem text_spec (hr : Rd w p A l c i e) (hk : Gx (fun k => k = p) w0 w) (hp : w0.heap.size ≤ p) (hb : Bv .u8 w0 A l c zs) (hi : i ≤ l) (hl : l ≤ 2 ^ 38) (hn : 2 ^ 59 < n) {a b : Int} (ha : 0 ≤ a) (hb' : b ≤ 2 ^ 37) :
    Rt (batch_reader_text n [.pointer (some ⟨p, 0, none⟩), .int .u64 a, .int .u64 b] w) fun r => ∃ B d w' i' e' out, r = ([.slice B (List.length out) d], w') ∧ Rd w' p A l c i' e' ∧ i' ≤ l ∧ Gx (fun k => k = p) w w' ∧ Own .u8 5 w' w.heap.size (.slice B out.length d) out ∧ Bytes out ∧
      (e ≠ 0 → e' = e) ∧ (e = 0 → e' = (fieldP a b zs i).1 ∧ (e' = 0 → i' = (fieldP a b zs i).2.2 ∧ out = (fieldP a b zs i).2.1)) := by
  have hzl := hb.len
  have hpl := hr.lt
  rw [batch_reader_text_eq]
  refine Rt.fin ?_
  (repeat' (first|(with_reducible (first|apply Rt.fin|apply Rt.tL|apply Rt.tI|apply Rt.tB|apply Rt.tS|apply Rt.tP|apply Rt.tD|apply Rt.tM|apply Rt.tC|apply Rt.tN|apply Rt.tA|apply Rt.tG|apply Rt.tF|apply Rt.os|apply Rt.clS|apply Rt.jmN|apply Rt.jbN|apply Rt.jbE|apply Rt.ckR|exact Rt.some' rfl))|((with_reducible (first|apply Rt.ld0|apply Rt.ld1|apply Rt.ld2|apply Rt.ld3|apply Rt.ld4|apply Rt.ld5)); first|assumption|exact Lc.kp (by assumption) (by assumption))|((with_reducible apply Rt.ol); first|assumption|exact cell_kp (by assumption) (by assumption))|fail))
  refine Rt.cN (fun he => ?_) fun he => ?_
  · subst he
    have d1 : Gx (fun k => k = p) w w.drew := (Gx.rfl' _ w).dr
    (repeat' (first|(with_reducible (first|apply Rt.fin|apply Rt.tL|apply Rt.tI|apply Rt.tB|apply Rt.tS|apply Rt.tP|apply Rt.tD|apply Rt.tM|apply Rt.tC|apply Rt.tN|apply Rt.tA|apply Rt.tG|apply Rt.tF|apply Rt.os|apply Rt.clS|apply Rt.jmN|apply Rt.jbN|apply Rt.jbE|apply Rt.ckR|exact Rt.some' rfl))|((with_reducible (first|apply Rt.ld0|apply Rt.ld1|apply Rt.ld2|apply Rt.ld3|apply Rt.ld4|apply Rt.ld5)); first|assumption|exact Lc.kp (by assumption) (by assumption))|((with_reducible apply Rt.ol); first|assumption|exact cell_kp (by assumption) (by assumption))|fail))
    have hbd : Bv .u8 w.drew A l c zs := hb.kp ((hk.tr d1).kp fun j hj => by omega)
    rw [GetS hbd (by omega) hn, clG]
    have hg0 := getR_err (i := i) hb.rng (by omega)
    have hnum : numP zs i = ((getR zs (i : Int)).2.2, (getR zs (i : Int)).1, (getR zs (i : Int)).2.1.toNat) := rfl
    have hin : (getR zs (i : Int)).2.2 = 0 → i ≤ (getR zs (i : Int)).2.1.toNat ∧ (getR zs (i : Int)).2.1.toNat ≤ l ∧ 0 ≤ (getR zs (i : Int)).2.1 := by
      intro h
      obtain ⟨y, h1, h2, h3, _⟩ := getR_can (u8b hb.rng) h
      rw [h2]; simp only; omega
    generalize hg : getR zs (i : Int) = g at hg0 hnum hin ⊢
    obtain ⟨gn, gt, ge⟩ := g
    simp only at hg0 hnum hin ⊢
    refine Rt.jm (Rt.mono (Q' := fun r => r = ⟨.norm, [.pointer (some ⟨p, 0, none⟩), .int .u64 gn, .int .i64 gt, .int .i64 (if ge = 0 ∧ (gn < a ∨ gn > b) then 2 else ge)], w.drew⟩) ?_ ?_)
    · refine Rt.cQ (fun h0 => Rt.cD (fun h1 => Rt.some' ?_) fun h1 => Rt.cD (fun h2 => Rt.some' ?_) fun h2 => Rt.some' ?_) fun h0 => Rt.some' ?_
      · rw [if_pos ⟨h0, .inl h1⟩]
      · rw [if_pos ⟨h0, .inr h2⟩]
      · rw [if_neg (by omega)]
      · rw [if_neg (by omega)]
    · rintro _ rfl
      refine ⟨rfl, ?_⟩
      dsimp only
      generalize he2 : (if ge = 0 ∧ (gn < a ∨ gn > b) then 2 else ge) = e2
      (repeat' (first|(with_reducible (first|apply Rt.fin|apply Rt.tL|apply Rt.tI|apply Rt.tB|apply Rt.tS|apply Rt.tP|apply Rt.tD|apply Rt.tM|apply Rt.tC|apply Rt.tN|apply Rt.tA|apply Rt.tG|apply Rt.tF|apply Rt.os|apply Rt.clS|apply Rt.jmN|apply Rt.jbN|apply Rt.jbE|apply Rt.ckR|exact Rt.some' rfl))|((with_reducible (first|apply Rt.ld0|apply Rt.ld1|apply Rt.ld2|apply Rt.ld3|apply Rt.ld4|apply Rt.ld5)); first|assumption|exact Lc.kp (by assumption) (by assumption))|((with_reducible apply Rt.ol); first|assumption|exact cell_kp (by assumption) (by assumption))|fail))
      have hf : (fieldP a b zs i).1 = e2 ∨ (e2 = 0 ∧ ge = 0 ∧ ¬(gn < a ∨ gn > b)) := by
        unfold fieldP bindP
        rw [hnum]
        simp only
        by_cases h0 : ge = 0
        · rw [if_pos h0]
          by_cases h1 : gn < a ∨ gn > b
          · rw [if_pos ⟨h0, h1⟩] at he2
            left; rw [if_pos h1]; exact he2
          · rw [if_neg (fun h => h1 h.2)] at he2
            right; exact ⟨by omega, h0, h1⟩
        · rw [if_neg (fun h => h0 h.1)] at he2
          left; rw [if_neg h0]; exact he2
      refine Rt.cN (fun h0 => ?_) fun h0 => ?_
      · -- it goes on
        have hge : ge = 0 ∧ ¬(gn < a ∨ gn > b) := by
          by_cases h : ge = 0 ∧ (gn < a ∨ gn > b)
          · rw [if_pos h] at he2; omega
          · rw [if_neg h] at he2; exact ⟨by omega, fun h' => h ⟨by omega, h'⟩⟩
        obtain ⟨hi1, hi2, hi3⟩ := hin hge.1
        (repeat' (first|(with_reducible (first|apply Rt.fin|apply Rt.tL|apply Rt.tI|apply Rt.tB|apply Rt.tS|apply Rt.tP|apply Rt.tD|apply Rt.tM|apply Rt.tC|apply Rt.tN|apply Rt.tA|apply Rt.tG|apply Rt.tF|apply Rt.os|apply Rt.clS|apply Rt.jmN|apply Rt.jbN|apply Rt.jbE|apply Rt.ckR|exact Rt.some' rfl))|((with_reducible (first|apply Rt.ld0|apply Rt.ld1|apply Rt.ld2|apply Rt.ld3|apply Rt.ld4|apply Rt.ld5)); first|assumption|exact Lc.kp (by assumption) (by assumption))|((with_reducible apply Rt.ol); first|assumption|exact cell_kp (by assumption) (by assumption))|fail))
        refine Rt.st1 (w := w.drew) hr fun w2 l2 g2 => ?_
        rw [i64_in gn (by omega)]
        have l2' : Rd w2 p A l c gt.toNat 0 := by
          show Lc w2 p [.slice A l c, .int .i64 ((gt.toNat : Nat) : Int), .int .i64 0]
          rw [show ((gt.toNat : Nat) : Int) = gt by omega]; exact l2
        have ht := take_spec (n := n) (m := gn.toNat) l2' hb hi2 (by omega) (by omega)
        rw [show ((gn.toNat : Nat) : Int) = gn by omega] at ht
        refine Rt.call ht ?_
        rintro vs w3 ⟨B, m', c', w3', i', e', hr1, h1, h2, h3, h4, _, h6⟩
        cases hr1
        obtain ⟨h6, h7⟩ := h6 rfl
        rw [if_pos rfl] at h4
        have hG := (d1.tr g2).tr h3
        have h4' := h4.kp ((hk.tr hG).kp fun j hj => by omega)
        have hm' : m' ≤ 2 ^ 38 := by
          have := h4.len
          unfold takeP at this
          split at this <;> simp [slc] at this <;> omega
        (repeat' (first|(with_reducible (first|apply Rt.fin|apply Rt.tL|apply Rt.tI|apply Rt.tB|apply Rt.tS|apply Rt.tP|apply Rt.tD|apply Rt.tM|apply Rt.tC|apply Rt.tN|apply Rt.tA|apply Rt.tG|apply Rt.tF|apply Rt.os|apply Rt.clS|apply Rt.jmN|apply Rt.jbN|apply Rt.jbE|apply Rt.ckR|exact Rt.some' rfl))|((with_reducible (first|apply Rt.ld0|apply Rt.ld1|apply Rt.ld2|apply Rt.ld3|apply Rt.ld4|apply Rt.ld5)); first|assumption|exact Lc.kp (by assumption) (by assumption))|((with_reducible apply Rt.ol); first|assumption|exact cell_kp (by assumption) (by assumption))|fail))
        refine Rt.cO (Clone_spec h4' hm') fun D f w4 o4 k4 => ?_
        have hlm := h4.len
        have hfp : fieldP a b zs i = takeP gn.toNat zs gt.toNat := by
          unfold fieldP bindP
          rw [hnum]
          simp only
          rw [if_pos hge.1, if_neg hge.2]
        exact Rt.some' ⟨rfl, D, f, w4, i', e', _, rfl, h1.kp k4, h2, hG.tr k4.gx, o4.mono hG.size, h4.rng, fun h => absurd rfl h, fun _ => by rw [hfp]; exact ⟨h6, fun h => ⟨h7 h, rfl⟩⟩⟩
      · have hf1 : (fieldP a b zs i).1 = e2 := hf.resolve_right (fun h => h0 h.1)
        (repeat' (first|(with_reducible (first|apply Rt.fin|apply Rt.tL|apply Rt.tI|apply Rt.tB|apply Rt.tS|apply Rt.tP|apply Rt.tD|apply Rt.tM|apply Rt.tC|apply Rt.tN|apply Rt.tA|apply Rt.tG|apply Rt.tF|apply Rt.os|apply Rt.clS|apply Rt.jmN|apply Rt.jbN|apply Rt.jbE|apply Rt.ckR|exact Rt.some' rfl))|((with_reducible (first|apply Rt.ld0|apply Rt.ld1|apply Rt.ld2|apply Rt.ld3|apply Rt.ld4|apply Rt.ld5)); first|assumption|exact Lc.kp (by assumption) (by assumption))|((with_reducible apply Rt.ol); first|assumption|exact cell_kp (by assumption) (by assumption))|fail))
        refine Rt.st2 (w := w.drew) hr fun w2 l2 g2 => ?_
        exact Rt.some' ⟨rfl, none, 0, w2, i, e2, [], rfl, l2, hi, d1.tr g2, Own.nil _ _, bnil, fun h => absurd rfl h, fun _ => ⟨hf1.symm, fun h => absurd h h0⟩⟩
  · exact Rt.some' ⟨rfl, none, 0, w, i, e, [], rfl, hr, hi, Gx.rfl' _ w, Own.nil _ _, bnil, fun _ => rfl, fun h => absurd h he⟩
theorem slc1 {zs : List Int} {i : Nat} (h : i < zs.length) : slc zs i 1 = [zs.getD i 0] := by
  unfold slc
  rw [List.drop_eq_getElem_cons h, List.take_succ_cons, List.take_zero]
  simp [List.getD_eq_getElem?_getD, h]
theorem op_spec (hr : Rd w p A l c i 0) (hk : Gx (fun k => k = p) w0 w) (hp : w0.heap.size ≤ p) (hb : Bv .u8 w0 A l c zs) (hi : i ≤ l) (hl : l ≤ 2 ^ 38) (hn : 2 ^ 59 < n) :
    Rt (batch_reader_op n [.pointer (some ⟨p, 0, none⟩)] w) fun r => ∃ k B d C f w' i' e' x, r = ([ov k B (OpD.key x).length d C (OpD.val x).length f], w') ∧ Rd w' p A l c i' e' ∧ i' ≤ l ∧ Gx (fun k => k = p) w w' ∧ k = x.kind ∧ (Lit.int .i64 k).wf = true ∧
      Own .u8 5 w' w.heap.size (.slice B x.key.length d) x.key ∧ Own .u8 5 w' w.heap.size (.slice C x.val.length f) x.val ∧ Bytes x.key ∧ Bytes x.val ∧ e' = (opP zs i).1 ∧ (e' = 0 → i' = (opP zs i).2.2 ∧ x = (opP zs i).2.1) := by
  have hzl := hb.len
  have hpl := hr.lt
  rw [batch_reader_op_eq]
  refine Rt.fin (Rt.al fun w1 l1 k1 s1 => Rt.al fun w2 l2 k2 s2 => ?_)
  have l1 := l1.kp k2
  have k12 := k1.tr k2
  have hr2 : Rd w2 p A l c i 0 := Lc.kp hr k12
  -- the kind
  refine Rt.jm (Rt.mono (Q' := fun r => ∃ i1 e1 k1, r.ex = .norm ∧ r.vals = [.pointer (some ⟨p, 0, none⟩), .pointer (some ⟨w.heap.size, 0, none⟩), .pointer (some ⟨w1.heap.size, 0, none⟩)] ∧ Rd r.w p A l c i1 e1 ∧ i1 ≤ l ∧
      Lc r.w w.heap.size [.int .i64 0, .slice none 0 0, .slice none 0 0] ∧ Lc r.w w1.heap.size [.int .i64 k1, .slice none 0 0, .slice none 0 0] ∧ Gx (fun k => k = p) w r.w ∧ (0 ≤ k1 ∧ k1 < 256) ∧
      e1 = (takeP 1 zs i).1 ∧ (e1 = 0 → i1 = (takeP 1 zs i).2.2 ∧ k1 = (takeP 1 zs i).2.1.getD 0 0)) ?_ ?_)
  · have ht := take_spec (n := n) (m := 1) hr2 hb hi (by decide) (by omega)
    refine Rt.call ht ?_
    rintro vs w3 ⟨B, m', c', w3', i1, e1, hr1, h1, h2, h3, h4, _, h6⟩
    cases hr1
    obtain ⟨h6, h7⟩ := h6 rfl
    rw [if_pos rfl] at h4
    have hG : Gx (fun k => k = p) w w3 := (k12.gx).tr h3
    have l1 := l1.gx h3 (by omega)
    have l2 := l2.gx h3 (by omega)
    (repeat' (first|(with_reducible (first|apply Rt.fin|apply Rt.tL|apply Rt.tI|apply Rt.tB|apply Rt.tS|apply Rt.tP|apply Rt.tD|apply Rt.tM|apply Rt.tC|apply Rt.tN|apply Rt.tA|apply Rt.tG|apply Rt.tF|apply Rt.os|apply Rt.clS|apply Rt.jmN|apply Rt.jbN|apply Rt.jbE|apply Rt.ckR|exact Rt.some' rfl))|((with_reducible (first|apply Rt.ld0|apply Rt.ld1|apply Rt.ld2|apply Rt.ld3|apply Rt.ld4|apply Rt.ld5)); first|assumption|exact Lc.kp (by assumption) (by assumption))|((with_reducible apply Rt.ol); first|assumption|exact cell_kp (by assumption) (by assumption))|fail))
    refine Rt.cQ (fun h0 => ?_) fun h0 => ?_
    · have hlt : i < zs.length := by
        by_cases h : zs.length < i + 1
        · unfold takeP at h6; rw [if_pos h] at h6; omega
        · omega
      have et : takeP 1 zs i = (0, slc zs i 1, i + 1) := by unfold takeP; rw [if_neg (by omega)]
      rw [et, slc1 hlt] at h4
      have hml : m' = 1 := h4.len.symm
      subst hml
      have h4' := h4.kp ((hk.tr hG).kp fun j hj => by omega)
      refine Rt.ix h4'.sl (by decide) (by decide) ?_
      have hbz := byte_at hb.rng hlt
      have ez : ([zs.getD i 0].getD (Int.toNat 0) 0) = zs.getD i 0 := rfl
      rw [ez, i64_in _ (by omega)]
      refine Rt.st0 l2 fun w4 l4 g4 => ?_
      have hG4 : Gx (fun k => k = p) w w4 := hG.tr' g4 fun j hj e => by omega
      refine Rt.some' ⟨i1, e1, zs.getD i 0, rfl, rfl, h1.gx g4 (by omega), h2, l1.gx g4 (by omega), l4, hG4, hbz, h6, fun h => ⟨h7 h, ?_⟩⟩
      rw [et, slc1 hlt]; rfl
    · exact Rt.some' ⟨i1, e1, 0, rfl, rfl, h1, h2, l1, l2, hG, by decide, h6, fun h => absurd h h0⟩
  · rintro ⟨ex, vs, w3⟩ ⟨i1, e1, kk, h1, h2, hr3, hi1, lb0, lb1, hG, hk0, he1, hk1⟩
    dsimp only at h1 h2 hr3 lb0 lb1 hG
    subst h1 h2
    refine ⟨rfl, ?_⟩
    dsimp only
    have hs3 := hG.size
    (repeat' (first|(with_reducible (first|apply Rt.fin|apply Rt.tL|apply Rt.tI|apply Rt.tB|apply Rt.tS|apply Rt.tP|apply Rt.tD|apply Rt.tM|apply Rt.tC|apply Rt.tN|apply Rt.tA|apply Rt.tG|apply Rt.tF|apply Rt.os|apply Rt.clS|apply Rt.jmN|apply Rt.jbN|apply Rt.jbE|apply Rt.ckR|exact Rt.some' rfl))|((with_reducible (first|apply Rt.ld0|apply Rt.ld1|apply Rt.ld2|apply Rt.ld3|apply Rt.ld4|apply Rt.ld5)); first|assumption|exact Lc.kp (by assumption) (by assumption))|((with_reducible apply Rt.ol); first|assumption|exact cell_kp (by assumption) (by assumption))|fail))
    refine Rt.jm (Rt.mono (Q' := fun r => r.ex = .norm ∧ r.vals = [.pointer (some ⟨p, 0, none⟩), .pointer (some ⟨w.heap.size, 0, none⟩), .pointer (some ⟨w1.heap.size, 0, none⟩)] ∧ Rd r.w p A l c i1 (if e1 = 0 ∧ kk ≠ 0 ∧ kk ≠ 1 then 2 else e1) ∧
        Lc r.w w.heap.size [.int .i64 0, .slice none 0 0, .slice none 0 0] ∧ Lc r.w w1.heap.size [.int .i64 kk, .slice none 0 0, .slice none 0 0] ∧ Gx (fun k => k = p) w r.w) ?_ ?_)
    · (repeat' (first|(with_reducible (first|apply Rt.fin|apply Rt.tL|apply Rt.tI|apply Rt.tB|apply Rt.tS|apply Rt.tP|apply Rt.tD|apply Rt.tM|apply Rt.tC|apply Rt.tN|apply Rt.tA|apply Rt.tG|apply Rt.tF|apply Rt.os|apply Rt.clS|apply Rt.jmN|apply Rt.jbN|apply Rt.jbE|apply Rt.ckR|exact Rt.some' rfl))|((with_reducible (first|apply Rt.ld0|apply Rt.ld1|apply Rt.ld2|apply Rt.ld3|apply Rt.ld4|apply Rt.ld5)); first|assumption|exact Lc.kp (by assumption) (by assumption))|((with_reducible apply Rt.ol); first|assumption|exact cell_kp (by assumption) (by assumption))|fail))
      refine Rt.cQ (fun h0 => ?_) fun h0 => Rt.some' ⟨rfl, rfl, by rw [if_neg (fun h => h0 h.1)]; exact hr3, lb0, lb1, hG⟩
      (repeat' (first|(with_reducible (first|apply Rt.fin|apply Rt.tL|apply Rt.tI|apply Rt.tB|apply Rt.tS|apply Rt.tP|apply Rt.tD|apply Rt.tM|apply Rt.tC|apply Rt.tN|apply Rt.tA|apply Rt.tG|apply Rt.tF|apply Rt.os|apply Rt.clS|apply Rt.jmN|apply Rt.jbN|apply Rt.jbE|apply Rt.ckR|exact Rt.some' rfl))|((with_reducible (first|apply Rt.ld0|apply Rt.ld1|apply Rt.ld2|apply Rt.ld3|apply Rt.ld4|apply Rt.ld5)); first|assumption|exact Lc.kp (by assumption) (by assumption))|((with_reducible apply Rt.ol); first|assumption|exact cell_kp (by assumption) (by assumption))|fail))
      refine Rt.cN (fun h1 => Rt.some' ⟨rfl, rfl, by rw [if_neg (fun h => h.2.1 h1)]; exact hr3, lb0, lb1, hG⟩) fun h1 => ?_
      (repeat' (first|(with_reducible (first|apply Rt.fin|apply Rt.tL|apply Rt.tI|apply Rt.tB|apply Rt.tS|apply Rt.tP|apply Rt.tD|apply Rt.tM|apply Rt.tC|apply Rt.tN|apply Rt.tA|apply Rt.tG|apply Rt.tF|apply Rt.os|apply Rt.clS|apply Rt.jmN|apply Rt.jbN|apply Rt.jbE|apply Rt.ckR|exact Rt.some' rfl))|((with_reducible (first|apply Rt.ld0|apply Rt.ld1|apply Rt.ld2|apply Rt.ld3|apply Rt.ld4|apply Rt.ld5)); first|assumption|exact Lc.kp (by assumption) (by assumption))|((with_reducible apply Rt.ol); first|assumption|exact cell_kp (by assumption) (by assumption))|fail))
      refine Rt.cN (fun h2 => Rt.some' ⟨rfl, rfl, by rw [if_neg (fun h => h.2.2 h2)]; exact hr3, lb0, lb1, hG⟩) fun h2 => ?_
      (repeat' (first|(with_reducible (first|apply Rt.fin|apply Rt.tL|apply Rt.tI|apply Rt.tB|apply Rt.tS|apply Rt.tP|apply Rt.tD|apply Rt.tM|apply Rt.tC|apply Rt.tN|apply Rt.tA|apply Rt.tG|apply Rt.tF|apply Rt.os|apply Rt.clS|apply Rt.jmN|apply Rt.jbN|apply Rt.jbE|apply Rt.ckR|exact Rt.some' rfl))|((with_reducible (first|apply Rt.ld0|apply Rt.ld1|apply Rt.ld2|apply Rt.ld3|apply Rt.ld4|apply Rt.ld5)); first|assumption|exact Lc.kp (by assumption) (by assumption))|((with_reducible apply Rt.ol); first|assumption|exact cell_kp (by assumption) (by assumption))|fail))
      refine Rt.st2 hr3 fun w4 l4 g4 => Rt.some' ⟨rfl, rfl, by rw [if_pos ⟨h0, h1, h2⟩]; exact l4, lb0.gx g4 (by omega), lb1.gx g4 (by omega), hG.tr g4⟩
    · rintro ⟨ex, vs, w4⟩ ⟨h1, h2, hr4, lb0, lb1, hG⟩
      dsimp only at h1 h2 hr4 lb0 lb1 hG
      subst h1 h2
      refine ⟨rfl, ?_⟩
      dsimp only
      generalize he2 : (if e1 = 0 ∧ kk ≠ 0 ∧ kk ≠ 1 then 2 else e1) = e2 at hr4
      (repeat' (first|(with_reducible (first|apply Rt.fin|apply Rt.tL|apply Rt.tI|apply Rt.tB|apply Rt.tS|apply Rt.tP|apply Rt.tD|apply Rt.tM|apply Rt.tC|apply Rt.tN|apply Rt.tA|apply Rt.tG|apply Rt.tF|apply Rt.os|apply Rt.clS|apply Rt.jmN|apply Rt.jbN|apply Rt.jbE|apply Rt.ckR|exact Rt.some' rfl))|((with_reducible (first|apply Rt.ld0|apply Rt.ld1|apply Rt.ld2|apply Rt.ld3|apply Rt.ld4|apply Rt.ld5)); first|assumption|exact Lc.kp (by assumption) (by assumption))|((with_reducible apply Rt.ol); first|assumption|exact cell_kp (by assumption) (by assumption))|fail))
      have hs4 := hG.size
      have hb4 := lb1.lt
      refine Rt.call (text_spec (n := n) (a := 1) (b := 256) hr4 (hk.tr hG) hp hb hi1 hl hn (by decide) (by decide)) ?_
      rintro vs w5 ⟨B, d, w5', i2, e3, key, hr1, hr5, hi2, g5, okey, bkey, h3, h4⟩
      cases hr1
      have lb0 := lb0.gx g5 (by omega)
      have lb1 := lb1.gx g5 (by omega)
      have hG5 := hG.tr g5
      (repeat' (first|(with_reducible (first|apply Rt.fin|apply Rt.tL|apply Rt.tI|apply Rt.tB|apply Rt.tS|apply Rt.tP|apply Rt.tD|apply Rt.tM|apply Rt.tC|apply Rt.tN|apply Rt.tA|apply Rt.tG|apply Rt.tF|apply Rt.os|apply Rt.clS|apply Rt.jmN|apply Rt.jbN|apply Rt.jbE|apply Rt.ckR|exact Rt.some' rfl))|((with_reducible (first|apply Rt.ld0|apply Rt.ld1|apply Rt.ld2|apply Rt.ld3|apply Rt.ld4|apply Rt.ld5)); first|assumption|exact Lc.kp (by assumption) (by assumption))|((with_reducible apply Rt.ol); first|assumption|exact cell_kp (by assumption) (by assumption))|fail))
      refine Rt.st1 lb1 fun w6 lb1' g6 => ?_
      have lb0 := lb0.gx g6 (by omega)
      have hr6 := hr5.gx g6 (by omega)
      have hb1 := lb1.lt
      have hw1 : w.heap.size < w1.heap.size := s1
      have ok6 := okey.gx g6 fun j hj hj' => by have := (okey.lt j hj).1; omega
      have hG6 : Gx (fun k => k = p) w w6 := hG5.tr' g6 fun j hj e => by omega
      refine Rt.jm (Rt.mono (Q' := fun r => ∃ i3 e4 val C f, r.ex = .norm ∧ r.vals = [.pointer (some ⟨w.heap.size, 0, none⟩), .pointer (some ⟨w1.heap.size, 0, none⟩)] ∧ Rd r.w p A l c i3 e4 ∧ i3 ≤ l ∧ Lc r.w w.heap.size [.int .i64 0, .slice none 0 0, .slice none 0 0] ∧
          Lc r.w w1.heap.size [.int .i64 kk, .slice B key.length d, .slice C (List.length val) f] ∧ Gx (fun k => k = p) w r.w ∧ Own .u8 5 r.w w4.heap.size (.slice B key.length d) key ∧ Own .u8 5 r.w w4.heap.size (.slice C val.length f) val ∧ Bytes val ∧
          (kk = 1 → (e3 ≠ 0 → e4 = e3) ∧ (e3 = 0 → e4 = (fieldP 0 4096 zs i2).1 ∧ (e4 = 0 → i3 = (fieldP 0 4096 zs i2).2.2 ∧ val = (fieldP 0 4096 zs i2).2.1))) ∧ (kk ≠ 1 → e4 = e3 ∧ i3 = i2 ∧ val = [])) ?_ ?_)
      · (repeat' (first|(with_reducible (first|apply Rt.fin|apply Rt.tL|apply Rt.tI|apply Rt.tB|apply Rt.tS|apply Rt.tP|apply Rt.tD|apply Rt.tM|apply Rt.tC|apply Rt.tN|apply Rt.tA|apply Rt.tG|apply Rt.tF|apply Rt.os|apply Rt.clS|apply Rt.jmN|apply Rt.jbN|apply Rt.jbE|apply Rt.ckR|exact Rt.some' rfl))|((with_reducible (first|apply Rt.ld0|apply Rt.ld1|apply Rt.ld2|apply Rt.ld3|apply Rt.ld4|apply Rt.ld5)); first|assumption|exact Lc.kp (by assumption) (by assumption))|((with_reducible apply Rt.ol); first|assumption|exact cell_kp (by assumption) (by assumption))|fail))
        refine Rt.cQ (fun h1 => ?_) fun h1 => ?_
        · refine Rt.call (text_spec (n := n) (a := 0) (b := 4096) hr6 (hk.tr hG6) hp hb hi2 hl hn (by decide) (by decide)) ?_
          rintro vs w7 ⟨C, f, w7', i3, e4, val, hr1, hr7, hi3, g7, oval, bval, h5, h6⟩
          cases hr1
          have lb0 := lb0.gx g7 (by omega)
          have lb1 := lb1'.gx g7 (by omega)
          (repeat' (first|(with_reducible (first|apply Rt.fin|apply Rt.tL|apply Rt.tI|apply Rt.tB|apply Rt.tS|apply Rt.tP|apply Rt.tD|apply Rt.tM|apply Rt.tC|apply Rt.tN|apply Rt.tA|apply Rt.tG|apply Rt.tF|apply Rt.os|apply Rt.clS|apply Rt.jmN|apply Rt.jbN|apply Rt.jbE|apply Rt.ckR|exact Rt.some' rfl))|((with_reducible (first|apply Rt.ld0|apply Rt.ld1|apply Rt.ld2|apply Rt.ld3|apply Rt.ld4|apply Rt.ld5)); first|assumption|exact Lc.kp (by assumption) (by assumption))|((with_reducible apply Rt.ol); first|assumption|exact cell_kp (by assumption) (by assumption))|fail))
          refine Rt.st2 lb1 fun w8 lb1 g8 => ?_
          have hs6 := hG6.size
          have hl1 := lb1'.lt
          have hpl6 := hr6.lt
          have ok7 := ok6.gx g7 fun j hj hj' => by have := (ok6.lt j hj).1; have := hr4.lt; omega
          have hw6 : w4.heap.size ≤ w6.heap.size := by have := g5.size; have := g6.size; omega
          exact Rt.some' ⟨i3, e4, val, C, f, rfl, rfl, hr7.gx g8 (by omega), hi3, lb0.gx g8 (by omega), lb1, (hG6.tr g7).tr' g8 (fun j hj e => by omega), ok7.gx g8 (fun j hj hj' => by have := (ok7.lt j hj).1; omega),
            (oval.gx g8 (fun j hj hj' => by have := (oval.lt j hj).1; omega)).mono hw6, bval, fun _ => ⟨h5, h6⟩, fun h => absurd h1 h⟩
        · exact Rt.some' ⟨i2, e3, [], none, 0, rfl, rfl, hr6, hi2, lb0, lb1', hG6, ok6, Own.nil _ _, bnil, fun h => absurd h h1, fun _ => ⟨rfl, rfl, rfl⟩⟩
      · rintro ⟨ex, vs, w7⟩ ⟨i3, e4, val, C, f, h1, h2, hr7, hi3, lb0, lb1, hG7, ok7, ov7, bval, h5, h6⟩
        dsimp only at h1 h2 hr7 lb0 lb1 hG7 ok7 ov7
        subst h1 h2
        refine ⟨rfl, ?_⟩
        dsimp only
        (repeat' (first|(with_reducible (first|apply Rt.fin|apply Rt.tL|apply Rt.tI|apply Rt.tB|apply Rt.tS|apply Rt.tP|apply Rt.tD|apply Rt.tM|apply Rt.tC|apply Rt.tN|apply Rt.tA|apply Rt.tG|apply Rt.tF|apply Rt.os|apply Rt.clS|apply Rt.jmN|apply Rt.jbN|apply Rt.jbE|apply Rt.ckR|exact Rt.some' rfl))|((with_reducible (first|apply Rt.ld0|apply Rt.ld1|apply Rt.ld2|apply Rt.ld3|apply Rt.ld4|apply Rt.ld5)); first|assumption|exact Lc.kp (by assumption) (by assumption))|((with_reducible apply Rt.ol); first|assumption|exact cell_kp (by assumption) (by assumption))|fail))
        refine Rt.sto3 lb0 fun w8 lb0 g8 => ?_
        (repeat' (first|(with_reducible (first|apply Rt.fin|apply Rt.tL|apply Rt.tI|apply Rt.tB|apply Rt.tS|apply Rt.tP|apply Rt.tD|apply Rt.tM|apply Rt.tC|apply Rt.tN|apply Rt.tA|apply Rt.tG|apply Rt.tF|apply Rt.os|apply Rt.clS|apply Rt.jmN|apply Rt.jbN|apply Rt.jbE|apply Rt.ckR|exact Rt.some' rfl))|((with_reducible (first|apply Rt.ld0|apply Rt.ld1|apply Rt.ld2|apply Rt.ld3|apply Rt.ld4|apply Rt.ld5)); first|assumption|exact Lc.kp (by assumption) (by assumption))|((with_reducible apply Rt.ol); first|assumption|exact cell_kp (by assumption) (by assumption))|fail))
        have hk64 : (Lit.int .i64 kk).wf = true := by
          have h0 : IntKind.i64.min = -2 ^ 63 := rfl
          have h1 : IntKind.i64.max = 2 ^ 63 - 1 := rfl
          simp only [Lit.wf, h0, h1, Bool.and_eq_true, decide_eq_true_eq]; omega
        refine Rt.some' ⟨rfl, kk, B, d, C, f, w8, i3, e4, ⟨kk, key, val⟩, rfl, hr7.gx g8 (by omega), hi3, hG7.tr' g8 (fun j hj e => by omega), rfl, hk64,
          (ok7.gx g8 fun j hj hj' => by have := (ok7.lt j hj).1; omega).mono hs4, (ov7.gx g8 fun j hj hj' => by have := (ov7.lt j hj).1; omega).mono hs4, bkey, bval, ?_⟩
        -- what the reading says
        clear g8 lb0 lb1 hr7 ok7 ov7 hG7 hr6 hr5 hr4 hr3 okey ok6 hr hr2
        have e0 : (opP zs i) = if (takeP 1 zs i).1 = 0 then (if (takeP 1 zs i).2.1.getD 0 0 > 1 then failP 2 else bindP (fieldP 1 256) fun key => if (takeP 1 zs i).2.1.getD 0 0 = 1 then bindP (fieldP 0 4096) fun v => retP ⟨1, key, v⟩ else retP ⟨(takeP 1 zs i).2.1.getD 0 0, key, []⟩) zs (takeP 1 zs i).2.2 else ((takeP 1 zs i).1, default, 0) := rfl
        rw [e0, ← he1]
        by_cases c1 : e1 = 0
        · obtain ⟨hi1', hk1'⟩ := hk1 c1
          rw [if_pos c1, ← hi1', ← hk1']
          by_cases c2 : kk > 1
          · have : e2 = 2 := by rw [if_pos ⟨c1, by omega, by omega⟩] at he2; exact he2.symm
            have e32 := h3 (by omega)
            rw [if_pos c2]
            have := (h6 (by omega)).1
            refine ⟨by show e4 = 2; omega, fun h => by omega⟩
          · have : e2 = 0 := by rw [if_neg (by omega)] at he2; omega
            obtain ⟨e31, e32⟩ := h4 this
            rw [if_neg c2]
            unfold bindP
            rw [← e31]
            by_cases c3 : e3 = 0
            · obtain ⟨e33, e34⟩ := e32 c3
              rw [if_pos c3, ← e33, ← e34]
              dsimp only
              by_cases c4 : kk = 1
              · obtain ⟨_, e41⟩ := h5 c4
                obtain ⟨e41, e42⟩ := e41 c3
                rw [if_pos c4, ← e41]
                by_cases c5 : e4 = 0
                · obtain ⟨e43, e44⟩ := e42 c5
                  rw [if_pos c5, ← e43, ← e44, c4]
                  exact ⟨c5, fun _ => ⟨rfl, rfl⟩⟩
                · rw [if_neg c5]; exact ⟨rfl, fun h => absurd h c5⟩
              · obtain ⟨e41, e42, e43⟩ := h6 c4
                rw [if_neg c4, e42, e43]
                exact ⟨by show e4 = 0; omega, fun _ => ⟨rfl, rfl⟩⟩
            · rw [if_neg c3]
              have : e4 = e3 := by
                by_cases c4 : kk = 1
                · exact (h5 c4).1 c3
                · exact (h6 c4).1
              exact ⟨this, fun h => by omega⟩
        · have : e2 = e1 := by rw [if_neg (fun h => c1 h.1)] at he2; omega
          have e32 := h3 (by omega)
          have : e4 = e3 := by
            by_cases c4 : kk = 1
            · exact (h5 c4).1 (by omega)
            · exact (h6 c4).1
          rw [if_neg c1]
          exact ⟨by show e4 = e1; omega, fun h => by omega⟩
end
end Go.Proofs.YtdcdgmiojlldaaaDoor.Ba
/- Batches: Read. -/
namespace Go.Proofs.YtdcdgmiojlldaaaDoor.Ba
open Go Big Go.RowKit Go.IntWalk Var Low Par
set_option linter.unusedVariables false
set_option linter.unusedSimpArgs false
def RBat (w0 : World) (x : Int × Int × List OpD) : List Value × World → Prop := fun r => ∃ B d w', r = ([bv x.2.1 B x.2.2.length d, .int .i64 x.1], w') ∧ OwnX (fun j => j < w0.heap.size) opEl 30 w' w0.heap.size (.slice B x.2.2.length d) x.2.2 ∧ Kp w0 w'
theorem op_stb {w w1 : World} {S : Nat → Prop} {k : Int} {B C : Option Addr} {d f base : Nat} {x : OpD} (hk : k = x.kind) (hw : (Lit.int .i64 k).wf = true) (o1 : Own .u8 5 w base (.slice B x.key.length d) x.key) (o2 : Own .u8 5 w base (.slice C x.val.length f) x.val) (b1 : Bytes x.key) (b2 : Bytes x.val)
    (hS : ∀ j, S j → j < base) : Stb S (fun w => opEl.rd w [.int .i64 k, .slice B x.key.length d, .slice C x.val.length f] x) w := fun w' hg =>
  ⟨_, _, _, _, _, _, _, rfl, hk, by rw [← hk]; exact hw, (o1.gx hg fun j hj hs => by have := (o1.lt j hj).1; have := hS j hs; omega).bv b1, (o2.gx hg fun j hj hs => by have := (o2.lt j hj).1; have := hS j hs; omega).bv b2⟩
section
variable {α : Type} {Q : α → Prop} {n : Nat} {w w0 : World} {A B C : Option Addr} {l c m d p i : Nat} {k e : Int} {x : OpD} {xs ys : List OpD} {bs zs : List Int}
abbrev SX (p b0 xb : Nat) : Nat → Prop := fun k => k ≤ p ∨ k ≤ b0 ∨ k ≤ xb
theorem Read_l0 {b0 xb base : Nat} {nn : Nat} {s : Int} (hb : Bv .u8 w0 A l c zs) (hl : l ≤ 2 ^ 38) (hn : 2 ^ 59 < n) (hnn : nn ≤ 100) (hp : w0.heap.size ≤ p) (hb0 : w0.heap.size ≤ b0) (hxb : w0.heap.size ≤ xb) (hne1 : p ≠ xb) (hne2 : b0 ≠ xb) (hne3 : p ≠ b0) (h1 : p < base) (h2 : b0 < base) (h3 : xb < base) :
    ∀ (q i j : Nat) (w : World) (at_ : Nat) (e : Int) (R : Option Addr) (d : Nat) (rs : List OpD), i + q = nn → q < j → Kp w0 w → base ≤ w.heap.size → Rd w p A l c at_ e → at_ ≤ l → Lc w b0 [.int .u64 0, .slice none 0 0] → Lc w xb [.int .u64 s, .slice R rs.length d] → rs.length ≤ i →
      OwnX (SX p b0 xb) opEl 30 w base (.slice R rs.length d) rs →
    Rt (batch_Read.l0 n j A l c ⟨b0, 0, none⟩ ⟨p, 0, none⟩ ⟨xb, 0, none⟩ (nn : Int) (i : Int) w) fun r => r.ex = .exit 0 ∧ r.vals = [.slice A l c, .pointer (some ⟨b0, 0, none⟩), .pointer (some ⟨p, 0, none⟩), .pointer (some ⟨xb, 0, none⟩)] ∧ Kp w0 r.w ∧ Lc r.w b0 [.int .u64 0, .slice none 0 0] ∧
      ∃ a' e' R' d' rs', Rd r.w p A l c a' e' ∧ a' ≤ l ∧ Lc r.w xb [.int .u64 s, .slice R' (List.length rs') d'] ∧ OwnX (SX p b0 xb) opEl 30 r.w base (.slice R' rs'.length d') rs' ∧ (e ≠ 0 → e' = e) ∧ (e = 0 → e' = (opsP q zs at_).1 ∧ (e' = 0 → a' = (opsP q zs at_).2.2 ∧ rs' = rs ++ (opsP q zs at_).2.1)) := by
  obtain ⟨ti, tz, hT⟩ := slO
  have hzl := hb.len
  intro q
  induction q with
  | zero =>
    intro i j w at_ e R d rs hi hj hk hbs hr ha lb0 lxb hrl ho
    obtain ⟨j, rfl⟩ : ∃ j', j = j' + 1 := ⟨j - 1, by omega⟩
    rw [batch_Read.l0_succ]
    exact Rt.cDF (by omega) (Rt.some' ⟨rfl, rfl, hk, lb0, at_, e, R, d, rs, hr, ha, lxb, ho, fun _ => rfl, fun he => ⟨he, fun _ => ⟨rfl, by simp [opsP, retP]⟩⟩⟩)
  | succ q ih =>
    intro i j w at_ e R d rs hi hj hk hbs hr ha lb0 lxb hrl ho
    obtain ⟨j, rfl⟩ : ∃ j', j = j' + 1 := ⟨j - 1, by omega⟩
    rw [batch_Read.l0_succ]
    refine Rt.cDT (by omega) ?_
    (repeat' (first|(with_reducible (first|apply Rt.fin|apply Rt.tL|apply Rt.tI|apply Rt.tB|apply Rt.tS|apply Rt.tP|apply Rt.tD|apply Rt.tM|apply Rt.tC|apply Rt.tN|apply Rt.tA|apply Rt.tG|apply Rt.tF|apply Rt.os|apply Rt.clS|apply Rt.jmN|apply Rt.jbN|apply Rt.jbE|apply Rt.ckR|exact Rt.some' rfl))|((with_reducible (first|apply Rt.ld0|apply Rt.ld1|apply Rt.ld2|apply Rt.ld3|apply Rt.ld4|apply Rt.ld5)); first|assumption|exact Lc.kp (by assumption) (by assumption))|((with_reducible apply Rt.ol); first|assumption|exact cell_kp (by assumption) (by assumption))|fail))
    refine Rt.cQ (fun he => ?_) fun he => Rt.some' ⟨rfl, rfl, hk, lb0, at_, e, R, d, rs, hr, ha, lxb, ho, fun _ => rfl, fun h => absurd h he⟩
    subst he
    have d1 : Kp w w.drew := (Kp.rfl' w).dr
    have lxbd := lxb.kp d1
    (repeat' (first|(with_reducible (first|apply Rt.fin|apply Rt.tL|apply Rt.tI|apply Rt.tB|apply Rt.tS|apply Rt.tP|apply Rt.tD|apply Rt.tM|apply Rt.tC|apply Rt.tN|apply Rt.tA|apply Rt.tG|apply Rt.tF|apply Rt.os|apply Rt.clS|apply Rt.jmN|apply Rt.jbN|apply Rt.jbE|apply Rt.ckR|exact Rt.some' rfl))|((with_reducible (first|apply Rt.ld0|apply Rt.ld1|apply Rt.ld2|apply Rt.ld3|apply Rt.ld4|apply Rt.ld5)); first|assumption|exact Lc.kp (by assumption) (by assumption))|((with_reducible apply Rt.ol); first|assumption|exact cell_kp (by assumption) (by assumption))|fail))
    have hrd := Lc.kp hr d1
    refine Rt.call (op_spec (n := n) hrd ((hk.tr d1).gx) hp hb ha hl hn) ?_
    rintro vs w1 ⟨k, B, f, C, g, w1', a1, e1, x, hr1, hR1, ha1, g1, hkx, hwf, okey, oval, bkey, bval, he1, hx1⟩
    cases hr1
    have k1 : Kp w0 w1 := (hk.tr d1).tx g1 fun j hj => by omega
    have lb1 := (lb0.kp d1).gx g1 (fun h => hne3 h.symm)
    have lx1 := (lxb.kp d1).gx g1 (fun h => hne1 h.symm)
    have hrowlt := ho.lt
    have o1 := (ho.kp d1).gx g1 (fun k _ h => .inl (Nat.le_of_eq h)) fun k hk1 hv => by have := (hrowlt _ hv).1; omega
    have hwd : w.drew.heap.size = w.heap.size := rfl
    have hs1 := g1.size
    (repeat' (first|(with_reducible (first|apply Rt.fin|apply Rt.tL|apply Rt.tI|apply Rt.tB|apply Rt.tS|apply Rt.tP|apply Rt.tD|apply Rt.tM|apply Rt.tC|apply Rt.tN|apply Rt.tA|apply Rt.tG|apply Rt.tF|apply Rt.os|apply Rt.clS|apply Rt.jmN|apply Rt.jbN|apply Rt.jbE|apply Rt.ckR|exact Rt.some' rfl))|((with_reducible (first|apply Rt.ld0|apply Rt.ld1|apply Rt.ld2|apply Rt.ld3|apply Rt.ld4|apply Rt.ld5)); first|assumption|exact Lc.kp (by assumption) (by assumption))|((with_reducible apply Rt.ol); first|assumption|exact cell_kp (by assumption) (by assumption))|fail))
    refine Rt.al fun w2 l2 k2 s2 => ?_
    have lx2 := lx1.kp k2
    (repeat' (first|(with_reducible (first|apply Rt.fin|apply Rt.tL|apply Rt.tI|apply Rt.tB|apply Rt.tS|apply Rt.tP|apply Rt.tD|apply Rt.tM|apply Rt.tC|apply Rt.tN|apply Rt.tA|apply Rt.tG|apply Rt.tF|apply Rt.os|apply Rt.clS|apply Rt.jmN|apply Rt.jbN|apply Rt.jbE|apply Rt.ckR|exact Rt.some' rfl))|((with_reducible (first|apply Rt.ld0|apply Rt.ld1|apply Rt.ld2|apply Rt.ld3|apply Rt.ld4|apply Rt.ld5)); first|assumption|exact Lc.kp (by assumption) (by assumption))|((with_reducible apply Rt.ol); first|assumption|exact cell_kp (by assumption) (by assumption))|fail))
    have hstb := op_stb (w := w1) (w1 := w1) (S := fun k => SX p b0 xb k ∨ On (.slice R rs.length d) k) hkx hwf okey oval bkey bval (fun j hj => by
      rcases hj with (h | h | h) | h
      · omega
      · omega
      · omega
      · have := (hrowlt _ h).2; omega)
    refine Rt.app1L rfl hT (o1.kp k2) l2 rfl (hstb.kp k2) (by omega) (by have := k2.size; omega) fun R' d' w3 o3 g3 s3 => ?_
    (repeat' (first|(with_reducible (first|apply Rt.fin|apply Rt.tL|apply Rt.tI|apply Rt.tB|apply Rt.tS|apply Rt.tP|apply Rt.tD|apply Rt.tM|apply Rt.tC|apply Rt.tN|apply Rt.tA|apply Rt.tG|apply Rt.tF|apply Rt.os|apply Rt.clS|apply Rt.jmN|apply Rt.jbN|apply Rt.jbE|apply Rt.ckR|exact Rt.some' rfl))|((with_reducible (first|apply Rt.ld0|apply Rt.ld1|apply Rt.ld2|apply Rt.ld3|apply Rt.ld4|apply Rt.ld5)); first|assumption|exact Lc.kp (by assumption) (by assumption))|((with_reducible apply Rt.ol); first|assumption|exact cell_kp (by assumption) (by assumption))|fail))
    have hne : ∀ b, (b = p ∨ b = b0 ∨ b = xb) → ¬ On (.slice R rs.length d) b := fun b hb' h => by have := (hrowlt _ h).1; omega
    have lx3 := lx2.gx g3 (hne xb (by omega))
    refine Rt.st1 lx3 fun w4 lx4 g4 => ?_
    have hR4 := ((Lc.kp hR1 k2).gx g3 (hne p (by omega))).gx g4 (by omega)
    have lb4 := ((lb1.kp k2).gx g3 (hne b0 (by omega))).gx g4 hne2
    have ho1 := o1.lt
    have k4 : Kp w0 w4 := ((k1.tr k2).tx g3 (fun j hj => by have := (hrowlt _ hj).1; omega)).tx g4 fun j hj => by omega
    have o4 := o3.gx g4 (fun k _ h => .inr (.inr (Nat.le_of_eq h))) fun k hk' hv => by have := (o3.lt _ hv).1; omega
    have hs4 := g4.size
    have hs2 := k2.size
    have el : (rs ++ [x]).length = rs.length + 1 := by simp
    rw [u64_in _ (by omega), show ((i : Int) + 1) = ((i + 1 : Nat) : Int) by omega]
    refine Rt.mono (ih (i + 1) j w4 a1 e1 R' d' (rs ++ [x]) (by omega) (by omega) k4 (by omega) hR4 ha1 lb4 (by rw [el]; exact lx4) (by omega) (by rw [el]; exact o4)) ?_
    rintro ⟨ex, vs, w5⟩ ⟨f1, f2, f3, f4, a', e', R2, d2, rs', f5, f6, f7, f8, f9, f10⟩
    refine ⟨f1, f2, f3, f4, a', e', R2, d2, rs', f5, f6, f7, f8, fun h => absurd rfl h, fun _ => ?_⟩
    have e0 : opsP (q + 1) zs at_ = bindP opP (fun o => bindP (opsP q) fun l => retP (o :: l)) zs at_ := rfl
    rw [e0]
    unfold bindP
    rw [← he1]
    by_cases c1 : e1 = 0
    · obtain ⟨x1, x2⟩ := hx1 c1
      obtain ⟨y1, y2⟩ := f10 c1
      rw [if_pos c1, ← x1, ← x2]
      dsimp only
      rw [← y1]
      by_cases c2 : e' = 0
      · obtain ⟨y3, y4⟩ := y2 c2
        rw [if_pos c2, ← y3]
        exact ⟨c2, fun _ => ⟨rfl, by rw [y4]; simp [retP]⟩⟩
      · rw [if_neg c2]; exact ⟨rfl, fun h => absurd h c2⟩
    · rw [if_neg c1]
      have := f9 c1
      exact ⟨this, fun h => by omega⟩
theorem Rt.al2 {β : Type} {Q : β → Prop} {t : TypeId} {a b : Value} {x y : Value} {f : World → Option β} (h : ∀ w1, Lc w1 w.heap.size [a, b] → Kp w w1 → w.heap.size < w1.heap.size → Rt (f w1) Q) :
    Rt (al w #[x, y] t fun w1 => stC w1 ⟨w.heap.size, 0, none⟩ a fun w2 => stC w2 (Addr.add ⟨w.heap.size, 0, none⟩ 1) b f) Q := by
  show Rt (stC (w.alloc (.cells [x, y].toArray t)) ⟨w.heap.size, 0, none⟩ a fun w2 => stC w2 (Addr.add ⟨w.heap.size, 0, none⟩ 1) b f) Q
  rw [sta0, sta1]
  exact h _ (Lc.new w _ t) ((Kp.rfl' w).al _) (by simp)
theorem Rt.sto2 {β : Type} {Q : β → Prop} {b : Nat} {x y a c : Value} {f : World → Option β} (hl : Lc w b [x, y]) (h : ∀ w1, Lc w1 b [a, c] → Gx (fun k => k = b) w w1 → Rt (f w1) Q) :
    Rt (stC w ⟨b, 0, none⟩ a fun w1 => stC w1 (Addr.add ⟨b, 0, none⟩ 1) c f) Q :=
  Rt.st0 hl fun w1 l1 g1 => Rt.st1 l1 fun w2 l2 g2 => h w2 l2 (g1.tr g2)
theorem takeP_wf {zs : List Int} (hz : Bytes zs) (m i : Nat) : Bytes (takeP m zs i).2.1 := by
  unfold takeP
  split
  · exact bnil
  · exact slc_wf hz _ _
theorem le4 {bs : List Int} (hb : Bytes bs) (h : bs.length = 4 ∨ bs = []) : 0 ≤ le bs ∧ le bs < 2 ^ 32 := by
  have := le_nonneg hb
  rcases h with h | h
  · rw [h] at this; omega
  · subst h; simp [le]
theorem le8 {bs : List Int} (hb : Bytes bs) (h : bs.length = 8 ∨ bs = []) : 0 ≤ le bs ∧ le bs < 2 ^ 64 := by
  have := le_nonneg hb
  rcases h with h | h
  · rw [h] at this; omega
  · subst h; simp [le]
theorem claimB {e1 e2 e3 e4 e' s cnt : Int} {i1 i2 a' : Nat} {rs' : List OpD} (hzl : zs.length = l) (he1 : e1 = (takeP 8 zs 0).1) (hp1 : e1 = 0 → i1 = (takeP 8 zs 0).2.2) (hs8 : le (takeP 8 zs 0).2.1 = s) (hkeep : e1 ≠ 0 → e2 = e1) (he2 : e1 = 0 → e2 = (takeP 4 zs i1).1 ∧ (e2 = 0 → i2 = (takeP 4 zs i1).2.2))
    (hs4 : le (if e1 = 0 then (takeP 4 zs i1).2.1 else []) = cnt) (h3 : e2 ≠ 0 → e3 = e2) (h4 : e2 = 0 → (cnt < 1 ∨ cnt > 100 ∨ ¬numC s cnt.toNat) → e3 = 2) (h5 : e2 = 0 → ¬(cnt < 1 ∨ cnt > 100 ∨ ¬numC s cnt.toNat) → e3 = 0)
    (f9 : e3 ≠ 0 → e' = e3) (f10 : e3 = 0 → e' = (opsP cnt.toNat zs i2).1 ∧ (e' = 0 → a' = (opsP cnt.toNat zs i2).2.2 ∧ rs' = (opsP cnt.toNat zs i2).2.1)) (he4 : (if e' = 0 ∧ a' < l then 2 else e') = e4) (ha' : a' ≤ l) :
    (e4 = 0 → allP batchP zs = (0, s, rs')) ∧ (e4 ≠ 0 → allP batchP zs = (e4, 0, [])) := by
  have key : (e' ≠ 0 → (batchP zs 0).1 = e') ∧ (e' = 0 → batchP zs 0 = (0, (s, rs'), a')) := by
    unfold batchP
    by_cases c1 : e1 = 0
    · obtain ⟨he2, hp2⟩ := he2 c1
      rw [if_pos c1] at hs4
      have t1 : takeP 8 zs 0 = (0, (takeP 8 zs 0).2.1, i1) := by rw [hp1 c1]; exact triple (by omega)
      by_cases c2 : e2 = 0
      · have t2 : takeP 4 zs i1 = (0, (takeP 4 zs i1).2.1, i2) := by rw [hp2 c2]; exact triple (by omega)
        unfold bindP
        rw [t1]
        dsimp only
        rw [if_pos rfl, t2]
        dsimp only
        rw [if_pos rfl, hs8, hs4]
        by_cases c3 : cnt < 1 ∨ cnt > 100 ∨ ¬numC s cnt.toNat
        · have e30 := h4 c2 c3
          have e31 := f9 (by omega)
          rw [if_pos c3]
          exact ⟨fun _ => by show 2 = e'; omega, fun h => by omega⟩
        · have e30 := h5 c2 c3
          obtain ⟨e31, e32⟩ := f10 e30
          rw [if_neg c3]
          rw [← e31]
          by_cases c4 : e' = 0
          · obtain ⟨e33, e34⟩ := e32 c4
            rw [if_pos c4, ← e33, ← e34]
            exact ⟨fun h => absurd c4 h, fun _ => rfl⟩
          · rw [if_neg c4]; exact ⟨fun _ => rfl, fun h => absurd h c4⟩
      · have e30 := h3 c2
        have e31 := f9 (by omega)
        unfold bindP
        rw [t1]
        dsimp only
        rw [if_pos rfl, if_neg (by omega)]
        exact ⟨fun _ => by show (takeP 4 zs i1).1 = e'; omega, fun h => by omega⟩
    · have e20 := hkeep c1
      have e30 := h3 (by omega)
      have e31 := f9 (by omega)
      unfold bindP
      rw [if_neg (by omega)]
      exact ⟨fun _ => by show (takeP 8 zs 0).1 = e'; omega, fun h => by omega⟩
  unfold allP
  by_cases c : e' = 0
  · rw [key.2 c]
    dsimp only
    rw [if_neg (by simp)]
    by_cases c2 : a' < l
    · rw [if_pos ⟨c, c2⟩] at he4
      rw [if_pos (by omega)]
      exact ⟨fun h => by omega, fun _ => by rw [← he4]; rfl⟩
    · rw [if_neg (fun h => c2 h.2)] at he4
      rw [if_neg (by omega)]
      exact ⟨fun _ => rfl, fun h => by omega⟩
  · rw [if_neg (fun h => c h.1)] at he4
    have := key.1 c
    rw [if_pos (by omega), this, he4]
    exact ⟨fun h => by omega, fun _ => rfl⟩
theorem Read_spec (hb : Bv .u8 w A l c zs) (hl : l ≤ 2 ^ 38) (hn : 2 ^ 59 < n) : Rt (batch_Read n [.slice A l c] w) (RBat w (allP batchP zs)) := by
  have hzl := hb.len
  rw [batch_Read_eq]
  refine Rt.fin (Rt.al fun w1 lb0 k1 s1 => Rt.al fun w2 hr2 k2 s2 => ?_)
  have k02 := k1.tr k2
  have lb0 := lb0.kp k2
  refine Rt.call (number_spec (n := n) (m := 8) (i := 0) (e := 0) hr2 k02.gx (Nat.le_of_lt s1) hb (Nat.zero_le _) (by decide) hl (by omega)) ?_
  rintro vs w3 ⟨w3', i1, e1, hr1, hr3, hi1, g3, _, he1⟩
  cases hr1
  obtain ⟨he1, hp1⟩ := he1 rfl
  rw [if_pos rfl]
  have k03 : Kp w w3 := k02.tx g3 fun j hj => by omega
  have lb0 := lb0.gx g3 (by omega)
  have hs3 := g3.size
  have hv8 : 0 ≤ le (takeP 8 zs 0).2.1 ∧ le (takeP 8 zs 0).2.1 < 2 ^ 64 := by
    refine le8 (takeP_wf hb.rng _ _) ?_
    unfold takeP
    split
    · right; rfl
    · left; simp [slc]; omega
  generalize hs8 : le (takeP 8 zs 0).2.1 = s at hv8
  (repeat' (first|(with_reducible (first|apply Rt.fin|apply Rt.tL|apply Rt.tI|apply Rt.tB|apply Rt.tS|apply Rt.tP|apply Rt.tD|apply Rt.tM|apply Rt.tC|apply Rt.tN|apply Rt.tA|apply Rt.tG|apply Rt.tF|apply Rt.os|apply Rt.clS|apply Rt.jmN|apply Rt.jbN|apply Rt.jbE|apply Rt.ckR|exact Rt.some' rfl))|((with_reducible (first|apply Rt.ld0|apply Rt.ld1|apply Rt.ld2|apply Rt.ld3|apply Rt.ld4|apply Rt.ld5)); first|assumption|exact Lc.kp (by assumption) (by assumption))|((with_reducible apply Rt.ol); first|assumption|exact cell_kp (by assumption) (by assumption))|fail))
  refine Rt.al2 fun w4 lxb k4 s4 => ?_
  have hr4 := Lc.kp hr3 k4
  have lb0 := lb0.kp k4
  have k04 := k03.tr k4
  refine Rt.call (number_spec (n := n) (m := 4) hr4 k04.gx (Nat.le_of_lt s1) hb hi1 (by decide) hl (by omega)) ?_
  rintro vs w5 ⟨w5', i2, e2, hr1, hr5, hi2, g5, hkeep, he2⟩
  cases hr1
  have k05 : Kp w w5 := k04.tx g5 fun j hj => by omega
  have lb0 := lb0.gx g5 (by omega)
  have lxb := lxb.gx g5 (by omega)
  have hs4 := k4.size
  have hs5 := g5.size
  have hv4 : 0 ≤ le (if e1 = 0 then (takeP 4 zs i1).2.1 else []) ∧ le (if e1 = 0 then (takeP 4 zs i1).2.1 else []) < 2 ^ 32 := by
    by_cases h : e1 = 0
    · rw [if_pos h]
      refine le4 (takeP_wf hb.rng _ _) ?_
      unfold takeP
      split
      · right; rfl
      · left; simp [slc]; omega
    · rw [if_neg h]; simp [le]
  generalize hs4' : le (if e1 = 0 then (takeP 4 zs i1).2.1 else []) = cnt at hv4
  generalize hR : w1.heap.size = p at *
  generalize hX : w3.heap.size = xb at *
  generalize hB : w.heap.size = b0 at *
  (repeat' (first|(with_reducible (first|apply Rt.fin|apply Rt.tL|apply Rt.tI|apply Rt.tB|apply Rt.tS|apply Rt.tP|apply Rt.tD|apply Rt.tM|apply Rt.tC|apply Rt.tN|apply Rt.tA|apply Rt.tG|apply Rt.tF|apply Rt.os|apply Rt.clS|apply Rt.jmN|apply Rt.jbN|apply Rt.jbE|apply Rt.ckR|exact Rt.some' rfl))|((with_reducible (first|apply Rt.ld0|apply Rt.ld1|apply Rt.ld2|apply Rt.ld3|apply Rt.ld4|apply Rt.ld5)); first|assumption|exact Lc.kp (by assumption) (by assumption))|((with_reducible apply Rt.ol); first|assumption|exact cell_kp (by assumption) (by assumption))|fail))
  refine Rt.jm (Rt.mono (Q' := fun r => r.ex = .norm ∧ r.vals = [.slice A l c, .pointer (some ⟨b0, 0, none⟩), .pointer (some ⟨p, 0, none⟩), .pointer (some ⟨xb, 0, none⟩), .int .u64 cnt] ∧ Kp w r.w ∧ Lc r.w b0 [.int .u64 0, .slice none 0 0] ∧ Lc r.w xb [.int .u64 s, .slice none 0 0] ∧
      ∃ e3, Rd r.w p A l c i2 e3 ∧ (e2 ≠ 0 → e3 = e2) ∧ (e2 = 0 → (cnt < 1 ∨ cnt > 100 ∨ ¬numC s cnt.toNat) → e3 = 2) ∧ (e2 = 0 → ¬(cnt < 1 ∨ cnt > 100 ∨ ¬numC s cnt.toNat) → e3 = 0)) ?_ ?_)
  · (repeat' (first|(with_reducible (first|apply Rt.fin|apply Rt.tL|apply Rt.tI|apply Rt.tB|apply Rt.tS|apply Rt.tP|apply Rt.tD|apply Rt.tM|apply Rt.tC|apply Rt.tN|apply Rt.tA|apply Rt.tG|apply Rt.tF|apply Rt.os|apply Rt.clS|apply Rt.jmN|apply Rt.jbN|apply Rt.jbE|apply Rt.ckR|exact Rt.some' rfl))|((with_reducible (first|apply Rt.ld0|apply Rt.ld1|apply Rt.ld2|apply Rt.ld3|apply Rt.ld4|apply Rt.ld5)); first|assumption|exact Lc.kp (by assumption) (by assumption))|((with_reducible apply Rt.ol); first|assumption|exact cell_kp (by assumption) (by assumption))|fail))
    refine Rt.cQ (fun h0 => ?_) fun h0 => Rt.some' ⟨rfl, rfl, k05, lb0, lxb, e2, hr5, fun _ => rfl, fun h => absurd h h0, fun h => absurd h h0⟩
    have store : ∀ (f : World → Option Res) (Q : Res → Prop) (w6 : World), Rd w6 p A l c i2 e2 → (∀ w7, Rd w7 p A l c i2 2 → Gx (fun k => k = p) w6 w7 → Rt (f w7) Q) → Rt (stC w6 (Addr.add ⟨p, 0, none⟩ 2) (.int .i64 2) f) Q := fun f Q w6 h hf => Rt.st2 h hf
    refine Rt.cD (fun h1 => store _ _ _ hr5 fun w6 l6 g6 => Rt.some' ⟨rfl, rfl, k05.tx g6 (fun j hj => by omega), lb0.gx g6 (by omega), lxb.gx g6 (by omega), 2, l6, fun h => absurd h0 h, fun _ _ => rfl, fun _ h => absurd (.inl h1) h⟩) fun h1 => ?_
    refine Rt.cD (fun h2 => store _ _ _ hr5 fun w6 l6 g6 => Rt.some' ⟨rfl, rfl, k05.tx g6 (fun j hj => by omega), lb0.gx g6 (by omega), lxb.gx g6 (by omega), 2, l6, fun h => absurd h0 h, fun _ _ => rfl, fun _ h => absurd (.inr (.inl h2)) h⟩) fun h2 => ?_
    (repeat' (first|(with_reducible (first|apply Rt.fin|apply Rt.tL|apply Rt.tI|apply Rt.tB|apply Rt.tS|apply Rt.tP|apply Rt.tD|apply Rt.tM|apply Rt.tC|apply Rt.tN|apply Rt.tA|apply Rt.tG|apply Rt.tF|apply Rt.os|apply Rt.clS|apply Rt.jmN|apply Rt.jbN|apply Rt.jbE|apply Rt.ckR|exact Rt.some' rfl))|((with_reducible (first|apply Rt.ld0|apply Rt.ld1|apply Rt.ld2|apply Rt.ld3|apply Rt.ld4|apply Rt.ld5)); first|assumption|exact Lc.kp (by assumption) (by assumption))|((with_reducible apply Rt.ol); first|assumption|exact cell_kp (by assumption) (by assumption))|fail))
    have hcn : IntKind.i64.wrap cnt = ((cnt.toNat : Nat) : Int) := by rw [i64_in _ (by omega)]; omega
    rw [hcn]
    refine Rt.cBo (numbered_spec hv8 (by omega) (by omega)) fun b w6 hb6 k6 => ?_
    have hr6 := Lc.kp hr5 k6
    cases b with
    | false =>
      refine Rt.cT rfl (store _ _ _ hr6 fun w7 l7 g7 => Rt.some' ⟨rfl, rfl, (k05.tr k6).tx g7 (fun j hj => by omega), (lb0.kp k6).gx g7 (by omega), (lxb.kp k6).gx g7 (by omega), 2, l7, fun h => absurd h0 h, fun _ _ => rfl, fun _ h => absurd (.inr (.inr fun h' => by simpa using hb6.2 h')) h⟩)
    | true => exact Rt.cF rfl (Rt.some' ⟨rfl, rfl, k05.tr k6, lb0.kp k6, lxb.kp k6, e2, hr6, fun _ => rfl, fun _ h => by rcases h with h | h | h; exact absurd h h1; exact absurd h h2; exact absurd (hb6.1 rfl) h, fun h _ => h⟩)
  · rintro ⟨ex, vs, w6⟩ ⟨h1, h2, k06, lb0, lxb, e3, hr6, h3, h4, h5⟩
    dsimp only at h1 h2 k06 lb0 lxb hr6
    subst h1 h2
    refine ⟨rfl, ?_⟩
    dsimp only
    have hxl := lxb.lt
    (repeat' (first|(with_reducible (first|apply Rt.fin|apply Rt.tL|apply Rt.tI|apply Rt.tB|apply Rt.tS|apply Rt.tP|apply Rt.tD|apply Rt.tM|apply Rt.tC|apply Rt.tN|apply Rt.tA|apply Rt.tG|apply Rt.tF|apply Rt.os|apply Rt.clS|apply Rt.jmN|apply Rt.jbN|apply Rt.jbE|apply Rt.ckR|exact Rt.some' rfl))|((with_reducible (first|apply Rt.ld0|apply Rt.ld1|apply Rt.ld2|apply Rt.ld3|apply Rt.ld4|apply Rt.ld5)); first|assumption|exact Lc.kp (by assumption) (by assumption))|((with_reducible apply Rt.ol); first|assumption|exact cell_kp (by assumption) (by assumption))|fail))
    refine Rt.jb (Rt.mono (Q' := fun r => r.ex = .exit 0 ∧ r.vals = [.slice A l c, .pointer (some ⟨b0, 0, none⟩), .pointer (some ⟨p, 0, none⟩), .pointer (some ⟨xb, 0, none⟩)] ∧ Kp w r.w ∧ Lc r.w b0 [.int .u64 0, .slice none 0 0] ∧
      ∃ a' e' R' d' rs', Rd r.w p A l c a' e' ∧ a' ≤ l ∧ Lc r.w xb [.int .u64 s, .slice R' (List.length rs') d'] ∧ OwnX (SX p b0 xb) opEl 30 r.w w6.heap.size (.slice R' rs'.length d') rs' ∧ (e3 ≠ 0 → e' = e3) ∧ (e3 = 0 → e' = (opsP cnt.toNat zs i2).1 ∧ (e' = 0 → a' = (opsP cnt.toNat zs i2).2.2 ∧ rs' = (opsP cnt.toNat zs i2).2.1))) ?_ ?_)
    · by_cases c3 : e3 = 0
      · have hcc : ¬(cnt < 1 ∨ cnt > 100 ∨ ¬numC s cnt.toNat) := by
          intro h
          by_cases h0 : e2 = 0
          · have := h4 h0 h; omega
          · have := h3 h0; omega
        have hcn : ((cnt.toNat : Nat) : Int) = cnt := by omega
        have hl0 := Read_l0 (n := n) (w0 := w) (p := p) (b0 := b0) (xb := xb) (base := w6.heap.size) (nn := cnt.toNat) (s := s) hb hl hn (by omega) (by omega) (by omega) (by omega) (by omega) (by omega) (by omega) hr6.lt lb0.lt lxb.lt cnt.toNat 0 n w6 i2 e3 none 0 [] (by omega) (by omega) k06 (Nat.le_refl _) hr6 hi2 lb0 lxb (by simp) (OwnX.nil _ _ _)
        rw [hcn] at hl0
        refine Rt.mono hl0 ?_
        rintro ⟨ex, vs, w7⟩ ⟨f1, f2, f3, f4, a', e', R', d', rs', f5, f6, f7, f8, f9, f10⟩
        exact ⟨f1, f2, f3, f4, a', e', R', d', rs', f5, f6, f7, f8, f9, fun h => by simpa using f10 h⟩
      · obtain ⟨n, rfl⟩ : ∃ k, n = k + 1 := ⟨n - 1, by omega⟩
        rw [show batch_Read.l0 (n + 1) (n + 1) = batch_Read.l0 (n + 1) (n + 1) from rfl, batch_Read.l0_succ]
        refine Rt.cD (fun _ => ?_) fun _ => Rt.some' ⟨rfl, rfl, k06, lb0, i2, e3, none, 0, [], hr6, hi2, lxb, OwnX.nil _ _ _, fun _ => rfl, fun h => absurd h c3⟩
        (repeat' (first|(with_reducible (first|apply Rt.fin|apply Rt.tL|apply Rt.tI|apply Rt.tB|apply Rt.tS|apply Rt.tP|apply Rt.tD|apply Rt.tM|apply Rt.tC|apply Rt.tN|apply Rt.tA|apply Rt.tG|apply Rt.tF|apply Rt.os|apply Rt.clS|apply Rt.jmN|apply Rt.jbN|apply Rt.jbE|apply Rt.ckR|exact Rt.some' rfl))|((with_reducible (first|apply Rt.ld0|apply Rt.ld1|apply Rt.ld2|apply Rt.ld3|apply Rt.ld4|apply Rt.ld5)); first|assumption|exact Lc.kp (by assumption) (by assumption))|((with_reducible apply Rt.ol); first|assumption|exact cell_kp (by assumption) (by assumption))|fail))
        exact Rt.cQ (fun h => absurd h c3) fun _ => Rt.some' ⟨rfl, rfl, k06, lb0, i2, e3, none, 0, [], hr6, hi2, lxb, OwnX.nil _ _ _, fun _ => rfl, fun h => absurd h c3⟩
    · rintro ⟨ex, vs, w7⟩ ⟨f1, f2, k07, lb0, a', e', R', d', rs', hr7, ha', lxb, oR, f9, f10⟩
      dsimp only at f1 f2 k07 lb0 hr7 lxb oR
      subst f1 f2
      refine .inl ⟨.inr rfl, ?_⟩
      dsimp only
      (repeat' (first|(with_reducible (first|apply Rt.fin|apply Rt.tL|apply Rt.tI|apply Rt.tB|apply Rt.tS|apply Rt.tP|apply Rt.tD|apply Rt.tM|apply Rt.tC|apply Rt.tN|apply Rt.tA|apply Rt.tG|apply Rt.tF|apply Rt.os|apply Rt.clS|apply Rt.jmN|apply Rt.jbN|apply Rt.jbE|apply Rt.ckR|exact Rt.some' rfl))|((with_reducible (first|apply Rt.ld0|apply Rt.ld1|apply Rt.ld2|apply Rt.ld3|apply Rt.ld4|apply Rt.ld5)); first|assumption|exact Lc.kp (by assumption) (by assumption))|((with_reducible apply Rt.ol); first|assumption|exact cell_kp (by assumption) (by assumption))|fail))
      refine Rt.jm (Rt.mono (Q' := fun r => r.ex = .norm ∧ r.vals = [.pointer (some ⟨b0, 0, none⟩), .pointer (some ⟨p, 0, none⟩), .pointer (some ⟨xb, 0, none⟩)] ∧ Kp w r.w ∧ Lc r.w b0 [.int .u64 0, .slice none 0 0] ∧ Rd r.w p A l c a' (if e' = 0 ∧ a' < l then 2 else e') ∧ Lc r.w xb [.int .u64 s, .slice R' rs'.length d'] ∧
          OwnX (SX p b0 xb) opEl 30 r.w w6.heap.size (.slice R' rs'.length d') rs') ?_ ?_)
      · (repeat' (first|(with_reducible (first|apply Rt.fin|apply Rt.tL|apply Rt.tI|apply Rt.tB|apply Rt.tS|apply Rt.tP|apply Rt.tD|apply Rt.tM|apply Rt.tC|apply Rt.tN|apply Rt.tA|apply Rt.tG|apply Rt.tF|apply Rt.os|apply Rt.clS|apply Rt.jmN|apply Rt.jbN|apply Rt.jbE|apply Rt.ckR|exact Rt.some' rfl))|((with_reducible (first|apply Rt.ld0|apply Rt.ld1|apply Rt.ld2|apply Rt.ld3|apply Rt.ld4|apply Rt.ld5)); first|assumption|exact Lc.kp (by assumption) (by assumption))|((with_reducible apply Rt.ol); first|assumption|exact cell_kp (by assumption) (by assumption))|fail))
        refine Rt.cQ (fun h0 => ?_) fun h0 => Rt.some' ⟨rfl, rfl, k07, lb0, by rw [if_neg (fun h => h0 h.1)]; exact hr7, lxb, oR⟩
        (repeat' (first|(with_reducible (first|apply Rt.fin|apply Rt.tL|apply Rt.tI|apply Rt.tB|apply Rt.tS|apply Rt.tP|apply Rt.tD|apply Rt.tM|apply Rt.tC|apply Rt.tN|apply Rt.tA|apply Rt.tG|apply Rt.tF|apply Rt.os|apply Rt.clS|apply Rt.jmN|apply Rt.jbN|apply Rt.jbE|apply Rt.ckR|exact Rt.some' rfl))|((with_reducible (first|apply Rt.ld0|apply Rt.ld1|apply Rt.ld2|apply Rt.ld3|apply Rt.ld4|apply Rt.ld5)); first|assumption|exact Lc.kp (by assumption) (by assumption))|((with_reducible apply Rt.ol); first|assumption|exact cell_kp (by assumption) (by assumption))|fail))
        refine Rt.cD (fun h1 => ?_) fun h1 => Rt.some' ⟨rfl, rfl, k07, lb0, by rw [if_neg (fun h => h1 (by omega))]; exact hr7, lxb, oR⟩
        refine Rt.st2 hr7 fun w8 l8 g8 => Rt.some' ⟨rfl, rfl, k07.tx g8 (fun j hj => by omega), lb0.gx g8 (by omega), by rw [if_pos ⟨h0, by omega⟩]; exact l8, lxb.gx g8 (by omega), oR.gx g8 (fun k _ h => .inl (Nat.le_of_eq h)) fun k hk hv => by have := (oR.lt _ hv).1; have := hr6.lt; omega⟩
      · rintro ⟨ex, vs, w8⟩ ⟨g1, g2, k08, lb0, hr8, lxb, oR⟩
        dsimp only at g1 g2 k08 lb0 hr8 lxb oR
        subst g1 g2
        refine ⟨rfl, ?_⟩
        dsimp only
        generalize he4 : (if e' = 0 ∧ a' < l then 2 else e') = e4 at hr8
        have claim : (e4 = 0 → allP batchP zs = (0, s, rs')) ∧ (e4 ≠ 0 → allP batchP zs = (e4, 0, [])) :=
          claimB hzl he1 hp1 hs8 hkeep he2 hs4' h3 h4 h5 f9 f10 he4 ha'
        (repeat' (first|(with_reducible (first|apply Rt.fin|apply Rt.tL|apply Rt.tI|apply Rt.tB|apply Rt.tS|apply Rt.tP|apply Rt.tD|apply Rt.tM|apply Rt.tC|apply Rt.tN|apply Rt.tA|apply Rt.tG|apply Rt.tF|apply Rt.os|apply Rt.clS|apply Rt.jmN|apply Rt.jbN|apply Rt.jbE|apply Rt.ckR|exact Rt.some' rfl))|((with_reducible (first|apply Rt.ld0|apply Rt.ld1|apply Rt.ld2|apply Rt.ld3|apply Rt.ld4|apply Rt.ld5)); first|assumption|exact Lc.kp (by assumption) (by assumption))|((with_reducible apply Rt.ol); first|assumption|exact cell_kp (by assumption) (by assumption))|fail))
        refine Rt.cN (fun h0 => ?_) fun h0 => ?_
        · (repeat' (first|(with_reducible (first|apply Rt.fin|apply Rt.tL|apply Rt.tI|apply Rt.tB|apply Rt.tS|apply Rt.tP|apply Rt.tD|apply Rt.tM|apply Rt.tC|apply Rt.tN|apply Rt.tA|apply Rt.tG|apply Rt.tF|apply Rt.os|apply Rt.clS|apply Rt.jmN|apply Rt.jbN|apply Rt.jbE|apply Rt.ckR|exact Rt.some' rfl))|((with_reducible (first|apply Rt.ld0|apply Rt.ld1|apply Rt.ld2|apply Rt.ld3|apply Rt.ld4|apply Rt.ld5)); first|assumption|exact Lc.kp (by assumption) (by assumption))|((with_reducible apply Rt.ol); first|assumption|exact cell_kp (by assumption) (by assumption))|fail))
          refine Rt.sto2 lb0 fun w9 lb0 g9 => ?_
          (repeat' (first|(with_reducible (first|apply Rt.fin|apply Rt.tL|apply Rt.tI|apply Rt.tB|apply Rt.tS|apply Rt.tP|apply Rt.tD|apply Rt.tM|apply Rt.tC|apply Rt.tN|apply Rt.tA|apply Rt.tG|apply Rt.tF|apply Rt.os|apply Rt.clS|apply Rt.jmN|apply Rt.jbN|apply Rt.jbE|apply Rt.ckR|exact Rt.some' rfl))|((with_reducible (first|apply Rt.ld0|apply Rt.ld1|apply Rt.ld2|apply Rt.ld3|apply Rt.ld4|apply Rt.ld5)); first|assumption|exact Lc.kp (by assumption) (by assumption))|((with_reducible apply Rt.ol); first|assumption|exact cell_kp (by assumption) (by assumption))|fail))
          have := claim.1 h0
          refine Rt.some' ⟨rfl, R', d', w9, by rw [this], ?_, k08.tx g9 fun j hj => by omega⟩
          rw [this]
          have hX := oR.gx g9 (fun k _ h => .inr (.inl (Nat.le_of_eq h))) fun k hk hv => by have h' : k = b0 := hk; have := (oR.lt _ hv).1; have := hxl; omega
          exact OwnX.mono (OwnX.less hX fun k (hk : k < w.heap.size) => .inr (.inl (by omega))) (by omega)
        · have hr8' : Lc w8.drew p [.slice A l c, .int .i64 (a' : Int), .int .i64 e4] := hr8
          (repeat' (first|(with_reducible (first|apply Rt.fin|apply Rt.tL|apply Rt.tI|apply Rt.tB|apply Rt.tS|apply Rt.tP|apply Rt.tD|apply Rt.tM|apply Rt.tC|apply Rt.tN|apply Rt.tA|apply Rt.tG|apply Rt.tF|apply Rt.os|apply Rt.clS|apply Rt.jmN|apply Rt.jbN|apply Rt.jbE|apply Rt.ckR|exact Rt.some' rfl))|((with_reducible (first|apply Rt.ld0|apply Rt.ld1|apply Rt.ld2|apply Rt.ld3|apply Rt.ld4|apply Rt.ld5)); first|assumption|exact Lc.kp (by assumption) (by assumption))|((with_reducible apply Rt.ol); first|assumption|exact cell_kp (by assumption) (by assumption))|fail))
          refine Rt.sto2 (w := w8.drew) lb0 fun w9 lb0 g9 => ?_
          have hr9 := Lc.gx hr8' g9 (by omega)
          (repeat' (first|(with_reducible (first|apply Rt.fin|apply Rt.tL|apply Rt.tI|apply Rt.tB|apply Rt.tS|apply Rt.tP|apply Rt.tD|apply Rt.tM|apply Rt.tC|apply Rt.tN|apply Rt.tA|apply Rt.tG|apply Rt.tF|apply Rt.os|apply Rt.clS|apply Rt.jmN|apply Rt.jbN|apply Rt.jbE|apply Rt.ckR|exact Rt.some' rfl))|((with_reducible (first|apply Rt.ld0|apply Rt.ld1|apply Rt.ld2|apply Rt.ld3|apply Rt.ld4|apply Rt.ld5)); first|assumption|exact Lc.kp (by assumption) (by assumption))|((with_reducible apply Rt.ol); first|assumption|exact cell_kp (by assumption) (by assumption))|fail))
          have := claim.2 h0
          refine Rt.some' ⟨rfl, none, 0, w9, by rw [this]; rfl, ?_, k08.dr.tx g9 fun j hj => by omega⟩
          rw [this]
          exact OwnX.nil _ _ _
end
end Go.Proofs.YtdcdgmiojlldaaaDoor.Ba
/- Batches: ReadBatch, the document's own. -/
namespace Go.Proofs.YtdcdgmiojlldaaaDoor.Ba
open Go Big Go.RowKit Go.IntWalk Var Low Par
set_option linter.unusedVariables false
set_option linter.unusedSimpArgs false
theorem Rt.jmA {x : Option Res} {f : List Value → World → Option Res} {Q : Res → Prop} (h : Rt x fun r => r.ex = .norm ∧ Rt (f r.vals r.w) Q ∨ r.ex = .ret ∧ Q r) : Rt (jm x f) Q := by
  obtain ⟨⟨ex, vs, w⟩, rfl, ⟨h1, h2⟩ | ⟨h1, h2⟩⟩ := h
  · cases h1; exact h2
  · cases h1; exact ⟨_, rfl, h2⟩
section
variable {α : Type} {Q : α → Prop} {n : Nat} {w w0 : World} {A B C : Option Addr} {l c m d p i : Nat} {k e : Int} {x : OpD} {xs ys : List OpD} {bs zs : List Int}
theorem field_spec (hb : Bv .u8 w A l c zs) (hi : i ≤ l) (hl : l ≤ 2 ^ 38) (hn : 2 ^ 59 < n) {a b : Int} (ha : 0 ≤ a) (ha2 : a ≤ 2 ^ 37) (hb0 : 0 ≤ b) (hb' : b ≤ 2 ^ 37) :
    Rt (butteryref1_field n [.slice A l c, .int .i64 (i : Int), .int .i64 a, .int .i64 b] w) fun r => ∃ B d w', r = ([.slice B (fieldP a b zs i).2.1.length d, .int .i64 ((fieldP a b zs i).2.2 : Int), .int .i64 (fieldP a b zs i).1], w') ∧
      Own .u8 5 w' w.heap.size (.slice B (fieldP a b zs i).2.1.length d) (fieldP a b zs i).2.1 ∧ Bytes (fieldP a b zs i).2.1 ∧ ((fieldP a b zs i).1 = 0 → (fieldP a b zs i).2.2 ≤ l) ∧ Kp w w' := by
  obtain ⟨t, hT⟩ := slB
  have hzl := hb.len
  rw [butteryref1_field_eq, RGetS hb (by omega) hn, clG]
  have hg0 := getR_err (i := i) hb.rng (by omega)
  have hnum : numP zs i = ((getR zs (i : Int)).2.2, (getR zs (i : Int)).1, (getR zs (i : Int)).2.1.toNat) := rfl
  have hin : (getR zs (i : Int)).2.2 = 0 → i ≤ (getR zs (i : Int)).2.1.toNat ∧ (getR zs (i : Int)).2.1.toNat ≤ l ∧ 0 ≤ (getR zs (i : Int)).2.1 := by
    intro h
    obtain ⟨y, h1, h2, h3, _⟩ := getR_can (u8b hb.rng) h
    rw [h2]; simp only; omega
  generalize hg : getR zs (i : Int) = g at hg0 hnum hin ⊢
  obtain ⟨gn, gt, ge⟩ := g
  simp only at hg0 hnum hin ⊢
  rw [u64_in a (by omega), u64_in b (by omega)]
  have err : ∀ e : Int, e ≠ 0 → fieldP a b zs i = (e, [], 0) → Rt (some (⟨.ret, [.slice none 0 0, .int .i64 0, .int .i64 e], w⟩ : Res)) (fun r => r.ex = .ret ∧ ∃ B d w', (r.vals, r.w) = ([.slice B (fieldP a b zs i).2.1.length d, .int .i64 ((fieldP a b zs i).2.2 : Int), .int .i64 (fieldP a b zs i).1], w') ∧
      Own .u8 5 w' w.heap.size (.slice B (fieldP a b zs i).2.1.length d) (fieldP a b zs i).2.1 ∧ Bytes (fieldP a b zs i).2.1 ∧ ((fieldP a b zs i).1 = 0 → (fieldP a b zs i).2.2 ≤ l) ∧ Kp w w') := by
    intro e he hf
    rw [hf]
    exact Rt.some' ⟨rfl, none, 0, w, rfl, Own.nil _ _, bnil, fun h => absurd h he, Kp.rfl' w⟩
  have e0 : fieldP a b zs i = if ge = 0 then (if gn < a ∨ gn > b then failP 2 else takeP gn.toNat) zs gt.toNat else (ge, [], 0) := by
    unfold fieldP bindP; rw [hnum]; rfl
  refine Rt.fin (Rt.cN (fun h0 => ?_) fun h0 => err ge h0 (by rw [e0, if_neg h0]))
  rw [if_pos h0] at e0
  obtain ⟨hi1, hi2, hi3⟩ := hin h0
  refine Rt.cD (fun h1 => err 2 (by decide) (by rw [e0, if_pos (.inl h1)]; rfl)) fun h1 => Rt.cD (fun h2 => err 2 (by decide) (by rw [e0, if_pos (.inr h2)]; rfl)) fun h2 => ?_
  rw [if_neg (by omega)] at e0
  rw [i64_in gn (by omega), i64_in ((l : Int) - gt) (by omega), i64_in (gt + gn) (by omega)]
  refine Rt.cD (fun h3 => err 4 (by decide) (by rw [e0]; unfold takeP; rw [if_pos (by omega)])) fun h3 => ?_
  have et : fieldP a b zs i = (0, slc zs gt.toNat gn.toNat, gt.toNat + gn.toNat) := by rw [e0]; unfold takeP; rw [if_neg (by omega)]
  refine Rt.cut hb (by omega) (by omega) (by omega) fun D hD => ?_
  have e1 : (gt + gn).toNat - gt.toNat = gn.toNat := by omega
  have e2 : (zs.take (gt + gn).toNat).drop gt.toNat = slc zs gt.toNat gn.toNat := by rw [List.drop_take, e1]; rfl
  rw [e1, e2] at hD
  rw [e1]
  have hlen := hD.len
  refine Rt.app0 hT hD.sl hD.nil (by omega) fun E f w2 o2 k2 => ?_
  (repeat' (first|(with_reducible (first|apply Rt.fin|apply Rt.tL|apply Rt.tI|apply Rt.tB|apply Rt.tS|apply Rt.tP|apply Rt.tD|apply Rt.tM|apply Rt.tC|apply Rt.tN|apply Rt.tA|apply Rt.tG|apply Rt.tF|apply Rt.os|apply Rt.clS|apply Rt.jmN|apply Rt.jbN|apply Rt.jbE|apply Rt.ckR|exact Rt.some' rfl))|((with_reducible (first|apply Rt.ld0|apply Rt.ld1|apply Rt.ld2|apply Rt.ld3|apply Rt.ld4|apply Rt.ld5)); first|assumption|exact Lc.kp (by assumption) (by assumption))|((with_reducible apply Rt.ol); first|assumption|exact cell_kp (by assumption) (by assumption))|fail))
  rw [et]
  exact Rt.some' ⟨rfl, E, f, w2, by rw [hlen, show ((gt.toNat + gn.toNat : Nat) : Int) = gt + gn by omega], by rw [hlen]; exact o2, hD.rng, fun _ => (show gt.toNat + gn.toNat ≤ l by omega), k2⟩
theorem RRead_l0 {b0 nb xb base : Nat} {nn : Nat} {s : Int} (hb : Bv .u8 w0 A l c zs) (hl : l ≤ 2 ^ 38) (hn : 2 ^ 59 < n) (hnn : nn ≤ 100) (hp : w0.heap.size ≤ nb) (hb0 : w0.heap.size ≤ b0) (hxb : w0.heap.size ≤ xb) (hne1 : nb ≠ xb) (hne2 : b0 ≠ xb) (hne3 : nb ≠ b0) (h1 : nb < base) (h2 : b0 < base) (h3 : xb < base) :
    ∀ (q i j : Nat) (w : World) (at_ : Nat) (R : Option Addr) (d : Nat) (rs : List OpD), i + q = nn → q < j → Kp w0 w → base ≤ w.heap.size → at_ ≤ l → Lc w b0 [.int .u64 0, .slice none 0 0] → Lc w nb [.int .u64 0, .slice none 0 0] → Lc w xb [.int .u64 s, .slice R rs.length d] → rs.length ≤ i →
      OwnX (SX nb b0 xb) opEl 30 w base (.slice R rs.length d) rs →
    Rt (butteryref1_ReadBatch.l0 n j A l c ⟨b0, 0, none⟩ ⟨nb, 0, none⟩ ⟨xb, 0, none⟩ (nn : Int) (at_ : Int) (i : Int) w) fun r => Kp w0 r.w ∧ (r.ex = .ret ∧ r.vals = [bv 0 none 0 0, .int .i64 (opsP q zs at_).1] ∧ (opsP q zs at_).1 ≠ 0 ∨
      r.ex = .exit 0 ∧ (opsP q zs at_).1 = 0 ∧ r.vals = [.slice A l c, .pointer (some ⟨b0, 0, none⟩), .pointer (some ⟨nb, 0, none⟩), .pointer (some ⟨xb, 0, none⟩), .int .i64 ((opsP q zs at_).2.2 : Int)] ∧ Lc r.w b0 [.int .u64 0, .slice none 0 0] ∧ Lc r.w nb [.int .u64 0, .slice none 0 0] ∧ (opsP q zs at_).2.2 ≤ l ∧
      ∃ R' d' rs', rs' = rs ++ (opsP q zs at_).2.1 ∧ Lc r.w xb [.int .u64 s, .slice R' (List.length rs') d'] ∧ OwnX (SX nb b0 xb) opEl 30 r.w base (.slice R' rs'.length d') rs') := by
  obtain ⟨ti, tz, hT⟩ := slO
  have hzl := hb.len
  intro q
  induction q with
  | zero =>
    intro i j w at_ R d rs hi hj hk hbs ha lb0 lnb lxb hrl ho
    obtain ⟨j, rfl⟩ : ∃ j', j = j' + 1 := ⟨j - 1, by omega⟩
    rw [butteryref1_ReadBatch.l0_succ, i64_in (nn : Int) (by omega)]
    exact Rt.cDF (by omega) (Rt.some' ⟨hk, .inr ⟨rfl, rfl, rfl, lb0, lnb, ha, R, d, rs, by simp [opsP, retP], lxb, ho⟩⟩)
  | succ q ih =>
    intro i j w at_ R d rs hi hj hk hbs ha lb0 lnb lxb hrl ho
    obtain ⟨j, rfl⟩ : ∃ j', j = j' + 1 := ⟨j - 1, by omega⟩
    rw [butteryref1_ReadBatch.l0_succ, i64_in (nn : Int) (by omega)]
    have eq0 : opsP (q + 1) zs at_ = if (opP zs at_).1 = 0 then bindP (opsP q) (fun l => retP ((opP zs at_).2.1 :: l)) zs (opP zs at_).2.2 else ((opP zs at_).1, default, 0) := rfl
    have eo : opP zs at_ = if (takeP 1 zs at_).1 = 0 then (if (takeP 1 zs at_).2.1.getD 0 0 > 1 then failP 2 else bindP (fieldP 1 256) fun key => if (takeP 1 zs at_).2.1.getD 0 0 = 1 then bindP (fieldP 0 4096) fun v => retP ⟨1, key, v⟩ else retP ⟨(takeP 1 zs at_).2.1.getD 0 0, key, []⟩) zs (takeP 1 zs at_).2.2 else ((takeP 1 zs at_).1, default, 0) := rfl
    have errv : ∀ e : Int, (opP zs at_).1 = e → e ≠ 0 → (opsP (q + 1) zs at_).1 = e := fun e h1 h2 => by rw [eq0, if_neg (by omega)]; exact h1
    refine Rt.cDT (by omega) (Rt.cD (fun hat => ?_) fun hat => ?_)
    · (repeat' (first|(with_reducible (first|apply Rt.fin|apply Rt.tL|apply Rt.tI|apply Rt.tB|apply Rt.tS|apply Rt.tP|apply Rt.tD|apply Rt.tM|apply Rt.tC|apply Rt.tN|apply Rt.tA|apply Rt.tG|apply Rt.tF|apply Rt.os|apply Rt.clS|apply Rt.jmN|apply Rt.jbN|apply Rt.jbE|apply Rt.ckR|exact Rt.some' rfl))|((with_reducible (first|apply Rt.ld0|apply Rt.ld1|apply Rt.ld2|apply Rt.ld3|apply Rt.ld4|apply Rt.ld5)); first|assumption|exact Lc.kp (by assumption) (by assumption))|((with_reducible apply Rt.ol); first|assumption|exact cell_kp (by assumption) (by assumption))|fail))
      refine Rt.sto2 lb0 fun w2 l2 g2 => ?_
      (repeat' (first|(with_reducible (first|apply Rt.fin|apply Rt.tL|apply Rt.tI|apply Rt.tB|apply Rt.tS|apply Rt.tP|apply Rt.tD|apply Rt.tM|apply Rt.tC|apply Rt.tN|apply Rt.tA|apply Rt.tG|apply Rt.tF|apply Rt.os|apply Rt.clS|apply Rt.jmN|apply Rt.jbN|apply Rt.jbE|apply Rt.ckR|exact Rt.some' rfl))|((with_reducible (first|apply Rt.ld0|apply Rt.ld1|apply Rt.ld2|apply Rt.ld3|apply Rt.ld4|apply Rt.ld5)); first|assumption|exact Lc.kp (by assumption) (by assumption))|((with_reducible apply Rt.ol); first|assumption|exact cell_kp (by assumption) (by assumption))|fail))
      have et4 : takeP 1 zs at_ = (4, [], 0) := by unfold takeP; rw [if_pos (by omega)]
      have := errv 4 (by rw [eo, et4]; rfl) (by decide)
      exact Rt.some' ⟨hk.tx g2 fun j hj => by omega, .inl ⟨rfl, by rw [this], by rw [this]; decide⟩⟩
    · have hlt : at_ < zs.length := by omega
      have et : takeP 1 zs at_ = (0, [zs.getD at_ 0], at_ + 1) := by unfold takeP; rw [if_neg (by omega), slc1 hlt]
      rw [et] at eo
      simp only [if_pos] at eo
      have ed : [zs.getD at_ 0].getD 0 0 = zs.getD at_ 0 := rfl
      rw [ed] at eo
      have hbz := byte_at hb.rng hlt
      refine Rt.ix (hb.kp hk).sl (by omega) (by omega) ?_
      rw [Int.toNat_natCast]
      generalize hkk : zs.getD at_ 0 = kk at hbz eo ⊢
      rw [i64_in kk (by omega)]
      refine Rt.al3 fun w1 lo k1 s1 => ?_
      have lb1 := lb0.kp k1
      have ln1 := lnb.kp k1
      have lx1 := lxb.kp k1
      have k01 := hk.tr k1
      (repeat' (first|(with_reducible (first|apply Rt.fin|apply Rt.tL|apply Rt.tI|apply Rt.tB|apply Rt.tS|apply Rt.tP|apply Rt.tD|apply Rt.tM|apply Rt.tC|apply Rt.tN|apply Rt.tA|apply Rt.tG|apply Rt.tF|apply Rt.os|apply Rt.clS|apply Rt.jmN|apply Rt.jbN|apply Rt.jbE|apply Rt.ckR|exact Rt.some' rfl))|((with_reducible (first|apply Rt.ld0|apply Rt.ld1|apply Rt.ld2|apply Rt.ld3|apply Rt.ld4|apply Rt.ld5)); first|assumption|exact Lc.kp (by assumption) (by assumption))|((with_reducible apply Rt.ol); first|assumption|exact cell_kp (by assumption) (by assumption))|fail))
      refine Rt.cD (fun hk2 => ?_) fun hk2 => ?_
      · (repeat' (first|(with_reducible (first|apply Rt.fin|apply Rt.tL|apply Rt.tI|apply Rt.tB|apply Rt.tS|apply Rt.tP|apply Rt.tD|apply Rt.tM|apply Rt.tC|apply Rt.tN|apply Rt.tA|apply Rt.tG|apply Rt.tF|apply Rt.os|apply Rt.clS|apply Rt.jmN|apply Rt.jbN|apply Rt.jbE|apply Rt.ckR|exact Rt.some' rfl))|((with_reducible (first|apply Rt.ld0|apply Rt.ld1|apply Rt.ld2|apply Rt.ld3|apply Rt.ld4|apply Rt.ld5)); first|assumption|exact Lc.kp (by assumption) (by assumption))|((with_reducible apply Rt.ol); first|assumption|exact cell_kp (by assumption) (by assumption))|fail))
        refine Rt.sto2 lb1 fun w2 l2 g2 => ?_
        (repeat' (first|(with_reducible (first|apply Rt.fin|apply Rt.tL|apply Rt.tI|apply Rt.tB|apply Rt.tS|apply Rt.tP|apply Rt.tD|apply Rt.tM|apply Rt.tC|apply Rt.tN|apply Rt.tA|apply Rt.tG|apply Rt.tF|apply Rt.os|apply Rt.clS|apply Rt.jmN|apply Rt.jbN|apply Rt.jbE|apply Rt.ckR|exact Rt.some' rfl))|((with_reducible (first|apply Rt.ld0|apply Rt.ld1|apply Rt.ld2|apply Rt.ld3|apply Rt.ld4|apply Rt.ld5)); first|assumption|exact Lc.kp (by assumption) (by assumption))|((with_reducible apply Rt.ol); first|assumption|exact cell_kp (by assumption) (by assumption))|fail))
        have := errv 2 (by rw [eo, if_pos hk2]; rfl) (by decide)
        exact Rt.some' ⟨k01.tx g2 fun j hj => by omega, .inl ⟨rfl, by rw [this], by rw [this]; decide⟩⟩
      · rw [if_neg hk2] at eo
        rw [i64_in ((at_ : Int) + 1) (by omega), show (at_ : Int) + 1 = ((at_ + 1 : Nat) : Int) by omega]
        refine Rt.call (field_spec (n := n) (i := at_ + 1) (a := 1) (b := 256) (hb.kp k01) (by omega) hl hn (by decide) (by decide) (by decide) (by decide)) ?_
        rintro vs w2 ⟨B, f, w2', hr1, okey, bkey, hto, k2⟩
        cases hr1
        have k02 := k01.tr k2
        have lb2 := lb1.kp k2
        have ln2 := ln1.kp k2
        have lx2 := lx1.kp k2
        have lo2 := lo.kp k2
        have hs2 := k2.size
        have hs1 := k1.size
        generalize hF : fieldP 1 256 zs (at_ + 1) = F at *
        obtain ⟨fe, fk, ft⟩ := F
        dsimp only at okey bkey hto ⊢
        (repeat' (first|(with_reducible (first|apply Rt.fin|apply Rt.tL|apply Rt.tI|apply Rt.tB|apply Rt.tS|apply Rt.tP|apply Rt.tD|apply Rt.tM|apply Rt.tC|apply Rt.tN|apply Rt.tA|apply Rt.tG|apply Rt.tF|apply Rt.os|apply Rt.clS|apply Rt.jmN|apply Rt.jbN|apply Rt.jbE|apply Rt.ckR|exact Rt.some' rfl))|((with_reducible (first|apply Rt.ld0|apply Rt.ld1|apply Rt.ld2|apply Rt.ld3|apply Rt.ld4|apply Rt.ld5)); first|assumption|exact Lc.kp (by assumption) (by assumption))|((with_reducible apply Rt.ol); first|assumption|exact cell_kp (by assumption) (by assumption))|fail))
        refine Rt.cN (fun hfe => ?_) fun hfe => ?_
        · have eo2 : opP zs at_ = (if kk = 1 then bindP (fieldP 0 4096) (fun v => retP ⟨1, fk, v⟩) else retP ⟨kk, fk, []⟩) zs ft := by
            rw [eo]; unfold bindP; rw [hF]; dsimp only; rw [if_pos hfe]
          refine Rt.st1 lo2 fun w3 lo3 g3 => ?_
          have kw3 : Kp w w3 := (k1.tr k2).tx g3 fun j hj => by omega
          have hkz := hk.size
          have k03 := hk.tr kw3
          have hlo := lo2.lt
          have ok3 := okey.gx g3 fun j hj hj' => by have := (okey.lt j hj).1; have := lo.lt; omega
          have hft := hto hfe
          refine Rt.jmA (Rt.mono (Q' := fun r => r.ex = .ret ∧ r.vals = [bv 0 none 0 0, .int .i64 (opP zs at_).1] ∧ (opP zs at_).1 ≠ 0 ∧ Kp w0 r.w ∨ r.ex = .norm ∧ (opP zs at_).1 = 0 ∧ (opP zs at_).2.2 ≤ l ∧
              r.vals = [.slice A l c, .pointer (some ⟨b0, 0, none⟩), .pointer (some ⟨nb, 0, none⟩), .pointer (some ⟨xb, 0, none⟩), .int .u64 (nn : Int), .int .i64 ((opP zs at_).2.2 : Int), .int .i64 (i : Int), .pointer (some ⟨w.heap.size, 0, none⟩)] ∧ Kp w r.w ∧
              ∃ C g val, Lc r.w w.heap.size [.int .i64 kk, .slice B fk.length f, .slice C (List.length val) g] ∧ Own .u8 5 r.w w1.heap.size (.slice B fk.length f) fk ∧ Own .u8 5 r.w w1.heap.size (.slice C val.length g) val ∧ Bytes val ∧ (opP zs at_).2.1 = ⟨kk, fk, val⟩) ?_ ?_)
          · (repeat' (first|(with_reducible (first|apply Rt.fin|apply Rt.tL|apply Rt.tI|apply Rt.tB|apply Rt.tS|apply Rt.tP|apply Rt.tD|apply Rt.tM|apply Rt.tC|apply Rt.tN|apply Rt.tA|apply Rt.tG|apply Rt.tF|apply Rt.os|apply Rt.clS|apply Rt.jmN|apply Rt.jbN|apply Rt.jbE|apply Rt.ckR|exact Rt.some' rfl))|((with_reducible (first|apply Rt.ld0|apply Rt.ld1|apply Rt.ld2|apply Rt.ld3|apply Rt.ld4|apply Rt.ld5)); first|assumption|exact Lc.kp (by assumption) (by assumption))|((with_reducible apply Rt.ol); first|assumption|exact cell_kp (by assumption) (by assumption))|fail))
            refine Rt.cQ (fun hk1 => ?_) fun hk1 => ?_
            · rw [if_pos hk1] at eo2
              refine Rt.call (field_spec (n := n) (i := ft) (a := 0) (b := 4096) (hb.kp k03) hft hl hn (by decide) (by decide) (by decide) (by decide)) ?_
              rintro vs w4 ⟨C, g, w4', hr1, oval, bval, hto2, k4⟩
              cases hr1
              have kw4 := kw3.tr k4
              have lo4 := lo3.kp k4
              generalize hG : fieldP 0 4096 zs ft = G at *
              obtain ⟨ge, gv', gt⟩ := G
              dsimp only at oval bval hto2 ⊢
              (repeat' (first|(with_reducible (first|apply Rt.fin|apply Rt.tL|apply Rt.tI|apply Rt.tB|apply Rt.tS|apply Rt.tP|apply Rt.tD|apply Rt.tM|apply Rt.tC|apply Rt.tN|apply Rt.tA|apply Rt.tG|apply Rt.tF|apply Rt.os|apply Rt.clS|apply Rt.jmN|apply Rt.jbN|apply Rt.jbE|apply Rt.ckR|exact Rt.some' rfl))|((with_reducible (first|apply Rt.ld0|apply Rt.ld1|apply Rt.ld2|apply Rt.ld3|apply Rt.ld4|apply Rt.ld5)); first|assumption|exact Lc.kp (by assumption) (by assumption))|((with_reducible apply Rt.ol); first|assumption|exact cell_kp (by assumption) (by assumption))|fail))
              refine Rt.cN (fun hge => ?_) fun hge => ?_
              · have eo3 : opP zs at_ = (0, ⟨1, fk, gv'⟩, gt) := by rw [eo2]; unfold bindP; rw [hG]; dsimp only; rw [if_pos hge]; rfl
                refine Rt.st2 lo4 fun w5 lo5 g5 => ?_
                have hw3 := lo3.lt
                refine Rt.some' (.inr ⟨rfl, by rw [eo3], by rw [eo3]; exact hto2 hge, by rw [eo3], kw4.tx g5 (fun j hj => by omega), C, g, gv', lo5, ?_, ?_, bval, by rw [eo3, hk1]⟩)
                · have hs1' := lo.lt
                  exact ((ok3.kp k4).gx g5 fun j hj hj' => by have := ((ok3.kp k4).lt j hj).1; omega)
                · have hs3 := g3.size
                  exact (oval.gx g5 fun j hj hj' => by have := (oval.lt j hj).1; omega).mono (by have := g3.size; omega)
              · have eo3 : opP zs at_ = (ge, default, 0) := by rw [eo2]; unfold bindP; rw [hG]; dsimp only; rw [if_neg hge]
                (repeat' (first|(with_reducible (first|apply Rt.fin|apply Rt.tL|apply Rt.tI|apply Rt.tB|apply Rt.tS|apply Rt.tP|apply Rt.tD|apply Rt.tM|apply Rt.tC|apply Rt.tN|apply Rt.tA|apply Rt.tG|apply Rt.tF|apply Rt.os|apply Rt.clS|apply Rt.jmN|apply Rt.jbN|apply Rt.jbE|apply Rt.ckR|exact Rt.some' rfl))|((with_reducible (first|apply Rt.ld0|apply Rt.ld1|apply Rt.ld2|apply Rt.ld3|apply Rt.ld4|apply Rt.ld5)); first|assumption|exact Lc.kp (by assumption) (by assumption))|((with_reducible apply Rt.ol); first|assumption|exact cell_kp (by assumption) (by assumption))|fail))
                have lb4 := lb0.kp kw4
                have ln4 := lnb.kp kw4
                (repeat' (first|(with_reducible (first|apply Rt.fin|apply Rt.tL|apply Rt.tI|apply Rt.tB|apply Rt.tS|apply Rt.tP|apply Rt.tD|apply Rt.tM|apply Rt.tC|apply Rt.tN|apply Rt.tA|apply Rt.tG|apply Rt.tF|apply Rt.os|apply Rt.clS|apply Rt.jmN|apply Rt.jbN|apply Rt.jbE|apply Rt.ckR|exact Rt.some' rfl))|((with_reducible (first|apply Rt.ld0|apply Rt.ld1|apply Rt.ld2|apply Rt.ld3|apply Rt.ld4|apply Rt.ld5)); first|assumption|exact Lc.kp (by assumption) (by assumption))|((with_reducible apply Rt.ol); first|assumption|exact cell_kp (by assumption) (by assumption))|fail))
                refine Rt.sto2 lb4 fun w5 l5 g5 => ?_
                (repeat' (first|(with_reducible (first|apply Rt.fin|apply Rt.tL|apply Rt.tI|apply Rt.tB|apply Rt.tS|apply Rt.tP|apply Rt.tD|apply Rt.tM|apply Rt.tC|apply Rt.tN|apply Rt.tA|apply Rt.tG|apply Rt.tF|apply Rt.os|apply Rt.clS|apply Rt.jmN|apply Rt.jbN|apply Rt.jbE|apply Rt.ckR|exact Rt.some' rfl))|((with_reducible (first|apply Rt.ld0|apply Rt.ld1|apply Rt.ld2|apply Rt.ld3|apply Rt.ld4|apply Rt.ld5)); first|assumption|exact Lc.kp (by assumption) (by assumption))|((with_reducible apply Rt.ol); first|assumption|exact cell_kp (by assumption) (by assumption))|fail))
                exact Rt.some' (.inl ⟨rfl, by rw [eo3], by rw [eo3]; exact hge, (hk.tr kw4).tx g5 fun j hj => by omega⟩)
            · rw [if_neg hk1] at eo2
              have eo3 : opP zs at_ = (0, ⟨kk, fk, []⟩, ft) := eo2
              exact Rt.some' (.inr ⟨rfl, by rw [eo3], by rw [eo3]; exact hft, by rw [eo3], kw3, none, 0, [], lo3, ok3, Own.nil _ _, bnil, by rw [eo3]⟩)
          · rintro ⟨ex, vs, w4⟩ (⟨f1, f2, f3, f4⟩ | ⟨f1, f2, f3, f4, kw4, C, g, val, lo4, ok4, ov4, bval, f5⟩)
            · dsimp only at f1 f2 f4
              subst f1 f2
              have := errv _ rfl f3
              exact .inr ⟨rfl, f4, .inl ⟨rfl, by rw [this], by rw [this]; exact f3⟩⟩
            · dsimp only at f1 f4 kw4 lo4 ok4 ov4
              subst f1 f4
              refine .inl ⟨rfl, ?_⟩
              dsimp only
              have eq1 : opsP (q + 1) zs at_ = bindP (opsP q) (fun l => retP ((opP zs at_).2.1 :: l)) zs (opP zs at_).2.2 := by rw [eq0, if_pos f2]
              have lb4 := lb0.kp kw4
              have ln4 := lnb.kp kw4
              have lx4 := lxb.kp kw4
              have o4 := ho.kp kw4
              have hrowlt := ho.lt
              (repeat' (first|(with_reducible (first|apply Rt.fin|apply Rt.tL|apply Rt.tI|apply Rt.tB|apply Rt.tS|apply Rt.tP|apply Rt.tD|apply Rt.tM|apply Rt.tC|apply Rt.tN|apply Rt.tA|apply Rt.tG|apply Rt.tF|apply Rt.os|apply Rt.clS|apply Rt.jmN|apply Rt.jbN|apply Rt.jbE|apply Rt.ckR|exact Rt.some' rfl))|((with_reducible (first|apply Rt.ld0|apply Rt.ld1|apply Rt.ld2|apply Rt.ld3|apply Rt.ld4|apply Rt.ld5)); first|assumption|exact Lc.kp (by assumption) (by assumption))|((with_reducible apply Rt.ol); first|assumption|exact cell_kp (by assumption) (by assumption))|fail))
              refine Rt.al fun w5 l5 k5 s5 => ?_
              have hwfk : (Lit.int .i64 kk).wf = true := by
                have h0 : IntKind.i64.min = -2 ^ 63 := rfl
                have h1 : IntKind.i64.max = 2 ^ 63 - 1 := rfl
                simp only [Lit.wf, h0, h1, Bool.and_eq_true, decide_eq_true_eq]; omega
              have hstb := op_stb (x := ⟨kk, fk, val⟩) (w := w4) (w1 := w4) (S := fun k => SX nb b0 xb k ∨ On (.slice R rs.length d) k) rfl hwfk ok4 ov4 bkey bval (fun j hj => by
                rcases hj with (h | h | h) | h
                · omega
                · omega
                · omega
                · have := (hrowlt _ h).2; omega)
              have hs4 := kw4.size
              refine Rt.app1L rfl hT (o4.kp k5) l5 rfl (hstb.kp k5) (by omega) (by have := k5.size; omega) fun R' d' w6 o6 g6 s6 => ?_
              (repeat' (first|(with_reducible (first|apply Rt.fin|apply Rt.tL|apply Rt.tI|apply Rt.tB|apply Rt.tS|apply Rt.tP|apply Rt.tD|apply Rt.tM|apply Rt.tC|apply Rt.tN|apply Rt.tA|apply Rt.tG|apply Rt.tF|apply Rt.os|apply Rt.clS|apply Rt.jmN|apply Rt.jbN|apply Rt.jbE|apply Rt.ckR|exact Rt.some' rfl))|((with_reducible (first|apply Rt.ld0|apply Rt.ld1|apply Rt.ld2|apply Rt.ld3|apply Rt.ld4|apply Rt.ld5)); first|assumption|exact Lc.kp (by assumption) (by assumption))|((with_reducible apply Rt.ol); first|assumption|exact cell_kp (by assumption) (by assumption))|fail))
              have hne : ∀ b, (b = nb ∨ b = b0 ∨ b = xb) → ¬ On (.slice R rs.length d) b := fun b hb' h => by have := (hrowlt _ h).1; omega
              have lx6 := (lx4.kp k5).gx g6 (hne xb (by omega))
              refine Rt.st1 lx6 fun w7 lx7 g7 => ?_
              have lb7 := ((lb4.kp k5).gx g6 (hne b0 (by omega))).gx g7 hne2
              have ln7 := ((ln4.kp k5).gx g6 (hne nb (by omega))).gx g7 hne1
              have k07 : Kp w0 w7 := (((hk.tr kw4).tr k5).tx g6 (fun j hj => by have := (hrowlt _ hj).1; omega)).tx g7 fun j hj => by omega
              have o7 := o6.gx g7 (fun k _ h => .inr (.inr (Nat.le_of_eq h))) fun k hk' hv => by have := (o6.lt _ hv).1; omega
              have hs7 := g7.size
              have hs5 := k5.size
              have el : (rs ++ [(⟨kk, fk, val⟩ : OpD)]).length = rs.length + 1 := by simp
              rw [i64_in ((i : Int) + 1) (by omega), show ((i : Int) + 1) = ((i + 1 : Nat) : Int) by omega]
              refine Rt.mono (ih (i + 1) j w7 (opP zs at_).2.2 R' d' (rs ++ [⟨kk, fk, val⟩]) (by omega) (by omega) k07 (by omega) f3 lb7 ln7 (by rw [el]; exact lx7) (by omega) (by rw [el]; exact o7)) ?_
              rintro ⟨ex, vs, w8⟩ ⟨f6, ⟨f7, f8, f9⟩ | ⟨f7, f8, f9, f10, f11, f12, R2, d2, rs', f13, f14, f15⟩⟩
              · dsimp only at f6 f7 f8
                subst f7 f8
                have e9 : (opsP (q + 1) zs at_).1 = (opsP q zs (opP zs at_).2.2).1 := by rw [eq1]; unfold bindP; rw [if_neg f9]
                exact ⟨f6, .inl ⟨rfl, by rw [e9], by rw [e9]; exact f9⟩⟩
              · dsimp only at f6 f7 f9 f10 f11 f14 f15
                subst f7 f9
                have e9 : opsP (q + 1) zs at_ = (0, (opP zs at_).2.1 :: (opsP q zs (opP zs at_).2.2).2.1, (opsP q zs (opP zs at_).2.2).2.2) := by rw [eq1]; unfold bindP; rw [if_pos f8]; rfl
                refine ⟨f6, .inr ⟨rfl, by rw [e9], by rw [e9], f10, f11, by rw [e9]; exact f12, R2, d2, rs', by rw [e9, f13, f5]; simp, f14, f15⟩⟩
        · (repeat' (first|(with_reducible (first|apply Rt.fin|apply Rt.tL|apply Rt.tI|apply Rt.tB|apply Rt.tS|apply Rt.tP|apply Rt.tD|apply Rt.tM|apply Rt.tC|apply Rt.tN|apply Rt.tA|apply Rt.tG|apply Rt.tF|apply Rt.os|apply Rt.clS|apply Rt.jmN|apply Rt.jbN|apply Rt.jbE|apply Rt.ckR|exact Rt.some' rfl))|((with_reducible (first|apply Rt.ld0|apply Rt.ld1|apply Rt.ld2|apply Rt.ld3|apply Rt.ld4|apply Rt.ld5)); first|assumption|exact Lc.kp (by assumption) (by assumption))|((with_reducible apply Rt.ol); first|assumption|exact cell_kp (by assumption) (by assumption))|fail))
          refine Rt.sto2 lb2 fun w3 l3 g3 => ?_
          (repeat' (first|(with_reducible (first|apply Rt.fin|apply Rt.tL|apply Rt.tI|apply Rt.tB|apply Rt.tS|apply Rt.tP|apply Rt.tD|apply Rt.tM|apply Rt.tC|apply Rt.tN|apply Rt.tA|apply Rt.tG|apply Rt.tF|apply Rt.os|apply Rt.clS|apply Rt.jmN|apply Rt.jbN|apply Rt.jbE|apply Rt.ckR|exact Rt.some' rfl))|((with_reducible (first|apply Rt.ld0|apply Rt.ld1|apply Rt.ld2|apply Rt.ld3|apply Rt.ld4|apply Rt.ld5)); first|assumption|exact Lc.kp (by assumption) (by assumption))|((with_reducible apply Rt.ol); first|assumption|exact cell_kp (by assumption) (by assumption))|fail))
          have := errv fe (by rw [eo]; unfold bindP; rw [hF]; dsimp only; rw [if_neg hfe]) hfe
          exact Rt.some' ⟨k02.tx g3 fun j hj => by omega, .inl ⟨rfl, by rw [this], by rw [this]; exact hfe⟩⟩
end
end Go.Proofs.YtdcdgmiojlldaaaDoor.Ba
/- Batches: ReadBatch, whole; what is read is what was written. -/
namespace Go.Proofs.YtdcdgmiojlldaaaDoor.Ba
open Go Big Go.RowKit Go.IntWalk Var Low Par
set_option linter.unusedVariables false
set_option linter.unusedSimpArgs false
section
variable {α : Type} {Q : α → Prop} {n : Nat} {w w0 : World} {A B C : Option Addr} {l c m d p i : Nat} {k e : Int} {x : OpD} {xs ys : List OpD} {bs zs : List Int}
theorem allP_err {f : Pa (Int × List OpD)} {e : Int} (h : (f zs 0).1 = e) (he : e ≠ 0) : allP f zs = (e, 0, []) := by
  unfold allP; rw [if_pos (by omega), h]; rfl
open Classical in
theorem RRead_spec (hb : Bv .u8 w A l c zs) (hl : l ≤ 2 ^ 38) (hn : 2 ^ 59 < n) : Rt (butteryref1_ReadBatch n [.slice A l c] w) (RBat w (allP batchP zs)) := by
  have hzl := hb.len
  rw [butteryref1_ReadBatch_eq]
  refine Rt.fin (Rt.al fun w1 lb0 k1 s1 => Rt.al fun w2 lnb k2 s2 => ?_)
  have k02 := k1.tr k2
  have lb0 := lb0.kp k2
  -- an error: nothing is handed out
  have none_ : ∀ {w' : World} {e : Int}, allP batchP zs = (e, 0, []) → Kp w w' → Rt (some (⟨.ret, [bv 0 none 0 0, .int .i64 e], w'⟩ : Res)) (fun r => r.ex = .ret ∧ RBat w (allP batchP zs) (r.vals, r.w)) := by
    intro w' e h hk
    exact Rt.some' ⟨rfl, none, 0, w', by rw [h]; rfl, by rw [h]; exact OwnX.nil _ _ _, hk⟩
  refine Rt.cD (fun h => ?_) fun h => ?_
  · (repeat' (first|(with_reducible (first|apply Rt.fin|apply Rt.tL|apply Rt.tI|apply Rt.tB|apply Rt.tS|apply Rt.tP|apply Rt.tD|apply Rt.tM|apply Rt.tC|apply Rt.tN|apply Rt.tA|apply Rt.tG|apply Rt.tF|apply Rt.os|apply Rt.clS|apply Rt.jmN|apply Rt.jbN|apply Rt.jbE|apply Rt.ckR|exact Rt.some' rfl))|((with_reducible (first|apply Rt.ld0|apply Rt.ld1|apply Rt.ld2|apply Rt.ld3|apply Rt.ld4|apply Rt.ld5)); first|assumption|exact Lc.kp (by assumption) (by assumption))|((with_reducible apply Rt.ol); first|assumption|exact cell_kp (by assumption) (by assumption))|fail))
    refine Rt.sto2 lb0 fun w3 l3 g3 => ?_
    (repeat' (first|(with_reducible (first|apply Rt.fin|apply Rt.tL|apply Rt.tI|apply Rt.tB|apply Rt.tS|apply Rt.tP|apply Rt.tD|apply Rt.tM|apply Rt.tC|apply Rt.tN|apply Rt.tA|apply Rt.tG|apply Rt.tF|apply Rt.os|apply Rt.clS|apply Rt.jmN|apply Rt.jbN|apply Rt.jbE|apply Rt.ckR|exact Rt.some' rfl))|((with_reducible (first|apply Rt.ld0|apply Rt.ld1|apply Rt.ld2|apply Rt.ld3|apply Rt.ld4|apply Rt.ld5)); first|assumption|exact Lc.kp (by assumption) (by assumption))|((with_reducible apply Rt.ol); first|assumption|exact cell_kp (by assumption) (by assumption))|fail))
    refine none_ (allP_err ?_ (by decide)) (k02.tx g3 fun j hj => by omega)
    unfold batchP bindP
    by_cases h8 : zs.length < 0 + 8
    · have t : takeP 8 zs 0 = (4, [], 0) := by unfold takeP; rw [if_pos h8]
      rw [t]; rfl
    · have t : takeP 8 zs 0 = (0, slc zs 0 8, 0 + 8) := by unfold takeP; rw [if_neg h8]
      have t2 : takeP 4 zs (0 + 8) = (4, [], 0) := by unfold takeP; rw [if_pos (by omega)]
      rw [t]
      dsimp only
      rw [if_pos rfl, t2]; rfl
  · have t1 : takeP 8 zs 0 = (0, slc zs 0 8, 8) := by unfold takeP; rw [if_neg (by omega)]
    have t2 : takeP 4 zs 8 = (0, slc zs 8 4, 12) := by unfold takeP; rw [if_neg (by omega)]
    have eB : batchP zs 0 = (if le (slc zs 8 4) < 1 ∨ le (slc zs 8 4) > 100 ∨ ¬numC (le (slc zs 0 8)) (le (slc zs 8 4)).toNat then failP 2 else bindP (opsP (le (slc zs 8 4)).toNat) fun l => retP (le (slc zs 0 8), l)) zs 12 := by
      unfold batchP bindP
      rw [t1]
      dsimp only
      rw [if_pos rfl, t2]
      dsimp only
      rw [if_pos rfl]
    have hv8 := le8 (slc_wf hb.rng 0 8) (.inl (by simp [slc]; omega))
    have hv4 := le4 (slc_wf hb.rng 8 4) (.inl (by simp [slc]; omega))
    have g8 := Get_spec (n := n) (a := 0) (mm := 8) (hb.kp k02) (by omega) (by decide) hl (by omega)
    have g8' : butteryref1_Get n [.slice A l c, .int .i64 0, .int .i64 8] w2 = _ := g8
    rw [g8']
    generalize hs8 : le (slc zs 0 8) = s at hv8 eB
    (repeat' (first|(with_reducible (first|apply Rt.fin|apply Rt.tL|apply Rt.tI|apply Rt.tB|apply Rt.tS|apply Rt.tP|apply Rt.tD|apply Rt.tM|apply Rt.tC|apply Rt.tN|apply Rt.tA|apply Rt.tG|apply Rt.tF|apply Rt.os|apply Rt.clS|apply Rt.jmN|apply Rt.jbN|apply Rt.jbE|apply Rt.ckR|exact Rt.some' rfl))|((with_reducible (first|apply Rt.ld0|apply Rt.ld1|apply Rt.ld2|apply Rt.ld3|apply Rt.ld4|apply Rt.ld5)); first|assumption|exact Lc.kp (by assumption) (by assumption))|((with_reducible apply Rt.ol); first|assumption|exact cell_kp (by assumption) (by assumption))|fail))
    refine Rt.al2 fun w3 lxb k3 s3 => ?_
    have k03 := k02.tr k3
    have g4 := Get_spec (n := n) (a := 8) (mm := 4) (hb.kp k03) (by omega) (by decide) hl (by omega)
    have g4' : butteryref1_Get n [.slice A l c, .int .i64 8, .int .i64 4] w3 = _ := g4
    rw [g4']
    generalize hs4 : le (slc zs 8 4) = cnt at hv4 eB
    have lb3 := lb0.kp k3
    have ln3 := lnb.kp k3
    (repeat' (first|(with_reducible (first|apply Rt.fin|apply Rt.tL|apply Rt.tI|apply Rt.tB|apply Rt.tS|apply Rt.tP|apply Rt.tD|apply Rt.tM|apply Rt.tC|apply Rt.tN|apply Rt.tA|apply Rt.tG|apply Rt.tF|apply Rt.os|apply Rt.clS|apply Rt.jmN|apply Rt.jbN|apply Rt.jbE|apply Rt.ckR|exact Rt.some' rfl))|((with_reducible (first|apply Rt.ld0|apply Rt.ld1|apply Rt.ld2|apply Rt.ld3|apply Rt.ld4|apply Rt.ld5)); first|assumption|exact Lc.kp (by assumption) (by assumption))|((with_reducible apply Rt.ol); first|assumption|exact cell_kp (by assumption) (by assumption))|fail))
    refine Rt.cD (fun h1 => ?_) fun h1 => ?_
    · (repeat' (first|(with_reducible (first|apply Rt.fin|apply Rt.tL|apply Rt.tI|apply Rt.tB|apply Rt.tS|apply Rt.tP|apply Rt.tD|apply Rt.tM|apply Rt.tC|apply Rt.tN|apply Rt.tA|apply Rt.tG|apply Rt.tF|apply Rt.os|apply Rt.clS|apply Rt.jmN|apply Rt.jbN|apply Rt.jbE|apply Rt.ckR|exact Rt.some' rfl))|((with_reducible (first|apply Rt.ld0|apply Rt.ld1|apply Rt.ld2|apply Rt.ld3|apply Rt.ld4|apply Rt.ld5)); first|assumption|exact Lc.kp (by assumption) (by assumption))|((with_reducible apply Rt.ol); first|assumption|exact cell_kp (by assumption) (by assumption))|fail))
      refine Rt.sto2 lb3 fun w4 l4 g4 => ?_
      (repeat' (first|(with_reducible (first|apply Rt.fin|apply Rt.tL|apply Rt.tI|apply Rt.tB|apply Rt.tS|apply Rt.tP|apply Rt.tD|apply Rt.tM|apply Rt.tC|apply Rt.tN|apply Rt.tA|apply Rt.tG|apply Rt.tF|apply Rt.os|apply Rt.clS|apply Rt.jmN|apply Rt.jbN|apply Rt.jbE|apply Rt.ckR|exact Rt.some' rfl))|((with_reducible (first|apply Rt.ld0|apply Rt.ld1|apply Rt.ld2|apply Rt.ld3|apply Rt.ld4|apply Rt.ld5)); first|assumption|exact Lc.kp (by assumption) (by assumption))|((with_reducible apply Rt.ol); first|assumption|exact cell_kp (by assumption) (by assumption))|fail))
      exact none_ (allP_err (by rw [eB, if_pos (.inl h1)]; rfl) (by decide)) (k03.tx g4 fun j hj => by omega)
    · refine Rt.cD (fun h2 => ?_) fun h2 => ?_
      · (repeat' (first|(with_reducible (first|apply Rt.fin|apply Rt.tL|apply Rt.tI|apply Rt.tB|apply Rt.tS|apply Rt.tP|apply Rt.tD|apply Rt.tM|apply Rt.tC|apply Rt.tN|apply Rt.tA|apply Rt.tG|apply Rt.tF|apply Rt.os|apply Rt.clS|apply Rt.jmN|apply Rt.jbN|apply Rt.jbE|apply Rt.ckR|exact Rt.some' rfl))|((with_reducible (first|apply Rt.ld0|apply Rt.ld1|apply Rt.ld2|apply Rt.ld3|apply Rt.ld4|apply Rt.ld5)); first|assumption|exact Lc.kp (by assumption) (by assumption))|((with_reducible apply Rt.ol); first|assumption|exact cell_kp (by assumption) (by assumption))|fail))
        refine Rt.sto2 lb3 fun w4 l4 g4 => ?_
        (repeat' (first|(with_reducible (first|apply Rt.fin|apply Rt.tL|apply Rt.tI|apply Rt.tB|apply Rt.tS|apply Rt.tP|apply Rt.tD|apply Rt.tM|apply Rt.tC|apply Rt.tN|apply Rt.tA|apply Rt.tG|apply Rt.tF|apply Rt.os|apply Rt.clS|apply Rt.jmN|apply Rt.jbN|apply Rt.jbE|apply Rt.ckR|exact Rt.some' rfl))|((with_reducible (first|apply Rt.ld0|apply Rt.ld1|apply Rt.ld2|apply Rt.ld3|apply Rt.ld4|apply Rt.ld5)); first|assumption|exact Lc.kp (by assumption) (by assumption))|((with_reducible apply Rt.ol); first|assumption|exact cell_kp (by assumption) (by assumption))|fail))
        exact none_ (allP_err (by rw [eB, if_pos (.inr (.inl h2))]; rfl) (by decide)) (k03.tx g4 fun j hj => by omega)
      · (repeat' (first|(with_reducible (first|apply Rt.fin|apply Rt.tL|apply Rt.tI|apply Rt.tB|apply Rt.tS|apply Rt.tP|apply Rt.tD|apply Rt.tM|apply Rt.tC|apply Rt.tN|apply Rt.tA|apply Rt.tG|apply Rt.tF|apply Rt.os|apply Rt.clS|apply Rt.jmN|apply Rt.jbN|apply Rt.jbE|apply Rt.ckR|exact Rt.some' rfl))|((with_reducible (first|apply Rt.ld0|apply Rt.ld1|apply Rt.ld2|apply Rt.ld3|apply Rt.ld4|apply Rt.ld5)); first|assumption|exact Lc.kp (by assumption) (by assumption))|((with_reducible apply Rt.ol); first|assumption|exact cell_kp (by assumption) (by assumption))|fail))
        have hcn : IntKind.i64.wrap cnt = ((cnt.toNat : Nat) : Int) := by rw [i64_in _ (by omega)]; omega
        rw [hcn]
        refine Rt.cBo (Rnumbered_spec hv8 (by omega) (by omega)) fun b w4 hb4 k4 => ?_
        have k04 := k03.tr k4
        have lb4 := lb3.kp k4
        have ln4 := ln3.kp k4
        have lx4 := lxb.kp k4
        have hs1 := k1.size
        have hs2 := k2.size
        have hs3 := k3.size
        have hs4' := k4.size
        cases b with
        | false =>
          refine Rt.cT rfl ?_
          (repeat' (first|(with_reducible (first|apply Rt.fin|apply Rt.tL|apply Rt.tI|apply Rt.tB|apply Rt.tS|apply Rt.tP|apply Rt.tD|apply Rt.tM|apply Rt.tC|apply Rt.tN|apply Rt.tA|apply Rt.tG|apply Rt.tF|apply Rt.os|apply Rt.clS|apply Rt.jmN|apply Rt.jbN|apply Rt.jbE|apply Rt.ckR|exact Rt.some' rfl))|((with_reducible (first|apply Rt.ld0|apply Rt.ld1|apply Rt.ld2|apply Rt.ld3|apply Rt.ld4|apply Rt.ld5)); first|assumption|exact Lc.kp (by assumption) (by assumption))|((with_reducible apply Rt.ol); first|assumption|exact cell_kp (by assumption) (by assumption))|fail))
          refine Rt.sto2 lb4 fun w5 l5 g5 => ?_
          (repeat' (first|(with_reducible (first|apply Rt.fin|apply Rt.tL|apply Rt.tI|apply Rt.tB|apply Rt.tS|apply Rt.tP|apply Rt.tD|apply Rt.tM|apply Rt.tC|apply Rt.tN|apply Rt.tA|apply Rt.tG|apply Rt.tF|apply Rt.os|apply Rt.clS|apply Rt.jmN|apply Rt.jbN|apply Rt.jbE|apply Rt.ckR|exact Rt.some' rfl))|((with_reducible (first|apply Rt.ld0|apply Rt.ld1|apply Rt.ld2|apply Rt.ld3|apply Rt.ld4|apply Rt.ld5)); first|assumption|exact Lc.kp (by assumption) (by assumption))|((with_reducible apply Rt.ol); first|assumption|exact cell_kp (by assumption) (by assumption))|fail))
          exact none_ (allP_err (by rw [eB, if_pos (.inr (.inr fun h' => by simpa using hb4.2 h'))]; rfl) (by decide)) (k04.tx g5 fun j hj => by omega)
        | true =>
          have hnum := hb4.1 rfl
          have eB2 : batchP zs 0 = bindP (opsP cnt.toNat) (fun l => retP (s, l)) zs 12 := by
            rw [eB, if_neg (by rintro (h | h | h); exact h1 h; exact h2 h; exact h hnum)]
          have hcn2 : ((cnt.toNat : Nat) : Int) = cnt := by omega
          refine Rt.cF rfl ?_
          have hl0 := RRead_l0 (n := n) (w0 := w) (nb := w1.heap.size) (b0 := w.heap.size) (xb := w2.heap.size) (base := w4.heap.size) (nn := cnt.toNat) (s := s) hb hl hn (by omega) (by omega) (by omega) (by omega) (by omega) (by omega) (by omega) (by omega) (by omega) (by omega)
            cnt.toNat 0 n w4 12 none 0 [] (by omega) (by omega) k04 (Nat.le_refl _) (by omega) lb4 ln4 lx4 (by simp) (OwnX.nil _ _ _)
          rw [hcn2] at hl0
          refine Rt.jb (Rt.mono hl0 ?_)
          rintro ⟨ex, vs, w5⟩ ⟨f6, ⟨f7, f8, f9⟩ | ⟨f7, f8, f9, f10, f11, f12, R2, d2, rs', f13, f14, f15⟩⟩
          · dsimp only at f6 f7 f8
            subst f7 f8
            have e9 : (batchP zs 0).1 = (opsP cnt.toNat zs 12).1 := by rw [eB2]; unfold bindP; rw [if_neg f9]
            refine .inr ⟨rfl, rfl, ?_⟩
            have := allP_err e9 f9
            exact ⟨none, 0, w5, by rw [this]; rfl, by rw [this]; exact OwnX.nil _ _ _, f6⟩
          · dsimp only at f6 f7 f9 f10 f11 f14 f15
            subst f7 f9
            rw [List.nil_append] at f13
            have e9 : batchP zs 0 = (0, (s, rs'), (opsP cnt.toNat zs 12).2.2) := by rw [eB2]; unfold bindP; rw [if_pos f8, f13]; rfl
            refine .inl ⟨.inr rfl, ?_⟩
            dsimp only
            (repeat' (first|(with_reducible (first|apply Rt.fin|apply Rt.tL|apply Rt.tI|apply Rt.tB|apply Rt.tS|apply Rt.tP|apply Rt.tD|apply Rt.tM|apply Rt.tC|apply Rt.tN|apply Rt.tA|apply Rt.tG|apply Rt.tF|apply Rt.os|apply Rt.clS|apply Rt.jmN|apply Rt.jbN|apply Rt.jbE|apply Rt.ckR|exact Rt.some' rfl))|((with_reducible (first|apply Rt.ld0|apply Rt.ld1|apply Rt.ld2|apply Rt.ld3|apply Rt.ld4|apply Rt.ld5)); first|assumption|exact Lc.kp (by assumption) (by assumption))|((with_reducible apply Rt.ol); first|assumption|exact cell_kp (by assumption) (by assumption))|fail))
            refine Rt.cN (fun h0 => ?_) fun h0 => ?_
            · have e10 : allP batchP zs = (0, s, rs') := by unfold allP; rw [e9]; dsimp only; rw [if_neg (by simp), if_neg (by omega)]
              (repeat' (first|(with_reducible (first|apply Rt.fin|apply Rt.tL|apply Rt.tI|apply Rt.tB|apply Rt.tS|apply Rt.tP|apply Rt.tD|apply Rt.tM|apply Rt.tC|apply Rt.tN|apply Rt.tA|apply Rt.tG|apply Rt.tF|apply Rt.os|apply Rt.clS|apply Rt.jmN|apply Rt.jbN|apply Rt.jbE|apply Rt.ckR|exact Rt.some' rfl))|((with_reducible (first|apply Rt.ld0|apply Rt.ld1|apply Rt.ld2|apply Rt.ld3|apply Rt.ld4|apply Rt.ld5)); first|assumption|exact Lc.kp (by assumption) (by assumption))|((with_reducible apply Rt.ol); first|assumption|exact cell_kp (by assumption) (by assumption))|fail))
              refine Rt.sto2 f10 fun w6 l6 g6 => ?_
              (repeat' (first|(with_reducible (first|apply Rt.fin|apply Rt.tL|apply Rt.tI|apply Rt.tB|apply Rt.tS|apply Rt.tP|apply Rt.tD|apply Rt.tM|apply Rt.tC|apply Rt.tN|apply Rt.tA|apply Rt.tG|apply Rt.tF|apply Rt.os|apply Rt.clS|apply Rt.jmN|apply Rt.jbN|apply Rt.jbE|apply Rt.ckR|exact Rt.some' rfl))|((with_reducible (first|apply Rt.ld0|apply Rt.ld1|apply Rt.ld2|apply Rt.ld3|apply Rt.ld4|apply Rt.ld5)); first|assumption|exact Lc.kp (by assumption) (by assumption))|((with_reducible apply Rt.ol); first|assumption|exact cell_kp (by assumption) (by assumption))|fail))
              refine Rt.some' ⟨rfl, R2, d2, w6, by rw [e10], ?_, f6.tx g6 fun j hj => by omega⟩
              rw [e10]
              have hX := f15.gx g6 (fun k _ h => .inr (.inl (Nat.le_of_eq h))) fun k hk hv => by have h' : k = w.heap.size := hk; have := (f15.lt _ hv).1; omega
              exact OwnX.mono (OwnX.less hX fun k (hk : k < w.heap.size) => .inr (.inl (Nat.le_of_lt hk))) (by omega)
            · have e10 : allP batchP zs = (2, 0, []) := by unfold allP; rw [e9]; dsimp only; rw [if_neg (by simp), if_pos (by omega)]; rfl
              (repeat' (first|(with_reducible (first|apply Rt.fin|apply Rt.tL|apply Rt.tI|apply Rt.tB|apply Rt.tS|apply Rt.tP|apply Rt.tD|apply Rt.tM|apply Rt.tC|apply Rt.tN|apply Rt.tA|apply Rt.tG|apply Rt.tF|apply Rt.os|apply Rt.clS|apply Rt.jmN|apply Rt.jbN|apply Rt.jbE|apply Rt.ckR|exact Rt.some' rfl))|((with_reducible (first|apply Rt.ld0|apply Rt.ld1|apply Rt.ld2|apply Rt.ld3|apply Rt.ld4|apply Rt.ld5)); first|assumption|exact Lc.kp (by assumption) (by assumption))|((with_reducible apply Rt.ol); first|assumption|exact cell_kp (by assumption) (by assumption))|fail))
              refine Rt.sto2 f10 fun w6 l6 g6 => ?_
              (repeat' (first|(with_reducible (first|apply Rt.fin|apply Rt.tL|apply Rt.tI|apply Rt.tB|apply Rt.tS|apply Rt.tP|apply Rt.tD|apply Rt.tM|apply Rt.tC|apply Rt.tN|apply Rt.tA|apply Rt.tG|apply Rt.tF|apply Rt.os|apply Rt.clS|apply Rt.jmN|apply Rt.jbN|apply Rt.jbE|apply Rt.ckR|exact Rt.some' rfl))|((with_reducible (first|apply Rt.ld0|apply Rt.ld1|apply Rt.ld2|apply Rt.ld3|apply Rt.ld4|apply Rt.ld5)); first|assumption|exact Lc.kp (by assumption) (by assumption))|((with_reducible apply Rt.ol); first|assumption|exact cell_kp (by assumption) (by assumption))|fail))
              exact none_ e10 (f6.tx g6 fun j hj => by omega)
theorem good_field (a b : Int) : Par.Good (fieldP a b) := Par.Good.bind Par.Good.num fun n => Par.Good.ite (Par.Good.fail (by decide)) (Par.Good.take _)
theorem good_op : Par.Good opP := Par.Good.bind (Par.Good.take 1) fun b => Par.Good.ite (Par.Good.fail (by decide)) (Par.Good.bind (good_field 1 256) fun key => Par.Good.ite (Par.Good.bind (good_field 0 4096) fun v => Par.Good.ret _) (Par.Good.ret _))
theorem good_ops : ∀ n : Nat, Par.Good (opsP n)
  | 0 => Par.Good.ret _
  | n + 1 => Par.Good.bind good_op fun o => Par.Good.bind (good_ops n) fun l => Par.Good.ret _
theorem enc_field {a b : Int} {v : List Int} (h1 : a ≤ v.length) (h2 : (v.length : Int) ≤ b) (h3 : v.length < 2 ^ 63) : Enc (fieldP a b) v (enc v.length ++ v) := by
  have h := Enc.num (x := (v.length : Int)) (by omega)
  rw [Int.toNat_natCast] at h
  refine Enc.bind h ?_
  rw [if_neg (by omega), Int.toNat_natCast]
  exact Enc.take rfl
theorem enc_op {o : OpD} (h : rightO o) : Enc opP o (encO o) := by
  unfold rightO at h
  obtain ⟨hk, h1, h2, h3⟩ := h
  have e0 : o.kind % 256 = o.kind := by omega
  unfold encO
  rw [e0, List.append_assoc, List.append_assoc, ← List.append_assoc (enc o.key.length)]
  refine Enc.bind (Enc.take rfl) ?_
  have ed : [o.kind].getD 0 0 = o.kind := rfl
  rw [ed, if_neg (by omega)]
  refine Enc.bind (enc_field (by omega) (by omega) (by omega)) ?_
  by_cases hk1 : o.kind = 1
  · rw [if_pos hk1, if_pos hk1]
    have := Enc.bind (g := fun v => retP (⟨1, o.key, v⟩ : OpD)) (enc_field (a := 0) (b := 4096) (v := o.val) (by omega) (by omega) (by omega)) (Enc.ret _)
    rw [List.append_nil] at this
    have eo : (⟨1, o.key, o.val⟩ : OpD) = o := by rw [← hk1]
    rw [eo] at this
    exact this
  · rw [if_neg hk1, if_neg hk1]
    have hv : o.val = [] := List.length_eq_zero_iff.1 (by omega)
    have eo : (⟨o.kind, o.key, []⟩ : OpD) = o := by rw [← hv]
    rw [eo]
    exact Enc.ret _
theorem enc_ops : ∀ {l : List OpD}, (∀ o ∈ l, rightO o) → Enc (opsP l.length) l (bodyB l)
  | [], _ => Enc.ret _
  | o :: l, h => by
    have e : bodyB (o :: l) = encO o ++ (bodyB l ++ []) := by simp [bodyB]
    rw [e]
    exact Enc.bind (enc_op (h o List.mem_cons_self)) (Enc.bind (enc_ops fun x hx => h x (List.mem_cons_of_mem _ hx)) (Enc.ret _))
open Classical in
theorem enc_batch {s : Int} {l : List OpD} (hs : 0 ≤ s ∧ s < 2 ^ 64) (hc : checkC l = 0) (hn : numC s l.length) : Enc batchP (s, l) (encB s l) := by
  obtain ⟨c1, c2, c3⟩ := checkC_ok.1 hc
  have e8 : le (lowB 8 s) = s := le_lowB 8 hs.1 (by omega)
  have e4 : le (lowB 4 (l.length : Int)) = l.length := le_lowB 4 (by omega) (by omega)
  have e : encB s l = lowB 8 s ++ (lowB 4 l.length ++ (bodyB l ++ [])) := by simp [encB]
  rw [e]
  unfold batchP
  refine Enc.bind (Enc.take (lowB_len _ _)) (Enc.bind (Enc.take (lowB_len _ _)) ?_)
  rw [e8, e4, Int.toNat_natCast, if_neg (by rintro (h | h | h); omega; omega; exact h hn)]
  exact Enc.bind (enc_ops c3) (Enc.ret _)
theorem can_field (a b : Int) (ha : 0 ≤ a) : Par.Can (fieldP a b) fun v bs => bs = enc v.length ++ v ∧ a ≤ v.length ∧ (v.length : Int) ≤ b ∧ Bytes v := by
  refine Par.Can.bind (fun n v bs => (bs = v ∧ v.length = n.toNat ∧ Bytes v) ∧ a ≤ n ∧ n ≤ b) Par.Can.num (fun n => ?_) ?_
  · exact Par.Can.ite (Par.Can.fail (by decide) fun _ _ => False) (Par.Can.take _) (fun _ _ _ h => h.elim) fun hc v bs h => ⟨h, by omega, by omega⟩
  · rintro n v p q ⟨h1, rfl⟩ ⟨⟨rfl, h3, h4⟩, h5, h6⟩
    exact ⟨by rw [h3], by omega, by omega, h4⟩
theorem can_op : Par.Can opP fun o bs => bs = encO o ∧ rightO o ∧ Bytes o.key ∧ Bytes o.val := by
  refine Par.Can.bind (fun b o bs => b.length = 1 → Bytes b → b ++ bs = encO o ∧ rightO o ∧ Bytes o.key ∧ Bytes o.val) (Par.Can.take 1) (fun b => ?_) ?_
  · refine Par.Can.ite (Par.Can.fail (by decide) fun _ _ => False) (Par.Can.bind (fun key o bs => 1 ≤ key.length → key.length ≤ 256 → Bytes key → b.length = 1 → Bytes b → ¬ b.getD 0 0 > 1 → b ++ (enc key.length ++ key) ++ bs = encO o ∧ rightO o ∧ Bytes o.key ∧ Bytes o.val) (can_field 1 256 (by decide)) (fun key => ?_) ?_) (fun _ _ _ h => h.elim) ?_ (F := fun o bs => b.length = 1 → Bytes b → ¬ b.getD 0 0 > 1 → b ++ bs = encO o ∧ rightO o ∧ Bytes o.key ∧ Bytes o.val)
    · refine Par.Can.ite (Par.Can.bind (fun v o bs => o = ⟨1, key, v⟩ ∧ bs = []) (can_field 0 4096 (by decide)) (fun v => Par.Can.ret _) (F := fun o bs => ∃ v, o = ⟨1, key, v⟩ ∧ bs = enc v.length ++ v ∧ (v.length : Int) ≤ 4096 ∧ Bytes v) ?_) (Par.Can.ret _) ?_ ?_
      · rintro v o p q ⟨rfl, _, h2, h3⟩ ⟨rfl, rfl⟩
        exact ⟨v, rfl, by simp, h2, h3⟩
      · rintro hk o bs ⟨v, rfl, rfl, h2, h3⟩ h4 h5 h6 h7 h8 h9
        match b, h7 with
        | [z], _ =>
          have hz : z = 1 := hk
          subst hz
          refine ⟨?_, ⟨.inr rfl, h4, h5, by show v.length ≤ 4096; omega⟩, h6, h3⟩
          simp [encO]
      · rintro hk o bs ⟨rfl, rfl⟩ h4 h5 h6 h7 h8 h9
        match b, h7 with
        | [z], _ =>
          have hz := u8wf (h8 z List.mem_cons_self)
          have hk : ¬ z = 1 := hk
          have h9 : ¬ z > 1 := h9
          have hz0 : z = 0 := by omega
          subst hz0
          refine ⟨?_, ⟨.inl ⟨rfl, rfl⟩, h4, h5, by simp⟩, h6, bnil⟩
          simp [encO]
    · rintro key o p q ⟨rfl, h1, h2, h3⟩ h4 h5 h6 h7
      have := h4 (by omega) (by omega) h3 h5 h6 h7
      rwa [List.append_assoc] at this
    · intro hk o bs h h1 h2
      exact h h1 h2 hk
  · rintro b o p q ⟨rfl, h1, h2⟩ h
    exact h h1 h2
theorem can_ops : ∀ n : Nat, Par.Can (opsP n) fun l bs => l.length = n ∧ bs = bodyB l ∧ ∀ o ∈ l, rightO o
  | 0 => Par.Can.mono (Par.Can.ret _) fun l p ⟨h1, h2⟩ => by subst h1 h2; exact ⟨rfl, rfl, by simp⟩
  | n + 1 => by
    refine Par.Can.bind (fun o l bs => ∃ t, l = o :: t ∧ t.length = n ∧ bs = bodyB t ∧ ∀ x ∈ t, rightO x) can_op (fun o => ?_) ?_
    · refine Par.Can.bind (fun t l bs => l = o :: t ∧ bs = []) (can_ops n) (fun t => Par.Can.ret _) ?_
      rintro t l p q ⟨h1, h2, h3⟩ ⟨rfl, rfl⟩
      exact ⟨t, rfl, h1, by simp [h2], h3⟩
    · rintro o l p q ⟨rfl, h1, _⟩ ⟨t, rfl, h3, rfl, h5⟩
      refine ⟨by simp [h3], by simp [bodyB], fun x hx => ?_⟩
      rcases List.mem_cons.1 hx with rfl | hx
      · exact h1
      · exact h5 x hx
open Classical in
theorem can_batch : Par.Can batchP fun x bs => bs = encB x.1 x.2 ∧ checkC x.2 = 0 ∧ numC x.1 x.2.length ∧ (0 ≤ x.1 ∧ x.1 < 2 ^ 64) := by
  unfold batchP
  refine Par.Can.bind (fun a x bs => a.length = 8 → Bytes a → a ++ bs = encB x.1 x.2 ∧ checkC x.2 = 0 ∧ numC x.1 x.2.length ∧ (0 ≤ x.1 ∧ x.1 < 2 ^ 64)) (Par.Can.take 8) (fun a => ?_) ?_
  · refine Par.Can.bind (fun b x bs => b.length = 4 → Bytes b → a.length = 8 → Bytes a → a ++ (b ++ bs) = encB x.1 x.2 ∧ checkC x.2 = 0 ∧ numC x.1 x.2.length ∧ (0 ≤ x.1 ∧ x.1 < 2 ^ 64)) (Par.Can.take 4) (fun b => ?_) ?_
    · refine Par.Can.ite (Par.Can.fail (by decide) fun _ _ => False) (Par.Can.bind (fun l x bs => x = (le a, l) ∧ bs = []) (can_ops _) (fun l => Par.Can.ret _) (F := fun x bs => ∃ l : List OpD, x = (le a, l) ∧ bs = bodyB l ∧ l.length = (le b).toNat ∧ ∀ o ∈ l, rightO o) ?_) (fun _ _ _ h => h.elim) ?_
      · rintro l x p q ⟨h1, rfl, h3⟩ ⟨rfl, rfl⟩
        exact ⟨l, rfl, by simp, h1, h3⟩
      · rintro hc x bs ⟨l, rfl, rfl, h3, h4⟩ h5 h6 h7 h8
        have hc1 : ¬ le b < 1 := fun h => hc (.inl h)
        have hc2 : ¬ le b > 100 := fun h => hc (.inr (.inl h))
        have hc3 : numC (le a) (le b).toNat := Classical.not_not.1 fun h => hc (.inr (.inr h))
        have ha := le8 h8 (.inl h7)
        refine ⟨?_, checkC_ok.2 ⟨by show 1 ≤ l.length; omega, by show l.length ≤ 100; omega, h4⟩, by show numC (le a) l.length; rw [h3]; exact hc3, ha⟩
        show a ++ (b ++ bodyB l) = encB (le a) l
        have e1 := lowB_le h8
        have e2 := lowB_le h6
        rw [h7] at e1
        rw [h5] at e2
        rw [encB, e1, show (l.length : Int) = le b by omega, e2, List.append_assoc]
    · rintro b x p q ⟨rfl, h1, h2⟩ h h3 h4
      exact h h1 h2 h3 h4
  · rintro a x p q ⟨rfl, h1, h2⟩ h
    exact h h1 h2
end
end Go.Proofs.YtdcdgmiojlldaaaDoor.Ba
/- Batches: the laws of bytes. -/
namespace Go.Proofs.YtdcdgmiojlldaaaDoor.Ba
open Go Big Go.RowKit Go.IntWalk Var Low Par
set_option linter.unusedVariables false
set_option linter.unusedSimpArgs false
section
variable {α : Type} {Q : α → Prop} {n : Nat} {w w0 : World} {A B C : Option Addr} {l c m d p i : Nat} {k e s s' : Int} {x : OpD} {xs ys : List OpD} {bs zs : List Int}
theorem SameOps_l0 (hx : Ev opEl w A l c xs) (hy : Ev opEl w B l d ys) (hl : l < 2 ^ 62) : ∀ (q i j : Nat) (w' : World), i + q = l → q < j → Kp w w' → (xs.take i = ys.take i) →
    Rt (butteryref1_SameOps.l0 n j A l c B l d (i : Int) w') fun r => Kp w r.w ∧ (r.ex = .exit 0 ∧ r.vals = [] ∧ xs = ys ∨ r.ex = .ret ∧ r.vals = [.bool false] ∧ xs ≠ ys) := by
  intro q
  have hxl := hx.len
  have hyl := hy.len
  induction q with
  | zero =>
    intro i j w' hi hj hk hr
    obtain ⟨j, rfl⟩ : ∃ j', j = j' + 1 := ⟨j - 1, by omega⟩
    rw [butteryref1_SameOps.l0_succ]
    exact Rt.cDF (by omega) (Rt.some' ⟨hk, .inl ⟨rfl, rfl, by rwa [List.take_of_length_le (by omega), List.take_of_length_le (by omega)] at hr⟩⟩)
  | succ q ih =>
    intro i j w' hi hj hk hr
    obtain ⟨j, rfl⟩ : ∃ j', j = j' + 1 := ⟨j - 1, by omega⟩
    rw [butteryref1_SameOps.l0_succ]
    have hkd := hk.dr
    have same : ∀ {a a' : OpD}, xs[i]? = some a → xs[(i : Int).toNat]? = some a' → a' = a := fun h1 h2 => by rw [Int.toNat_natCast, h1] at h2; injection h2 with h2; exact h2.symm
    have same' : ∀ {a a' : OpD}, ys[i]? = some a → ys[(i : Int).toNat]? = some a' → a' = a := fun h1 h2 => by rw [Int.toNat_natCast, h1] at h2; injection h2 with h2; exact h2.symm
    have hne : ∀ {a b : OpD}, xs[i]? = some a → ys[i]? = some b → a ≠ b → xs ≠ ys := fun h1 h2 h3 h => by subst h; rw [h1] at h2; injection h2 with h2; exact h3 h2
    refine Rt.cDT (by omega) (Rt.ixO hx.sl (by omega) (by omega) fun x a k1 K kl kc V vl vc ex hv c0 c1 c2 => ?_)
    rw [Int.toNat_natCast] at ex
    (repeat' (first|(with_reducible (first|apply Rt.fin|apply Rt.tL|apply Rt.tI|apply Rt.tB|apply Rt.tS|apply Rt.tP|apply Rt.tD|apply Rt.tM|apply Rt.tC|apply Rt.tN|apply Rt.tA|apply Rt.tG|apply Rt.tF|apply Rt.os|apply Rt.clS|apply Rt.jmN|apply Rt.jbN|apply Rt.jbE|apply Rt.ckR|exact Rt.some' rfl))|((with_reducible (first|apply Rt.ld0|apply Rt.ld1|apply Rt.ld2|apply Rt.ld3|apply Rt.ld4|apply Rt.ld5)); first|assumption|exact Lc.kp (by assumption) (by assumption))|((with_reducible apply Rt.ol); first|assumption|exact cell_kp (by assumption) (by assumption))|fail))
    refine Rt.ixO hy.sl (by omega) (by omega) fun y a' k2 K' kl' kc' V' vl' vc' ey hv' c0' c1' c2' => ?_
    rw [Int.toNat_natCast] at ey
    have h1 := hv.kind
    have h2 := hv'.kind
    (repeat' (first|(with_reducible (first|apply Rt.fin|apply Rt.tL|apply Rt.tI|apply Rt.tB|apply Rt.tS|apply Rt.tP|apply Rt.tD|apply Rt.tM|apply Rt.tC|apply Rt.tN|apply Rt.tA|apply Rt.tG|apply Rt.tF|apply Rt.os|apply Rt.clS|apply Rt.jmN|apply Rt.jbN|apply Rt.jbE|apply Rt.ckR|exact Rt.some' rfl))|((with_reducible (first|apply Rt.ld0|apply Rt.ld1|apply Rt.ld2|apply Rt.ld3|apply Rt.ld4|apply Rt.ld5)); first|assumption|exact Lc.kp (by assumption) (by assumption))|((with_reducible apply Rt.ol); first|assumption|exact cell_kp (by assumption) (by assumption))|fail))
    refine Rt.cN (fun hkk => ?_) fun hkk => Rt.some' ⟨hkd, .inr ⟨rfl, rfl, hne ex ey fun h => by subst h; omega⟩⟩
    clear c0 c1 c2 c0' c1' c2'
    refine Rt.ixO hx.sl (by omega) (by omega) fun x2 b k3 K2 kl2 kc2 V2 vl2 vc2 ex2 hv2 c0 c1 c2 => ?_
    obtain rfl := same ex ex2
    (repeat' (first|(with_reducible (first|apply Rt.fin|apply Rt.tL|apply Rt.tI|apply Rt.tB|apply Rt.tS|apply Rt.tP|apply Rt.tD|apply Rt.tM|apply Rt.tC|apply Rt.tN|apply Rt.tA|apply Rt.tG|apply Rt.tF|apply Rt.os|apply Rt.clS|apply Rt.jmN|apply Rt.jbN|apply Rt.jbE|apply Rt.ckR|exact Rt.some' rfl))|((with_reducible (first|apply Rt.ld0|apply Rt.ld1|apply Rt.ld2|apply Rt.ld3|apply Rt.ld4|apply Rt.ld5)); first|assumption|exact Lc.kp (by assumption) (by assumption))|((with_reducible apply Rt.ol); first|assumption|exact cell_kp (by assumption) (by assumption))|fail))
    refine Rt.str (hv2.key.kp hkd) ?_
    refine Rt.ixO hy.sl (by omega) (by omega) fun y2 b' k4 K2' kl2' kc2' V2' vl2' vc2' ey2 hv2' c0' c1' c2' => ?_
    obtain rfl := same' ey ey2
    (repeat' (first|(with_reducible (first|apply Rt.fin|apply Rt.tL|apply Rt.tI|apply Rt.tB|apply Rt.tS|apply Rt.tP|apply Rt.tD|apply Rt.tM|apply Rt.tC|apply Rt.tN|apply Rt.tA|apply Rt.tG|apply Rt.tF|apply Rt.os|apply Rt.clS|apply Rt.jmN|apply Rt.jbN|apply Rt.jbE|apply Rt.ckR|exact Rt.some' rfl))|((with_reducible (first|apply Rt.ld0|apply Rt.ld1|apply Rt.ld2|apply Rt.ld3|apply Rt.ld4|apply Rt.ld5)); first|assumption|exact Lc.kp (by assumption) (by assumption))|((with_reducible apply Rt.ol); first|assumption|exact cell_kp (by assumption) (by assumption))|fail))
    refine Rt.str (hv2'.key.kp hkd) (Rt.cSn hv2.key.rng hv2'.key.rng (fun hkey => ?_) fun h => Rt.some' ⟨hkd, .inr ⟨rfl, rfl, hne ex ey fun h' => h (by rw [h'])⟩⟩)
    clear c0 c1 c2 c0' c1' c2'
    refine Rt.ixO hx.sl (by omega) (by omega) fun x3 b3 k5 K3 kl3 kc3 V3 vl3 vc3 ex3 hv3 c0 c1 c2 => ?_
    obtain rfl := same ex ex3
    (repeat' (first|(with_reducible (first|apply Rt.fin|apply Rt.tL|apply Rt.tI|apply Rt.tB|apply Rt.tS|apply Rt.tP|apply Rt.tD|apply Rt.tM|apply Rt.tC|apply Rt.tN|apply Rt.tA|apply Rt.tG|apply Rt.tF|apply Rt.os|apply Rt.clS|apply Rt.jmN|apply Rt.jbN|apply Rt.jbE|apply Rt.ckR|exact Rt.some' rfl))|((with_reducible (first|apply Rt.ld0|apply Rt.ld1|apply Rt.ld2|apply Rt.ld3|apply Rt.ld4|apply Rt.ld5)); first|assumption|exact Lc.kp (by assumption) (by assumption))|((with_reducible apply Rt.ol); first|assumption|exact cell_kp (by assumption) (by assumption))|fail))
    refine Rt.str (hv3.val.kp hkd) ?_
    refine Rt.ixO hy.sl (by omega) (by omega) fun y3 b3' k6 K3' kl3' kc3' V3' vl3' vc3' ey3 hv3' c0' c1' c2' => ?_
    obtain rfl := same' ey ey3
    (repeat' (first|(with_reducible (first|apply Rt.fin|apply Rt.tL|apply Rt.tI|apply Rt.tB|apply Rt.tS|apply Rt.tP|apply Rt.tD|apply Rt.tM|apply Rt.tC|apply Rt.tN|apply Rt.tA|apply Rt.tG|apply Rt.tF|apply Rt.os|apply Rt.clS|apply Rt.jmN|apply Rt.jbN|apply Rt.jbE|apply Rt.ckR|exact Rt.some' rfl))|((with_reducible (first|apply Rt.ld0|apply Rt.ld1|apply Rt.ld2|apply Rt.ld3|apply Rt.ld4|apply Rt.ld5)); first|assumption|exact Lc.kp (by assumption) (by assumption))|((with_reducible apply Rt.ol); first|assumption|exact cell_kp (by assumption) (by assumption))|fail))
    refine Rt.str (hv3'.val.kp hkd) (Rt.cSn hv3.val.rng hv3'.val.rng (fun hval => ?_) fun h => Rt.some' ⟨hkd, .inr ⟨rfl, rfl, hne ex ey fun h' => h (by rw [h'])⟩⟩)
    rw [i64_in _ (by omega), show ((i : Int) + 1) = ((i + 1 : Nat) : Int) by omega]
    refine ih (i + 1) j _ (by omega) (by omega) hkd ?_
    rw [List.take_add_one, List.take_add_one, hr, ex, ey]
    congr 1
    have : x3 = y3 := by
      obtain ⟨xk, xkey, xval⟩ := x3
      obtain ⟨yk, ykey, yval⟩ := y3
      simp only at hkey hval h1 h2
      subst hkey hval
      congr 1
      omega
    rw [this]
theorem SameOps_spec (hx : Ev opEl w A l c xs) (hy : Ev opEl w B m d ys) (hl : l < 2 ^ 62) (hn : l < n) : Rt (butteryref1_SameOps n [.slice A l c, .slice B m d] w) (RB (xs = ys) w) := by
  have hxl := hx.len
  have hyl := hy.len
  rw [butteryref1_SameOps_eq]
  refine Rt.fin (Rt.cN (fun h => ?_) fun h => Rt.endB (by simp; intro h'; subst h'; omega) (Kp.rfl' w))
  obtain rfl : l = m := by omega
  refine Rt.jb (Rt.mono (SameOps_l0 (n := n) hx hy hl l 0 n w (by omega) (by omega) (Kp.rfl' w) (by simp)) ?_)
  rintro ⟨ex, vs, w1⟩ ⟨k1, ⟨h3, h4, h5⟩ | ⟨h3, h4, h5⟩⟩
  · dsimp only at h3 h4 k1
    subst h3 h4
    refine .inl ⟨.inr rfl, ?_⟩
    (repeat' (first|(with_reducible (first|apply Rt.fin|apply Rt.tL|apply Rt.tI|apply Rt.tB|apply Rt.tS|apply Rt.tP|apply Rt.tD|apply Rt.tM|apply Rt.tC|apply Rt.tN|apply Rt.tA|apply Rt.tG|apply Rt.tF|apply Rt.os|apply Rt.clS|apply Rt.jmN|apply Rt.jbN|apply Rt.jbE|apply Rt.ckR|exact Rt.some' rfl))|((with_reducible (first|apply Rt.ld0|apply Rt.ld1|apply Rt.ld2|apply Rt.ld3|apply Rt.ld4|apply Rt.ld5)); first|assumption|exact Lc.kp (by assumption) (by assumption))|((with_reducible apply Rt.ol); first|assumption|exact cell_kp (by assumption) (by assumption))|fail))
    exact Rt.endB (by simp [h5]) k1
  · dsimp only at h3 h4 k1
    subst h3 h4
    exact .inr ⟨rfl, rfl, false, w1, rfl, ⟨fun h => by simp at h, fun h => absurd h h5⟩, k1⟩
theorem SameBatch_spec (hx : Ev opEl w A l c xs) (hy : Ev opEl w B m d ys) (hl : l < 2 ^ 62) (hn : l < n) : Rt (butteryref1_SameBatch n [bv s A l c, bv s' B m d] w) (RB (s = s' ∧ xs = ys) w) := by
  rw [butteryref1_SameBatch_eq]
  refine Rt.fin (Rt.al fun w1 l1 k1 s1 => Rt.al fun w2 l2 k2 s2 => ?_)
  have l1 := l1.kp k2
  have k12 := k1.tr k2
  (repeat' (first|(with_reducible (first|apply Rt.fin|apply Rt.tL|apply Rt.tI|apply Rt.tB|apply Rt.tS|apply Rt.tP|apply Rt.tD|apply Rt.tM|apply Rt.tC|apply Rt.tN|apply Rt.tA|apply Rt.tG|apply Rt.tF|apply Rt.os|apply Rt.clS|apply Rt.jmN|apply Rt.jbN|apply Rt.jbE|apply Rt.ckR|exact Rt.some' rfl))|((with_reducible (first|apply Rt.ld0|apply Rt.ld1|apply Rt.ld2|apply Rt.ld3|apply Rt.ld4|apply Rt.ld5)); first|assumption|exact Lc.kp (by assumption) (by assumption))|((with_reducible apply Rt.ol); first|assumption|exact cell_kp (by assumption) (by assumption))|fail))
  refine Rt.cQ (fun h => ?_) fun h => Rt.endB (by simp [h]) k12
  (repeat' (first|(with_reducible (first|apply Rt.fin|apply Rt.tL|apply Rt.tI|apply Rt.tB|apply Rt.tS|apply Rt.tP|apply Rt.tD|apply Rt.tM|apply Rt.tC|apply Rt.tN|apply Rt.tA|apply Rt.tG|apply Rt.tF|apply Rt.os|apply Rt.clS|apply Rt.jmN|apply Rt.jbN|apply Rt.jbE|apply Rt.ckR|exact Rt.some' rfl))|((with_reducible (first|apply Rt.ld0|apply Rt.ld1|apply Rt.ld2|apply Rt.ld3|apply Rt.ld4|apply Rt.ld5)); first|assumption|exact Lc.kp (by assumption) (by assumption))|((with_reducible apply Rt.ol); first|assumption|exact cell_kp (by assumption) (by assumption))|fail))
  refine Rt.cBo (SameOps_spec (hx.kp k12) (hy.kp k12) hl hn) fun b w3 hb k3 => ?_
  exact Rt.endB (by rw [hb]; simp [h]) (k12.tr k3)
theorem Rt.cBat {z : Option (List Value × World)} {y : Int × Int × List OpD} (h : Rt z (RBat w0 y)) {f : Int → Option Addr → Nat → Nat → Int → World → Option α} (hf : ∀ B d w1, OwnX (fun j => j < w0.heap.size) opEl 30 w1 w0.heap.size (.slice B y.2.2.length d) y.2.2 → Kp w0 w1 → Rt (f y.2.1 B y.2.2.length d y.1 w1) Q) :
    Rt (cl z fun vs w => tC vs fun v cs => tA v fun cs1 => tC cs1 fun v1 cs2 => tI .u64 v1 fun s => tC cs2 fun v2 cs3 => tL v2 fun A l c => tN cs3 (tC cs fun v3 cs4 => tI .i64 v3 fun e => tN cs4 (f s A l c e w))) Q := by
  obtain ⟨_, rfl, B, d, w1, rfl, o, k1⟩ := h
  (repeat' (first|(with_reducible (first|apply Rt.fin|apply Rt.tL|apply Rt.tI|apply Rt.tB|apply Rt.tS|apply Rt.tP|apply Rt.tD|apply Rt.tM|apply Rt.tC|apply Rt.tN|apply Rt.tA|apply Rt.tG|apply Rt.tF|apply Rt.os|apply Rt.clS|apply Rt.jmN|apply Rt.jbN|apply Rt.jbE|apply Rt.ckR|exact Rt.some' rfl))|((with_reducible (first|apply Rt.ld0|apply Rt.ld1|apply Rt.ld2|apply Rt.ld3|apply Rt.ld4|apply Rt.ld5)); first|assumption|exact Lc.kp (by assumption) (by assumption))|((with_reducible apply Rt.ol); first|assumption|exact cell_kp (by assumption) (by assumption))|fail))
  exact hf B d w1 o k1
theorem Rt.cROe {z : Option (List Value × World)} {y : List Int × Int} (h : Rt z (ROe .u8 5 w0 y)) {f : Option Addr → Nat → Nat → Int → World → Option α} (hf : ∀ B d w1, Own .u8 5 w1 w0.heap.size (.slice B y.1.length d) y.1 → Kp w0 w1 → Rt (f B y.1.length d y.2 w1) Q) :
    Rt (cl z fun vs w => tC vs fun v cs => tL v fun A l c => tC cs fun v3 cs4 => tI .i64 v3 fun e => tN cs4 (f A l c e w)) Q := by
  obtain ⟨_, rfl, B, d, w1, rfl, o, k1⟩ := h
  (repeat' (first|(with_reducible (first|apply Rt.fin|apply Rt.tL|apply Rt.tI|apply Rt.tB|apply Rt.tS|apply Rt.tP|apply Rt.tD|apply Rt.tM|apply Rt.tC|apply Rt.tN|apply Rt.tA|apply Rt.tG|apply Rt.tF|apply Rt.os|apply Rt.clS|apply Rt.jmN|apply Rt.jbN|apply Rt.jbE|apply Rt.ckR|exact Rt.some' rfl))|((with_reducible (first|apply Rt.ld0|apply Rt.ld1|apply Rt.ld2|apply Rt.ld3|apply Rt.ld4|apply Rt.ld5)); first|assumption|exact Lc.kp (by assumption) (by assumption))|((with_reducible apply Rt.ol); first|assumption|exact cell_kp (by assumption) (by assumption))|fail))
  exact hf B d w1 o k1
theorem allOps (hx : Ev opEl w A l c xs) : ∀ o ∈ xs, Bytes o.key ∧ Bytes o.val ∧ (Lit.int .i64 o.kind).wf = true := by
  intro o ho
  obtain ⟨i, hi, rfl⟩ := List.getElem_of_mem ho
  have hxl := hx.len
  obtain ⟨x, a, us, e1, _, _, e4, _⟩ := hx.sl.at_ (i := (i : Int)) (by omega) (by omega)
  rw [Int.toNat_natCast, List.getElem?_eq_getElem hi] at e1
  injection e1 with e1
  obtain ⟨k, B, m, d, C, p, q, _, hv⟩ := e4
  rw [e1]
  exact ⟨hv.key.rng, hv.val.rng, hv.rk⟩
theorem bytesB_wf (hx : Ev opEl w A l c xs) : Bytes (bytesB s xs).1 := by
  unfold bytesB
  split
  · exact bnil
  · rename_i hc
    have hc := checkC_ok.1 (Classical.not_not.1 hc)
    split
    · intro z hz
      have hz : z ∈ lowB 8 s ++ lowB 4 xs.length ++ bodyB xs := hz
      rcases List.mem_append.1 hz with hz | hz
      · rcases List.mem_append.1 hz with hz | hz
        · exact lowB_wf _ _ z hz
        · exact lowB_wf _ _ z hz
      · obtain ⟨v, hv, hzv⟩ := List.mem_flatten.1 hz
        obtain ⟨o, ho, rfl⟩ := List.mem_map.1 hv
        obtain ⟨a1, a2, a3⟩ := allOps hx o ho
        have hr := hc.2.2 o ho
        unfold rightO at hr
        have e1 := enc_wf (x := o.key.length) (by omega)
        have e2 := enc_wf (x := o.val.length) (by omega)
        unfold encO at hzv
        rcases List.mem_append.1 hzv with hzv | hzv
        · rcases List.mem_append.1 hzv with hzv | hzv
          · rcases List.mem_append.1 hzv with hzv | hzv
            · rw [List.mem_singleton] at hzv
              subst hzv
              have h0 : IntKind.u8.min = 0 := rfl
              have h1 : IntKind.u8.max = 255 := rfl
              simp only [Lit.wf, h0, h1, Bool.and_eq_true, decide_eq_true_eq]; omega
            · exact e1 z hzv
          · exact a1 z hzv
        · split at hzv
          · rcases List.mem_append.1 hzv with hzv | hzv
            · exact e2 z hzv
            · exact a2 z hzv
          · cases hzv
    · exact bnil
theorem bytesB_len (hx : ∀ o ∈ xs, True) : (bytesB s xs).1.length ≤ 600000 := by
  unfold bytesB
  split
  · simp
  · rename_i hc
    obtain ⟨c1, c2, c3⟩ := checkC_ok.1 (Classical.not_not.1 hc)
    split
    · have := bodyB_len c3
      show (encB s xs).length ≤ 600000
      simp only [encB, List.length_append, lowB_len]; omega
    · simp
end
end Go.Proofs.YtdcdgmiojlldaaaDoor.Ba
/- Rows of one cell each, of the call's own: values that the world plays no part in. -/
namespace Go.Proofs.YtdcdgmiojlldaaaDoor.Big
open Go Go.RowKit
set_option linter.unusedVariables false
set_option linter.unusedSimpArgs false
set_option linter.unusedSectionVars false
section
variable {α : Type} {Q : α → Prop} {P : Program} {t e : TypeId} {w w' w0 : World} {base : Nat} {v : Value} {vs : List Value} {S : Nat → Prop} {i : TypeInfo} {z : Value}
end
end Go.Proofs.YtdcdgmiojlldaaaDoor.Big
