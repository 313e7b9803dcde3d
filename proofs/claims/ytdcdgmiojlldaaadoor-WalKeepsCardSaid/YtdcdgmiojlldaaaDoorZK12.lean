/- packed by slim.py -/
import Derived.Maps.Range
import Derived.StringKeys
import Derived.Lib.ConvBytes
import Derived.Test.YtdcdgmiojlldaaaDoorZK11
/- W0 W1 W2 W3 W4 W5 WO W6 W7 W8 W9 -/
/- The disk's map: no file, or one, named "l". -/
namespace Go.Proofs.YtdcdgmiojlldaaaDoor.Wl
open Go Big Go.RowKit Go.Maps Go.WideShapes
set_option linter.unusedVariables false
set_option linter.unusedSimpArgs false
def PtR (v : Value) : Option (DataW Unit × List MemPlace) := match v with
  | .pointer none => some (.lit (.bool false), [])
  | .pointer (some ⟨p, 0, none⟩) => some (.lit (.int .i64 p), [])
  | _ => none
def ptr (f : Option Nat) : Value := .pointer (f.map fun p => ⟨p, 0, none⟩)
def pdt (f : Option Nat) : DataW Unit := match f with
  | none => .lit (.bool false)
  | some p => .lit (.int .i64 p)
theorem PtR_ptr (f : Option Nat) : PtR (ptr f) = some (pdt f, []) := by cases f <;> rfl
theorem PtR_inv {v : Value} {f : Option Nat} {ps : List MemPlace} (h : PtR v = some (pdt f, ps)) : v = ptr f := by
  unfold PtR at h
  split at h
  · cases f with
    | none => rfl
    | some q => simp [pdt] at h
  · cases f with
    | none => simp [pdt] at h
    | some q =>
      simp [pdt] at h
      obtain ⟨h, _⟩ := h
      rw [show _ = q from Int.ofNat.inj h]; rfl
  · cases h
def Dd (f : Option Nat) : DataW Unit := .map (match f with
  | none => []
  | some p => [(.string [108], .lit (.int .i64 p))])
def Fm (w : World) (b : Nat) (f : Option Nat) : Prop := ∃ n, w.ownsMap (H := Unit) Tryd.prog 9 PtR b n (Dd f) ∧ n ≤ 1
theorem k9 : Tryd.prog.underlying 9 = some .string := by kernel_rfl
theorem k58 : Tryd.prog.underlying 58 = some (.map 9 66) := by kernel_rfl
theorem z66 (w : World) : (zeroValue 66).run Tryd.prog w = .ok (ptr none) w := by kernel_rfl
section
variable {α : Type} {Q : α → Prop} {w w' : World} {b p : Nat} {f : Option Nat} {S : Nat → Prop}
theorem rn_run {P : Program} {s : Sem Value} {v : Value} {g : Value → World → Option α} (h : s.run P w = .ok v w') : rn P s w g = g v w' := by simp only [rn, h]
theorem rn_do {P : Program} {s : Sem Unit} {u : Value} {g : Value → World → Option α} (h : s.run P w = .ok () w') : rn P (do s; pure u) w g = g u w' := by simp [rn, h]
theorem Fm.lt (h : Fm w b f) : b < w.heap.size := by obtain ⟨n, h, _⟩ := h; exact h.lt
theorem Fm.new (w : World) : Fm (w.alloc (.map #[] 0)) w.heap.size none := ⟨0, World.ownsMap_made w _ _ _, by decide⟩
theorem owns_gx {n : Nat} {D : DataW Unit} (h : w.ownsMap Tryd.prog 9 PtR b n D) (hg : Gx S w w') (hn : ¬ S b) : w'.ownsMap Tryd.prog 9 PtR b n D := by
  obtain ⟨es, clock, hb, h2⟩ := h
  exact ⟨es, clock, (hg.block b (Array.getElem?_eq_some_iff.1 hb).1 hn).trans hb, h2⟩
theorem Fm.gx (h : Fm w b f) (hg : Gx S w w') (hn : ¬ S b) : Fm w' b f := by
  obtain ⟨n, h, h3⟩ := h
  exact ⟨n, owns_gx h hg hn, h3⟩
theorem Fm.kp (h : Fm w b f) (hk : Kp w w') : Fm w' b f := h.gx (S := fun _ => False) hk.gx fun h => h
theorem keyL : keyOf Tryd.prog 9 (.string (⟨#[108]⟩ : ByteArray)) = some (.string [108]) := WideMaps.keyOf_string_mk k9 (by decide)
theorem Dd_at (f : Option Nat) : (Dd f).atKey (.string [108]) (pdt none) = pdt f := by cases f <;> rfl
theorem Rt.lookF (h : Fm w b f) {g : Value → World → Option α} (hf : Rt (g (ptr f) w) Q) : Rt (rn Tryd.prog (Instr.lookup 58 (.map (some b)) (.string (⟨#[108]⟩ : ByteArray)) false) w g) Q := by
  obtain ⟨n, h1, h2⟩ := h
  obtain ⟨v, ps, hrun, hv⟩ := h1.lookup (string_keyed k9) k58 (z66 w) (PtR_ptr none) keyL
  rw [Dd_at] at hv
  obtain rfl := PtR_inv hv
  rw [rn_run hrun]
  exact hf
theorem Rt.putG {s : ByteArray} (hkey : keyOf Tryd.prog 9 (.string s) = some (.string [108])) (h : Fm w b none) {g : Value → World → Option α} {u : Value} (hf : ∀ w', Fm w' b (some p) → Gx (fun k => k = b) w w' → Rt (g u w') Q) :
    Rt (rn Tryd.prog (do Instr.mapUpdate 58 (.map (some b)) (.string s) (.pointer (some ⟨p, 0, none⟩)); pure u) w g) Q := by
  obtain ⟨n, h1, h2⟩ := h
  have h0 : w.ownsMap Tryd.prog 9 PtR b 0 (Dd none) := by
    obtain ⟨es, clock, hb, F, hs, hD⟩ := h1
    refine ⟨es, clock, hb, F, ?_, hD⟩
    have e1 : ((es.toList.map (WideElems.rg Tryd.prog 9 PtR)).foldr DataW.insert []).length = es.size := by rw [length_sorted]; simp
    have e2 := (DataW.map.inj hD)
    rw [← e1, ← e2]; exact Nat.le_refl _
  obtain ⟨w', hrun, o, g1⟩ := h0.update (string_keyed k9) k58 (show (0 : Nat) < maxLen by unfold maxLen; omega) hkey (PtR_ptr (some p))
  have hrun' : (Instr.mapUpdate 58 (.map (some b)) (.string s) (.pointer (some ⟨p, 0, none⟩))).run Tryd.prog w = .ok () w' := hrun
  rw [rn_do hrun']
  exact hf w' ⟨1, o, Nat.le_refl _⟩ ((Gx.of_grown g1).wide fun k _ e => (Option.some.inj e).symm)
theorem Rt.putF (h : Fm w b none) {g : Value → World → Option α} {u : Value} (hf : ∀ w', Fm w' b (some p) → Gx (fun k => k = b) w w' → Rt (g u w') Q) :
    Rt (rn Tryd.prog (do Instr.mapUpdate 58 (.map (some b)) (.string (⟨#[108]⟩ : ByteArray)) (.pointer (some ⟨p, 0, none⟩)); pure u) w g) Q := Rt.putG keyL h hf
theorem Rt.lenF (h : Fm w b f) {ty : TypeId} {g : Value → World → Option α} (hf : Rt (g (.int .i64 (if f.isSome then 1 else 0)) w) Q) : Rt (rn Tryd.prog (Builtin.len_ #[58] ty #[.map (some b)]) w g) Q := by
  obtain ⟨n, h1, h2⟩ := h
  have hrun := h1.len k58 ty
  have e : (Maps.size (Dd f) : Int) = if f.isSome then 1 else 0 := by cases f <;> rfl
  rw [e] at hrun
  rw [rn_run hrun]
  exact hf
def Rg (w : World) (b r : Nat) (f : Option Nat) (c : Nat) : Prop := ∃ n left, w.ranges (H := Unit) Tryd.prog 9 PtR b r n (Dd f) left c ∧ n ≤ 1 ∧ ∀ kl, left kl = true → kl = .string [108]
theorem Rg.fm {r c : Nat} (h : Rg w b r f c) : Fm w b f := by obtain ⟨n, l, h, h1, _⟩ := h; exact ⟨n, h.owns, h1⟩
theorem Rg.gx {r c : Nat} (h : Rg w b r f c) (hg : Gx S w w') (hb : ¬ S b) (hr : ¬ S r) : Rg w' b r f c := by
  obtain ⟨n, l, h, h1, h2⟩ := h
  refine ⟨n, l, ?_, h1, h2⟩
  have hbl := h.owns.lt
  have hrl := h.lt
  obtain ⟨es, clock, since, seen, c0, hb', F, hs, hD, hr', rest⟩ := h
  exact ⟨es, clock, since, seen, c0, (hg.block b hbl hb).trans hb', F, hs, hD, (hg.block r hrl hr).trans hr', rest⟩
theorem Rt.range (h : Fm w b f) {g : Value → World → Option α} (hf : ∀ w', Rg w' b w.heap.size f (if f.isSome then 1 else 0) → Kp w w' → w.heap.size < w'.heap.size → Rt (g (.pointer (some ⟨w.heap.size, 0, none⟩)) w') Q) : Rt (rn Tryd.prog (Instr.range 58 (.map (some b))) w g) Q := by
  obtain ⟨n, h1, h2⟩ := h
  obtain ⟨w', hrun, hr, hg, hsz⟩ := h1.range (string_keyed k9) k58
  rw [rn_run hrun]
  refine hf w' ⟨n, Maps.has (Dd f), ?_, h2, fun kl hkl => ?_⟩ (Gx.kp (S := fun _ => False) ((Gx.of_grown hg).wide fun k _ e => by cases e) (fun _ h => h.elim)) (by omega)
  · have e : Maps.size (Dd f) = if f.isSome then 1 else 0 := by cases f <;> rfl
    rw [← e]; exact hr
  · cases f with
    | none => simp [Dd, Maps.has] at hkl
    | some p => simp [Dd, Maps.has] at hkl; exact ((WideAt.sameKey_eq hkl).symm)
theorem Rt.next0 {r : Nat} (h : Rg w b r f 0) {ty : TypeId} {gw : World → Option α} (hf : Rt (gw w) Q) {k : World → Value → Value → Option α} :
    Rt (rn Tryd.prog (Instr.next (.pointer (some ⟨r, 0, none⟩)) false ty) w fun v w' => nxV v (gw w') (k w')) Q := by
  obtain ⟨n, left, h1, h2, h3⟩ := h
  rcases h1.next (string_keyed k9) ty with ⟨_, _, hrun⟩ | ⟨key, v, kl, y, w', c', _, _, _, _, _, _, hc, _⟩
  · rw [show rn Tryd.prog (Instr.next (.pointer (some ⟨r, 0, none⟩)) false ty) w (fun v w' => nxV v (gw w') (k w')) = nxV (.tuple #[.bool false]) (gw w) (k w) by simp only [rn, hrun]]
    exact hf
  · omega
theorem Rt.next1 {r : Nat} (h : Rg w b r (some p) 1) {ty : TypeId} {gw : World → Option α} {k : World → Value → Option α} (hf : ∀ w', Rg w' b r (some p) 0 → Gx (fun k => k = r) w w' → Rt (k w' (ptr (some p))) Q) :
    Rt (rn Tryd.prog (Instr.next (.pointer (some ⟨r, 0, none⟩)) false ty) w fun v w' => nxV v (gw w') fun _ _ => rn Tryd.prog (Instr.entry (.pointer (some ⟨r, 0, none⟩))) w' fun v w'' => enV v fun _ a => k w'' a) Q := by
  obtain ⟨n, left, h1, h2, h3⟩ := h
  rcases h1.next (string_keyed k9) ty with ⟨h0, _⟩ | ⟨key, v, kl, y, w', c', hk, hl, hv, hat, hrun, hrg, hc, hg, hsz, hen⟩
  · omega
  · obtain rfl := h3 kl hl
    have hy : y.1 = pdt (some p) := by rw [← hat (pdt none), Dd_at]
    obtain rfl : v = ptr (some p) := PtR_inv (ps := y.2) (by rw [hv, ← hy])
    rw [rn_run hrun]
    show Rt (rn Tryd.prog (Instr.entry (.pointer (some ⟨r, 0, none⟩))) w' fun v w'' => enV v fun _ a => k w'' a) Q
    rw [rn_run hen]
    refine hf w' ⟨n, fun x => left x && !x.sameKey (.string [108]), ?_, h2, fun kl hkl => h3 kl (by simp at hkl; exact hkl.1)⟩ ((Gx.of_grown hg).wide fun k _ e => (Option.some.inj e).symm)
    have : c' = 0 := by omega
    rw [← this]; exact hrg
end
end Go.Proofs.YtdcdgmiojlldaaaDoor.Wl
/- The disk in memory; names; the begin of a call. -/
namespace Go.Proofs.YtdcdgmiojlldaaaDoor.Wl
open Go Big Go.RowKit Go.IntWalk Var Low
set_option linter.unusedVariables false
set_option linter.unusedSimpArgs false
abbrev pt (b : Nat) : Value := .pointer (some ⟨b, 0, none⟩)
abbrev nl : ByteArray := ⟨#[108]⟩
section
variable {α : Type} {Q : α → Prop} {n m : Nat} {w w' w0 w1 : World} {A B C : Option Addr} {l c d base e mb p b : Nat} {k : IntKind} {x r out o zs s xs : List Int} {S S' T : Nat → Prop} {fp : Option Nat}
theorem Rt.cutSt (hs : Stb S (fun w => Bv k w A n c xs) w) {lo hi : Int} (h0 : 0 ≤ lo) (h1 : lo ≤ hi) (h2 : hi ≤ n) {f : Option Addr → Nat → Nat → Option α}
    (h : ∀ B, Stb S (fun w => Bv k w B (hi.toNat - lo.toNat) (c - lo.toNat) ((xs.take hi.toNat).drop lo.toNat)) w → Rt (f B (hi.toNat - lo.toNat) (c - lo.toNat)) Q) : Rt (cutS A c lo hi 1 f) Q := by
  have hc : 0 ≤ lo ∧ lo ≤ hi ∧ hi ≤ (c : Int) := ⟨h0, h1, by have := hs.out.cap; omega⟩
  rw [cutS, if_pos hc]
  refine h _ fun w' hg => ?_
  have key : Rt (cutS A c lo hi 1 fun B m d => some B) (fun B => Bv k w' B (hi.toNat - lo.toNat) (c - lo.toNat) ((xs.take hi.toNat).drop lo.toNat)) := Rt.cut (hs w' hg) h0 h1 h2 fun B hB => Rt.some' hB
  rw [cutS, if_pos hc] at key
  obtain ⟨_, e, hB⟩ := key
  injection e with e
  subst e
  exact hB
theorem bytes_kp (w : World) (s : ByteArray) : Kp w (Lib.bytesWorld w 5 s) :=
  Gx.kp (S := fun _ => False) ⟨rfl, rfl, rfl, by rw [Lib.bytesWorld_size]; omega, fun k hk _ => Lib.bytesWorld_at_old w 5 s k hk⟩ fun _ h => h.elim
theorem Rt.toB {g : Option Addr → Nat → Nat → World → Option α} (h : ∀ A c w', Sl .u8 w' A 1 [108] → Kp w w' → Rt (g A 1 c w') Q) : Rt (rn Tryd.prog (Go.convert 9 28 (.string nl)) w fun v w' => Big.tL v fun A l c => g A l c w') Q := by
  rw [rn_run (Lib.run_convert_string_bytes w 9 28 5 nl (show Tryd.prog.underlying 9 = some .string from k9) (by kernel_rfl) (by kernel_rfl))]
  refine h _ _ _ ⟨rfl, .inr ⟨_, rfl, fun i hi => ?_⟩⟩ (bytes_kp w nl)
  have : i = 0 := by omega
  subst this
  rw [Addr.add_lit, Nat.zero_add]
  exact Lib.bytesWorld_cell w 5 nl 0 (by decide)
theorem Right_spec (hn : 10 < n) : Rt (disk_Right n [.string nl] w) (RB True w) := by
  rw [disk_Right_eq]
  refine Rt.fin ?_
  refine Rt.cS (xs := [108]) (ys := []) (by decide) (by simp) (fun h => by cases h) fun _ => Rt.cDF (by decide) (Rt.toB fun A c w1 hs k1 => ?_)
  obtain ⟨n, rfl⟩ := Nat.exists_eq_add_of_le' (show 2 ≤ n by omega)
  refine Rt.jb ?_
  rw [disk_Right.l0_succ]
  refine Rt.cDT (by decide) (Rt.jb (Rt.ix hs (by decide) (by decide) ?_))
  refine Rt.cDT (by decide) (Rt.cDT (by decide) ?_)
  refine Rt.some' (.inl ⟨.inl rfl, ?_⟩)
  (repeat (first | (with_reducible (first | refine Rt.fin ?_ | refine Rt.tL ?_ | refine Rt.tI ?_ | refine Rt.tB ?_ | refine Rt.tS ?_ | refine Rt.tP ?_ | refine Rt.tD ?_ | refine Rt.tM ?_ | refine Rt.tC ?_ | refine Rt.tN ?_ | refine Rt.tA ?_ | refine Rt.tG ?_ | refine Rt.tF ?_ | refine Rt.os ?_ | refine Rt.clS ?_ | refine Rt.jmN ?_ | refine Rt.jbN ?_ | refine Rt.jbE ?_)) | ((with_reducible (first | apply Rt.ld0 | apply Rt.ld1 | apply Rt.ld2 | apply Rt.ld3 | apply Rt.ld4 | apply Rt.ld5)); first | assumption | exact Lc.kp (by assumption) (by assumption)) | ((with_reducible apply Rt.ol); first | assumption | exact cell_kp (by assumption) (by assumption)) | ((with_reducible apply Rt.ckR); focus ((repeat (first | (with_reducible (first | refine Rt.fin ?_ | refine Rt.tL ?_ | refine Rt.tI ?_ | refine Rt.tB ?_ | refine Rt.tS ?_ | refine Rt.tP ?_ | refine Rt.tD ?_ | refine Rt.tM ?_ | refine Rt.tC ?_ | refine Rt.tN ?_ | refine Rt.tA ?_ | refine Rt.tG ?_ | refine Rt.tF ?_ | refine Rt.os ?_ | refine Rt.clS ?_ | refine Rt.jmN ?_ | refine Rt.jbN ?_ | refine Rt.jbE ?_)) | ((with_reducible (first | apply Rt.ld0 | apply Rt.ld1 | apply Rt.ld2 | apply Rt.ld3 | apply Rt.ld4 | apply Rt.ld5)); first | assumption | exact Lc.kp (by assumption) (by assumption)) | ((with_reducible apply Rt.ol); first | assumption | exact cell_kp (by assumption) (by assumption)))); exact Rt.some' rfl))))
  rw [disk_Right.l0_succ]
  refine Rt.cDF (by decide) ?_
  refine Rt.some' (.inl ⟨.inr rfl, ?_⟩)
  (repeat (first | (with_reducible (first | refine Rt.fin ?_ | refine Rt.tL ?_ | refine Rt.tI ?_ | refine Rt.tB ?_ | refine Rt.tS ?_ | refine Rt.tP ?_ | refine Rt.tD ?_ | refine Rt.tM ?_ | refine Rt.tC ?_ | refine Rt.tN ?_ | refine Rt.tA ?_ | refine Rt.tG ?_ | refine Rt.tF ?_ | refine Rt.os ?_ | refine Rt.clS ?_ | refine Rt.jmN ?_ | refine Rt.jbN ?_ | refine Rt.jbE ?_)) | ((with_reducible (first | apply Rt.ld0 | apply Rt.ld1 | apply Rt.ld2 | apply Rt.ld3 | apply Rt.ld4 | apply Rt.ld5)); first | assumption | exact Lc.kp (by assumption) (by assumption)) | ((with_reducible apply Rt.ol); first | assumption | exact cell_kp (by assumption) (by assumption)) | ((with_reducible apply Rt.ckR); focus ((repeat (first | (with_reducible (first | refine Rt.fin ?_ | refine Rt.tL ?_ | refine Rt.tI ?_ | refine Rt.tB ?_ | refine Rt.tS ?_ | refine Rt.tP ?_ | refine Rt.tD ?_ | refine Rt.tM ?_ | refine Rt.tC ?_ | refine Rt.tN ?_ | refine Rt.tA ?_ | refine Rt.tG ?_ | refine Rt.tF ?_ | refine Rt.os ?_ | refine Rt.clS ?_ | refine Rt.jmN ?_ | refine Rt.jbN ?_ | refine Rt.jbE ?_)) | ((with_reducible (first | apply Rt.ld0 | apply Rt.ld1 | apply Rt.ld2 | apply Rt.ld3 | apply Rt.ld4 | apply Rt.ld5)); first | assumption | exact Lc.kp (by assumption) (by assumption)) | ((with_reducible apply Rt.ol); first | assumption | exact cell_kp (by assumption) (by assumption)))); exact Rt.some' rfl))))
  exact Rt.endB (by simp) k1
structure DS where
  room : Int
  file : Option (List Int × Nat)
  fails : List Int
  failed : Int
def DS.len (s : DS) : Nat := match s.file with
  | none => 0
  | some f => f.1.length
def DS.begin (s : DS) : Int × DS := match s.fails with
  | [] => (0, s)
  | x :: r => if x = 0 then (0, { s with fails := r }) else (11, { s with fails := r, failed := IntKind.i64.wrap (s.failed + 1) })
theorem Bv.gx' {K : IntKind} (h : Bv K w A n c xs) (g : Gx T w w') (hT : ∀ j, On (.slice A n c) j → ¬ T j) : Bv K w' A n c xs :=
  ⟨h.sl.gx g fun a ha => hT a.block (by subst ha; rfl), h.nil, h.cap, h.max, h.rng⟩
theorem Rt.cutB (hs : Bv k w A n c xs) {lo hi : Int} (h0 : 0 ≤ lo) (h1 : lo ≤ hi) (h2 : hi ≤ n) {f : Option Addr → Nat → Nat → Option α}
    (h : ∀ B, Bv k w B (hi.toNat - lo.toNat) (c - lo.toNat) ((xs.take hi.toNat).drop lo.toNat) → (∀ j, On (.slice B (hi.toNat - lo.toNat) (c - lo.toNat)) j → On (.slice A n c) j) → Rt (f B (hi.toNat - lo.toNat) (c - lo.toNat)) Q) : Rt (cutS A c lo hi 1 f) Q := by
  have hc : 0 ≤ lo ∧ lo ≤ hi ∧ hi ≤ (c : Int) := ⟨h0, h1, by have := hs.cap; omega⟩
  rw [cutS, if_pos hc]
  have key : Rt (cutS A c lo hi 1 fun B m d => some B) (fun B => Bv k w B (hi.toNat - lo.toNat) (c - lo.toNat) ((xs.take hi.toNat).drop lo.toNat)) := Rt.cut hs h0 h1 h2 fun B hB => Rt.some' hB
  rw [cutS, if_pos hc] at key
  obtain ⟨_, e, hB⟩ := key
  injection e with e
  subst e
  refine h _ hB fun j hj => ?_
  cases A with
  | none => simp [On, Value.ownBlock] at hj
  | some a =>
    by_cases hcl : c = lo.toNat
    · rw [if_pos hcl] at hj; exact hj
    · rw [if_neg hcl] at hj
      have e : (a.add (lo.toNat * 1)).block = a.block := by (unfold Addr.add; split <;> rfl)
      have hj' : some (a.add (lo.toNat * 1)).block = some j := hj
      rw [e] at hj'; exact hj'
theorem Rt.tail {y : Int} (hs : Bv k w A (xs.length + 1) c (y :: xs)) {f : Option Addr → Nat → Nat → Option α}
    (h : ∀ B c', Bv k w B xs.length c' xs → (∀ j, On (.slice B xs.length c') j → On (.slice A (xs.length + 1) c) j) → Rt (f B xs.length c') Q) : Rt (cutS A c 1 (((xs.length + 1 : Nat) : Int)) 1 f) Q := by
  refine Rt.cutB hs (by omega) (by omega) (Int.le_refl _) fun B hB hO => ?_
  have e : ((xs.length + 1 : Nat) : Int).toNat - (1 : Int).toNat = xs.length := by simp
  have e2 : List.drop (1 : Int).toNat (List.take ((xs.length + 1 : Nat) : Int).toNat (y :: xs)) = xs := by simp
  rw [e] at hB hO ⊢
  rw [e2] at hB
  exact h _ _ hB hO
def Fl (w : World) (S N : Nat → Prop) : Option Nat → Option (List Int × Nat) → Prop
  | none, none => True
  | some p, some f => S p ∧ ¬ N p ∧ Bytes f.1 ∧ f.2 ≤ f.1.length ∧ f.1.length ≤ 16777216 ∧ ∃ B e, Lc w p [.slice B f.1.length e, .int .i64 (f.2 : Int)] ∧ Own .u8 5 w 0 (.slice B f.1.length e) f.1 ∧ ∀ j, On (.slice B f.1.length e) j → S j ∧ ¬ N j ∧ j ≠ p
  | _, _ => False
structure DxA (w : World) (S : Nat → Prop) (d mb : Nat) (fp : Option Nat) (s : DS) (A : Option Addr) (c : Nat) : Prop where
  lc : Lc w d [.int .i64 s.room, .map (some mb), .int .i64 (s.len : Int), .slice A s.fails.length c, .int .i64 s.failed]
  fa : Bv .i64 w A s.fails.length c s.fails
  fm : Fm w mb fp
  fl : Fl w S (fun j => j = d ∨ j = mb ∨ On (.slice A s.fails.length c) j) fp s.file
  sf : ∀ j, On (.slice A s.fails.length c) j → S j ∧ j ≠ d ∧ j ≠ mb
  sd : S d
  sm : S mb
  ne : mb ≠ d
  lt : ∀ j, S j → j < w.heap.size
  room : 0 ≤ s.room ∧ s.room < 2 ^ 63
def Dx (w : World) (S : Nat → Prop) (d mb : Nat) (fp : Option Nat) (s : DS) : Prop := ∃ A c, DxA w S d mb fp s A c
def Dk (w : World) (S : Nat → Prop) (d : Nat) (s : DS) : Prop := ∃ mb fp, Dx w S d mb fp s
theorem Fl.gx {N : Nat → Prop} {f : Option (List Int × Nat)} (h : Fl w S N fp f) (g : Gx T w w') (hT : ∀ j, T j → N j ∨ ¬ S j) : Fl w' S N fp f := by
  unfold Fl at h ⊢
  split at h
  · exact trivial
  · obtain ⟨h1, h2, h3, h4, h5, B, e, h7, h8, h9⟩ := h
    refine ⟨h1, h2, h3, h4, h5, B, e, h7.gx g fun ht => (hT _ ht).elim h2 fun h => h h1, h8.gx g fun j hj ht => ?_, h9⟩
    obtain ⟨a1, a2, a3⟩ := h9 j hj
    exact (hT _ ht).elim a2 fun h => h a1
  · exact h.elim
theorem Fl.less {N N' : Nat → Prop} {f : Option (List Int × Nat)} (h : Fl w S N fp f) (hN : ∀ j, N' j → N j) : Fl w S N' fp f := by
  unfold Fl at h ⊢
  split at h
  · exact trivial
  · obtain ⟨h1, h2, h3, h4, h5, B, e, h7, h8, h9⟩ := h
    exact ⟨h1, fun h => h2 (hN _ h), h3, h4, h5, B, e, h7, h8, fun j hj => ⟨(h9 j hj).1, fun h => (h9 j hj).2.1 (hN _ h), (h9 j hj).2.2⟩⟩
  · exact h.elim
theorem Dx.gx {s : DS} (h : Dx w S d mb fp s) (g : Gx T w w') (hT : ∀ j, T j → ¬ S j) : Dx w' S d mb fp s := by
  obtain ⟨A, c, h1, h2, h3, h4, h10, h5, h6, h7, h8, h9⟩ := h
  exact ⟨A, c, h1.gx g fun ht => hT _ ht h5, Bv.gx' h2 g fun j hj ht => hT _ ht (h10 j hj).1, h3.gx g fun ht => hT _ ht h6, h4.gx g fun j hj => .inr (hT j hj), h10, h5, h6, h7, fun j hj => Nat.lt_of_lt_of_le (h8 j hj) g.size, h9⟩
theorem Dx.kp {s : DS} (h : Dx w S d mb fp s) (k : Kp w w') : Dx w' S d mb fp s := h.gx (T := fun _ => False) k.gx fun _ h => h.elim
theorem Dk.gx {s : DS} (h : Dk w S d s) (g : Gx T w w') (hT : ∀ j, T j → ¬ S j) : Dk w' S d s := by
  obtain ⟨mb, fp, h⟩ := h
  exact ⟨mb, fp, h.gx g hT⟩
theorem Dk.kp {s : DS} (h : Dk w S d s) (k : Kp w w') : Dk w' S d s := h.gx (T := fun _ => False) k.gx fun _ h => h.elim
def RX0 (w : World) (S : Nat → Prop) (d mb : Nat) (fp : Option Nat) (vs : List Value) (s : DS) : List Value × World → Prop := fun r => ∃ w', r = (vs, w') ∧ Dx w' S d mb fp s ∧ Gx S w w'
theorem begin_l0 (hn : 10 < n) (hb : Lc w b [.string nl]) : Rt (disk_Disk_begin.l0 n (m + 2) (some ⟨b, 0, none⟩) 1 1 1 0 w) fun r => ∃ w', r = ⟨.exit 0, [], w'⟩ ∧ Kp w w' := by
  rw [disk_Disk_begin.l0_succ]
  refine Rt.cDT (by decide) (Rt.ix0 (by decide) ?_)
  (repeat (first | (with_reducible (first | refine Rt.fin ?_ | refine Rt.tL ?_ | refine Rt.tI ?_ | refine Rt.tB ?_ | refine Rt.tS ?_ | refine Rt.tP ?_ | refine Rt.tD ?_ | refine Rt.tM ?_ | refine Rt.tC ?_ | refine Rt.tN ?_ | refine Rt.tA ?_ | refine Rt.tG ?_ | refine Rt.tF ?_ | refine Rt.os ?_ | refine Rt.clS ?_ | refine Rt.jmN ?_ | refine Rt.jbN ?_ | refine Rt.jbE ?_)) | ((with_reducible (first | apply Rt.ld0 | apply Rt.ld1 | apply Rt.ld2 | apply Rt.ld3 | apply Rt.ld4 | apply Rt.ld5)); first | assumption | exact Lc.kp (by assumption) (by assumption)) | ((with_reducible apply Rt.ol); first | assumption | exact cell_kp (by assumption) (by assumption)) | ((with_reducible apply Rt.ckR); focus ((repeat (first | (with_reducible (first | refine Rt.fin ?_ | refine Rt.tL ?_ | refine Rt.tI ?_ | refine Rt.tB ?_ | refine Rt.tS ?_ | refine Rt.tP ?_ | refine Rt.tD ?_ | refine Rt.tM ?_ | refine Rt.tC ?_ | refine Rt.tN ?_ | refine Rt.tA ?_ | refine Rt.tG ?_ | refine Rt.tF ?_ | refine Rt.os ?_ | refine Rt.clS ?_ | refine Rt.jmN ?_ | refine Rt.jbN ?_ | refine Rt.jbE ?_)) | ((with_reducible (first | apply Rt.ld0 | apply Rt.ld1 | apply Rt.ld2 | apply Rt.ld3 | apply Rt.ld4 | apply Rt.ld5)); first | assumption | exact Lc.kp (by assumption) (by assumption)) | ((with_reducible apply Rt.ol); first | assumption | exact cell_kp (by assumption) (by assumption)))); exact Rt.some' rfl))))
  refine Rt.cBt (Right_spec hn) trivial fun w1 k1 => ?_
  (repeat (first | (with_reducible (first | refine Rt.fin ?_ | refine Rt.tL ?_ | refine Rt.tI ?_ | refine Rt.tB ?_ | refine Rt.tS ?_ | refine Rt.tP ?_ | refine Rt.tD ?_ | refine Rt.tM ?_ | refine Rt.tC ?_ | refine Rt.tN ?_ | refine Rt.tA ?_ | refine Rt.tG ?_ | refine Rt.tF ?_ | refine Rt.os ?_ | refine Rt.clS ?_ | refine Rt.jmN ?_ | refine Rt.jbN ?_ | refine Rt.jbE ?_)) | ((with_reducible (first | apply Rt.ld0 | apply Rt.ld1 | apply Rt.ld2 | apply Rt.ld3 | apply Rt.ld4 | apply Rt.ld5)); first | assumption | exact Lc.kp (by assumption) (by assumption)) | ((with_reducible apply Rt.ol); first | assumption | exact cell_kp (by assumption) (by assumption)) | ((with_reducible apply Rt.ckR); focus ((repeat (first | (with_reducible (first | refine Rt.fin ?_ | refine Rt.tL ?_ | refine Rt.tI ?_ | refine Rt.tB ?_ | refine Rt.tS ?_ | refine Rt.tP ?_ | refine Rt.tD ?_ | refine Rt.tM ?_ | refine Rt.tC ?_ | refine Rt.tN ?_ | refine Rt.tA ?_ | refine Rt.tG ?_ | refine Rt.tF ?_ | refine Rt.os ?_ | refine Rt.clS ?_ | refine Rt.jmN ?_ | refine Rt.jbN ?_ | refine Rt.jbE ?_)) | ((with_reducible (first | apply Rt.ld0 | apply Rt.ld1 | apply Rt.ld2 | apply Rt.ld3 | apply Rt.ld4 | apply Rt.ld5)); first | assumption | exact Lc.kp (by assumption) (by assumption)) | ((with_reducible apply Rt.ol); first | assumption | exact cell_kp (by assumption) (by assumption)))); exact Rt.some' rfl))))
  refine Rt.cF ?_ ?_; rfl
  rw [disk_Disk_begin.l0_succ]
  refine Rt.cDF (by decide) ?_
  exact ⟨_, rfl, w1, rfl, k1⟩
theorem begin_spec {s : DS} (h : Dx w S d mb fp s) (hb : Lc w b [.string nl]) (hS : ¬ S b) (hn : 10 < n) : Rt (disk_Disk_begin n [pt d, .slice (some ⟨b, 0, none⟩) 1 1] w) (RX0 w S d mb fp [.int .i64 s.begin.1] s.begin.2) := by
  obtain ⟨A, c, hd⟩ := h
  have hl := hd.lc
  obtain ⟨m, hm⟩ := Nat.exists_eq_add_of_le' (show 2 ≤ n by omega)
  obtain ⟨room, file, fails, failed⟩ := s
  have hnb : b ≠ d := fun e => hS (e ▸ hd.sd)
  rw [disk_Disk_begin_eq]
  refine Rt.fin (Rt.jmX ?_)
  cases fails with
  | nil =>
    (repeat (first | (with_reducible (first | refine Rt.fin ?_ | refine Rt.tL ?_ | refine Rt.tI ?_ | refine Rt.tB ?_ | refine Rt.tS ?_ | refine Rt.tP ?_ | refine Rt.tD ?_ | refine Rt.tM ?_ | refine Rt.tC ?_ | refine Rt.tN ?_ | refine Rt.tA ?_ | refine Rt.tG ?_ | refine Rt.tF ?_ | refine Rt.os ?_ | refine Rt.clS ?_ | refine Rt.jmN ?_ | refine Rt.jbN ?_ | refine Rt.jbE ?_)) | ((with_reducible (first | apply Rt.ld0 | apply Rt.ld1 | apply Rt.ld2 | apply Rt.ld3 | apply Rt.ld4 | apply Rt.ld5)); first | assumption | exact Lc.kp (by assumption) (by assumption)) | ((with_reducible apply Rt.ol); first | assumption | exact cell_kp (by assumption) (by assumption)) | ((with_reducible apply Rt.ckR); focus ((repeat (first | (with_reducible (first | refine Rt.fin ?_ | refine Rt.tL ?_ | refine Rt.tI ?_ | refine Rt.tB ?_ | refine Rt.tS ?_ | refine Rt.tP ?_ | refine Rt.tD ?_ | refine Rt.tM ?_ | refine Rt.tC ?_ | refine Rt.tN ?_ | refine Rt.tA ?_ | refine Rt.tG ?_ | refine Rt.tF ?_ | refine Rt.os ?_ | refine Rt.clS ?_ | refine Rt.jmN ?_ | refine Rt.jbN ?_ | refine Rt.jbE ?_)) | ((with_reducible (first | apply Rt.ld0 | apply Rt.ld1 | apply Rt.ld2 | apply Rt.ld3 | apply Rt.ld4 | apply Rt.ld5)); first | assumption | exact Lc.kp (by assumption) (by assumption)) | ((with_reducible apply Rt.ol); first | assumption | exact cell_kp (by assumption) (by assumption)))); exact Rt.some' rfl))))
    refine Rt.cDF (by simp) ?_
    refine Rt.some' (.inl ⟨rfl, ?_⟩)
    (repeat (first | (with_reducible (first | refine Rt.fin ?_ | refine Rt.tL ?_ | refine Rt.tI ?_ | refine Rt.tB ?_ | refine Rt.tS ?_ | refine Rt.tP ?_ | refine Rt.tD ?_ | refine Rt.tM ?_ | refine Rt.tC ?_ | refine Rt.tN ?_ | refine Rt.tA ?_ | refine Rt.tG ?_ | refine Rt.tF ?_ | refine Rt.os ?_ | refine Rt.clS ?_ | refine Rt.jmN ?_ | refine Rt.jbN ?_ | refine Rt.jbE ?_)) | ((with_reducible (first | apply Rt.ld0 | apply Rt.ld1 | apply Rt.ld2 | apply Rt.ld3 | apply Rt.ld4 | apply Rt.ld5)); first | assumption | exact Lc.kp (by assumption) (by assumption)) | ((with_reducible apply Rt.ol); first | assumption | exact cell_kp (by assumption) (by assumption)) | ((with_reducible apply Rt.ckR); focus ((repeat (first | (with_reducible (first | refine Rt.fin ?_ | refine Rt.tL ?_ | refine Rt.tI ?_ | refine Rt.tB ?_ | refine Rt.tS ?_ | refine Rt.tP ?_ | refine Rt.tD ?_ | refine Rt.tM ?_ | refine Rt.tC ?_ | refine Rt.tN ?_ | refine Rt.tA ?_ | refine Rt.tG ?_ | refine Rt.tF ?_ | refine Rt.os ?_ | refine Rt.clS ?_ | refine Rt.jmN ?_ | refine Rt.jbN ?_ | refine Rt.jbE ?_)) | ((with_reducible (first | apply Rt.ld0 | apply Rt.ld1 | apply Rt.ld2 | apply Rt.ld3 | apply Rt.ld4 | apply Rt.ld5)); first | assumption | exact Lc.kp (by assumption) (by assumption)) | ((with_reducible apply Rt.ol); first | assumption | exact cell_kp (by assumption) (by assumption)))); exact Rt.some' rfl))))
    refine Rt.jb ?_
    have hm' := begin_l0 (n := n) (m := m) hn hb
    rw [← hm] at hm'
    refine Rt.mono hm' ?_
    rintro _ ⟨w1, rfl, k1⟩
    refine .inl ⟨.inr rfl, ?_⟩
    (repeat (first | (with_reducible (first | refine Rt.fin ?_ | refine Rt.tL ?_ | refine Rt.tI ?_ | refine Rt.tB ?_ | refine Rt.tS ?_ | refine Rt.tP ?_ | refine Rt.tD ?_ | refine Rt.tM ?_ | refine Rt.tC ?_ | refine Rt.tN ?_ | refine Rt.tA ?_ | refine Rt.tG ?_ | refine Rt.tF ?_ | refine Rt.os ?_ | refine Rt.clS ?_ | refine Rt.jmN ?_ | refine Rt.jbN ?_ | refine Rt.jbE ?_)) | ((with_reducible (first | apply Rt.ld0 | apply Rt.ld1 | apply Rt.ld2 | apply Rt.ld3 | apply Rt.ld4 | apply Rt.ld5)); first | assumption | exact Lc.kp (by assumption) (by assumption)) | ((with_reducible apply Rt.ol); first | assumption | exact cell_kp (by assumption) (by assumption)) | ((with_reducible apply Rt.ckR); focus ((repeat (first | (with_reducible (first | refine Rt.fin ?_ | refine Rt.tL ?_ | refine Rt.tI ?_ | refine Rt.tB ?_ | refine Rt.tS ?_ | refine Rt.tP ?_ | refine Rt.tD ?_ | refine Rt.tM ?_ | refine Rt.tC ?_ | refine Rt.tN ?_ | refine Rt.tA ?_ | refine Rt.tG ?_ | refine Rt.tF ?_ | refine Rt.os ?_ | refine Rt.clS ?_ | refine Rt.jmN ?_ | refine Rt.jbN ?_ | refine Rt.jbE ?_)) | ((with_reducible (first | apply Rt.ld0 | apply Rt.ld1 | apply Rt.ld2 | apply Rt.ld3 | apply Rt.ld4 | apply Rt.ld5)); first | assumption | exact Lc.kp (by assumption) (by assumption)) | ((with_reducible apply Rt.ol); first | assumption | exact cell_kp (by assumption) (by assumption)))); exact Rt.some' rfl))))
    exact ⟨_, rfl, rfl, w1, rfl, Dx.kp ⟨A, c, hd⟩ k1, k1.gx⟩
  | cons x r =>
    have hf := hd.fa
    (repeat (first | (with_reducible (first | refine Rt.fin ?_ | refine Rt.tL ?_ | refine Rt.tI ?_ | refine Rt.tB ?_ | refine Rt.tS ?_ | refine Rt.tP ?_ | refine Rt.tD ?_ | refine Rt.tM ?_ | refine Rt.tC ?_ | refine Rt.tN ?_ | refine Rt.tA ?_ | refine Rt.tG ?_ | refine Rt.tF ?_ | refine Rt.os ?_ | refine Rt.clS ?_ | refine Rt.jmN ?_ | refine Rt.jbN ?_ | refine Rt.jbE ?_)) | ((with_reducible (first | apply Rt.ld0 | apply Rt.ld1 | apply Rt.ld2 | apply Rt.ld3 | apply Rt.ld4 | apply Rt.ld5)); first | assumption | exact Lc.kp (by assumption) (by assumption)) | ((with_reducible apply Rt.ol); first | assumption | exact cell_kp (by assumption) (by assumption)) | ((with_reducible apply Rt.ckR); focus ((repeat (first | (with_reducible (first | refine Rt.fin ?_ | refine Rt.tL ?_ | refine Rt.tI ?_ | refine Rt.tB ?_ | refine Rt.tS ?_ | refine Rt.tP ?_ | refine Rt.tD ?_ | refine Rt.tM ?_ | refine Rt.tC ?_ | refine Rt.tN ?_ | refine Rt.tA ?_ | refine Rt.tG ?_ | refine Rt.tF ?_ | refine Rt.os ?_ | refine Rt.clS ?_ | refine Rt.jmN ?_ | refine Rt.jbN ?_ | refine Rt.jbE ?_)) | ((with_reducible (first | apply Rt.ld0 | apply Rt.ld1 | apply Rt.ld2 | apply Rt.ld3 | apply Rt.ld4 | apply Rt.ld5)); first | assumption | exact Lc.kp (by assumption) (by assumption)) | ((with_reducible apply Rt.ol); first | assumption | exact cell_kp (by assumption) (by assumption)))); exact Rt.some' rfl))))
    refine Rt.cDT (by simp) ?_
    (repeat (first | (with_reducible (first | refine Rt.fin ?_ | refine Rt.tL ?_ | refine Rt.tI ?_ | refine Rt.tB ?_ | refine Rt.tS ?_ | refine Rt.tP ?_ | refine Rt.tD ?_ | refine Rt.tM ?_ | refine Rt.tC ?_ | refine Rt.tN ?_ | refine Rt.tA ?_ | refine Rt.tG ?_ | refine Rt.tF ?_ | refine Rt.os ?_ | refine Rt.clS ?_ | refine Rt.jmN ?_ | refine Rt.jbN ?_ | refine Rt.jbE ?_)) | ((with_reducible (first | apply Rt.ld0 | apply Rt.ld1 | apply Rt.ld2 | apply Rt.ld3 | apply Rt.ld4 | apply Rt.ld5)); first | assumption | exact Lc.kp (by assumption) (by assumption)) | ((with_reducible apply Rt.ol); first | assumption | exact cell_kp (by assumption) (by assumption)) | ((with_reducible apply Rt.ckR); focus ((repeat (first | (with_reducible (first | refine Rt.fin ?_ | refine Rt.tL ?_ | refine Rt.tI ?_ | refine Rt.tB ?_ | refine Rt.tS ?_ | refine Rt.tP ?_ | refine Rt.tD ?_ | refine Rt.tM ?_ | refine Rt.tC ?_ | refine Rt.tN ?_ | refine Rt.tA ?_ | refine Rt.tG ?_ | refine Rt.tF ?_ | refine Rt.os ?_ | refine Rt.clS ?_ | refine Rt.jmN ?_ | refine Rt.jbN ?_ | refine Rt.jbE ?_)) | ((with_reducible (first | apply Rt.ld0 | apply Rt.ld1 | apply Rt.ld2 | apply Rt.ld3 | apply Rt.ld4 | apply Rt.ld5)); first | assumption | exact Lc.kp (by assumption) (by assumption)) | ((with_reducible apply Rt.ol); first | assumption | exact cell_kp (by assumption) (by assumption)))); exact Rt.some' rfl))))
    refine Rt.ix hf.sl (by omega) (by simp) ?_
    (repeat (first | (with_reducible (first | refine Rt.fin ?_ | refine Rt.tL ?_ | refine Rt.tI ?_ | refine Rt.tB ?_ | refine Rt.tS ?_ | refine Rt.tP ?_ | refine Rt.tD ?_ | refine Rt.tM ?_ | refine Rt.tC ?_ | refine Rt.tN ?_ | refine Rt.tA ?_ | refine Rt.tG ?_ | refine Rt.tF ?_ | refine Rt.os ?_ | refine Rt.clS ?_ | refine Rt.jmN ?_ | refine Rt.jbN ?_ | refine Rt.jbE ?_)) | ((with_reducible (first | apply Rt.ld0 | apply Rt.ld1 | apply Rt.ld2 | apply Rt.ld3 | apply Rt.ld4 | apply Rt.ld5)); first | assumption | exact Lc.kp (by assumption) (by assumption)) | ((with_reducible apply Rt.ol); first | assumption | exact cell_kp (by assumption) (by assumption)) | ((with_reducible apply Rt.ckR); focus ((repeat (first | (with_reducible (first | refine Rt.fin ?_ | refine Rt.tL ?_ | refine Rt.tI ?_ | refine Rt.tB ?_ | refine Rt.tS ?_ | refine Rt.tP ?_ | refine Rt.tD ?_ | refine Rt.tM ?_ | refine Rt.tC ?_ | refine Rt.tN ?_ | refine Rt.tA ?_ | refine Rt.tG ?_ | refine Rt.tF ?_ | refine Rt.os ?_ | refine Rt.clS ?_ | refine Rt.jmN ?_ | refine Rt.jbN ?_ | refine Rt.jbE ?_)) | ((with_reducible (first | apply Rt.ld0 | apply Rt.ld1 | apply Rt.ld2 | apply Rt.ld3 | apply Rt.ld4 | apply Rt.ld5)); first | assumption | exact Lc.kp (by assumption) (by assumption)) | ((with_reducible apply Rt.ol); first | assumption | exact cell_kp (by assumption) (by assumption)))); exact Rt.some' rfl))))
    refine Rt.tail hf fun B c' hB hO => ?_
    (repeat (first | (with_reducible (first | refine Rt.fin ?_ | refine Rt.tL ?_ | refine Rt.tI ?_ | refine Rt.tB ?_ | refine Rt.tS ?_ | refine Rt.tP ?_ | refine Rt.tD ?_ | refine Rt.tM ?_ | refine Rt.tC ?_ | refine Rt.tN ?_ | refine Rt.tA ?_ | refine Rt.tG ?_ | refine Rt.tF ?_ | refine Rt.os ?_ | refine Rt.clS ?_ | refine Rt.jmN ?_ | refine Rt.jbN ?_ | refine Rt.jbE ?_)) | ((with_reducible (first | apply Rt.ld0 | apply Rt.ld1 | apply Rt.ld2 | apply Rt.ld3 | apply Rt.ld4 | apply Rt.ld5)); first | assumption | exact Lc.kp (by assumption) (by assumption)) | ((with_reducible apply Rt.ol); first | assumption | exact cell_kp (by assumption) (by assumption)) | ((with_reducible apply Rt.ckR); focus ((repeat (first | (with_reducible (first | refine Rt.fin ?_ | refine Rt.tL ?_ | refine Rt.tI ?_ | refine Rt.tB ?_ | refine Rt.tS ?_ | refine Rt.tP ?_ | refine Rt.tD ?_ | refine Rt.tM ?_ | refine Rt.tC ?_ | refine Rt.tN ?_ | refine Rt.tA ?_ | refine Rt.tG ?_ | refine Rt.tF ?_ | refine Rt.os ?_ | refine Rt.clS ?_ | refine Rt.jmN ?_ | refine Rt.jbN ?_ | refine Rt.jbE ?_)) | ((with_reducible (first | apply Rt.ld0 | apply Rt.ld1 | apply Rt.ld2 | apply Rt.ld3 | apply Rt.ld4 | apply Rt.ld5)); first | assumption | exact Lc.kp (by assumption) (by assumption)) | ((with_reducible apply Rt.ol); first | assumption | exact cell_kp (by assumption) (by assumption)))); exact Rt.some' rfl))))
    refine Rt.st3 hl fun w1 l1 g1 => ?_
    have hD : ∀ (fl : Int) (w' : World), Lc w' d [.int .i64 room, .map (some mb), .int .i64 (((⟨room, file, x :: r, failed⟩ : DS).len : Nat) : Int), .slice B r.length c', .int .i64 fl] → Gx (fun k => k = d) w w' → Dx w' S d mb fp ⟨room, file, r, fl⟩ := fun fl w' l2 g2 =>
      ⟨B, c', l2, Bv.gx' hB g2 fun j hj hd' => (hd.sf j (hO j hj)).2.1 hd', hd.fm.gx g2 hd.ne, (hd.fl.gx g2 fun j hj => .inl (.inl hj)).less fun j hj => hj.imp id fun h => h.imp id (hO j), fun j hj => hd.sf j (hO j hj), hd.sd, hd.sm, hd.ne, fun j hj => Nat.lt_of_lt_of_le (hd.lt j hj) g2.size, hd.room⟩
    have gS : ∀ {w' : World}, Gx (fun k => k = d) w w' → Gx S w w' := fun g => g.wide fun k _ e => e ▸ hd.sd
    refine Rt.cN (fun h0 => ?_) fun h0 => ?_
    · have h0 : x = 0 := h0
      refine Rt.some' (.inl ⟨rfl, ?_⟩)
      (repeat (first | (with_reducible (first | refine Rt.fin ?_ | refine Rt.tL ?_ | refine Rt.tI ?_ | refine Rt.tB ?_ | refine Rt.tS ?_ | refine Rt.tP ?_ | refine Rt.tD ?_ | refine Rt.tM ?_ | refine Rt.tC ?_ | refine Rt.tN ?_ | refine Rt.tA ?_ | refine Rt.tG ?_ | refine Rt.tF ?_ | refine Rt.os ?_ | refine Rt.clS ?_ | refine Rt.jmN ?_ | refine Rt.jbN ?_ | refine Rt.jbE ?_)) | ((with_reducible (first | apply Rt.ld0 | apply Rt.ld1 | apply Rt.ld2 | apply Rt.ld3 | apply Rt.ld4 | apply Rt.ld5)); first | assumption | exact Lc.kp (by assumption) (by assumption)) | ((with_reducible apply Rt.ol); first | assumption | exact cell_kp (by assumption) (by assumption)) | ((with_reducible apply Rt.ckR); focus ((repeat (first | (with_reducible (first | refine Rt.fin ?_ | refine Rt.tL ?_ | refine Rt.tI ?_ | refine Rt.tB ?_ | refine Rt.tS ?_ | refine Rt.tP ?_ | refine Rt.tD ?_ | refine Rt.tM ?_ | refine Rt.tC ?_ | refine Rt.tN ?_ | refine Rt.tA ?_ | refine Rt.tG ?_ | refine Rt.tF ?_ | refine Rt.os ?_ | refine Rt.clS ?_ | refine Rt.jmN ?_ | refine Rt.jbN ?_ | refine Rt.jbE ?_)) | ((with_reducible (first | apply Rt.ld0 | apply Rt.ld1 | apply Rt.ld2 | apply Rt.ld3 | apply Rt.ld4 | apply Rt.ld5)); first | assumption | exact Lc.kp (by assumption) (by assumption)) | ((with_reducible apply Rt.ol); first | assumption | exact cell_kp (by assumption) (by assumption)))); exact Rt.some' rfl))))
      refine Rt.jb ?_
      have hm' := begin_l0 (n := n) (m := m) hn (hb.gx g1 hnb)
      rw [← hm] at hm'
      refine Rt.mono hm' ?_
      rintro _ ⟨w2, rfl, k2⟩
      refine .inl ⟨.inr rfl, ?_⟩
      (repeat (first | (with_reducible (first | refine Rt.fin ?_ | refine Rt.tL ?_ | refine Rt.tI ?_ | refine Rt.tB ?_ | refine Rt.tS ?_ | refine Rt.tP ?_ | refine Rt.tD ?_ | refine Rt.tM ?_ | refine Rt.tC ?_ | refine Rt.tN ?_ | refine Rt.tA ?_ | refine Rt.tG ?_ | refine Rt.tF ?_ | refine Rt.os ?_ | refine Rt.clS ?_ | refine Rt.jmN ?_ | refine Rt.jbN ?_ | refine Rt.jbE ?_)) | ((with_reducible (first | apply Rt.ld0 | apply Rt.ld1 | apply Rt.ld2 | apply Rt.ld3 | apply Rt.ld4 | apply Rt.ld5)); first | assumption | exact Lc.kp (by assumption) (by assumption)) | ((with_reducible apply Rt.ol); first | assumption | exact cell_kp (by assumption) (by assumption)) | ((with_reducible apply Rt.ckR); focus ((repeat (first | (with_reducible (first | refine Rt.fin ?_ | refine Rt.tL ?_ | refine Rt.tI ?_ | refine Rt.tB ?_ | refine Rt.tS ?_ | refine Rt.tP ?_ | refine Rt.tD ?_ | refine Rt.tM ?_ | refine Rt.tC ?_ | refine Rt.tN ?_ | refine Rt.tA ?_ | refine Rt.tG ?_ | refine Rt.tF ?_ | refine Rt.os ?_ | refine Rt.clS ?_ | refine Rt.jmN ?_ | refine Rt.jbN ?_ | refine Rt.jbE ?_)) | ((with_reducible (first | apply Rt.ld0 | apply Rt.ld1 | apply Rt.ld2 | apply Rt.ld3 | apply Rt.ld4 | apply Rt.ld5)); first | assumption | exact Lc.kp (by assumption) (by assumption)) | ((with_reducible apply Rt.ol); first | assumption | exact cell_kp (by assumption) (by assumption)))); exact Rt.some' rfl))))
      refine ⟨_, rfl, rfl, w2, ?_, ?_, (gS g1).tr k2.gx⟩
      · unfold DS.begin; simp [h0]
      · unfold DS.begin; simp only [h0, if_true]
        exact (hD _ _ l1 g1).kp k2
    · have h0 : x ≠ 0 := h0
      (repeat (first | (with_reducible (first | refine Rt.fin ?_ | refine Rt.tL ?_ | refine Rt.tI ?_ | refine Rt.tB ?_ | refine Rt.tS ?_ | refine Rt.tP ?_ | refine Rt.tD ?_ | refine Rt.tM ?_ | refine Rt.tC ?_ | refine Rt.tN ?_ | refine Rt.tA ?_ | refine Rt.tG ?_ | refine Rt.tF ?_ | refine Rt.os ?_ | refine Rt.clS ?_ | refine Rt.jmN ?_ | refine Rt.jbN ?_ | refine Rt.jbE ?_)) | ((with_reducible (first | apply Rt.ld0 | apply Rt.ld1 | apply Rt.ld2 | apply Rt.ld3 | apply Rt.ld4 | apply Rt.ld5)); first | assumption | exact Lc.kp (by assumption) (by assumption)) | ((with_reducible apply Rt.ol); first | assumption | exact cell_kp (by assumption) (by assumption)) | ((with_reducible apply Rt.ckR); focus ((repeat (first | (with_reducible (first | refine Rt.fin ?_ | refine Rt.tL ?_ | refine Rt.tI ?_ | refine Rt.tB ?_ | refine Rt.tS ?_ | refine Rt.tP ?_ | refine Rt.tD ?_ | refine Rt.tM ?_ | refine Rt.tC ?_ | refine Rt.tN ?_ | refine Rt.tA ?_ | refine Rt.tG ?_ | refine Rt.tF ?_ | refine Rt.os ?_ | refine Rt.clS ?_ | refine Rt.jmN ?_ | refine Rt.jbN ?_ | refine Rt.jbE ?_)) | ((with_reducible (first | apply Rt.ld0 | apply Rt.ld1 | apply Rt.ld2 | apply Rt.ld3 | apply Rt.ld4 | apply Rt.ld5)); first | assumption | exact Lc.kp (by assumption) (by assumption)) | ((with_reducible apply Rt.ol); first | assumption | exact cell_kp (by assumption) (by assumption)))); exact Rt.some' rfl))))
      refine Rt.st4 l1 fun w2 l2 g2 => ?_
      refine Rt.some' (.inr ⟨by simp, rfl, w2, ?_, ?_, gS (g1.tr g2)⟩)
      · unfold DS.begin; simp [h0]
      · unfold DS.begin; simp only [h0, if_false]
        exact hD _ _ l2 (g1.tr g2)
def DS.open (s : DS) : Int × DS := if s.begin.1 ≠ 0 then s.begin else if s.file = none then (8, s.begin.2) else (0, s.begin.2)
theorem DS.begin_file (s : DS) : s.begin.2.file = s.file ∧ s.begin.2.room = s.room := by
  unfold DS.begin; split
  · exact ⟨rfl, rfl⟩
  · split <;> exact ⟨rfl, rfl⟩
theorem DS.begin_len (s : DS) : s.begin.2.len = s.len := by unfold DS.len; rw [s.begin_file.1]
theorem Fl.none_iff {N : Nat → Prop} {f : Option (List Int × Nat)} (h : Fl w S N fp f) : fp = none ↔ f = none := by
  unfold Fl at h
  split at h
  · simp
  · simp
  · exact h.elim
theorem open_spec {s : DS} (h : Dx w S d mb fp s) (hb : Lc w b [.string nl]) (hS : ¬ S b) (hn : 10 < n) : Rt (disk_Disk_open n [pt d, .slice (some ⟨b, 0, none⟩) 1 1] w) (RX0 w S d mb fp [ptr (if s.open.1 = 0 then fp else none), .int .i64 s.open.1] s.open.2) := by
  rw [disk_Disk_open_eq]
  refine Rt.fin ?_
  obtain ⟨r, hr, w1, rfl, h1, g1⟩ := begin_spec h hb hS hn
  refine Rt.cl hr ?_
  (repeat (first | (with_reducible (first | refine Rt.fin ?_ | refine Rt.tL ?_ | refine Rt.tI ?_ | refine Rt.tB ?_ | refine Rt.tS ?_ | refine Rt.tP ?_ | refine Rt.tD ?_ | refine Rt.tM ?_ | refine Rt.tC ?_ | refine Rt.tN ?_ | refine Rt.tA ?_ | refine Rt.tG ?_ | refine Rt.tF ?_ | refine Rt.os ?_ | refine Rt.clS ?_ | refine Rt.jmN ?_ | refine Rt.jbN ?_ | refine Rt.jbE ?_)) | ((with_reducible (first | apply Rt.ld0 | apply Rt.ld1 | apply Rt.ld2 | apply Rt.ld3 | apply Rt.ld4 | apply Rt.ld5)); first | assumption | exact Lc.kp (by assumption) (by assumption)) | ((with_reducible apply Rt.ol); first | assumption | exact cell_kp (by assumption) (by assumption)) | ((with_reducible apply Rt.ckR); focus ((repeat (first | (with_reducible (first | refine Rt.fin ?_ | refine Rt.tL ?_ | refine Rt.tI ?_ | refine Rt.tB ?_ | refine Rt.tS ?_ | refine Rt.tP ?_ | refine Rt.tD ?_ | refine Rt.tM ?_ | refine Rt.tC ?_ | refine Rt.tN ?_ | refine Rt.tA ?_ | refine Rt.tG ?_ | refine Rt.tF ?_ | refine Rt.os ?_ | refine Rt.clS ?_ | refine Rt.jmN ?_ | refine Rt.jbN ?_ | refine Rt.jbE ?_)) | ((with_reducible (first | apply Rt.ld0 | apply Rt.ld1 | apply Rt.ld2 | apply Rt.ld3 | apply Rt.ld4 | apply Rt.ld5)); first | assumption | exact Lc.kp (by assumption) (by assumption)) | ((with_reducible apply Rt.ol); first | assumption | exact cell_kp (by assumption) (by assumption)))); exact Rt.some' rfl))))
  refine Rt.cN (fun h0 => ?_) fun h0 => ?_
  · have h0 : s.begin.1 = 0 := h0
    obtain ⟨A, c, hd⟩ := id h1
    have hl := hd.lc.kp (Kp.rfl' w1).dr
    have hb1 := (hb.gx g1 hS).kp (Kp.rfl' w1).dr
    (repeat (first | (with_reducible (first | refine Rt.fin ?_ | refine Rt.tL ?_ | refine Rt.tI ?_ | refine Rt.tB ?_ | refine Rt.tS ?_ | refine Rt.tP ?_ | refine Rt.tD ?_ | refine Rt.tM ?_ | refine Rt.tC ?_ | refine Rt.tN ?_ | refine Rt.tA ?_ | refine Rt.tG ?_ | refine Rt.tF ?_ | refine Rt.os ?_ | refine Rt.clS ?_ | refine Rt.jmN ?_ | refine Rt.jbN ?_ | refine Rt.jbE ?_)) | ((with_reducible (first | apply Rt.ld0 | apply Rt.ld1 | apply Rt.ld2 | apply Rt.ld3 | apply Rt.ld4 | apply Rt.ld5)); first | assumption | exact Lc.kp (by assumption) (by assumption)) | ((with_reducible apply Rt.ol); first | assumption | exact cell_kp (by assumption) (by assumption)) | ((with_reducible apply Rt.ckR); focus ((repeat (first | (with_reducible (first | refine Rt.fin ?_ | refine Rt.tL ?_ | refine Rt.tI ?_ | refine Rt.tB ?_ | refine Rt.tS ?_ | refine Rt.tP ?_ | refine Rt.tD ?_ | refine Rt.tM ?_ | refine Rt.tC ?_ | refine Rt.tN ?_ | refine Rt.tA ?_ | refine Rt.tG ?_ | refine Rt.tF ?_ | refine Rt.os ?_ | refine Rt.clS ?_ | refine Rt.jmN ?_ | refine Rt.jbN ?_ | refine Rt.jbE ?_)) | ((with_reducible (first | apply Rt.ld0 | apply Rt.ld1 | apply Rt.ld2 | apply Rt.ld3 | apply Rt.ld4 | apply Rt.ld5)); first | assumption | exact Lc.kp (by assumption) (by assumption)) | ((with_reducible apply Rt.ol); first | assumption | exact cell_kp (by assumption) (by assumption)))); exact Rt.some' rfl))))
    refine Rt.ix0 (by decide) ?_
    (repeat (first | (with_reducible (first | refine Rt.fin ?_ | refine Rt.tL ?_ | refine Rt.tI ?_ | refine Rt.tB ?_ | refine Rt.tS ?_ | refine Rt.tP ?_ | refine Rt.tD ?_ | refine Rt.tM ?_ | refine Rt.tC ?_ | refine Rt.tN ?_ | refine Rt.tA ?_ | refine Rt.tG ?_ | refine Rt.tF ?_ | refine Rt.os ?_ | refine Rt.clS ?_ | refine Rt.jmN ?_ | refine Rt.jbN ?_ | refine Rt.jbE ?_)) | ((with_reducible (first | apply Rt.ld0 | apply Rt.ld1 | apply Rt.ld2 | apply Rt.ld3 | apply Rt.ld4 | apply Rt.ld5)); first | assumption | exact Lc.kp (by assumption) (by assumption)) | ((with_reducible apply Rt.ol); first | assumption | exact cell_kp (by assumption) (by assumption)) | ((with_reducible apply Rt.ckR); focus ((repeat (first | (with_reducible (first | refine Rt.fin ?_ | refine Rt.tL ?_ | refine Rt.tI ?_ | refine Rt.tB ?_ | refine Rt.tS ?_ | refine Rt.tP ?_ | refine Rt.tD ?_ | refine Rt.tM ?_ | refine Rt.tC ?_ | refine Rt.tN ?_ | refine Rt.tA ?_ | refine Rt.tG ?_ | refine Rt.tF ?_ | refine Rt.os ?_ | refine Rt.clS ?_ | refine Rt.jmN ?_ | refine Rt.jbN ?_ | refine Rt.jbE ?_)) | ((with_reducible (first | apply Rt.ld0 | apply Rt.ld1 | apply Rt.ld2 | apply Rt.ld3 | apply Rt.ld4 | apply Rt.ld5)); first | assumption | exact Lc.kp (by assumption) (by assumption)) | ((with_reducible apply Rt.ol); first | assumption | exact cell_kp (by assumption) (by assumption)))); exact Rt.some' rfl))))
    refine Rt.lookF (hd.fm.kp (Kp.rfl' w1).dr) ?_
    have hnn := hd.fl.none_iff
    rw [s.begin_file.1] at hnn
    have h2 : Dx w1.drew S d mb fp s.begin.2 := h1.kp (Kp.rfl' w1).dr
    have g2 : Gx S w w1.drew := g1.dr
    cases fp with
    | none =>
      have e : s.open = (8, s.begin.2) := by unfold DS.open; rw [if_neg (by simpa using h0), if_pos (hnn.1 rfl)]
      rw [e]
      show Rt (tP (.pointer none) _) _
      (repeat (first | (with_reducible (first | refine Rt.fin ?_ | refine Rt.tL ?_ | refine Rt.tI ?_ | refine Rt.tB ?_ | refine Rt.tS ?_ | refine Rt.tP ?_ | refine Rt.tD ?_ | refine Rt.tM ?_ | refine Rt.tC ?_ | refine Rt.tN ?_ | refine Rt.tA ?_ | refine Rt.tG ?_ | refine Rt.tF ?_ | refine Rt.os ?_ | refine Rt.clS ?_ | refine Rt.jmN ?_ | refine Rt.jbN ?_ | refine Rt.jbE ?_)) | ((with_reducible (first | apply Rt.ld0 | apply Rt.ld1 | apply Rt.ld2 | apply Rt.ld3 | apply Rt.ld4 | apply Rt.ld5)); first | assumption | exact Lc.kp (by assumption) (by assumption)) | ((with_reducible apply Rt.ol); first | assumption | exact cell_kp (by assumption) (by assumption)) | ((with_reducible apply Rt.ckR); focus ((repeat (first | (with_reducible (first | refine Rt.fin ?_ | refine Rt.tL ?_ | refine Rt.tI ?_ | refine Rt.tB ?_ | refine Rt.tS ?_ | refine Rt.tP ?_ | refine Rt.tD ?_ | refine Rt.tM ?_ | refine Rt.tC ?_ | refine Rt.tN ?_ | refine Rt.tA ?_ | refine Rt.tG ?_ | refine Rt.tF ?_ | refine Rt.os ?_ | refine Rt.clS ?_ | refine Rt.jmN ?_ | refine Rt.jbN ?_ | refine Rt.jbE ?_)) | ((with_reducible (first | apply Rt.ld0 | apply Rt.ld1 | apply Rt.ld2 | apply Rt.ld3 | apply Rt.ld4 | apply Rt.ld5)); first | assumption | exact Lc.kp (by assumption) (by assumption)) | ((with_reducible apply Rt.ol); first | assumption | exact cell_kp (by assumption) (by assumption)))); exact Rt.some' rfl))))
      refine Rt.cT ?_ ?_; rfl
      exact Rt.some' ⟨rfl, w1.drew, rfl, h2, g2⟩
    | some p =>
      have e : s.open = (0, s.begin.2) := by unfold DS.open; rw [if_neg (by simpa using h0), if_neg (fun e => by cases hnn.2 e)]
      rw [e]
      show Rt (tP (pt p) _) _
      (repeat (first | (with_reducible (first | refine Rt.fin ?_ | refine Rt.tL ?_ | refine Rt.tI ?_ | refine Rt.tB ?_ | refine Rt.tS ?_ | refine Rt.tP ?_ | refine Rt.tD ?_ | refine Rt.tM ?_ | refine Rt.tC ?_ | refine Rt.tN ?_ | refine Rt.tA ?_ | refine Rt.tG ?_ | refine Rt.tF ?_ | refine Rt.os ?_ | refine Rt.clS ?_ | refine Rt.jmN ?_ | refine Rt.jbN ?_ | refine Rt.jbE ?_)) | ((with_reducible (first | apply Rt.ld0 | apply Rt.ld1 | apply Rt.ld2 | apply Rt.ld3 | apply Rt.ld4 | apply Rt.ld5)); first | assumption | exact Lc.kp (by assumption) (by assumption)) | ((with_reducible apply Rt.ol); first | assumption | exact cell_kp (by assumption) (by assumption)) | ((with_reducible apply Rt.ckR); focus ((repeat (first | (with_reducible (first | refine Rt.fin ?_ | refine Rt.tL ?_ | refine Rt.tI ?_ | refine Rt.tB ?_ | refine Rt.tS ?_ | refine Rt.tP ?_ | refine Rt.tD ?_ | refine Rt.tM ?_ | refine Rt.tC ?_ | refine Rt.tN ?_ | refine Rt.tA ?_ | refine Rt.tG ?_ | refine Rt.tF ?_ | refine Rt.os ?_ | refine Rt.clS ?_ | refine Rt.jmN ?_ | refine Rt.jbN ?_ | refine Rt.jbE ?_)) | ((with_reducible (first | apply Rt.ld0 | apply Rt.ld1 | apply Rt.ld2 | apply Rt.ld3 | apply Rt.ld4 | apply Rt.ld5)); first | assumption | exact Lc.kp (by assumption) (by assumption)) | ((with_reducible apply Rt.ol); first | assumption | exact cell_kp (by assumption) (by assumption)))); exact Rt.some' rfl))))
      refine Rt.cF ?_ ?_; rfl
      exact Rt.some' ⟨rfl, w1.drew, rfl, h2, g2⟩
  · have h0 : s.begin.1 ≠ 0 := h0
    have e : s.open = s.begin := if_pos h0
    rw [e, if_neg h0]
    exact Rt.some' ⟨rfl, w1, rfl, h1, g1⟩
end
end Go.Proofs.YtdcdgmiojlldaaaDoor.Wl
/- The disk: New, Append, Size, Sync, Read. -/
namespace Go.Proofs.YtdcdgmiojlldaaaDoor.Wl
open Go Big Go.RowKit Go.IntWalk Var Low
set_option linter.unusedVariables false
set_option linter.unusedSimpArgs false
theorem slB : ∃ i, SlT Tryd.prog 28 5 .u8 i := slT (by kernel_rfl)
section
variable {α : Type} {Q : α → Prop} {n m : Nat} {w w' w0 w1 : World} {A B C : Option Addr} {l c d base e mb p b : Nat} {k : IntKind} {x r out o zs xs : List Int} {S S' T : Nat → Prop} {fp : Option Nat} {s : DS}
theorem CloneB_spec (hx : Bv .u8 w A l c xs) (hl : l ≤ 2 ^ 38) : Rt (slices_Clone_byte_byte n [.slice A l c] w) (RO .u8 5 w xs) := by
  obtain ⟨i, hT⟩ := slB
  have hxl := hx.len
  rw [slices_Clone_byte_byte_eq]
  refine Rt.fin (Rt.cB (fun h => ?_) fun h => ?_)
  · have : A = none := by simpa using h
    have h2 := hx.nil this
    have : xs = [] := List.length_eq_zero_iff.1 (by omega)
    subst this
    exact Rt.endO (Own.nil w w.heap.size) (Nat.le_refl _) (Kp.rfl' w)
  · refine Rt.alo (k := .u8) [] 0 rfl rfl (by decide) fun w1 o1 k1 => ?_
    refine Rt.app hT o1 (hx.kp k1).sl hx.nil (by simp; omega) k1.size fun B d w2 o2 hk _ _ => ?_
    (repeat (first | (with_reducible (first | refine Rt.fin ?_ | refine Rt.tL ?_ | refine Rt.tI ?_ | refine Rt.tB ?_ | refine Rt.tS ?_ | refine Rt.tP ?_ | refine Rt.tD ?_ | refine Rt.tM ?_ | refine Rt.tC ?_ | refine Rt.tN ?_ | refine Rt.tA ?_ | refine Rt.tG ?_ | refine Rt.tF ?_ | refine Rt.os ?_ | refine Rt.clS ?_ | refine Rt.jmN ?_ | refine Rt.jbN ?_ | refine Rt.jbE ?_)) | ((with_reducible (first | apply Rt.ld0 | apply Rt.ld1 | apply Rt.ld2 | apply Rt.ld3 | apply Rt.ld4 | apply Rt.ld5)); first | assumption | exact Lc.kp (by assumption) (by assumption)) | ((with_reducible apply Rt.ol); first | assumption | exact cell_kp (by assumption) (by assumption)) | ((with_reducible apply Rt.ckR); focus ((repeat (first | (with_reducible (first | refine Rt.fin ?_ | refine Rt.tL ?_ | refine Rt.tI ?_ | refine Rt.tB ?_ | refine Rt.tS ?_ | refine Rt.tP ?_ | refine Rt.tD ?_ | refine Rt.tM ?_ | refine Rt.tC ?_ | refine Rt.tN ?_ | refine Rt.tA ?_ | refine Rt.tG ?_ | refine Rt.tF ?_ | refine Rt.os ?_ | refine Rt.clS ?_ | refine Rt.jmN ?_ | refine Rt.jbN ?_ | refine Rt.jbE ?_)) | ((with_reducible (first | apply Rt.ld0 | apply Rt.ld1 | apply Rt.ld2 | apply Rt.ld3 | apply Rt.ld4 | apply Rt.ld5)); first | assumption | exact Lc.kp (by assumption) (by assumption)) | ((with_reducible apply Rt.ol); first | assumption | exact cell_kp (by assumption) (by assumption)))); exact Rt.some' rfl))))
    have hk2 := hk w k1 (Nat.le_refl _)
    rw [List.nil_append] at o2
    exact Rt.endO o2 (Nat.le_refl _) hk2
def RK (S : Nat → Prop) (w : World) (d : Nat) (vs : List Value) (s : DS) : List Value × World → Prop := RF S w vs fun S' w' => Dk w' S' d s
theorem New_spec {room : Int} (hr : room < 2 ^ 63) : Rt (disk_New n [.int .i64 room] w) fun r => ∃ d w' S, r = ([pt d], w') ∧ Dk w' S d ⟨if 0 < room then room else 0, none, [], 0⟩ ∧ Kp w w' ∧ ∀ j, S j → w.heap.size ≤ j := by
  rw [disk_New_eq]
  refine Rt.fin ?_
  have hm := Fm.new w
  have k0 : Kp w (w.alloc (.map #[] 0)) := (Kp.rfl' w).al _
  generalize hw1 : w.alloc (.map #[] 0) = w1 at *
  have hsz : w1.heap.size = w.heap.size + 1 := by rw [← hw1]; simp
  refine Rt.al fun w2 l2 k2 s2 => ?_
  refine Rt.some' ⟨rfl, _, w2, fun j => j = w1.heap.size ∨ j = w.heap.size, rfl, ⟨w.heap.size, none, none, 0, l2, ⟨Sl.nil .., fun _ => ⟨rfl, rfl⟩, Nat.le_refl _, Nat.zero_le _, by simp⟩, hm.kp k2, trivial, fun j hj => ?_, .inl rfl, .inr rfl, ?_, fun j hj => ?_, ?_⟩, k0.tr k2, fun j hj => ?_⟩
  · cases hj
  · omega
  · rcases hj with h | h <;> omega
  · dsimp only; split <;> omega
  · rcases hj with h | h <;> omega
theorem DS.open_len (s : DS) : s.open.2.len = s.len ∧ s.open.2.file = s.file := by
  unfold DS.open
  split
  · exact ⟨s.begin_len, s.begin_file.1⟩
  · split <;> exact ⟨s.begin_len, s.begin_file.1⟩
theorem DS.open_ok (h : s.open.1 = 0) : ∃ f, s.file = some f := by
  unfold DS.open at h
  split at h
  · contradiction
  · split at h
    · cases h
    · rename_i h2; exact Option.ne_none_iff_exists'.1 h2
theorem Fl.some' {N : Nat → Prop} {f : List Int × Nat} (h : Fl w S N fp (some f)) : ∃ p, fp = some p ∧ S p ∧ ¬ N p ∧ Bytes f.1 ∧ f.2 ≤ f.1.length ∧ f.1.length ≤ 16777216 ∧ ∃ B e, Lc w p [.slice B f.1.length e, .int .i64 (f.2 : Int)] ∧ Own .u8 5 w 0 (.slice B f.1.length e) f.1 ∧ ∀ j, On (.slice B f.1.length e) j → S j ∧ ¬ N j ∧ j ≠ p := by
  unfold Fl at h
  split at h
  · rename_i e; cases e
  · rename_i p f' e
    injection e with e
    subst e
    exact ⟨p, rfl, h⟩
  · exact h.elim
theorem Size_spec (h : Dk w S d s) (hn : 10 < n) : Rt (disk_Disk_Size n [pt d, .string nl] w) fun r => ∃ w', r = ([.int .i64 (if s.open.1 = 0 then (s.len : Int) else 0), .int .i64 s.open.1], w') ∧ Dk w' S d s.open.2 ∧ Gx S w w' := by
  obtain ⟨mb, fp, h⟩ := h
  rw [disk_Disk_Size_eq]
  refine Rt.fin (Rt.al fun w1 l1 k1 s1 => ?_)
  have h0 := h.kp k1
  have hS : ¬ S w.heap.size := fun hj => by obtain ⟨A, c, hd⟩ := h; have := hd.lt _ hj; omega
  obtain ⟨r, hr, w2, rfl, h2, g2⟩ := open_spec h0 l1 hS hn
  refine Rt.cl hr ?_
  have gg : Gx S w w2 := k1.gx.tr g2
  by_cases ho : s.open.1 = 0
  · rw [if_pos ho, if_pos ho, ho]
    obtain ⟨f, hf⟩ := s.open_ok ho
    obtain ⟨A, c, hd⟩ := id h2
    have hfl := hd.fl
    rw [s.open_len.2, hf] at hfl
    obtain ⟨p, rfl, _, _, _, _, _, B, e, hp, _⟩ := hfl.some'
    show Rt (tC [pt p, .int .i64 0] _) _
    (repeat (first | (with_reducible (first | refine Rt.fin ?_ | refine Rt.tL ?_ | refine Rt.tI ?_ | refine Rt.tB ?_ | refine Rt.tS ?_ | refine Rt.tP ?_ | refine Rt.tD ?_ | refine Rt.tM ?_ | refine Rt.tC ?_ | refine Rt.tN ?_ | refine Rt.tA ?_ | refine Rt.tG ?_ | refine Rt.tF ?_ | refine Rt.os ?_ | refine Rt.clS ?_ | refine Rt.jmN ?_ | refine Rt.jbN ?_ | refine Rt.jbE ?_)) | ((with_reducible (first | apply Rt.ld0 | apply Rt.ld1 | apply Rt.ld2 | apply Rt.ld3 | apply Rt.ld4 | apply Rt.ld5)); first | assumption | exact Lc.kp (by assumption) (by assumption)) | ((with_reducible apply Rt.ol); first | assumption | exact cell_kp (by assumption) (by assumption)) | ((with_reducible apply Rt.ckR); focus ((repeat (first | (with_reducible (first | refine Rt.fin ?_ | refine Rt.tL ?_ | refine Rt.tI ?_ | refine Rt.tB ?_ | refine Rt.tS ?_ | refine Rt.tP ?_ | refine Rt.tD ?_ | refine Rt.tM ?_ | refine Rt.tC ?_ | refine Rt.tN ?_ | refine Rt.tA ?_ | refine Rt.tG ?_ | refine Rt.tF ?_ | refine Rt.os ?_ | refine Rt.clS ?_ | refine Rt.jmN ?_ | refine Rt.jbN ?_ | refine Rt.jbE ?_)) | ((with_reducible (first | apply Rt.ld0 | apply Rt.ld1 | apply Rt.ld2 | apply Rt.ld3 | apply Rt.ld4 | apply Rt.ld5)); first | assumption | exact Lc.kp (by assumption) (by assumption)) | ((with_reducible apply Rt.ol); first | assumption | exact cell_kp (by assumption) (by assumption)))); exact Rt.some' rfl))))
    refine Rt.cN (fun _ => ?_) fun e => absurd rfl e
    (repeat (first | (with_reducible (first | refine Rt.fin ?_ | refine Rt.tL ?_ | refine Rt.tI ?_ | refine Rt.tB ?_ | refine Rt.tS ?_ | refine Rt.tP ?_ | refine Rt.tD ?_ | refine Rt.tM ?_ | refine Rt.tC ?_ | refine Rt.tN ?_ | refine Rt.tA ?_ | refine Rt.tG ?_ | refine Rt.tF ?_ | refine Rt.os ?_ | refine Rt.clS ?_ | refine Rt.jmN ?_ | refine Rt.jbN ?_ | refine Rt.jbE ?_)) | ((with_reducible (first | apply Rt.ld0 | apply Rt.ld1 | apply Rt.ld2 | apply Rt.ld3 | apply Rt.ld4 | apply Rt.ld5)); first | assumption | exact Lc.kp (by assumption) (by assumption)) | ((with_reducible apply Rt.ol); first | assumption | exact cell_kp (by assumption) (by assumption)) | ((with_reducible apply Rt.ckR); focus ((repeat (first | (with_reducible (first | refine Rt.fin ?_ | refine Rt.tL ?_ | refine Rt.tI ?_ | refine Rt.tB ?_ | refine Rt.tS ?_ | refine Rt.tP ?_ | refine Rt.tD ?_ | refine Rt.tM ?_ | refine Rt.tC ?_ | refine Rt.tN ?_ | refine Rt.tA ?_ | refine Rt.tG ?_ | refine Rt.tF ?_ | refine Rt.os ?_ | refine Rt.clS ?_ | refine Rt.jmN ?_ | refine Rt.jbN ?_ | refine Rt.jbE ?_)) | ((with_reducible (first | apply Rt.ld0 | apply Rt.ld1 | apply Rt.ld2 | apply Rt.ld3 | apply Rt.ld4 | apply Rt.ld5)); first | assumption | exact Lc.kp (by assumption) (by assumption)) | ((with_reducible apply Rt.ol); first | assumption | exact cell_kp (by assumption) (by assumption)))); exact Rt.some' rfl))))
    refine Rt.some' ⟨rfl, w2, ?_, ⟨mb, _, h2⟩, gg⟩
    rw [show s.len = f.1.length by unfold DS.len; rw [hf]]
  · rw [if_neg ho, if_neg ho]
    show Rt (tC [.pointer none, .int .i64 s.open.1] _) _
    (repeat (first | (with_reducible (first | refine Rt.fin ?_ | refine Rt.tL ?_ | refine Rt.tI ?_ | refine Rt.tB ?_ | refine Rt.tS ?_ | refine Rt.tP ?_ | refine Rt.tD ?_ | refine Rt.tM ?_ | refine Rt.tC ?_ | refine Rt.tN ?_ | refine Rt.tA ?_ | refine Rt.tG ?_ | refine Rt.tF ?_ | refine Rt.os ?_ | refine Rt.clS ?_ | refine Rt.jmN ?_ | refine Rt.jbN ?_ | refine Rt.jbE ?_)) | ((with_reducible (first | apply Rt.ld0 | apply Rt.ld1 | apply Rt.ld2 | apply Rt.ld3 | apply Rt.ld4 | apply Rt.ld5)); first | assumption | exact Lc.kp (by assumption) (by assumption)) | ((with_reducible apply Rt.ol); first | assumption | exact cell_kp (by assumption) (by assumption)) | ((with_reducible apply Rt.ckR); focus ((repeat (first | (with_reducible (first | refine Rt.fin ?_ | refine Rt.tL ?_ | refine Rt.tI ?_ | refine Rt.tB ?_ | refine Rt.tS ?_ | refine Rt.tP ?_ | refine Rt.tD ?_ | refine Rt.tM ?_ | refine Rt.tC ?_ | refine Rt.tN ?_ | refine Rt.tA ?_ | refine Rt.tG ?_ | refine Rt.tF ?_ | refine Rt.os ?_ | refine Rt.clS ?_ | refine Rt.jmN ?_ | refine Rt.jbN ?_ | refine Rt.jbE ?_)) | ((with_reducible (first | apply Rt.ld0 | apply Rt.ld1 | apply Rt.ld2 | apply Rt.ld3 | apply Rt.ld4 | apply Rt.ld5)); first | assumption | exact Lc.kp (by assumption) (by assumption)) | ((with_reducible apply Rt.ol); first | assumption | exact cell_kp (by assumption) (by assumption)))); exact Rt.some' rfl))))
    refine Rt.cN (fun e => absurd e ho) fun _ => ?_
    exact Rt.some' ⟨rfl, w2, rfl, ⟨mb, _, h2⟩, gg⟩
theorem DxA.turn {s' : DS} {fp' : Option Nat} (hd : DxA w S d mb fp s A c) (g : Gx T w w') (hT : ∀ j, T j → ¬ On (.slice A s.fails.length c) j) (hS : ∀ j, S j → S' j) (hlt : ∀ j, S' j → j < w'.heap.size)
    (lc : Lc w' d [.int .i64 s'.room, .map (some mb), .int .i64 (s'.len : Int), .slice A s'.fails.length c, .int .i64 s'.failed]) (hf : s'.fails = s.fails) (hr : s'.room = s.room) (fl : Fl w' S' (fun j => j = d ∨ j = mb ∨ On (.slice A s.fails.length c) j) fp' s'.file) (fm : Fm w' mb fp') : DxA w' S' d mb fp' s' A c := by
  obtain ⟨room, file, fails, failed⟩ := s
  obtain ⟨room', file', fails', failed'⟩ := s'
  dsimp only at hf hr
  subst hf hr
  exact ⟨lc, Bv.gx' hd.fa g fun j hj ht => hT j ht hj, fm, fl, fun j hj => ⟨hS _ (hd.sf j hj).1, (hd.sf j hj).2⟩, hS _ hd.sd, hS _ hd.sm, hd.ne, hlt, hd.room⟩
def DS.sync (s : DS) : Int × DS := (s.open.1, if s.open.1 = 0 then { s.open.2 with file := s.open.2.file.map fun f => (f.1, f.1.length) } else s.open.2)
theorem Sync_spec (h : Dk w S d s) (hn : 10 < n) : Rt (disk_Disk_Sync n [pt d, .string nl] w) fun r => ∃ w', r = ([.int .i64 s.sync.1], w') ∧ Dk w' S d s.sync.2 ∧ Gx S w w' := by
  obtain ⟨mb, fp, h⟩ := h
  rw [disk_Disk_Sync_eq]
  refine Rt.fin (Rt.al fun w1 l1 k1 s1 => ?_)
  have h0 := h.kp k1
  have hS : ¬ S w.heap.size := fun hj => by obtain ⟨A, c, hd⟩ := h; have := hd.lt _ hj; omega
  obtain ⟨r, hr, w2, rfl, h2, g2⟩ := open_spec h0 l1 hS hn
  refine Rt.cl hr ?_
  have gg : Gx S w w2 := k1.gx.tr g2
  unfold DS.sync
  by_cases ho : s.open.1 = 0
  · rw [if_pos ho, if_pos ho, ho]
    obtain ⟨f, hf⟩ := s.open_ok ho
    obtain ⟨A, c, hd⟩ := id h2
    have hfl := hd.fl
    rw [s.open_len.2, hf] at hfl
    obtain ⟨p, rfl, i1, i2, i3, i4, i5, B, e, hp, i6, i7⟩ := hfl.some'
    show Rt (tC [pt p, .int .i64 0] _) _
    (repeat (first | (with_reducible (first | refine Rt.fin ?_ | refine Rt.tL ?_ | refine Rt.tI ?_ | refine Rt.tB ?_ | refine Rt.tS ?_ | refine Rt.tP ?_ | refine Rt.tD ?_ | refine Rt.tM ?_ | refine Rt.tC ?_ | refine Rt.tN ?_ | refine Rt.tA ?_ | refine Rt.tG ?_ | refine Rt.tF ?_ | refine Rt.os ?_ | refine Rt.clS ?_ | refine Rt.jmN ?_ | refine Rt.jbN ?_ | refine Rt.jbE ?_)) | ((with_reducible (first | apply Rt.ld0 | apply Rt.ld1 | apply Rt.ld2 | apply Rt.ld3 | apply Rt.ld4 | apply Rt.ld5)); first | assumption | exact Lc.kp (by assumption) (by assumption)) | ((with_reducible apply Rt.ol); first | assumption | exact cell_kp (by assumption) (by assumption)) | ((with_reducible apply Rt.ckR); focus ((repeat (first | (with_reducible (first | refine Rt.fin ?_ | refine Rt.tL ?_ | refine Rt.tI ?_ | refine Rt.tB ?_ | refine Rt.tS ?_ | refine Rt.tP ?_ | refine Rt.tD ?_ | refine Rt.tM ?_ | refine Rt.tC ?_ | refine Rt.tN ?_ | refine Rt.tA ?_ | refine Rt.tG ?_ | refine Rt.tF ?_ | refine Rt.os ?_ | refine Rt.clS ?_ | refine Rt.jmN ?_ | refine Rt.jbN ?_ | refine Rt.jbE ?_)) | ((with_reducible (first | apply Rt.ld0 | apply Rt.ld1 | apply Rt.ld2 | apply Rt.ld3 | apply Rt.ld4 | apply Rt.ld5)); first | assumption | exact Lc.kp (by assumption) (by assumption)) | ((with_reducible apply Rt.ol); first | assumption | exact cell_kp (by assumption) (by assumption)))); exact Rt.some' rfl))))
    refine Rt.jm (Rt.cQ (fun _ => ?_) fun e => absurd rfl e)
    (repeat (first | (with_reducible (first | refine Rt.fin ?_ | refine Rt.tL ?_ | refine Rt.tI ?_ | refine Rt.tB ?_ | refine Rt.tS ?_ | refine Rt.tP ?_ | refine Rt.tD ?_ | refine Rt.tM ?_ | refine Rt.tC ?_ | refine Rt.tN ?_ | refine Rt.tA ?_ | refine Rt.tG ?_ | refine Rt.tF ?_ | refine Rt.os ?_ | refine Rt.clS ?_ | refine Rt.jmN ?_ | refine Rt.jbN ?_ | refine Rt.jbE ?_)) | ((with_reducible (first | apply Rt.ld0 | apply Rt.ld1 | apply Rt.ld2 | apply Rt.ld3 | apply Rt.ld4 | apply Rt.ld5)); first | assumption | exact Lc.kp (by assumption) (by assumption)) | ((with_reducible apply Rt.ol); first | assumption | exact cell_kp (by assumption) (by assumption)) | ((with_reducible apply Rt.ckR); focus ((repeat (first | (with_reducible (first | refine Rt.fin ?_ | refine Rt.tL ?_ | refine Rt.tI ?_ | refine Rt.tB ?_ | refine Rt.tS ?_ | refine Rt.tP ?_ | refine Rt.tD ?_ | refine Rt.tM ?_ | refine Rt.tC ?_ | refine Rt.tN ?_ | refine Rt.tA ?_ | refine Rt.tG ?_ | refine Rt.tF ?_ | refine Rt.os ?_ | refine Rt.clS ?_ | refine Rt.jmN ?_ | refine Rt.jbN ?_ | refine Rt.jbE ?_)) | ((with_reducible (first | apply Rt.ld0 | apply Rt.ld1 | apply Rt.ld2 | apply Rt.ld3 | apply Rt.ld4 | apply Rt.ld5)); first | assumption | exact Lc.kp (by assumption) (by assumption)) | ((with_reducible apply Rt.ol); first | assumption | exact cell_kp (by assumption) (by assumption)))); exact Rt.some' rfl))))
    refine Rt.st1 hp fun w3 l3 g3 => Rt.some' ⟨rfl, ?_⟩
    (repeat (first | (with_reducible (first | refine Rt.fin ?_ | refine Rt.tL ?_ | refine Rt.tI ?_ | refine Rt.tB ?_ | refine Rt.tS ?_ | refine Rt.tP ?_ | refine Rt.tD ?_ | refine Rt.tM ?_ | refine Rt.tC ?_ | refine Rt.tN ?_ | refine Rt.tA ?_ | refine Rt.tG ?_ | refine Rt.tF ?_ | refine Rt.os ?_ | refine Rt.clS ?_ | refine Rt.jmN ?_ | refine Rt.jbN ?_ | refine Rt.jbE ?_)) | ((with_reducible (first | apply Rt.ld0 | apply Rt.ld1 | apply Rt.ld2 | apply Rt.ld3 | apply Rt.ld4 | apply Rt.ld5)); first | assumption | exact Lc.kp (by assumption) (by assumption)) | ((with_reducible apply Rt.ol); first | assumption | exact cell_kp (by assumption) (by assumption)) | ((with_reducible apply Rt.ckR); focus ((repeat (first | (with_reducible (first | refine Rt.fin ?_ | refine Rt.tL ?_ | refine Rt.tI ?_ | refine Rt.tB ?_ | refine Rt.tS ?_ | refine Rt.tP ?_ | refine Rt.tD ?_ | refine Rt.tM ?_ | refine Rt.tC ?_ | refine Rt.tN ?_ | refine Rt.tA ?_ | refine Rt.tG ?_ | refine Rt.tF ?_ | refine Rt.os ?_ | refine Rt.clS ?_ | refine Rt.jmN ?_ | refine Rt.jbN ?_ | refine Rt.jbE ?_)) | ((with_reducible (first | apply Rt.ld0 | apply Rt.ld1 | apply Rt.ld2 | apply Rt.ld3 | apply Rt.ld4 | apply Rt.ld5)); first | assumption | exact Lc.kp (by assumption) (by assumption)) | ((with_reducible apply Rt.ol); first | assumption | exact cell_kp (by assumption) (by assumption)))); exact Rt.some' rfl))))
    refine Rt.some' ⟨rfl, w3, rfl, ⟨mb, some p, A, c, ?_⟩, gg.tr (g3.wide fun k _ e => e ▸ i1)⟩
    have hlen : s.open.2.file = some f := by rw [s.open_len.2, hf]
    refine DxA.turn hd g3 (fun j hj hO => i2 (by subst hj; exact .inr (.inr hO))) (fun _ h => h) (fun j hj => Nat.lt_of_lt_of_le (hd.lt j hj) g3.size) ?_ rfl rfl ?_ (hd.fm.gx g3 fun e => i2 (by rw [← e]; exact .inr (.inl rfl)))
    · have := hd.lc.gx g3 (fun e => i2 (by rw [← e]; exact .inl rfl))
      rw [show s.open.2.len = f.1.length by unfold DS.len; rw [hlen]] at this
      rw [hlen]
      exact this
    · rw [hlen]
      exact ⟨i1, i2, i3, Nat.le_refl _, i5, B, e, l3, i6.gx g3 fun j hj ht => (i7 j hj).2.2 ht, i7⟩
  · rw [if_neg ho, if_neg ho]
    show Rt (tC [.pointer none, .int .i64 s.open.1] _) _
    (repeat (first | (with_reducible (first | refine Rt.fin ?_ | refine Rt.tL ?_ | refine Rt.tI ?_ | refine Rt.tB ?_ | refine Rt.tS ?_ | refine Rt.tP ?_ | refine Rt.tD ?_ | refine Rt.tM ?_ | refine Rt.tC ?_ | refine Rt.tN ?_ | refine Rt.tA ?_ | refine Rt.tG ?_ | refine Rt.tF ?_ | refine Rt.os ?_ | refine Rt.clS ?_ | refine Rt.jmN ?_ | refine Rt.jbN ?_ | refine Rt.jbE ?_)) | ((with_reducible (first | apply Rt.ld0 | apply Rt.ld1 | apply Rt.ld2 | apply Rt.ld3 | apply Rt.ld4 | apply Rt.ld5)); first | assumption | exact Lc.kp (by assumption) (by assumption)) | ((with_reducible apply Rt.ol); first | assumption | exact cell_kp (by assumption) (by assumption)) | ((with_reducible apply Rt.ckR); focus ((repeat (first | (with_reducible (first | refine Rt.fin ?_ | refine Rt.tL ?_ | refine Rt.tI ?_ | refine Rt.tB ?_ | refine Rt.tS ?_ | refine Rt.tP ?_ | refine Rt.tD ?_ | refine Rt.tM ?_ | refine Rt.tC ?_ | refine Rt.tN ?_ | refine Rt.tA ?_ | refine Rt.tG ?_ | refine Rt.tF ?_ | refine Rt.os ?_ | refine Rt.clS ?_ | refine Rt.jmN ?_ | refine Rt.jbN ?_ | refine Rt.jbE ?_)) | ((with_reducible (first | apply Rt.ld0 | apply Rt.ld1 | apply Rt.ld2 | apply Rt.ld3 | apply Rt.ld4 | apply Rt.ld5)); first | assumption | exact Lc.kp (by assumption) (by assumption)) | ((with_reducible apply Rt.ol); first | assumption | exact cell_kp (by assumption) (by assumption)))); exact Rt.some' rfl))))
    refine Rt.jm (Rt.cQ (fun e => absurd e ho) fun _ => Rt.some' ⟨rfl, ?_⟩)
    (repeat (first | (with_reducible (first | refine Rt.fin ?_ | refine Rt.tL ?_ | refine Rt.tI ?_ | refine Rt.tB ?_ | refine Rt.tS ?_ | refine Rt.tP ?_ | refine Rt.tD ?_ | refine Rt.tM ?_ | refine Rt.tC ?_ | refine Rt.tN ?_ | refine Rt.tA ?_ | refine Rt.tG ?_ | refine Rt.tF ?_ | refine Rt.os ?_ | refine Rt.clS ?_ | refine Rt.jmN ?_ | refine Rt.jbN ?_ | refine Rt.jbE ?_)) | ((with_reducible (first | apply Rt.ld0 | apply Rt.ld1 | apply Rt.ld2 | apply Rt.ld3 | apply Rt.ld4 | apply Rt.ld5)); first | assumption | exact Lc.kp (by assumption) (by assumption)) | ((with_reducible apply Rt.ol); first | assumption | exact cell_kp (by assumption) (by assumption)) | ((with_reducible apply Rt.ckR); focus ((repeat (first | (with_reducible (first | refine Rt.fin ?_ | refine Rt.tL ?_ | refine Rt.tI ?_ | refine Rt.tB ?_ | refine Rt.tS ?_ | refine Rt.tP ?_ | refine Rt.tD ?_ | refine Rt.tM ?_ | refine Rt.tC ?_ | refine Rt.tN ?_ | refine Rt.tA ?_ | refine Rt.tG ?_ | refine Rt.tF ?_ | refine Rt.os ?_ | refine Rt.clS ?_ | refine Rt.jmN ?_ | refine Rt.jbN ?_ | refine Rt.jbE ?_)) | ((with_reducible (first | apply Rt.ld0 | apply Rt.ld1 | apply Rt.ld2 | apply Rt.ld3 | apply Rt.ld4 | apply Rt.ld5)); first | assumption | exact Lc.kp (by assumption) (by assumption)) | ((with_reducible apply Rt.ol); first | assumption | exact cell_kp (by assumption) (by assumption)))); exact Rt.some' rfl))))
    exact Rt.some' ⟨rfl, w2, rfl, ⟨mb, _, h2⟩, gg⟩
end
end Go.Proofs.YtdcdgmiojlldaaaDoor.Wl
/- The disk: Append, Read. -/
namespace Go.Proofs.YtdcdgmiojlldaaaDoor.Wl
open Go Big Go.RowKit Go.IntWalk Var Low
set_option linter.unusedVariables false
set_option linter.unusedSimpArgs false
section
variable {α : Type} {Q : α → Prop} {n m : Nat} {w w' w0 w1 : World} {A B C : Option Addr} {l c c' d base e mb p b : Nat} {k : IntKind} {x r out o zs xs : List Int} {S S' T : Nat → Prop} {fp : Option Nat} {s : DS}
def DS.append (s : DS) (xs : List Int) : Int × DS :=
  if s.begin.1 ≠ 0 then s.begin else if (xs.length : Int) > 16777216 - s.len then (3, s.begin.2) else if (xs.length : Int) > s.room - s.len then (7, s.begin.2)
  else (0, { s.begin.2 with file := some (match s.file with | none => (xs, 0) | some f => (f.1 ++ xs, f.2)) })
theorem app_tail {f : List Int × Nat} (hd : DxA w S d mb (some p) s A c) (hf : s.file = some f) (hx : Bv .u8 w B l c' xs) (hle : f.1.length + l ≤ 16777216) :
    Rt (opt (some (⟨p, 0, none⟩ : Addr)) fun ad90 => opt (w.cell? ad90) fun v91 => tL v91 fun A92 l93 c94 => rn Tryd.prog (Builtin.append_ #[28, 28] 28 #[.slice A92 l93 c94, .slice B l c']) w fun v98 w99 => tL v98 fun A95 l96 c97 => opt (some (⟨p, 0, none⟩ : Addr)) fun ad100 => stC w99 ad100 (.slice A95 l96 c97) fun w101 => opt (some (⟨d, 0, none⟩ : Addr)) fun ad102 => opt (w101.cell? (Addr.add ad102 2)) fun v103 => tI .i64 v103 fun n104 => opt (some (⟨d, 0, none⟩ : Addr)) fun ad105 => stC w101 (Addr.add ad105 2) (.int .i64 (IntKind.i64.wrap (n104 + (l : Int)))) fun w106 => some (⟨.ret, [.int .i64 0], w106⟩ : Res))
      fun r => ∃ w' S', r = ⟨.ret, [.int .i64 0], w'⟩ ∧ Dx w' S' d mb (some p) { s with file := some (f.1 ++ xs, f.2) } ∧ Gx S w w' ∧ ∀ j, S' j → S j ∨ w.heap.size ≤ j := by
  obtain ⟨i, hT⟩ := slB
  have hfl := hd.fl
  rw [hf] at hfl
  obtain ⟨_, e, i1, i2, i3, i4, i5, B0, e0, hp, i6, i7⟩ := hfl.some'
  injection e with e
  subst e
  have hxl := hx.len
  have hlen : s.len = f.1.length := by unfold DS.len; rw [hf]
  (repeat (first | (with_reducible (first | refine Rt.fin ?_ | refine Rt.tL ?_ | refine Rt.tI ?_ | refine Rt.tB ?_ | refine Rt.tS ?_ | refine Rt.tP ?_ | refine Rt.tD ?_ | refine Rt.tM ?_ | refine Rt.tC ?_ | refine Rt.tN ?_ | refine Rt.tA ?_ | refine Rt.tG ?_ | refine Rt.tF ?_ | refine Rt.os ?_ | refine Rt.clS ?_ | refine Rt.jmN ?_ | refine Rt.jbN ?_ | refine Rt.jbE ?_)) | ((with_reducible (first | apply Rt.ld0 | apply Rt.ld1 | apply Rt.ld2 | apply Rt.ld3 | apply Rt.ld4 | apply Rt.ld5)); first | assumption | exact Lc.kp (by assumption) (by assumption)) | ((with_reducible apply Rt.ol); first | assumption | exact cell_kp (by assumption) (by assumption)) | ((with_reducible apply Rt.ckR); focus ((repeat (first | (with_reducible (first | refine Rt.fin ?_ | refine Rt.tL ?_ | refine Rt.tI ?_ | refine Rt.tB ?_ | refine Rt.tS ?_ | refine Rt.tP ?_ | refine Rt.tD ?_ | refine Rt.tM ?_ | refine Rt.tC ?_ | refine Rt.tN ?_ | refine Rt.tA ?_ | refine Rt.tG ?_ | refine Rt.tF ?_ | refine Rt.os ?_ | refine Rt.clS ?_ | refine Rt.jmN ?_ | refine Rt.jbN ?_ | refine Rt.jbE ?_)) | ((with_reducible (first | apply Rt.ld0 | apply Rt.ld1 | apply Rt.ld2 | apply Rt.ld3 | apply Rt.ld4 | apply Rt.ld5)); first | assumption | exact Lc.kp (by assumption) (by assumption)) | ((with_reducible apply Rt.ol); first | assumption | exact cell_kp (by assumption) (by assumption)))); exact Rt.some' rfl))))
  refine Rt.appO hT i6 hx.sl hx.nil (by omega) (Nat.zero_le _) fun A2 c2 w2 o2 f2 g2 => ?_
  have hOnS : ∀ j, On (.slice B0 f.1.length e0) j → S j := fun j hj => (i7 j hj).1
  have npp : ¬ On (.slice B0 f.1.length e0) p := fun h => (i7 p h).2.2 rfl
  have np2 : ¬ On (.slice A2 (f.1.length + l) c2) p := fun h => (f2 p h).elim npp fun h => by have := hp.lt; omega
  have nd : d ≠ p := fun h => i2 (.inl h.symm)
  have nd2 : ¬ On (.slice A2 (f.1.length + l) c2) d := fun h => (f2 d h).elim (fun h => (i7 d h).2.1 (.inl rfl)) fun h => by have := hd.lc.lt; omega
  have hl2 := hd.lc.gx g2 fun h => (i7 d h).2.1 (.inl rfl)
  (repeat (first | (with_reducible (first | refine Rt.fin ?_ | refine Rt.tL ?_ | refine Rt.tI ?_ | refine Rt.tB ?_ | refine Rt.tS ?_ | refine Rt.tP ?_ | refine Rt.tD ?_ | refine Rt.tM ?_ | refine Rt.tC ?_ | refine Rt.tN ?_ | refine Rt.tA ?_ | refine Rt.tG ?_ | refine Rt.tF ?_ | refine Rt.os ?_ | refine Rt.clS ?_ | refine Rt.jmN ?_ | refine Rt.jbN ?_ | refine Rt.jbE ?_)) | ((with_reducible (first | apply Rt.ld0 | apply Rt.ld1 | apply Rt.ld2 | apply Rt.ld3 | apply Rt.ld4 | apply Rt.ld5)); first | assumption | exact Lc.kp (by assumption) (by assumption)) | ((with_reducible apply Rt.ol); first | assumption | exact cell_kp (by assumption) (by assumption)) | ((with_reducible apply Rt.ckR); focus ((repeat (first | (with_reducible (first | refine Rt.fin ?_ | refine Rt.tL ?_ | refine Rt.tI ?_ | refine Rt.tB ?_ | refine Rt.tS ?_ | refine Rt.tP ?_ | refine Rt.tD ?_ | refine Rt.tM ?_ | refine Rt.tC ?_ | refine Rt.tN ?_ | refine Rt.tA ?_ | refine Rt.tG ?_ | refine Rt.tF ?_ | refine Rt.os ?_ | refine Rt.clS ?_ | refine Rt.jmN ?_ | refine Rt.jbN ?_ | refine Rt.jbE ?_)) | ((with_reducible (first | apply Rt.ld0 | apply Rt.ld1 | apply Rt.ld2 | apply Rt.ld3 | apply Rt.ld4 | apply Rt.ld5)); first | assumption | exact Lc.kp (by assumption) (by assumption)) | ((with_reducible apply Rt.ol); first | assumption | exact cell_kp (by assumption) (by assumption)))); exact Rt.some' rfl))))
  refine Rt.st0 (hp.gx g2 npp) fun w3 l3 g3 => ?_
  have hl3 := hl2.gx g3 nd
  (repeat (first | (with_reducible (first | refine Rt.fin ?_ | refine Rt.tL ?_ | refine Rt.tI ?_ | refine Rt.tB ?_ | refine Rt.tS ?_ | refine Rt.tP ?_ | refine Rt.tD ?_ | refine Rt.tM ?_ | refine Rt.tC ?_ | refine Rt.tN ?_ | refine Rt.tA ?_ | refine Rt.tG ?_ | refine Rt.tF ?_ | refine Rt.os ?_ | refine Rt.clS ?_ | refine Rt.jmN ?_ | refine Rt.jbN ?_ | refine Rt.jbE ?_)) | ((with_reducible (first | apply Rt.ld0 | apply Rt.ld1 | apply Rt.ld2 | apply Rt.ld3 | apply Rt.ld4 | apply Rt.ld5)); first | assumption | exact Lc.kp (by assumption) (by assumption)) | ((with_reducible apply Rt.ol); first | assumption | exact cell_kp (by assumption) (by assumption)) | ((with_reducible apply Rt.ckR); focus ((repeat (first | (with_reducible (first | refine Rt.fin ?_ | refine Rt.tL ?_ | refine Rt.tI ?_ | refine Rt.tB ?_ | refine Rt.tS ?_ | refine Rt.tP ?_ | refine Rt.tD ?_ | refine Rt.tM ?_ | refine Rt.tC ?_ | refine Rt.tN ?_ | refine Rt.tA ?_ | refine Rt.tG ?_ | refine Rt.tF ?_ | refine Rt.os ?_ | refine Rt.clS ?_ | refine Rt.jmN ?_ | refine Rt.jbN ?_ | refine Rt.jbE ?_)) | ((with_reducible (first | apply Rt.ld0 | apply Rt.ld1 | apply Rt.ld2 | apply Rt.ld3 | apply Rt.ld4 | apply Rt.ld5)); first | assumption | exact Lc.kp (by assumption) (by assumption)) | ((with_reducible apply Rt.ol); first | assumption | exact cell_kp (by assumption) (by assumption)))); exact Rt.some' rfl))))
  refine Rt.st2 hl3 fun w4 l4 g4 => ?_
  have gT : Gx (fun j => On (.slice B0 f.1.length e0) j ∨ j = p ∨ j = d) w w4 := ((g2.wide fun j _ h => .inl h).tr (g3.wide fun j _ h => .inr (.inl h))).tr (g4.wide fun j _ h => .inr (.inr h))
  have gS : Gx S w w4 := gT.wide fun j _ h => h.elim (hOnS j) fun h => h.elim (fun h => h ▸ i1) fun h => h ▸ hd.sd
  have o4 : Own .u8 5 w4 0 (.slice A2 (f.1.length + l) c2) (f.1 ++ xs) := (o2.gx g3 fun j hj h => np2 (h ▸ hj)).gx g4 fun j hj h => nd2 (h ▸ hj)
  have hal : (f.1 ++ xs).length = f.1.length + l := by rw [List.length_append, hxl]
  refine Rt.some' ⟨w4, fun j => S j ∨ On (.slice A2 (f.1.length + l) c2) j, rfl, ⟨A, c, ?_⟩, gS, fun j hj => hj.elim .inl fun h => (f2 j h).imp (hOnS j) id⟩
  refine DxA.turn hd gT ?_ (fun _ h => .inl h) ?_ ?_ rfl rfl ?_ (hd.fm.gx gT ?_)
  · rintro j (h | rfl | rfl) hO
    · exact (i7 j h).2.1 (.inr (.inr hO))
    · exact i2 (.inr (.inr hO))
    · exact (hd.sf j hO).2.1 rfl
  · rintro j (h | h)
    · exact Nat.lt_of_lt_of_le (hd.lt j h) gS.size
    · exact (o4.lt j h).2
  · have e1 : IntKind.i64.wrap ((s.len : Int) + (l : Int)) = (((⟨s.room, some (f.1 ++ xs, f.2), s.fails, s.failed⟩ : DS).len : Nat) : Int) := by
      unfold DS.len; rw [hf]; dsimp only; rw [hal, i64_in _ (by omega)]; omega
    rw [e1] at l4
    exact l4
  · refine ⟨.inl i1, i2, fun z hz => (List.mem_append.1 hz).elim (i3 z) (hx.rng z), by rw [hal]; omega, by rw [hal]; omega, A2, c2, ?_, ?_, ?_⟩
    · show Lc w4 p [.slice A2 (f.1 ++ xs).length c2, .int .i64 (f.2 : Int)]
      rw [hal]
      exact l3.gx g4 fun h => nd h.symm
    · show Own .u8 5 w4 0 (.slice A2 (f.1 ++ xs).length c2) (f.1 ++ xs)
      rw [hal]; exact o4
    · intro j hj
      dsimp only at hj
      rw [hal] at hj
      refine ⟨.inr hj, fun hN => ?_, fun h => np2 (h ▸ hj)⟩
      rcases f2 j hj with h | h
      · exact (i7 j h).2.1 hN
      · rcases hN with h' | h' | h'
        · have := hd.lc.lt; omega
        · have := hd.fm.lt; omega
        · have := hd.lt j (hd.sf j h').1; omega
  · rintro (h | h | h)
    · exact (i7 mb h).2.1 (.inr (.inl rfl))
    · exact i2 (h ▸ .inr (.inl rfl))
    · exact hd.ne h
theorem Append_spec (h : Dk w S d s) (hx : Stb (fun j => S j ∨ w.heap.size ≤ j) (fun w => Bv .u8 w B l c' xs) w) (hn : 10 < n) : Rt (disk_Disk_Append n [pt d, .string nl, .slice B l c'] w) (RK S w d [.int .i64 (s.append xs).1] (s.append xs).2) := by
  obtain ⟨mb, fp, h⟩ := h
  have hxl := hx.out.len
  have hst : ∀ {w' : World}, Gx S w w' → Bv .u8 w' B l c' xs := fun g => hx _ (g.wide fun _ _ h => .inl h)
  rw [disk_Disk_Append_eq]
  refine Rt.fin (Rt.al fun w1 l1 k1 s1 => ?_)
  have h0 := h.kp k1
  have hS : ¬ S w.heap.size := fun hj => by obtain ⟨A, c, hd⟩ := h; have := hd.lt _ hj; omega
  obtain ⟨r, hr, w2, rfl, h2, g2⟩ := begin_spec h0 l1 hS hn
  refine Rt.cl hr ?_
  have gg : Gx S w w2 := k1.gx.tr g2
  (repeat (first | (with_reducible (first | refine Rt.fin ?_ | refine Rt.tL ?_ | refine Rt.tI ?_ | refine Rt.tB ?_ | refine Rt.tS ?_ | refine Rt.tP ?_ | refine Rt.tD ?_ | refine Rt.tM ?_ | refine Rt.tC ?_ | refine Rt.tN ?_ | refine Rt.tA ?_ | refine Rt.tG ?_ | refine Rt.tF ?_ | refine Rt.os ?_ | refine Rt.clS ?_ | refine Rt.jmN ?_ | refine Rt.jbN ?_ | refine Rt.jbE ?_)) | ((with_reducible (first | apply Rt.ld0 | apply Rt.ld1 | apply Rt.ld2 | apply Rt.ld3 | apply Rt.ld4 | apply Rt.ld5)); first | assumption | exact Lc.kp (by assumption) (by assumption)) | ((with_reducible apply Rt.ol); first | assumption | exact cell_kp (by assumption) (by assumption)) | ((with_reducible apply Rt.ckR); focus ((repeat (first | (with_reducible (first | refine Rt.fin ?_ | refine Rt.tL ?_ | refine Rt.tI ?_ | refine Rt.tB ?_ | refine Rt.tS ?_ | refine Rt.tP ?_ | refine Rt.tD ?_ | refine Rt.tM ?_ | refine Rt.tC ?_ | refine Rt.tN ?_ | refine Rt.tA ?_ | refine Rt.tG ?_ | refine Rt.tF ?_ | refine Rt.os ?_ | refine Rt.clS ?_ | refine Rt.jmN ?_ | refine Rt.jbN ?_ | refine Rt.jbE ?_)) | ((with_reducible (first | apply Rt.ld0 | apply Rt.ld1 | apply Rt.ld2 | apply Rt.ld3 | apply Rt.ld4 | apply Rt.ld5)); first | assumption | exact Lc.kp (by assumption) (by assumption)) | ((with_reducible apply Rt.ol); first | assumption | exact cell_kp (by assumption) (by assumption)))); exact Rt.some' rfl))))
  refine Rt.cN (fun hb => ?_) fun hb => ?_
  · have hb : s.begin.1 = 0 := hb
    obtain ⟨A, c, hd⟩ := id h2
    have hl := hd.lc
    have hlen := s.begin_len
    have hroom := hd.room
    rw [s.begin_file.2] at hroom
    rw [hlen, s.begin_file.2] at hl
    (repeat (first | (with_reducible (first | refine Rt.fin ?_ | refine Rt.tL ?_ | refine Rt.tI ?_ | refine Rt.tB ?_ | refine Rt.tS ?_ | refine Rt.tP ?_ | refine Rt.tD ?_ | refine Rt.tM ?_ | refine Rt.tC ?_ | refine Rt.tN ?_ | refine Rt.tA ?_ | refine Rt.tG ?_ | refine Rt.tF ?_ | refine Rt.os ?_ | refine Rt.clS ?_ | refine Rt.jmN ?_ | refine Rt.jbN ?_ | refine Rt.jbE ?_)) | ((with_reducible (first | apply Rt.ld0 | apply Rt.ld1 | apply Rt.ld2 | apply Rt.ld3 | apply Rt.ld4 | apply Rt.ld5)); first | assumption | exact Lc.kp (by assumption) (by assumption)) | ((with_reducible apply Rt.ol); first | assumption | exact cell_kp (by assumption) (by assumption)) | ((with_reducible apply Rt.ckR); focus ((repeat (first | (with_reducible (first | refine Rt.fin ?_ | refine Rt.tL ?_ | refine Rt.tI ?_ | refine Rt.tB ?_ | refine Rt.tS ?_ | refine Rt.tP ?_ | refine Rt.tD ?_ | refine Rt.tM ?_ | refine Rt.tC ?_ | refine Rt.tN ?_ | refine Rt.tA ?_ | refine Rt.tG ?_ | refine Rt.tF ?_ | refine Rt.os ?_ | refine Rt.clS ?_ | refine Rt.jmN ?_ | refine Rt.jbN ?_ | refine Rt.jbE ?_)) | ((with_reducible (first | apply Rt.ld0 | apply Rt.ld1 | apply Rt.ld2 | apply Rt.ld3 | apply Rt.ld4 | apply Rt.ld5)); first | assumption | exact Lc.kp (by assumption) (by assumption)) | ((with_reducible apply Rt.ol); first | assumption | exact cell_kp (by assumption) (by assumption)))); exact Rt.some' rfl))))
    refine Rt.lookF hd.fm ?_
    have hfl := hd.fl
    rw [s.begin_file.1] at hfl
    cases hf : s.file with
    | none =>
      obtain rfl := hfl.none_iff.2 hf
      have hl0 : s.len = 0 := by unfold DS.len; rw [hf]
      show Rt (tP (.pointer none) _) _
      (repeat (first | (with_reducible (first | refine Rt.fin ?_ | refine Rt.tL ?_ | refine Rt.tI ?_ | refine Rt.tB ?_ | refine Rt.tS ?_ | refine Rt.tP ?_ | refine Rt.tD ?_ | refine Rt.tM ?_ | refine Rt.tC ?_ | refine Rt.tN ?_ | refine Rt.tA ?_ | refine Rt.tG ?_ | refine Rt.tF ?_ | refine Rt.os ?_ | refine Rt.clS ?_ | refine Rt.jmN ?_ | refine Rt.jbN ?_ | refine Rt.jbE ?_)) | ((with_reducible (first | apply Rt.ld0 | apply Rt.ld1 | apply Rt.ld2 | apply Rt.ld3 | apply Rt.ld4 | apply Rt.ld5)); first | assumption | exact Lc.kp (by assumption) (by assumption)) | ((with_reducible apply Rt.ol); first | assumption | exact cell_kp (by assumption) (by assumption)) | ((with_reducible apply Rt.ckR); focus ((repeat (first | (with_reducible (first | refine Rt.fin ?_ | refine Rt.tL ?_ | refine Rt.tI ?_ | refine Rt.tB ?_ | refine Rt.tS ?_ | refine Rt.tP ?_ | refine Rt.tD ?_ | refine Rt.tM ?_ | refine Rt.tC ?_ | refine Rt.tN ?_ | refine Rt.tA ?_ | refine Rt.tG ?_ | refine Rt.tF ?_ | refine Rt.os ?_ | refine Rt.clS ?_ | refine Rt.jmN ?_ | refine Rt.jbN ?_ | refine Rt.jbE ?_)) | ((with_reducible (first | apply Rt.ld0 | apply Rt.ld1 | apply Rt.ld2 | apply Rt.ld3 | apply Rt.ld4 | apply Rt.ld5)); first | assumption | exact Lc.kp (by assumption) (by assumption)) | ((with_reducible apply Rt.ol); first | assumption | exact cell_kp (by assumption) (by assumption)))); exact Rt.some' rfl))))
      refine Rt.jm (Rt.cF rfl ?_)
      refine Rt.some' ⟨rfl, ?_⟩
      (repeat (first | (with_reducible (first | refine Rt.fin ?_ | refine Rt.tL ?_ | refine Rt.tI ?_ | refine Rt.tB ?_ | refine Rt.tS ?_ | refine Rt.tP ?_ | refine Rt.tD ?_ | refine Rt.tM ?_ | refine Rt.tC ?_ | refine Rt.tN ?_ | refine Rt.tA ?_ | refine Rt.tG ?_ | refine Rt.tF ?_ | refine Rt.os ?_ | refine Rt.clS ?_ | refine Rt.jmN ?_ | refine Rt.jbN ?_ | refine Rt.jbE ?_)) | ((with_reducible (first | apply Rt.ld0 | apply Rt.ld1 | apply Rt.ld2 | apply Rt.ld3 | apply Rt.ld4 | apply Rt.ld5)); first | assumption | exact Lc.kp (by assumption) (by assumption)) | ((with_reducible apply Rt.ol); first | assumption | exact cell_kp (by assumption) (by assumption)) | ((with_reducible apply Rt.ckR); focus ((repeat (first | (with_reducible (first | refine Rt.fin ?_ | refine Rt.tL ?_ | refine Rt.tI ?_ | refine Rt.tB ?_ | refine Rt.tS ?_ | refine Rt.tP ?_ | refine Rt.tD ?_ | refine Rt.tM ?_ | refine Rt.tC ?_ | refine Rt.tN ?_ | refine Rt.tA ?_ | refine Rt.tG ?_ | refine Rt.tF ?_ | refine Rt.os ?_ | refine Rt.clS ?_ | refine Rt.jmN ?_ | refine Rt.jbN ?_ | refine Rt.jbE ?_)) | ((with_reducible (first | apply Rt.ld0 | apply Rt.ld1 | apply Rt.ld2 | apply Rt.ld3 | apply Rt.ld4 | apply Rt.ld5)); first | assumption | exact Lc.kp (by assumption) (by assumption)) | ((with_reducible apply Rt.ol); first | assumption | exact cell_kp (by assumption) (by assumption)))); exact Rt.some' rfl))))
      refine Rt.jb ?_
      have e0 : IntKind.i64.wrap (16777216 - 0) = 16777216 := by decide
      rw [e0]
      refine Rt.cD (fun hc => ?_) fun hc => ?_
      · have e : s.append xs = (3, s.begin.2) := by unfold DS.append; rw [if_neg (by simpa using hb), if_pos (by omega)]
        rw [e]
        exact Rt.some' (.inr ⟨rfl, rfl, w2, S, rfl, gg, fun _ h => .inl h, mb, none, h2⟩)
      refine Rt.cT rfl ?_
      (repeat (first | (with_reducible (first | refine Rt.fin ?_ | refine Rt.tL ?_ | refine Rt.tI ?_ | refine Rt.tB ?_ | refine Rt.tS ?_ | refine Rt.tP ?_ | refine Rt.tD ?_ | refine Rt.tM ?_ | refine Rt.tC ?_ | refine Rt.tN ?_ | refine Rt.tA ?_ | refine Rt.tG ?_ | refine Rt.tF ?_ | refine Rt.os ?_ | refine Rt.clS ?_ | refine Rt.jmN ?_ | refine Rt.jbN ?_ | refine Rt.jbE ?_)) | ((with_reducible (first | apply Rt.ld0 | apply Rt.ld1 | apply Rt.ld2 | apply Rt.ld3 | apply Rt.ld4 | apply Rt.ld5)); first | assumption | exact Lc.kp (by assumption) (by assumption)) | ((with_reducible apply Rt.ol); first | assumption | exact cell_kp (by assumption) (by assumption)) | ((with_reducible apply Rt.ckR); focus ((repeat (first | (with_reducible (first | refine Rt.fin ?_ | refine Rt.tL ?_ | refine Rt.tI ?_ | refine Rt.tB ?_ | refine Rt.tS ?_ | refine Rt.tP ?_ | refine Rt.tD ?_ | refine Rt.tM ?_ | refine Rt.tC ?_ | refine Rt.tN ?_ | refine Rt.tA ?_ | refine Rt.tG ?_ | refine Rt.tF ?_ | refine Rt.os ?_ | refine Rt.clS ?_ | refine Rt.jmN ?_ | refine Rt.jbN ?_ | refine Rt.jbE ?_)) | ((with_reducible (first | apply Rt.ld0 | apply Rt.ld1 | apply Rt.ld2 | apply Rt.ld3 | apply Rt.ld4 | apply Rt.ld5)); first | assumption | exact Lc.kp (by assumption) (by assumption)) | ((with_reducible apply Rt.ol); first | assumption | exact cell_kp (by assumption) (by assumption)))); exact Rt.some' rfl))))
      refine Rt.lenF hd.fm ?_
      (repeat (first | (with_reducible (first | refine Rt.fin ?_ | refine Rt.tL ?_ | refine Rt.tI ?_ | refine Rt.tB ?_ | refine Rt.tS ?_ | refine Rt.tP ?_ | refine Rt.tD ?_ | refine Rt.tM ?_ | refine Rt.tC ?_ | refine Rt.tN ?_ | refine Rt.tA ?_ | refine Rt.tG ?_ | refine Rt.tF ?_ | refine Rt.os ?_ | refine Rt.clS ?_ | refine Rt.jmN ?_ | refine Rt.jbN ?_ | refine Rt.jbE ?_)) | ((with_reducible (first | apply Rt.ld0 | apply Rt.ld1 | apply Rt.ld2 | apply Rt.ld3 | apply Rt.ld4 | apply Rt.ld5)); first | assumption | exact Lc.kp (by assumption) (by assumption)) | ((with_reducible apply Rt.ol); first | assumption | exact cell_kp (by assumption) (by assumption)) | ((with_reducible apply Rt.ckR); focus ((repeat (first | (with_reducible (first | refine Rt.fin ?_ | refine Rt.tL ?_ | refine Rt.tI ?_ | refine Rt.tB ?_ | refine Rt.tS ?_ | refine Rt.tP ?_ | refine Rt.tD ?_ | refine Rt.tM ?_ | refine Rt.tC ?_ | refine Rt.tN ?_ | refine Rt.tA ?_ | refine Rt.tG ?_ | refine Rt.tF ?_ | refine Rt.os ?_ | refine Rt.clS ?_ | refine Rt.jmN ?_ | refine Rt.jbN ?_ | refine Rt.jbE ?_)) | ((with_reducible (first | apply Rt.ld0 | apply Rt.ld1 | apply Rt.ld2 | apply Rt.ld3 | apply Rt.ld4 | apply Rt.ld5)); first | assumption | exact Lc.kp (by assumption) (by assumption)) | ((with_reducible apply Rt.ol); first | assumption | exact cell_kp (by assumption) (by assumption)))); exact Rt.some' rfl))))
      refine Rt.cDF (by decide) ?_
      have hld := hl.kp (Kp.rfl' w2).dr
      (repeat (first | (with_reducible (first | refine Rt.fin ?_ | refine Rt.tL ?_ | refine Rt.tI ?_ | refine Rt.tB ?_ | refine Rt.tS ?_ | refine Rt.tP ?_ | refine Rt.tD ?_ | refine Rt.tM ?_ | refine Rt.tC ?_ | refine Rt.tN ?_ | refine Rt.tA ?_ | refine Rt.tG ?_ | refine Rt.tF ?_ | refine Rt.os ?_ | refine Rt.clS ?_ | refine Rt.jmN ?_ | refine Rt.jbN ?_ | refine Rt.jbE ?_)) | ((with_reducible (first | apply Rt.ld0 | apply Rt.ld1 | apply Rt.ld2 | apply Rt.ld3 | apply Rt.ld4 | apply Rt.ld5)); first | assumption | exact Lc.kp (by assumption) (by assumption)) | ((with_reducible apply Rt.ol); first | assumption | exact cell_kp (by assumption) (by assumption)) | ((with_reducible apply Rt.ckR); focus ((repeat (first | (with_reducible (first | refine Rt.fin ?_ | refine Rt.tL ?_ | refine Rt.tI ?_ | refine Rt.tB ?_ | refine Rt.tS ?_ | refine Rt.tP ?_ | refine Rt.tD ?_ | refine Rt.tM ?_ | refine Rt.tC ?_ | refine Rt.tN ?_ | refine Rt.tA ?_ | refine Rt.tG ?_ | refine Rt.tF ?_ | refine Rt.os ?_ | refine Rt.clS ?_ | refine Rt.jmN ?_ | refine Rt.jbN ?_ | refine Rt.jbE ?_)) | ((with_reducible (first | apply Rt.ld0 | apply Rt.ld1 | apply Rt.ld2 | apply Rt.ld3 | apply Rt.ld4 | apply Rt.ld5)); first | assumption | exact Lc.kp (by assumption) (by assumption)) | ((with_reducible apply Rt.ol); first | assumption | exact cell_kp (by assumption) (by assumption)))); exact Rt.some' rfl))))
      have e1 : IntKind.i64.wrap (s.room - (s.len : Int)) = s.room - s.len := by rw [i64_in _ (by omega)]
      rw [e1]
      refine Rt.cD (fun hc2 => ?_) fun hc2 => ?_
      · have e : s.append xs = (7, s.begin.2) := by unfold DS.append; rw [if_neg (by simpa using hb), if_neg (by omega), if_pos (by omega)]
        rw [e]
        exact Rt.some' (.inr ⟨rfl, rfl, w2.drew, S, rfl, gg.dr, fun _ h => .inl h, mb, none, h2.kp (Kp.rfl' w2).dr⟩)
      refine Rt.some' (.inl ⟨.inl rfl, ?_⟩)
      (repeat (first | (with_reducible (first | refine Rt.fin ?_ | refine Rt.tL ?_ | refine Rt.tI ?_ | refine Rt.tB ?_ | refine Rt.tS ?_ | refine Rt.tP ?_ | refine Rt.tD ?_ | refine Rt.tM ?_ | refine Rt.tC ?_ | refine Rt.tN ?_ | refine Rt.tA ?_ | refine Rt.tG ?_ | refine Rt.tF ?_ | refine Rt.os ?_ | refine Rt.clS ?_ | refine Rt.jmN ?_ | refine Rt.jbN ?_ | refine Rt.jbE ?_)) | ((with_reducible (first | apply Rt.ld0 | apply Rt.ld1 | apply Rt.ld2 | apply Rt.ld3 | apply Rt.ld4 | apply Rt.ld5)); first | assumption | exact Lc.kp (by assumption) (by assumption)) | ((with_reducible apply Rt.ol); first | assumption | exact cell_kp (by assumption) (by assumption)) | ((with_reducible apply Rt.ckR); focus ((repeat (first | (with_reducible (first | refine Rt.fin ?_ | refine Rt.tL ?_ | refine Rt.tI ?_ | refine Rt.tB ?_ | refine Rt.tS ?_ | refine Rt.tP ?_ | refine Rt.tD ?_ | refine Rt.tM ?_ | refine Rt.tC ?_ | refine Rt.tN ?_ | refine Rt.tA ?_ | refine Rt.tG ?_ | refine Rt.tF ?_ | refine Rt.os ?_ | refine Rt.clS ?_ | refine Rt.jmN ?_ | refine Rt.jbN ?_ | refine Rt.jbE ?_)) | ((with_reducible (first | apply Rt.ld0 | apply Rt.ld1 | apply Rt.ld2 | apply Rt.ld3 | apply Rt.ld4 | apply Rt.ld5)); first | assumption | exact Lc.kp (by assumption) (by assumption)) | ((with_reducible apply Rt.ol); first | assumption | exact cell_kp (by assumption) (by assumption)))); exact Rt.some' rfl))))
      refine Rt.jm (Rt.cT rfl (Rt.al fun w3 l3 k3 s3 => ?_))
      have hl3 := hld.kp k3
      (repeat (first | (with_reducible (first | refine Rt.fin ?_ | refine Rt.tL ?_ | refine Rt.tI ?_ | refine Rt.tB ?_ | refine Rt.tS ?_ | refine Rt.tP ?_ | refine Rt.tD ?_ | refine Rt.tM ?_ | refine Rt.tC ?_ | refine Rt.tN ?_ | refine Rt.tA ?_ | refine Rt.tG ?_ | refine Rt.tF ?_ | refine Rt.os ?_ | refine Rt.clS ?_ | refine Rt.jmN ?_ | refine Rt.jbN ?_ | refine Rt.jbE ?_)) | ((with_reducible (first | apply Rt.ld0 | apply Rt.ld1 | apply Rt.ld2 | apply Rt.ld3 | apply Rt.ld4 | apply Rt.ld5)); first | assumption | exact Lc.kp (by assumption) (by assumption)) | ((with_reducible apply Rt.ol); first | assumption | exact cell_kp (by assumption) (by assumption)) | ((with_reducible apply Rt.ckR); focus ((repeat (first | (with_reducible (first | refine Rt.fin ?_ | refine Rt.tL ?_ | refine Rt.tI ?_ | refine Rt.tB ?_ | refine Rt.tS ?_ | refine Rt.tP ?_ | refine Rt.tD ?_ | refine Rt.tM ?_ | refine Rt.tC ?_ | refine Rt.tN ?_ | refine Rt.tA ?_ | refine Rt.tG ?_ | refine Rt.tF ?_ | refine Rt.os ?_ | refine Rt.clS ?_ | refine Rt.jmN ?_ | refine Rt.jbN ?_ | refine Rt.jbE ?_)) | ((with_reducible (first | apply Rt.ld0 | apply Rt.ld1 | apply Rt.ld2 | apply Rt.ld3 | apply Rt.ld4 | apply Rt.ld5)); first | assumption | exact Lc.kp (by assumption) (by assumption)) | ((with_reducible apply Rt.ol); first | assumption | exact cell_kp (by assumption) (by assumption)))); exact Rt.some' rfl))))
      refine Rt.putF ((hd.fm.kp (Kp.rfl' w2).dr).kp k3) fun w4 m4 g4 => ?_
      refine Rt.some' ⟨rfl, ?_⟩
      have kk : Kp w2 w3 := (Kp.rfl' w2).dr.tr k3
      have gT : Gx (fun j => j = mb) w2 w4 := kk.gx.tr g4
      have hsz : w2.drew.heap.size < w4.heap.size := Nat.lt_of_lt_of_le s3 g4.size
      have hsz2 : w2.drew.heap.size = w2.heap.size := rfl
      have hsd : ∀ j, S j → j < w2.heap.size := hd.lt
      have hd4 : DxA w4 (fun j => S j ∨ j = w2.drew.heap.size) d mb (some w2.drew.heap.size) { s.begin.2 with file := some ([], 0) } A c := by
        refine DxA.turn hd gT (fun j hj hO => (hd.sf j hO).2.2 hj) (fun _ h => .inl h) (fun j hj => ?_) ?_ rfl rfl ?_ m4
        · rcases hj with h | h
          · have := hsd j h; omega
          · omega
        · have := hl3.gx g4 fun h => hd.ne h.symm
          rw [hl0, ← s.begin_file.2] at this
          exact this
        · refine ⟨.inr rfl, fun hN => ?_, fun z hz => (by cases hz), Nat.le_refl _, by simp, none, 0, l3.gx g4 fun h => ?_, Own.nil _ _, fun j hj => by cases hj⟩
          · rcases hN with h | h | h
            · have := hsd d hd.sd; omega
            · have := hsd mb hd.sm; omega
            · have := hsd _ (hd.sf _ h).1; omega
          · have h' : w2.heap.size = mb := h
            have := hsd mb hd.sm; omega
      refine Rt.mono (app_tail hd4 rfl (hst (gg.tr (gT.wide fun j _ h => h ▸ hd.sm))) (by simp; omega)) ?_
      · rintro _ ⟨w5, S5, rfl, h5, g5, hS5⟩
        have e : s.append xs = (0, { s.begin.2 with file := some (xs, 0) }) := by unfold DS.append; rw [if_neg (by simpa using hb), if_neg (by omega), if_neg (by omega), hf]
        rw [e]
        refine ⟨rfl, w5, S5, rfl, (gg.tr (gT.wide fun j _ h => h ▸ hd.sm)).tr' g5 fun j hj h => ?_, fun j hj => ?_, mb, _, h5⟩
        · rcases h with h | h
          · exact h
          · have := gg.size; omega
        · have := gg.size
          have := gT.size
          rcases hS5 j hj with (h | h) | h
          · exact .inl h
          · have h : j = w2.heap.size := h
            exact .inr (by omega)
          · have h : w4.heap.size ≤ j := h
            exact .inr (by omega)
    | some f =>
      have hfl' := hfl
      rw [hf] at hfl'
      obtain ⟨p, rfl, i1, i2, i3, i4, i5, B0, e0, hp, i6, i7⟩ := hfl'.some'
      have hl0 : s.len = f.1.length := by unfold DS.len; rw [hf]
      show Rt (tP (pt p) _) _
      (repeat (first | (with_reducible (first | refine Rt.fin ?_ | refine Rt.tL ?_ | refine Rt.tI ?_ | refine Rt.tB ?_ | refine Rt.tS ?_ | refine Rt.tP ?_ | refine Rt.tD ?_ | refine Rt.tM ?_ | refine Rt.tC ?_ | refine Rt.tN ?_ | refine Rt.tA ?_ | refine Rt.tG ?_ | refine Rt.tF ?_ | refine Rt.os ?_ | refine Rt.clS ?_ | refine Rt.jmN ?_ | refine Rt.jbN ?_ | refine Rt.jbE ?_)) | ((with_reducible (first | apply Rt.ld0 | apply Rt.ld1 | apply Rt.ld2 | apply Rt.ld3 | apply Rt.ld4 | apply Rt.ld5)); first | assumption | exact Lc.kp (by assumption) (by assumption)) | ((with_reducible apply Rt.ol); first | assumption | exact cell_kp (by assumption) (by assumption)) | ((with_reducible apply Rt.ckR); focus ((repeat (first | (with_reducible (first | refine Rt.fin ?_ | refine Rt.tL ?_ | refine Rt.tI ?_ | refine Rt.tB ?_ | refine Rt.tS ?_ | refine Rt.tP ?_ | refine Rt.tD ?_ | refine Rt.tM ?_ | refine Rt.tC ?_ | refine Rt.tN ?_ | refine Rt.tA ?_ | refine Rt.tG ?_ | refine Rt.tF ?_ | refine Rt.os ?_ | refine Rt.clS ?_ | refine Rt.jmN ?_ | refine Rt.jbN ?_ | refine Rt.jbE ?_)) | ((with_reducible (first | apply Rt.ld0 | apply Rt.ld1 | apply Rt.ld2 | apply Rt.ld3 | apply Rt.ld4 | apply Rt.ld5)); first | assumption | exact Lc.kp (by assumption) (by assumption)) | ((with_reducible apply Rt.ol); first | assumption | exact cell_kp (by assumption) (by assumption)))); exact Rt.some' rfl))))
      refine Rt.jm (Rt.cT rfl ?_)
      (repeat (first | (with_reducible (first | refine Rt.fin ?_ | refine Rt.tL ?_ | refine Rt.tI ?_ | refine Rt.tB ?_ | refine Rt.tS ?_ | refine Rt.tP ?_ | refine Rt.tD ?_ | refine Rt.tM ?_ | refine Rt.tC ?_ | refine Rt.tN ?_ | refine Rt.tA ?_ | refine Rt.tG ?_ | refine Rt.tF ?_ | refine Rt.os ?_ | refine Rt.clS ?_ | refine Rt.jmN ?_ | refine Rt.jbN ?_ | refine Rt.jbE ?_)) | ((with_reducible (first | apply Rt.ld0 | apply Rt.ld1 | apply Rt.ld2 | apply Rt.ld3 | apply Rt.ld4 | apply Rt.ld5)); first | assumption | exact Lc.kp (by assumption) (by assumption)) | ((with_reducible apply Rt.ol); first | assumption | exact cell_kp (by assumption) (by assumption)) | ((with_reducible apply Rt.ckR); focus ((repeat (first | (with_reducible (first | refine Rt.fin ?_ | refine Rt.tL ?_ | refine Rt.tI ?_ | refine Rt.tB ?_ | refine Rt.tS ?_ | refine Rt.tP ?_ | refine Rt.tD ?_ | refine Rt.tM ?_ | refine Rt.tC ?_ | refine Rt.tN ?_ | refine Rt.tA ?_ | refine Rt.tG ?_ | refine Rt.tF ?_ | refine Rt.os ?_ | refine Rt.clS ?_ | refine Rt.jmN ?_ | refine Rt.jbN ?_ | refine Rt.jbE ?_)) | ((with_reducible (first | apply Rt.ld0 | apply Rt.ld1 | apply Rt.ld2 | apply Rt.ld3 | apply Rt.ld4 | apply Rt.ld5)); first | assumption | exact Lc.kp (by assumption) (by assumption)) | ((with_reducible apply Rt.ol); first | assumption | exact cell_kp (by assumption) (by assumption)))); exact Rt.some' rfl))))
      refine Rt.some' ⟨rfl, ?_⟩
      (repeat (first | (with_reducible (first | refine Rt.fin ?_ | refine Rt.tL ?_ | refine Rt.tI ?_ | refine Rt.tB ?_ | refine Rt.tS ?_ | refine Rt.tP ?_ | refine Rt.tD ?_ | refine Rt.tM ?_ | refine Rt.tC ?_ | refine Rt.tN ?_ | refine Rt.tA ?_ | refine Rt.tG ?_ | refine Rt.tF ?_ | refine Rt.os ?_ | refine Rt.clS ?_ | refine Rt.jmN ?_ | refine Rt.jbN ?_ | refine Rt.jbE ?_)) | ((with_reducible (first | apply Rt.ld0 | apply Rt.ld1 | apply Rt.ld2 | apply Rt.ld3 | apply Rt.ld4 | apply Rt.ld5)); first | assumption | exact Lc.kp (by assumption) (by assumption)) | ((with_reducible apply Rt.ol); first | assumption | exact cell_kp (by assumption) (by assumption)) | ((with_reducible apply Rt.ckR); focus ((repeat (first | (with_reducible (first | refine Rt.fin ?_ | refine Rt.tL ?_ | refine Rt.tI ?_ | refine Rt.tB ?_ | refine Rt.tS ?_ | refine Rt.tP ?_ | refine Rt.tD ?_ | refine Rt.tM ?_ | refine Rt.tC ?_ | refine Rt.tN ?_ | refine Rt.tA ?_ | refine Rt.tG ?_ | refine Rt.tF ?_ | refine Rt.os ?_ | refine Rt.clS ?_ | refine Rt.jmN ?_ | refine Rt.jbN ?_ | refine Rt.jbE ?_)) | ((with_reducible (first | apply Rt.ld0 | apply Rt.ld1 | apply Rt.ld2 | apply Rt.ld3 | apply Rt.ld4 | apply Rt.ld5)); first | assumption | exact Lc.kp (by assumption) (by assumption)) | ((with_reducible apply Rt.ol); first | assumption | exact cell_kp (by assumption) (by assumption)))); exact Rt.some' rfl))))
      refine Rt.jb ?_
      have e0 : IntKind.i64.wrap (16777216 - (f.1.length : Int)) = 16777216 - f.1.length := i64_in _ (by omega)
      rw [e0]
      refine Rt.cD (fun hc => ?_) fun hc => ?_
      · have e : s.append xs = (3, s.begin.2) := by unfold DS.append; rw [if_neg (by simpa using hb), if_pos (by omega)]
        rw [e]
        exact Rt.some' (.inr ⟨rfl, rfl, w2, S, rfl, gg, fun _ h => .inl h, mb, _, h2⟩)
      refine Rt.cF rfl ?_
      have hld := hl.kp (Kp.rfl' w2).dr
      (repeat (first | (with_reducible (first | refine Rt.fin ?_ | refine Rt.tL ?_ | refine Rt.tI ?_ | refine Rt.tB ?_ | refine Rt.tS ?_ | refine Rt.tP ?_ | refine Rt.tD ?_ | refine Rt.tM ?_ | refine Rt.tC ?_ | refine Rt.tN ?_ | refine Rt.tA ?_ | refine Rt.tG ?_ | refine Rt.tF ?_ | refine Rt.os ?_ | refine Rt.clS ?_ | refine Rt.jmN ?_ | refine Rt.jbN ?_ | refine Rt.jbE ?_)) | ((with_reducible (first | apply Rt.ld0 | apply Rt.ld1 | apply Rt.ld2 | apply Rt.ld3 | apply Rt.ld4 | apply Rt.ld5)); first | assumption | exact Lc.kp (by assumption) (by assumption)) | ((with_reducible apply Rt.ol); first | assumption | exact cell_kp (by assumption) (by assumption)) | ((with_reducible apply Rt.ckR); focus ((repeat (first | (with_reducible (first | refine Rt.fin ?_ | refine Rt.tL ?_ | refine Rt.tI ?_ | refine Rt.tB ?_ | refine Rt.tS ?_ | refine Rt.tP ?_ | refine Rt.tD ?_ | refine Rt.tM ?_ | refine Rt.tC ?_ | refine Rt.tN ?_ | refine Rt.tA ?_ | refine Rt.tG ?_ | refine Rt.tF ?_ | refine Rt.os ?_ | refine Rt.clS ?_ | refine Rt.jmN ?_ | refine Rt.jbN ?_ | refine Rt.jbE ?_)) | ((with_reducible (first | apply Rt.ld0 | apply Rt.ld1 | apply Rt.ld2 | apply Rt.ld3 | apply Rt.ld4 | apply Rt.ld5)); first | assumption | exact Lc.kp (by assumption) (by assumption)) | ((with_reducible apply Rt.ol); first | assumption | exact cell_kp (by assumption) (by assumption)))); exact Rt.some' rfl))))
      have e1 : IntKind.i64.wrap (s.room - (s.len : Int)) = s.room - s.len := by rw [i64_in _ (by omega)]
      rw [e1]
      refine Rt.cD (fun hc2 => ?_) fun hc2 => ?_
      · have e : s.append xs = (7, s.begin.2) := by unfold DS.append; rw [if_neg (by simpa using hb), if_neg (by omega), if_pos (by omega)]
        rw [e]
        exact Rt.some' (.inr ⟨rfl, rfl, w2.drew, S, rfl, gg.dr, fun _ h => .inl h, mb, _, h2.kp (Kp.rfl' w2).dr⟩)
      refine Rt.some' (.inl ⟨.inl rfl, ?_⟩)
      (repeat (first | (with_reducible (first | refine Rt.fin ?_ | refine Rt.tL ?_ | refine Rt.tI ?_ | refine Rt.tB ?_ | refine Rt.tS ?_ | refine Rt.tP ?_ | refine Rt.tD ?_ | refine Rt.tM ?_ | refine Rt.tC ?_ | refine Rt.tN ?_ | refine Rt.tA ?_ | refine Rt.tG ?_ | refine Rt.tF ?_ | refine Rt.os ?_ | refine Rt.clS ?_ | refine Rt.jmN ?_ | refine Rt.jbN ?_ | refine Rt.jbE ?_)) | ((with_reducible (first | apply Rt.ld0 | apply Rt.ld1 | apply Rt.ld2 | apply Rt.ld3 | apply Rt.ld4 | apply Rt.ld5)); first | assumption | exact Lc.kp (by assumption) (by assumption)) | ((with_reducible apply Rt.ol); first | assumption | exact cell_kp (by assumption) (by assumption)) | ((with_reducible apply Rt.ckR); focus ((repeat (first | (with_reducible (first | refine Rt.fin ?_ | refine Rt.tL ?_ | refine Rt.tI ?_ | refine Rt.tB ?_ | refine Rt.tS ?_ | refine Rt.tP ?_ | refine Rt.tD ?_ | refine Rt.tM ?_ | refine Rt.tC ?_ | refine Rt.tN ?_ | refine Rt.tA ?_ | refine Rt.tG ?_ | refine Rt.tF ?_ | refine Rt.os ?_ | refine Rt.clS ?_ | refine Rt.jmN ?_ | refine Rt.jbN ?_ | refine Rt.jbE ?_)) | ((with_reducible (first | apply Rt.ld0 | apply Rt.ld1 | apply Rt.ld2 | apply Rt.ld3 | apply Rt.ld4 | apply Rt.ld5)); first | assumption | exact Lc.kp (by assumption) (by assumption)) | ((with_reducible apply Rt.ol); first | assumption | exact cell_kp (by assumption) (by assumption)))); exact Rt.some' rfl))))
      refine Rt.jm (Rt.cF rfl (Rt.some' ⟨rfl, ?_⟩))
      obtain ⟨A9, c9, hd9⟩ := h2.kp (Kp.rfl' w2).dr
      refine Rt.mono (app_tail hd9 (s.begin_file.1.trans hf) (hst gg.dr) (by omega)) ?_
      rintro _ ⟨w5, S5, rfl, h5, g5, hS5⟩
      have e : s.append xs = (0, { s.begin.2 with file := some (f.1 ++ xs, f.2) }) := by unfold DS.append; rw [if_neg (by simpa using hb), if_neg (by omega), if_neg (by omega), hf]
      rw [e]
      refine ⟨rfl, w5, S5, rfl, gg.dr.tr g5, fun j hj => ?_, mb, _, h5⟩
      have := gg.size
      rcases hS5 j hj with h | h
      · exact .inl h
      · have h : w2.heap.size ≤ j := h
        exact .inr (by omega)
  · have hb : s.begin.1 ≠ 0 := hb
    have e : s.append xs = s.begin := if_pos hb
    rw [e]
    exact Rt.some' ⟨rfl, w2, S, rfl, gg, fun _ h => .inl h, mb, fp, h2⟩
theorem Read_spec (h : Dk w S d s) {k : Int} (hk : ∀ f, s.file = some f → k = f.1.length) (h0 : 0 ≤ k) (hn : 10 < n) : Rt (disk_Disk_Read n [pt d, .string nl, .int .i64 0, .int .i64 k] w) fun r => ∃ B c w' xs, r = ([.slice B xs.length c, .int .i64 s.open.1], w') ∧ Own .u8 5 w' w.heap.size (.slice B xs.length c) xs ∧ Bytes xs ∧ (s.open.1 = 0 → ∃ f, s.file = some f ∧ xs = f.1) ∧ xs.length ≤ 16777216 ∧ Dk w' S d s.open.2 ∧ Gx S w w' := by
  obtain ⟨mb, fp, h⟩ := h
  rw [disk_Disk_Read_eq]
  refine Rt.fin (Rt.al fun w1 l1 k1 s1 => ?_)
  have h0' := h.kp k1
  have hS : ¬ S w.heap.size := fun hj => by obtain ⟨A, c, hd⟩ := h; have := hd.lt _ hj; omega
  obtain ⟨r, hr, w2, rfl, h2, g2⟩ := open_spec h0' l1 hS hn
  refine Rt.cl hr ?_
  have gg : Gx S w w2 := k1.gx.tr g2
  by_cases ho : s.open.1 = 0
  · rw [if_pos ho, ho]
    obtain ⟨f, hf⟩ := s.open_ok ho
    obtain ⟨A, c, hd⟩ := id h2
    have hfl := hd.fl
    rw [s.open_len.2, hf] at hfl
    obtain ⟨p, rfl, i1, i2, i3, i4, i5, B, e, hp, i6, i7⟩ := hfl.some'
    obtain rfl := hk f hf
    show Rt (tC [pt p, .int .i64 0] _) _
    (repeat (first | (with_reducible (first | refine Rt.fin ?_ | refine Rt.tL ?_ | refine Rt.tI ?_ | refine Rt.tB ?_ | refine Rt.tS ?_ | refine Rt.tP ?_ | refine Rt.tD ?_ | refine Rt.tM ?_ | refine Rt.tC ?_ | refine Rt.tN ?_ | refine Rt.tA ?_ | refine Rt.tG ?_ | refine Rt.tF ?_ | refine Rt.os ?_ | refine Rt.clS ?_ | refine Rt.jmN ?_ | refine Rt.jbN ?_ | refine Rt.jbE ?_)) | ((with_reducible (first | apply Rt.ld0 | apply Rt.ld1 | apply Rt.ld2 | apply Rt.ld3 | apply Rt.ld4 | apply Rt.ld5)); first | assumption | exact Lc.kp (by assumption) (by assumption)) | ((with_reducible apply Rt.ol); first | assumption | exact cell_kp (by assumption) (by assumption)) | ((with_reducible apply Rt.ckR); focus ((repeat (first | (with_reducible (first | refine Rt.fin ?_ | refine Rt.tL ?_ | refine Rt.tI ?_ | refine Rt.tB ?_ | refine Rt.tS ?_ | refine Rt.tP ?_ | refine Rt.tD ?_ | refine Rt.tM ?_ | refine Rt.tC ?_ | refine Rt.tN ?_ | refine Rt.tA ?_ | refine Rt.tG ?_ | refine Rt.tF ?_ | refine Rt.os ?_ | refine Rt.clS ?_ | refine Rt.jmN ?_ | refine Rt.jbN ?_ | refine Rt.jbE ?_)) | ((with_reducible (first | apply Rt.ld0 | apply Rt.ld1 | apply Rt.ld2 | apply Rt.ld3 | apply Rt.ld4 | apply Rt.ld5)); first | assumption | exact Lc.kp (by assumption) (by assumption)) | ((with_reducible apply Rt.ol); first | assumption | exact cell_kp (by assumption) (by assumption)))); exact Rt.some' rfl))))
    refine Rt.cN (fun _ => ?_) fun e => absurd rfl e
    rw [show (if (f.1.length : Int) < 0 then (f.1.length : Int) else 0) = 0 by rw [if_neg (by omega)]]
    refine Rt.cDF (by omega) ?_
    (repeat (first | (with_reducible (first | refine Rt.fin ?_ | refine Rt.tL ?_ | refine Rt.tI ?_ | refine Rt.tB ?_ | refine Rt.tS ?_ | refine Rt.tP ?_ | refine Rt.tD ?_ | refine Rt.tM ?_ | refine Rt.tC ?_ | refine Rt.tN ?_ | refine Rt.tA ?_ | refine Rt.tG ?_ | refine Rt.tF ?_ | refine Rt.os ?_ | refine Rt.clS ?_ | refine Rt.jmN ?_ | refine Rt.jbN ?_ | refine Rt.jbE ?_)) | ((with_reducible (first | apply Rt.ld0 | apply Rt.ld1 | apply Rt.ld2 | apply Rt.ld3 | apply Rt.ld4 | apply Rt.ld5)); first | assumption | exact Lc.kp (by assumption) (by assumption)) | ((with_reducible apply Rt.ol); first | assumption | exact cell_kp (by assumption) (by assumption)) | ((with_reducible apply Rt.ckR); focus ((repeat (first | (with_reducible (first | refine Rt.fin ?_ | refine Rt.tL ?_ | refine Rt.tI ?_ | refine Rt.tB ?_ | refine Rt.tS ?_ | refine Rt.tP ?_ | refine Rt.tD ?_ | refine Rt.tM ?_ | refine Rt.tC ?_ | refine Rt.tN ?_ | refine Rt.tA ?_ | refine Rt.tG ?_ | refine Rt.tF ?_ | refine Rt.os ?_ | refine Rt.clS ?_ | refine Rt.jmN ?_ | refine Rt.jbN ?_ | refine Rt.jbE ?_)) | ((with_reducible (first | apply Rt.ld0 | apply Rt.ld1 | apply Rt.ld2 | apply Rt.ld3 | apply Rt.ld4 | apply Rt.ld5)); first | assumption | exact Lc.kp (by assumption) (by assumption)) | ((with_reducible apply Rt.ol); first | assumption | exact cell_kp (by assumption) (by assumption)))); exact Rt.some' rfl))))
    refine Rt.cDF (by omega) ?_
    have hpd := hp.kp (Kp.rfl' w2).dr
    (repeat (first | (with_reducible (first | refine Rt.fin ?_ | refine Rt.tL ?_ | refine Rt.tI ?_ | refine Rt.tB ?_ | refine Rt.tS ?_ | refine Rt.tP ?_ | refine Rt.tD ?_ | refine Rt.tM ?_ | refine Rt.tC ?_ | refine Rt.tN ?_ | refine Rt.tA ?_ | refine Rt.tG ?_ | refine Rt.tF ?_ | refine Rt.os ?_ | refine Rt.clS ?_ | refine Rt.jmN ?_ | refine Rt.jbN ?_ | refine Rt.jbE ?_)) | ((with_reducible (first | apply Rt.ld0 | apply Rt.ld1 | apply Rt.ld2 | apply Rt.ld3 | apply Rt.ld4 | apply Rt.ld5)); first | assumption | exact Lc.kp (by assumption) (by assumption)) | ((with_reducible apply Rt.ol); first | assumption | exact cell_kp (by assumption) (by assumption)) | ((with_reducible apply Rt.ckR); focus ((repeat (first | (with_reducible (first | refine Rt.fin ?_ | refine Rt.tL ?_ | refine Rt.tI ?_ | refine Rt.tB ?_ | refine Rt.tS ?_ | refine Rt.tP ?_ | refine Rt.tD ?_ | refine Rt.tM ?_ | refine Rt.tC ?_ | refine Rt.tN ?_ | refine Rt.tA ?_ | refine Rt.tG ?_ | refine Rt.tF ?_ | refine Rt.os ?_ | refine Rt.clS ?_ | refine Rt.jmN ?_ | refine Rt.jbN ?_ | refine Rt.jbE ?_)) | ((with_reducible (first | apply Rt.ld0 | apply Rt.ld1 | apply Rt.ld2 | apply Rt.ld3 | apply Rt.ld4 | apply Rt.ld5)); first | assumption | exact Lc.kp (by assumption) (by assumption)) | ((with_reducible apply Rt.ol); first | assumption | exact cell_kp (by assumption) (by assumption)))); exact Rt.some' rfl))))
    have e1 : IntKind.i64.wrap ((f.1.length : Int) - 0) = f.1.length := by rw [i64_in _ (by omega)]; omega
    rw [e1, show (if (f.1.length : Int) < (f.1.length : Int) then (f.1.length : Int) else (f.1.length : Int)) = f.1.length by split <;> rfl, show IntKind.i64.wrap (0 + (f.1.length : Int)) = f.1.length by rw [i64_in _ (by omega)]; omega]
    refine Rt.cut (i6.bv i3) (by omega) (by omega) (Int.le_refl _) fun B2 hB2 => ?_
    have e2 : ((f.1.length : Nat) : Int).toNat - (0 : Int).toNat = f.1.length := by simp
    have e3 : List.drop (0 : Int).toNat (List.take ((f.1.length : Nat) : Int).toNat f.1) = f.1 := by simp
    rw [e2, e3] at hB2
    rw [e2]
    refine Rt.cO (CloneB_spec (hB2.kp (Kp.rfl' w2).dr) (by omega)) fun B3 d3 w3 o3 k3 => ?_
    have g3 : Gx S w w3 := gg.dr.tr k3.gx
    exact Rt.some' ⟨rfl, B3, d3, w3, f.1, rfl, o3.mono (by have := gg.size; exact this), i3, fun _ => ⟨f, hf, rfl⟩, i5, ⟨mb, _, (h2.kp (Kp.rfl' w2).dr).kp k3⟩, g3⟩
  · rw [if_neg ho]
    show Rt (tC [.pointer none, .int .i64 s.open.1] _) _
    (repeat (first | (with_reducible (first | refine Rt.fin ?_ | refine Rt.tL ?_ | refine Rt.tI ?_ | refine Rt.tB ?_ | refine Rt.tS ?_ | refine Rt.tP ?_ | refine Rt.tD ?_ | refine Rt.tM ?_ | refine Rt.tC ?_ | refine Rt.tN ?_ | refine Rt.tA ?_ | refine Rt.tG ?_ | refine Rt.tF ?_ | refine Rt.os ?_ | refine Rt.clS ?_ | refine Rt.jmN ?_ | refine Rt.jbN ?_ | refine Rt.jbE ?_)) | ((with_reducible (first | apply Rt.ld0 | apply Rt.ld1 | apply Rt.ld2 | apply Rt.ld3 | apply Rt.ld4 | apply Rt.ld5)); first | assumption | exact Lc.kp (by assumption) (by assumption)) | ((with_reducible apply Rt.ol); first | assumption | exact cell_kp (by assumption) (by assumption)) | ((with_reducible apply Rt.ckR); focus ((repeat (first | (with_reducible (first | refine Rt.fin ?_ | refine Rt.tL ?_ | refine Rt.tI ?_ | refine Rt.tB ?_ | refine Rt.tS ?_ | refine Rt.tP ?_ | refine Rt.tD ?_ | refine Rt.tM ?_ | refine Rt.tC ?_ | refine Rt.tN ?_ | refine Rt.tA ?_ | refine Rt.tG ?_ | refine Rt.tF ?_ | refine Rt.os ?_ | refine Rt.clS ?_ | refine Rt.jmN ?_ | refine Rt.jbN ?_ | refine Rt.jbE ?_)) | ((with_reducible (first | apply Rt.ld0 | apply Rt.ld1 | apply Rt.ld2 | apply Rt.ld3 | apply Rt.ld4 | apply Rt.ld5)); first | assumption | exact Lc.kp (by assumption) (by assumption)) | ((with_reducible apply Rt.ol); first | assumption | exact cell_kp (by assumption) (by assumption)))); exact Rt.some' rfl))))
    refine Rt.cN (fun e => absurd e ho) fun _ => ?_
    exact Rt.some' ⟨rfl, none, 0, w2, [], rfl, Own.nil _ _, fun z hz => (by cases hz), fun h => absurd h ho, by simp, ⟨mb, _, h2⟩, gg⟩
end
end Go.Proofs.YtdcdgmiojlldaaaDoor.Wl
/- The log: Append. -/
namespace Go.Proofs.YtdcdgmiojlldaaaDoor.Wl
open Go Big Go.RowKit Go.IntWalk Var Low
set_option linter.unusedVariables false
set_option linter.unusedSimpArgs false
open Fr (sm hsm IsPut)
open Ba (bv opEl bytesB OpD)
noncomputable def putF (size : Nat) (r : List Int) : List Int := Classical.choose (IsPut.total sm size r)
theorem putF_is (size : Nat) (r : List Int) : IsPut sm size r (putF size r) := Classical.choose_spec (IsPut.total sm size r)
noncomputable def DS.wapp (s : DS) (bb : List Int × Int) (sync : Bool) : Int × DS :=
  if bb.2 ≠ 0 then (bb.2, s) else if s.open.1 ≠ 0 ∧ s.open.1 ≠ 8 then s.open
  else if (s.open.2.append (putF (if s.open.1 = 0 then s.len else 0) bb.1)).1 ≠ 0 ∨ sync = false then s.open.2.append (putF (if s.open.1 = 0 then s.len else 0) bb.1)
  else (s.open.2.append (putF (if s.open.1 = 0 then s.len else 0) bb.1)).2.sync
section
variable {α : Type} {Q : α → Prop} {n m : Nat} {w w' w0 w1 : World} {A B C : Option Addr} {l c c' d base e mb p b : Nat} {k q : Int} {x r out o zs : List Int} {xs : List OpD} {S S' T : Nat → Prop} {fp : Option Nat} {s : DS} {sync : Bool}
theorem Dk.lt (h : Dk w S d s) : ∀ j, S j → j < w.heap.size := by
  obtain ⟨mb, fp, A, c, h⟩ := h
  exact h.lt
theorem WApp_tail (h : Dk w S d s) {xs : List Int} (hx : Bv .u8 w B l c xs) (hst : Stb (fun j => S j ∨ w.heap.size ≤ j) (fun w => Bv .u8 w B l c xs) w) (hn : 10 < n) :
    Rt (cl (disk_Disk_Append n [pt d, .string nl, .slice B l c] w) fun vs52 w53 => tC vs52 fun v54 cs55 => tI .i64 v54 fun n56 => tN cs55 (cond (n56 != 0) (some (⟨.ret, [.int .i64 n56], w53⟩ : Res)) (cond (!sync) (some (⟨.ret, [.int .i64 n56], w53⟩ : Res)) (cl (disk_Disk_Sync n [pt d, .string nl] w53) fun vs57 w58 => tC vs57 fun v59 cs60 => tI .i64 v59 fun n61 => tN cs60 (some (⟨.ret, [.int .i64 n61], w58⟩ : Res))))))
      fun r => ∃ w' S', r = ⟨.ret, [.int .i64 (if (s.append xs).1 ≠ 0 ∨ sync = false then s.append xs else (s.append xs).2.sync).1], w'⟩ ∧ Gx S w w' ∧ (∀ j, S' j → S j ∨ w.heap.size ≤ j) ∧ Dk w' S' d (if (s.append xs).1 ≠ 0 ∨ sync = false then s.append xs else (s.append xs).2.sync).2 := by
  obtain ⟨_, hr, w2, S2, rfl, g2, hs2, h2⟩ := Append_spec h hst hn
  refine Rt.cl hr ?_
  (repeat (first | (with_reducible (first | refine Rt.fin ?_ | refine Rt.tL ?_ | refine Rt.tI ?_ | refine Rt.tB ?_ | refine Rt.tS ?_ | refine Rt.tP ?_ | refine Rt.tD ?_ | refine Rt.tM ?_ | refine Rt.tC ?_ | refine Rt.tN ?_ | refine Rt.tA ?_ | refine Rt.tG ?_ | refine Rt.tF ?_ | refine Rt.os ?_ | refine Rt.clS ?_ | refine Rt.jmN ?_ | refine Rt.jbN ?_ | refine Rt.jbE ?_)) | ((with_reducible (first | apply Rt.ld0 | apply Rt.ld1 | apply Rt.ld2 | apply Rt.ld3 | apply Rt.ld4 | apply Rt.ld5)); first | assumption | exact Lc.kp (by assumption) (by assumption)) | ((with_reducible apply Rt.ol); first | assumption | exact cell_kp (by assumption) (by assumption)) | ((with_reducible apply Rt.ckR); focus ((repeat (first | (with_reducible (first | refine Rt.fin ?_ | refine Rt.tL ?_ | refine Rt.tI ?_ | refine Rt.tB ?_ | refine Rt.tS ?_ | refine Rt.tP ?_ | refine Rt.tD ?_ | refine Rt.tM ?_ | refine Rt.tC ?_ | refine Rt.tN ?_ | refine Rt.tA ?_ | refine Rt.tG ?_ | refine Rt.tF ?_ | refine Rt.os ?_ | refine Rt.clS ?_ | refine Rt.jmN ?_ | refine Rt.jbN ?_ | refine Rt.jbE ?_)) | ((with_reducible (first | apply Rt.ld0 | apply Rt.ld1 | apply Rt.ld2 | apply Rt.ld3 | apply Rt.ld4 | apply Rt.ld5)); first | assumption | exact Lc.kp (by assumption) (by assumption)) | ((with_reducible apply Rt.ol); first | assumption | exact cell_kp (by assumption) (by assumption)))); exact Rt.some' rfl))))
  refine Rt.cN (fun h0 => ?_) fun h0 => ?_
  · have h0 : (s.append xs).1 = 0 := h0
    cases sync with
    | false =>
      refine Rt.cT rfl (Rt.some' ⟨w2, S2, ?_, g2, hs2, ?_⟩)
      · rw [if_pos (.inr rfl)]
      · rw [if_pos (.inr rfl)]; exact h2
    | true =>
      refine Rt.cF rfl ?_
      obtain ⟨_, hr3, w3, rfl, h3, g3⟩ := Sync_spec h2 hn
      refine Rt.cl hr3 ?_
      (repeat (first | (with_reducible (first | refine Rt.fin ?_ | refine Rt.tL ?_ | refine Rt.tI ?_ | refine Rt.tB ?_ | refine Rt.tS ?_ | refine Rt.tP ?_ | refine Rt.tD ?_ | refine Rt.tM ?_ | refine Rt.tC ?_ | refine Rt.tN ?_ | refine Rt.tA ?_ | refine Rt.tG ?_ | refine Rt.tF ?_ | refine Rt.os ?_ | refine Rt.clS ?_ | refine Rt.jmN ?_ | refine Rt.jbN ?_ | refine Rt.jbE ?_)) | ((with_reducible (first | apply Rt.ld0 | apply Rt.ld1 | apply Rt.ld2 | apply Rt.ld3 | apply Rt.ld4 | apply Rt.ld5)); first | assumption | exact Lc.kp (by assumption) (by assumption)) | ((with_reducible apply Rt.ol); first | assumption | exact cell_kp (by assumption) (by assumption)) | ((with_reducible apply Rt.ckR); focus ((repeat (first | (with_reducible (first | refine Rt.fin ?_ | refine Rt.tL ?_ | refine Rt.tI ?_ | refine Rt.tB ?_ | refine Rt.tS ?_ | refine Rt.tP ?_ | refine Rt.tD ?_ | refine Rt.tM ?_ | refine Rt.tC ?_ | refine Rt.tN ?_ | refine Rt.tA ?_ | refine Rt.tG ?_ | refine Rt.tF ?_ | refine Rt.os ?_ | refine Rt.clS ?_ | refine Rt.jmN ?_ | refine Rt.jbN ?_ | refine Rt.jbE ?_)) | ((with_reducible (first | apply Rt.ld0 | apply Rt.ld1 | apply Rt.ld2 | apply Rt.ld3 | apply Rt.ld4 | apply Rt.ld5)); first | assumption | exact Lc.kp (by assumption) (by assumption)) | ((with_reducible apply Rt.ol); first | assumption | exact cell_kp (by assumption) (by assumption)))); exact Rt.some' rfl))))
      refine Rt.some' ⟨w3, S2, ?_, g2.tr' g3 fun j hj h => (hs2 j h).elim id fun h => by omega, hs2, ?_⟩
      · rw [if_neg (by simpa using h0)]
      · rw [if_neg (by simpa using h0)]; exact h3
  · have h0 : (s.append xs).1 ≠ 0 := h0
    refine Rt.some' ⟨w2, S2, ?_, g2, hs2, ?_⟩
    · rw [if_pos (.inl h0)]
    · rw [if_pos (.inl h0)]; exact h2
theorem WApp_spec (h : Dk w S d s) (hq : 0 ≤ q ∧ q < 2 ^ 64) (hx : Ev opEl w A l c xs) (hn : 2 ^ 50 < n) : Rt (wal_Append n [pt d, .string nl, bv q A l c, .bool sync] w) (RK S w d [.int .i64 (s.wapp (bytesB q xs) sync).1] (s.wapp (bytesB q xs) sync).2) := by
  show Rt (wal_Append n [pt d, .string nl, .agg #[.int .u64 q, .slice A l c], .bool sync] w) _
  rw [wal_Append_eq]
  refine Rt.fin (Rt.al fun w1 l1 k1 s1 => ?_)
  (repeat (first | (with_reducible (first | refine Rt.fin ?_ | refine Rt.tL ?_ | refine Rt.tI ?_ | refine Rt.tB ?_ | refine Rt.tS ?_ | refine Rt.tP ?_ | refine Rt.tD ?_ | refine Rt.tM ?_ | refine Rt.tC ?_ | refine Rt.tN ?_ | refine Rt.tA ?_ | refine Rt.tG ?_ | refine Rt.tF ?_ | refine Rt.os ?_ | refine Rt.clS ?_ | refine Rt.jmN ?_ | refine Rt.jbN ?_ | refine Rt.jbE ?_)) | ((with_reducible (first | apply Rt.ld0 | apply Rt.ld1 | apply Rt.ld2 | apply Rt.ld3 | apply Rt.ld4 | apply Rt.ld5)); first | assumption | exact Lc.kp (by assumption) (by assumption)) | ((with_reducible apply Rt.ol); first | assumption | exact cell_kp (by assumption) (by assumption)) | ((with_reducible apply Rt.ckR); focus ((repeat (first | (with_reducible (first | refine Rt.fin ?_ | refine Rt.tL ?_ | refine Rt.tI ?_ | refine Rt.tB ?_ | refine Rt.tS ?_ | refine Rt.tP ?_ | refine Rt.tD ?_ | refine Rt.tM ?_ | refine Rt.tC ?_ | refine Rt.tN ?_ | refine Rt.tA ?_ | refine Rt.tG ?_ | refine Rt.tF ?_ | refine Rt.os ?_ | refine Rt.clS ?_ | refine Rt.jmN ?_ | refine Rt.jbN ?_ | refine Rt.jbE ?_)) | ((with_reducible (first | apply Rt.ld0 | apply Rt.ld1 | apply Rt.ld2 | apply Rt.ld3 | apply Rt.ld4 | apply Rt.ld5)); first | assumption | exact Lc.kp (by assumption) (by assumption)) | ((with_reducible apply Rt.ol); first | assumption | exact cell_kp (by assumption) (by assumption)))); exact Rt.some' rfl))))
  have hbw := Ba.bytesB_wf (s := q) hx
  have hbl := Ba.bytesB_len (s := q) (xs := xs) fun _ _ => trivial
  refine Ba.Rt.cROe (Ba.Bytes_spec hq (hx.kp k1) (by omega)) fun B3 d3 w3 o3 k3 => ?_
  have k03 := k1.tr k3
  have hk3 := h.kp k03
  refine Rt.cN (fun h0 => ?_) fun h0 => ?_
  · obtain ⟨_, hr4, w4, rfl, h4, g4⟩ := Size_spec (n := n) hk3 (by omega)
    have o4 : Own .u8 5 w4 w1.heap.size (.slice B3 (bytesB q xs).1.length d3) (bytesB q xs).1 := o3.gx g4 fun j hj hs => by have := (o3.lt j hj).1; have := h.lt j hs; omega
    refine Rt.cl hr4 ?_
    (repeat (first | (with_reducible (first | refine Rt.fin ?_ | refine Rt.tL ?_ | refine Rt.tI ?_ | refine Rt.tB ?_ | refine Rt.tS ?_ | refine Rt.tP ?_ | refine Rt.tD ?_ | refine Rt.tM ?_ | refine Rt.tC ?_ | refine Rt.tN ?_ | refine Rt.tA ?_ | refine Rt.tG ?_ | refine Rt.tF ?_ | refine Rt.os ?_ | refine Rt.clS ?_ | refine Rt.jmN ?_ | refine Rt.jbN ?_ | refine Rt.jbE ?_)) | ((with_reducible (first | apply Rt.ld0 | apply Rt.ld1 | apply Rt.ld2 | apply Rt.ld3 | apply Rt.ld4 | apply Rt.ld5)); first | assumption | exact Lc.kp (by assumption) (by assumption)) | ((with_reducible apply Rt.ol); first | assumption | exact cell_kp (by assumption) (by assumption)) | ((with_reducible apply Rt.ckR); focus ((repeat (first | (with_reducible (first | refine Rt.fin ?_ | refine Rt.tL ?_ | refine Rt.tI ?_ | refine Rt.tB ?_ | refine Rt.tS ?_ | refine Rt.tP ?_ | refine Rt.tD ?_ | refine Rt.tM ?_ | refine Rt.tC ?_ | refine Rt.tN ?_ | refine Rt.tA ?_ | refine Rt.tG ?_ | refine Rt.tF ?_ | refine Rt.os ?_ | refine Rt.clS ?_ | refine Rt.jmN ?_ | refine Rt.jbN ?_ | refine Rt.jbE ?_)) | ((with_reducible (first | apply Rt.ld0 | apply Rt.ld1 | apply Rt.ld2 | apply Rt.ld3 | apply Rt.ld4 | apply Rt.ld5)); first | assumption | exact Lc.kp (by assumption) (by assumption)) | ((with_reducible apply Rt.ol); first | assumption | exact cell_kp (by assumption) (by assumption)))); exact Rt.some' rfl))))
    have g04 : Gx S w w4 := k03.gx.tr g4
    have hlt := h.lt
    have hlen : s.len ≤ 16777216 := by
      obtain ⟨mb, fp, A9, c9, hd⟩ := h
      unfold DS.len
      cases hf : s.file with
      | none => exact Nat.zero_le _
      | some f => have hfl := hd.fl; rw [hf] at hfl; obtain ⟨p, _, _, _, _, _, i5, _⟩ := hfl.some'; exact i5
    have fin_ : ∀ (a : Int), (a = (((if s.open.1 = 0 then s.len else 0 : Nat)) : Int)) → ¬ (s.open.1 ≠ 0 ∧ s.open.1 ≠ 8) → ∀ {X : Option Res},
        X = (cl (frame_Put n [.int .i64 a, .slice B3 (bytesB q xs).1.length d3] w4) fun vs45 w46 => tC vs45 fun v47 cs48 => tL v47 fun A49 l50 c51 => tN cs48 (cl (disk_Disk_Append n [pt d, .string nl, .slice A49 l50 c51] w46) fun vs52 w53 => tC vs52 fun v54 cs55 => tI .i64 v54 fun n56 => tN cs55 (cond (n56 != 0) (some (⟨.ret, [.int .i64 n56], w53⟩ : Res)) (cond (!sync) (some (⟨.ret, [.int .i64 n56], w53⟩ : Res)) (cl (disk_Disk_Sync n [pt d, .string nl] w53) fun vs57 w58 => tC vs57 fun v59 cs60 => tI .i64 v59 fun n61 => tN cs60 (some (⟨.ret, [.int .i64 n61], w58⟩ : Res))))))) →
        Rt X (fun r => r.ex = .ret ∧ RK S w d [.int .i64 (s.wapp (bytesB q xs) sync).1] (s.wapp (bytesB q xs) sync).2 (r.vals, r.w)) := by
      rintro a ha hno _ rfl
      have hat : a.toNat = (if s.open.1 = 0 then s.len else 0) := by omega
      have hp := putF_is (if s.open.1 = 0 then s.len else 0) (bytesB q xs).1
      refine Rt.cO (Fr.Put_spec hn (o4.bv hbw) (by omega) (by rw [ha]; split <;> omega) (by rw [hat]; exact hp)) fun B5 d5 w5 o5 k5 => ?_
      have hpb := hp.bytes hbw
      have hst : Stb (fun j => S j ∨ w5.heap.size ≤ j) (fun w => Bv .u8 w B5 (putF (if s.open.1 = 0 then s.len else 0) (bytesB q xs).1).length d5 (putF (if s.open.1 = 0 then s.len else 0) (bytesB q xs).1)) w5 :=
        Fr.Own_stb o5 hpb fun j hj hs => by
          have := o5.lt j hj
          have := g04.size
          rcases hs with hs | hs
          · have := hlt j hs; omega
          · omega
      refine Rt.mono (WApp_tail (h4.kp k5) (o5.bv hpb) hst (by omega)) ?_
      rintro _ ⟨w6, S6, rfl, g6, hs6, h6⟩
      have e : s.wapp (bytesB q xs) sync = (if (s.open.2.append (putF (if s.open.1 = 0 then s.len else 0) (bytesB q xs).1)).1 ≠ 0 ∨ sync = false then s.open.2.append (putF (if s.open.1 = 0 then s.len else 0) (bytesB q xs).1) else (s.open.2.append (putF (if s.open.1 = 0 then s.len else 0) (bytesB q xs).1)).2.sync) := by
        unfold DS.wapp; rw [if_neg (by simpa using h0), if_neg hno]
      rw [e]
      refine ⟨rfl, w6, S6, rfl, (g04.tr k5.gx).tr g6, fun j hj => (hs6 j hj).imp id fun h => ?_, h6⟩
      have := (g04.tr k5.gx).size
      omega
    by_cases ho : s.open.1 = 0
    · rw [ho, if_pos rfl]
      refine Rt.jmX (Rt.cN (fun _ => Rt.some' (.inl ⟨rfl, ?_⟩)) fun e => absurd rfl e)
      exact fin_ _ (by rw [if_pos ho]) (fun h => h.1 ho) rfl
    · rw [if_neg ho]
      refine Rt.jmX (Rt.cN (fun e => absurd e ho) fun _ => Rt.cN (fun h8 => ?_) fun h8 => ?_)
      · exact Rt.some' (.inl ⟨rfl, fin_ _ (by rw [if_neg ho]; rfl) (fun h => h.2 h8) rfl⟩)
      · have e : s.wapp (bytesB q xs) sync = s.open := by unfold DS.wapp; rw [if_neg (by simpa using h0), if_pos ⟨ho, h8⟩]
        rw [e]
        exact Rt.some' (.inr ⟨by simp, rfl, w4, S, rfl, g04, fun _ h => .inl h, h4⟩)
  · have e : s.wapp (bytesB q xs) sync = ((bytesB q xs).2, s) := if_pos h0
    rw [e]
    exact Rt.some' ⟨rfl, w3, S, rfl, k03.gx, fun _ h => .inl h, hk3⟩
end
end Go.Proofs.YtdcdgmiojlldaaaDoor.Wl
/- The log: Recover. -/
namespace Go.Proofs.YtdcdgmiojlldaaaDoor.Wl
open Go Big Go.RowKit Go.IntWalk Var Low Par
set_option linter.unusedVariables false
set_option linter.unusedSimpArgs false
open Fr (sm hsm IsPut byEl lookP_go RAll)
open Ba (bv opEl bytesB OpD batchP encB checkC numC)
abbrev BatD := Int × List OpD
def batEl : El BatD where
  sz := 2
  rd w vs x := ∃ A c, vs = [.int .u64 x.1, .slice A x.2.length c] ∧ (0 ≤ x.1 ∧ x.1 < 2 ^ 64) ∧ Ev opEl w A x.2.length c x.2
  kp := fun hk ⟨A, c, e, h0, h⟩ => ⟨A, c, e, h0, h.kp hk⟩
  one := fun ⟨A, c, e, _⟩ u hu => by
    subst e
    simp at hu
    rcases hu with rfl | rfl <;> rfl
theorem slBt : ∃ i v, SlTE Tryd.prog 36 33 2 i v := slTE (by kernel_rfl)
theorem Rd_len {sm : List Int → Int} {a : Nat} {s : List Int} {wi : Bool} {now : List Int} {d d' : Nat} {rs : List (List Int)} {c : Int} (h : Fr.Rd sm a s wi now d rs d' c) : rs.length ≤ s.length ∧ ∀ r ∈ rs, r.length ≤ now.length + s.length := by
  induction h with
  | stop h => exact ⟨Nat.zero_le _, fun r hr => by cases hr⟩
  | more h t ih =>
    obtain ⟨h1, h2, _, h3, _⟩ := lookP_go h
    rw [List.length_drop, List.length_append] at ih
    exact ⟨by omega, fun r hr => by have := ih.2 r hr; omega⟩
  | last h t ih =>
    obtain ⟨h1, h2, _, h3, _⟩ := lookP_go h
    rw [List.length_drop] at ih
    refine ⟨by rw [List.length_cons]; omega, fun r hr => ?_⟩
    rcases List.mem_cons.1 hr with rfl | hr
    · rw [List.length_append]; omega
    · have := ih.2 r hr; rw [List.length_nil] at this; omega
noncomputable def recF : List (List Int) → Int → List BatD × Bool
  | [], _ => ([], false)
  | r :: rs, last => if (allP batchP r).1 ≠ 0 ∨ (allP batchP r).2.1 ≤ last then ([], true)
    else ((allP batchP r).2 :: (recF rs ((allP batchP r).2.1 + (((allP batchP r).2.2.length : Nat) : Int) - 1)).1, (recF rs ((allP batchP r).2.1 + (((allP batchP r).2.2.length : Nat) : Int) - 1)).2)
section
variable {α : Type} {Q : α → Prop} {n m : Nat} {w w' w0 w1 : World} {A B C R : Option Addr} {l c c' d base e mb p b L rc : Nat} {k q cls : Int} {x r o zs : List Int} {rs : List (List Int)} {out xs : List BatD} {S S' T : Nat → Prop} {fp : Option Nat} {s : DS} {sync : Bool}
theorem can_ok {s : Int} {ops : List OpD} (hx : Bytes x) (h : allP batchP x = (0, s, ops)) : (1 ≤ s ∧ s + ops.length < 2 ^ 57) ∧ 1 ≤ ops.length ∧ ops.length ≤ 100 := by
  obtain ⟨_, hc, hn, h0⟩ := allP_can Ba.can_batch hx h
  obtain ⟨h1, h2, _⟩ := Ba.checkC_ok.1 hc
  obtain ⟨h3, h4, h5⟩ := hn
  dsimp only at h1 h2 h3 h4 h5
  omega
theorem Rec_l0 (hn : 2 ^ 59 < n) (hr : Ev byEl w0 R L rc rs) (hL : L ≤ 2 ^ 30) (hrl : ∀ r ∈ rs, r.length ≤ 2 ^ 30) : ∀ (q i j : Nat) (w : World) (A : Option Addr) (c : Nat) (out : List BatD) (last : Int), i + q = L → q < j → Kp w0 w → OwnX (fun k => k < w0.heap.size) batEl 33 w w0.heap.size (.slice A out.length c) out → out.length ≤ i → 0 ≤ last →
    Rt (wal_Recover.l0 n j cls A out.length c last R L rc (L : Int) (i : Int) w) fun r => ∃ A' c' w', Kp w0 w' ∧ OwnX (fun k => k < w0.heap.size) batEl 33 w' w0.heap.size (.slice A' (out ++ (recF (rs.drop i) last).1).length c') (out ++ (recF (rs.drop i) last).1) ∧
      ((recF (rs.drop i) last).2 = false ∧ r = ⟨.exit 0, [.int .i64 cls, .slice A' (out ++ (recF (rs.drop i) last).1).length c'], w'⟩ ∨ (recF (rs.drop i) last).2 = true ∧ r = ⟨.ret, [.slice A' (out ++ (recF (rs.drop i) last).1).length c', .int .i64 2, .int .i64 0], w'⟩) := by
  obtain ⟨ti, tz, hT⟩ := slBt
  have hrs := hr.len
  intro q
  induction q with
  | zero =>
    intro i j w A c out last hi hj hk ho hol hla
    obtain ⟨j, rfl⟩ : ∃ j', j = j' + 1 := ⟨j - 1, by omega⟩
    rw [wal_Recover.l0_succ]
    refine Rt.cDF (by omega) ?_
    rw [List.drop_of_length_le (by omega)]
    have e : recF [] last = ([], false) := rfl
    rw [e]
    dsimp only
    rw [List.append_nil]
    exact Rt.some' ⟨A, c, w, hk, ho, .inl ⟨rfl, rfl⟩⟩
  | succ q ih =>
    intro i j w A c out last hi hj hk ho hol hla
    obtain ⟨j, rfl⟩ : ∃ j', j = j' + 1 := ⟨j - 1, by omega⟩
    rw [wal_Recover.l0_succ]
    refine Rt.cDT (by omega) (Fr.Rt.ixB (hr.kp hk).sl (by omega) (by omega) fun x a B m d ex hv hc => ?_)
    rw [Int.toNat_natCast] at ex
    have hxm : x ∈ rs := List.mem_of_getElem? ex
    have hdr : rs.drop i = x :: rs.drop (i + 1) := by
      obtain ⟨hlt, e⟩ := List.getElem?_eq_some_iff.1 ex
      rw [List.drop_eq_getElem_cons hlt, e]
    have hvl := hv.len
    have hxl := hrl x hxm
    (repeat (first | (with_reducible (first | refine Rt.fin ?_ | refine Rt.tL ?_ | refine Rt.tI ?_ | refine Rt.tB ?_ | refine Rt.tS ?_ | refine Rt.tP ?_ | refine Rt.tD ?_ | refine Rt.tM ?_ | refine Rt.tC ?_ | refine Rt.tN ?_ | refine Rt.tA ?_ | refine Rt.tG ?_ | refine Rt.tF ?_ | refine Rt.os ?_ | refine Rt.clS ?_ | refine Rt.jmN ?_ | refine Rt.jbN ?_ | refine Rt.jbE ?_)) | ((with_reducible (first | apply Rt.ld0 | apply Rt.ld1 | apply Rt.ld2 | apply Rt.ld3 | apply Rt.ld4 | apply Rt.ld5)); first | assumption | exact Lc.kp (by assumption) (by assumption)) | ((with_reducible apply Rt.ol); first | assumption | exact cell_kp (by assumption) (by assumption)) | ((with_reducible apply Rt.ckR); focus ((repeat (first | (with_reducible (first | refine Rt.fin ?_ | refine Rt.tL ?_ | refine Rt.tI ?_ | refine Rt.tB ?_ | refine Rt.tS ?_ | refine Rt.tP ?_ | refine Rt.tD ?_ | refine Rt.tM ?_ | refine Rt.tC ?_ | refine Rt.tN ?_ | refine Rt.tA ?_ | refine Rt.tG ?_ | refine Rt.tF ?_ | refine Rt.os ?_ | refine Rt.clS ?_ | refine Rt.jmN ?_ | refine Rt.jbN ?_ | refine Rt.jbE ?_)) | ((with_reducible (first | apply Rt.ld0 | apply Rt.ld1 | apply Rt.ld2 | apply Rt.ld3 | apply Rt.ld4 | apply Rt.ld5)); first | assumption | exact Lc.kp (by assumption) (by assumption)) | ((with_reducible apply Rt.ol); first | assumption | exact cell_kp (by assumption) (by assumption)))); exact Rt.some' rfl))))
    refine Ba.Rt.cBat (Ba.Read_spec hv (by omega) hn) fun B2 d2 w1 o1 k1 => ?_
    have hcan := fun s ops => can_ok (x := x) (s := s) (ops := ops) hv.rng
    have hre : recF (x :: rs.drop (i + 1)) last = if (allP batchP x).1 ≠ 0 ∨ (allP batchP x).2.1 ≤ last then ([], true)
      else ((allP batchP x).2 :: (recF (rs.drop (i + 1)) ((allP batchP x).2.1 + (((allP batchP x).2.2.length : Nat) : Int) - 1)).1, (recF (rs.drop (i + 1)) ((allP batchP x).2.1 + (((allP batchP x).2.2.length : Nat) : Int) - 1)).2) := rfl
    rw [hdr]
    generalize allP batchP x = y at o1 hcan hre ⊢
    obtain ⟨e, s, ops⟩ := y
    dsimp only at o1 hcan hre ⊢
    have bad : (e ≠ 0 ∨ s ≤ last) → ∀ w', Kp w w' → Rt (some (⟨.ret, [.slice A out.length c, .int .i64 2, .int .i64 0], w'⟩ : Res)) fun r => ∃ A' c' w', Kp w0 w' ∧ OwnX (fun k => k < w0.heap.size) batEl 33 w' w0.heap.size (.slice A' (out ++ (recF (x :: rs.drop (i + 1)) last).1).length c') (out ++ (recF (x :: rs.drop (i + 1)) last).1) ∧
      ((recF (x :: rs.drop (i + 1)) last).2 = false ∧ r = ⟨.exit 0, [.int .i64 cls, .slice A' (out ++ (recF (x :: rs.drop (i + 1)) last).1).length c'], w'⟩ ∨ (recF (x :: rs.drop (i + 1)) last).2 = true ∧ r = ⟨.ret, [.slice A' (out ++ (recF (x :: rs.drop (i + 1)) last).1).length c', .int .i64 2, .int .i64 0], w'⟩) := by
      intro h w' hk'
      rw [hre, if_pos h]
      dsimp only
      rw [List.append_nil]
      exact Rt.some' ⟨A, c, w', hk.tr hk', ho.kp hk', .inr ⟨rfl, rfl⟩⟩
    refine Ba.Rt.al2 fun w2 l2 k2 s2 => ?_
    refine Rt.cN (fun h0 => ?_) fun h0 => bad (.inl h0) _ (k1.tr k2)
    have h0 : e = 0 := h0
    subst h0
    obtain ⟨⟨hs1, hs2⟩, ho1, ho2⟩ := hcan s ops rfl
    (repeat (first | (with_reducible (first | refine Rt.fin ?_ | refine Rt.tL ?_ | refine Rt.tI ?_ | refine Rt.tB ?_ | refine Rt.tS ?_ | refine Rt.tP ?_ | refine Rt.tD ?_ | refine Rt.tM ?_ | refine Rt.tC ?_ | refine Rt.tN ?_ | refine Rt.tA ?_ | refine Rt.tG ?_ | refine Rt.tF ?_ | refine Rt.os ?_ | refine Rt.clS ?_ | refine Rt.jmN ?_ | refine Rt.jbN ?_ | refine Rt.jbE ?_)) | ((with_reducible (first | apply Rt.ld0 | apply Rt.ld1 | apply Rt.ld2 | apply Rt.ld3 | apply Rt.ld4 | apply Rt.ld5)); first | assumption | exact Lc.kp (by assumption) (by assumption)) | ((with_reducible apply Rt.ol); first | assumption | exact cell_kp (by assumption) (by assumption)) | ((with_reducible apply Rt.ckR); focus ((repeat (first | (with_reducible (first | refine Rt.fin ?_ | refine Rt.tL ?_ | refine Rt.tI ?_ | refine Rt.tB ?_ | refine Rt.tS ?_ | refine Rt.tP ?_ | refine Rt.tD ?_ | refine Rt.tM ?_ | refine Rt.tC ?_ | refine Rt.tN ?_ | refine Rt.tA ?_ | refine Rt.tG ?_ | refine Rt.tF ?_ | refine Rt.os ?_ | refine Rt.clS ?_ | refine Rt.jmN ?_ | refine Rt.jbN ?_ | refine Rt.jbE ?_)) | ((with_reducible (first | apply Rt.ld0 | apply Rt.ld1 | apply Rt.ld2 | apply Rt.ld3 | apply Rt.ld4 | apply Rt.ld5)); first | assumption | exact Lc.kp (by assumption) (by assumption)) | ((with_reducible apply Rt.ol); first | assumption | exact cell_kp (by assumption) (by assumption)))); exact Rt.some' rfl))))
    refine Rt.cD (fun h1 => bad (.inr h1) _ (k1.tr k2)) fun h1 => ?_
    have kd : Kp w2 w2.drew := (Kp.rfl' w2).dr
    have l2d := l2.kp kd
    (repeat (first | (with_reducible (first | refine Rt.fin ?_ | refine Rt.tL ?_ | refine Rt.tI ?_ | refine Rt.tB ?_ | refine Rt.tS ?_ | refine Rt.tP ?_ | refine Rt.tD ?_ | refine Rt.tM ?_ | refine Rt.tC ?_ | refine Rt.tN ?_ | refine Rt.tA ?_ | refine Rt.tG ?_ | refine Rt.tF ?_ | refine Rt.os ?_ | refine Rt.clS ?_ | refine Rt.jmN ?_ | refine Rt.jbN ?_ | refine Rt.jbE ?_)) | ((with_reducible (first | apply Rt.ld0 | apply Rt.ld1 | apply Rt.ld2 | apply Rt.ld3 | apply Rt.ld4 | apply Rt.ld5)); first | assumption | exact Lc.kp (by assumption) (by assumption)) | ((with_reducible apply Rt.ol); first | assumption | exact cell_kp (by assumption) (by assumption)) | ((with_reducible apply Rt.ckR); focus ((repeat (first | (with_reducible (first | refine Rt.fin ?_ | refine Rt.tL ?_ | refine Rt.tI ?_ | refine Rt.tB ?_ | refine Rt.tS ?_ | refine Rt.tP ?_ | refine Rt.tD ?_ | refine Rt.tM ?_ | refine Rt.tC ?_ | refine Rt.tN ?_ | refine Rt.tA ?_ | refine Rt.tG ?_ | refine Rt.tF ?_ | refine Rt.os ?_ | refine Rt.clS ?_ | refine Rt.jmN ?_ | refine Rt.jbN ?_ | refine Rt.jbE ?_)) | ((with_reducible (first | apply Rt.ld0 | apply Rt.ld1 | apply Rt.ld2 | apply Rt.ld3 | apply Rt.ld4 | apply Rt.ld5)); first | assumption | exact Lc.kp (by assumption) (by assumption)) | ((with_reducible apply Rt.ol); first | assumption | exact cell_kp (by assumption) (by assumption)))); exact Rt.some' rfl))))
    have k02 : Kp w w2.drew := (k1.tr k2).tr kd
    refine Rt.al fun w3 l3 k3 s3 => ?_
    have k03 : Kp w w3 := k02.tr k3
    have hlt : ∀ j, On (.slice A out.length c) j → w0.heap.size ≤ j ∧ j < w.heap.size := fun j hj => ho.lt j hj
    have hw1 := k1.size
    have hw0 := hk.size
    have o3 : OwnX (fun j => j < w.heap.size) opEl 30 w3 w.heap.size (.slice B2 ops.length d2) ops := ((o1.kp k2).kp kd).kp k3
    refine Rt.app1L rfl hT (ho.kp k03) l3 rfl (x := (s, ops)) ?_ (by omega) (by have := k03.size; omega) fun A4 c4 w4 o4 g4 s4 => ?_
    · have hst := (o3.stb fun k h => h).less (S' := fun k => k < w0.heap.size ∨ On (.slice A out.length c) k) fun k _ h => h.elim (fun h => by omega) fun h => (hlt k h).2
      exact fun w' hg => ⟨B2, d2, rfl, ⟨by dsimp only; omega, by dsimp only; omega⟩, hst w' hg⟩
    have l33 := l2d.kp k3
    have l4 := l33.gx g4 (fun h => by have := (hlt _ h).2; omega)
    (repeat (first | (with_reducible (first | refine Rt.fin ?_ | refine Rt.tL ?_ | refine Rt.tI ?_ | refine Rt.tB ?_ | refine Rt.tS ?_ | refine Rt.tP ?_ | refine Rt.tD ?_ | refine Rt.tM ?_ | refine Rt.tC ?_ | refine Rt.tN ?_ | refine Rt.tA ?_ | refine Rt.tG ?_ | refine Rt.tF ?_ | refine Rt.os ?_ | refine Rt.clS ?_ | refine Rt.jmN ?_ | refine Rt.jbN ?_ | refine Rt.jbE ?_)) | ((with_reducible (first | apply Rt.ld0 | apply Rt.ld1 | apply Rt.ld2 | apply Rt.ld3 | apply Rt.ld4 | apply Rt.ld5)); first | assumption | exact Lc.kp (by assumption) (by assumption)) | ((with_reducible apply Rt.ol); first | assumption | exact cell_kp (by assumption) (by assumption)) | ((with_reducible apply Rt.ckR); focus ((repeat (first | (with_reducible (first | refine Rt.fin ?_ | refine Rt.tL ?_ | refine Rt.tI ?_ | refine Rt.tB ?_ | refine Rt.tS ?_ | refine Rt.tP ?_ | refine Rt.tD ?_ | refine Rt.tM ?_ | refine Rt.tC ?_ | refine Rt.tN ?_ | refine Rt.tA ?_ | refine Rt.tG ?_ | refine Rt.tF ?_ | refine Rt.os ?_ | refine Rt.clS ?_ | refine Rt.jmN ?_ | refine Rt.jbN ?_ | refine Rt.jbE ?_)) | ((with_reducible (first | apply Rt.ld0 | apply Rt.ld1 | apply Rt.ld2 | apply Rt.ld3 | apply Rt.ld4 | apply Rt.ld5)); first | assumption | exact Lc.kp (by assumption) (by assumption)) | ((with_reducible apply Rt.ol); first | assumption | exact cell_kp (by assumption) (by assumption)))); exact Rt.some' rfl))))
    have e1 : IntKind.u64.wrap (s + IntKind.u64.wrap (IntKind.i64.wrap ((ops.length : Int) - 1))) = s + ops.length - 1 := by
      rw [i64_in _ (by omega), u64_in ((ops.length : Int) - 1) (by omega), u64_in _ (by omega)]; omega
    have e2 : IntKind.i64.wrap ((i : Int) + 1) = ((i + 1 : Nat) : Int) := by rw [i64_in _ (by omega)]; omega
    rw [e1, e2]
    have hll : (out ++ [(s, ops)]).length = out.length + 1 := by rw [List.length_append]; rfl
    have hk4 : Kp w0 w4 := (hk.tr k03).tx g4 fun j hj => (hlt j hj).1
    have := ih (i + 1) j w4 A4 c4 (out ++ [(s, ops)]) (s + ops.length - 1) (by omega) (by omega) hk4 (by rw [hll]; exact o4) (by omega) (by omega)
    rw [hll] at this
    refine Rt.mono this ?_
    rintro r ⟨A', c', w', h2, h3, h4⟩
    rw [hre, if_neg (by omega)]
    dsimp only
    rw [List.append_assoc] at h3 h4
    exact ⟨A', c', w', h2, h3, h4⟩
theorem rd_ex (b : List Int) : ∃ x : List (List Int) × Nat × Int, Fr.Rd sm 0 b false [] 0 x.1 x.2.1 x.2.2 := by
  obtain ⟨rs, d', c, h⟩ := Fr.Rd.total sm b.length 0 b false [] 0 (Nat.le_refl _)
  exact ⟨(rs, d', c), h⟩
noncomputable def rdF (b : List Int) : List (List Int) × Nat × Int := Classical.choose (rd_ex b)
theorem rdF_is (b : List Int) : Fr.Rd sm 0 b false [] 0 (rdF b).1 (rdF b).2.1 (rdF b).2.2 := Classical.choose_spec (rd_ex b)
theorem rdF_eq {b : List Int} {rs : List (List Int)} {d : Nat} {c : Int} (h : Fr.Rd sm 0 b false [] 0 rs d c) : rdF b = (rs, d, c) := by
  obtain ⟨h1, h2, h3⟩ := (rdF_is b).det h
  rw [← h1, ← h2, ← h3]
def DS.bytes (s : DS) : List Int := match s.file with
  | none => []
  | some f => f.1
noncomputable def logF (b : List Int) : List BatD × Int := ((recF (rdF b).1 0).1, if (recF (rdF b).1 0).2 = true then 2 else (rdF b).2.2)
noncomputable def DS.rec_ (s : DS) : (List BatD × Int × Int) × DS :=
  if s.open.1 ≠ 0 then (([], 0, s.open.1), s.open.2) else if s.open.2.open.1 ≠ 0 then (([], 0, s.open.2.open.1), s.open.2.open.2) else (((logF s.bytes).1, (logF s.bytes).2, 0), s.open.2.open.2)
def RRec (S : Nat → Prop) (w : World) (d : Nat) (x : List BatD × Int × Int) (s : DS) : List Value × World → Prop := fun r => ∃ A c w', r = ([.slice A x.1.length c, .int .i64 x.2.1, .int .i64 x.2.2], w') ∧ OwnX (fun k => k < w.heap.size) batEl 33 w' w.heap.size (.slice A x.1.length c) x.1 ∧ Dk w' S d s ∧ Gx S w w'
theorem Recover_spec (h : Dk w S d s) (hn : 2 ^ 59 < n) : Rt (wal_Recover n [pt d, .string nl] w) (RRec S w d s.rec_.1 s.rec_.2) := by
  rw [wal_Recover_eq]
  refine Rt.fin ?_
  obtain ⟨_, hr1, w1, rfl, h1, g1⟩ := Size_spec (n := n) h (by omega)
  refine Rt.cl hr1 ?_
  (repeat (first | (with_reducible (first | refine Rt.fin ?_ | refine Rt.tL ?_ | refine Rt.tI ?_ | refine Rt.tB ?_ | refine Rt.tS ?_ | refine Rt.tP ?_ | refine Rt.tD ?_ | refine Rt.tM ?_ | refine Rt.tC ?_ | refine Rt.tN ?_ | refine Rt.tA ?_ | refine Rt.tG ?_ | refine Rt.tF ?_ | refine Rt.os ?_ | refine Rt.clS ?_ | refine Rt.jmN ?_ | refine Rt.jbN ?_ | refine Rt.jbE ?_)) | ((with_reducible (first | apply Rt.ld0 | apply Rt.ld1 | apply Rt.ld2 | apply Rt.ld3 | apply Rt.ld4 | apply Rt.ld5)); first | assumption | exact Lc.kp (by assumption) (by assumption)) | ((with_reducible apply Rt.ol); first | assumption | exact cell_kp (by assumption) (by assumption)) | ((with_reducible apply Rt.ckR); focus ((repeat (first | (with_reducible (first | refine Rt.fin ?_ | refine Rt.tL ?_ | refine Rt.tI ?_ | refine Rt.tB ?_ | refine Rt.tS ?_ | refine Rt.tP ?_ | refine Rt.tD ?_ | refine Rt.tM ?_ | refine Rt.tC ?_ | refine Rt.tN ?_ | refine Rt.tA ?_ | refine Rt.tG ?_ | refine Rt.tF ?_ | refine Rt.os ?_ | refine Rt.clS ?_ | refine Rt.jmN ?_ | refine Rt.jbN ?_ | refine Rt.jbE ?_)) | ((with_reducible (first | apply Rt.ld0 | apply Rt.ld1 | apply Rt.ld2 | apply Rt.ld3 | apply Rt.ld4 | apply Rt.ld5)); first | assumption | exact Lc.kp (by assumption) (by assumption)) | ((with_reducible apply Rt.ol); first | assumption | exact cell_kp (by assumption) (by assumption)))); exact Rt.some' rfl))))
  refine Rt.cN (fun h0 => ?_) fun h0 => ?_
  · have h0 : s.open.1 = 0 := h0
    obtain ⟨f, hf⟩ := s.open_ok h0
    rw [if_pos h0]
    have hb : s.bytes = f.1 := by unfold DS.bytes; rw [hf]
    obtain ⟨_, hr2, B, c2, w2, xs, rfl, o2, b2, hx, hxl, h2, g2⟩ := Read_spec (n := n) (k := (s.len : Int)) h1 (fun f' hf' => by
      rw [s.open_len.2, hf] at hf'; rw [← Option.some.inj hf']; unfold DS.len; rw [hf]) (by omega) (by omega)
    refine Rt.cl hr2 ?_
    have g02 := g1.tr g2
    (repeat (first | (with_reducible (first | refine Rt.fin ?_ | refine Rt.tL ?_ | refine Rt.tI ?_ | refine Rt.tB ?_ | refine Rt.tS ?_ | refine Rt.tP ?_ | refine Rt.tD ?_ | refine Rt.tM ?_ | refine Rt.tC ?_ | refine Rt.tN ?_ | refine Rt.tA ?_ | refine Rt.tG ?_ | refine Rt.tF ?_ | refine Rt.os ?_ | refine Rt.clS ?_ | refine Rt.jmN ?_ | refine Rt.jbN ?_ | refine Rt.jbE ?_)) | ((with_reducible (first | apply Rt.ld0 | apply Rt.ld1 | apply Rt.ld2 | apply Rt.ld3 | apply Rt.ld4 | apply Rt.ld5)); first | assumption | exact Lc.kp (by assumption) (by assumption)) | ((with_reducible apply Rt.ol); first | assumption | exact cell_kp (by assumption) (by assumption)) | ((with_reducible apply Rt.ckR); focus ((repeat (first | (with_reducible (first | refine Rt.fin ?_ | refine Rt.tL ?_ | refine Rt.tI ?_ | refine Rt.tB ?_ | refine Rt.tS ?_ | refine Rt.tP ?_ | refine Rt.tD ?_ | refine Rt.tM ?_ | refine Rt.tC ?_ | refine Rt.tN ?_ | refine Rt.tA ?_ | refine Rt.tG ?_ | refine Rt.tF ?_ | refine Rt.os ?_ | refine Rt.clS ?_ | refine Rt.jmN ?_ | refine Rt.jbN ?_ | refine Rt.jbE ?_)) | ((with_reducible (first | apply Rt.ld0 | apply Rt.ld1 | apply Rt.ld2 | apply Rt.ld3 | apply Rt.ld4 | apply Rt.ld5)); first | assumption | exact Lc.kp (by assumption) (by assumption)) | ((with_reducible apply Rt.ol); first | assumption | exact cell_kp (by assumption) (by assumption)))); exact Rt.some' rfl))))
    refine Rt.cN (fun h3 => ?_) fun h3 => ?_
    · have h3 : s.open.2.open.1 = 0 := h3
      obtain ⟨f', hf', hxf⟩ := hx h3
      rw [s.open_len.2, hf] at hf'
      have hxf : xs = f.1 := by rw [hxf, Option.some.inj hf']
      subst hxf
      have hrd := rdF_is f.1
      obtain ⟨hl1, hl2⟩ := Rd_len hrd
      rw [List.length_nil] at hl2
      refine Fr.Rt.callAll (Fr.All_spec (by omega) (o2.bv b2) (by omega) hrd) fun R rc w3 e3 k3 => ?_
      have g03 := g02.tr k3.gx (S := S)
      refine Rt.jb (Rt.mono (Rec_l0 hn e3 (by omega) (fun r hr => by have := hl2 r hr; omega) _ 0 n w3 none 0 [] 0 (Nat.zero_add _) (by omega) (Kp.rfl' w3) (OwnX.nil _ _ _) (Nat.zero_le _) (Int.le_refl _)) ?_)
      rintro r ⟨A', c', w4, k4, o4, hc⟩
      rw [List.drop_zero, List.nil_append] at o4 hc
      have e : s.rec_ = (((logF s.bytes).1, (logF s.bytes).2, 0), s.open.2.open.2) := by unfold DS.rec_; rw [if_neg (by simpa using h0), if_neg (by simpa using h3)]
      rw [e, hb]
      have o5 : OwnX (fun k => k < w.heap.size) batEl 33 w4 w.heap.size (.slice A' (recF (rdF f.1).1 0).1.length c') (recF (rdF f.1).1 0).1 := (o4.less fun k hk => by have := g03.size; omega).mono g03.size
      have d5 := (h2.kp k3).kp k4
      rcases hc with ⟨hc, rfl⟩ | ⟨hc, rfl⟩
      · refine .inl ⟨.inr rfl, ?_⟩
        (repeat (first | (with_reducible (first | refine Rt.fin ?_ | refine Rt.tL ?_ | refine Rt.tI ?_ | refine Rt.tB ?_ | refine Rt.tS ?_ | refine Rt.tP ?_ | refine Rt.tD ?_ | refine Rt.tM ?_ | refine Rt.tC ?_ | refine Rt.tN ?_ | refine Rt.tA ?_ | refine Rt.tG ?_ | refine Rt.tF ?_ | refine Rt.os ?_ | refine Rt.clS ?_ | refine Rt.jmN ?_ | refine Rt.jbN ?_ | refine Rt.jbE ?_)) | ((with_reducible (first | apply Rt.ld0 | apply Rt.ld1 | apply Rt.ld2 | apply Rt.ld3 | apply Rt.ld4 | apply Rt.ld5)); first | assumption | exact Lc.kp (by assumption) (by assumption)) | ((with_reducible apply Rt.ol); first | assumption | exact cell_kp (by assumption) (by assumption)) | ((with_reducible apply Rt.ckR); focus ((repeat (first | (with_reducible (first | refine Rt.fin ?_ | refine Rt.tL ?_ | refine Rt.tI ?_ | refine Rt.tB ?_ | refine Rt.tS ?_ | refine Rt.tP ?_ | refine Rt.tD ?_ | refine Rt.tM ?_ | refine Rt.tC ?_ | refine Rt.tN ?_ | refine Rt.tA ?_ | refine Rt.tG ?_ | refine Rt.tF ?_ | refine Rt.os ?_ | refine Rt.clS ?_ | refine Rt.jmN ?_ | refine Rt.jbN ?_ | refine Rt.jbE ?_)) | ((with_reducible (first | apply Rt.ld0 | apply Rt.ld1 | apply Rt.ld2 | apply Rt.ld3 | apply Rt.ld4 | apply Rt.ld5)); first | assumption | exact Lc.kp (by assumption) (by assumption)) | ((with_reducible apply Rt.ol); first | assumption | exact cell_kp (by assumption) (by assumption)))); exact Rt.some' rfl))))
        refine Rt.some' ⟨rfl, A', c', w4, ?_, o5, d5, g03.tr k4.gx⟩
        unfold logF
        rw [if_neg (by rw [hc]; simp)]
      · refine .inr ⟨rfl, rfl, A', c', w4, ?_, o5, d5, g03.tr k4.gx⟩
        unfold logF
        rw [if_pos hc]
    · have h3 : s.open.2.open.1 ≠ 0 := h3
      have e : s.rec_ = (([], 0, s.open.2.open.1), s.open.2.open.2) := by unfold DS.rec_; rw [if_neg (by simpa using h0), if_pos h3]
      rw [e]
      exact Rt.some' ⟨rfl, none, 0, w2, rfl, OwnX.nil _ _ _, h2, g02⟩
  · have h0 : s.open.1 ≠ 0 := h0
    have e : s.rec_ = (([], 0, s.open.1), s.open.2) := by unfold DS.rec_; rw [if_pos h0]
    rw [e]
    exact Rt.some' ⟨rfl, none, 0, w1, rfl, OwnX.nil _ _ _, h1, g1⟩
end
end Go.Proofs.YtdcdgmiojlldaaaDoor.Wl
/- Batches that come in. -/
namespace Go.Proofs.YtdcdgmiojlldaaaDoor.Wl
open Go Big Go.RowKit Go.IntWalk Var Low Par
set_option linter.unusedVariables false
set_option linter.unusedSimpArgs false
open Ba (opEl op_open)
theorem len2 {l : List Value} (h : l.length = 2) : ∃ a b, l = [a, b] := by
  match l, h with
  | [a, b], _ => exact ⟨a, b, rfl⟩
theorem bat_open {H : Type} {enc : TypeId × Value → H} {W : World} {base : Nat} {spare : Nat → Bool} {held : Bool} (n : Nat) (cs : List Value) (y : DataW H × List MemPlace) (h : DataW.trod enc Tryd.prog W base spare held n 33 cs = some y) : ∃ x, batEl.rd W cs x := by
  obtain ⟨hl, hg⟩ := st_open Tryd.underlying33 h
  have hl : cs.length = 2 := hl.trans (by kernel_rfl)
  obtain ⟨c0, c1, rfl⟩ := len2 hl
  clear hl h
  obtain ⟨_, _, g0⟩ := hg 0 _ rfl
  obtain ⟨_, _, g1⟩ := hg 1 _ rfl
  obtain ⟨s, e0, r0⟩ := int_open (k := .u64) Tryd.underlying27 g0
  obtain ⟨A, l, c, xs, e1, b1⟩ := ev_open (E := opEl) Tryd.underlying31 (by kernel_rfl) op_open g1
  have f0 : c0 = Value.int .u64 s := (List.cons.inj ((show [c0] = List.take (Tryd.prog.cellsOf 27) (List.drop 0 [c0, c1]) by rw [show Tryd.prog.cellsOf 27 = 1 by kernel_rfl]; rfl).trans e0)).1
  have f1 : c1 = Value.slice A l c := (List.cons.inj ((show [c1] = List.take (Tryd.prog.cellsOf 31) (List.drop 1 [c0, c1]) by rw [show Tryd.prog.cellsOf 31 = 1 by kernel_rfl]; rfl).trans e1)).1
  clear e0 e1
  subst f0 f1
  have hl := b1.len
  subst hl
  exact ⟨(s, xs), A, c, rfl, u64b r0, b1⟩
end Go.Proofs.YtdcdgmiojlldaaaDoor.Wl
/- The log, plainly: what is written is recovered. -/
namespace Go.Proofs.YtdcdgmiojlldaaaDoor.Wl
open Go Big Go.RowKit Go.IntWalk Var Low Par
set_option linter.unusedVariables false
set_option linter.unusedSimpArgs false
open Fr (sm hsm IsPut IsLog byEl upTo)
open Ba (bv opEl bytesB OpD batchP encB checkC numC rightO)
def DS.sy (s : DS) : Nat := match s.file with
  | none => 0
  | some f => f.2
section
variable {s : DS} {xs ys : List BatD} {bb : List Int × Int} {sync : Bool} {b : List Int} {es : List Nat} {last : Int} {x : BatD}
theorem DS.bytes_len (s : DS) : s.bytes.length = s.len := by unfold DS.bytes DS.len; cases s.file <;> rfl
theorem DS.begin_nil (h : s.fails = []) : s.begin = (0, s) := by unfold DS.begin; rw [h]
theorem DS.open_nil (h : s.fails = []) : s.open = (if s.file = none then 8 else 0, s) := by
  unfold DS.open
  rw [s.begin_nil h, if_neg (by simp)]
  split <;> rfl
theorem DS.append_nil (h : s.fails = []) {o : List Int} (h1 : s.len + o.length ≤ 16777216) (h2 : ((s.len + o.length : Nat) : Int) ≤ s.room) : s.append o = (0, { s with file := some (s.bytes ++ o, s.sy) }) := by
  unfold DS.append
  rw [s.begin_nil h, if_neg (by simp), if_neg (by omega), if_neg (by omega)]
  unfold DS.bytes DS.sy
  cases s.file <;> rfl
theorem DS.wapp_nil (h : s.fails = []) (hb : bb.2 = 0) (h1 : s.len + (putF s.len bb.1).length ≤ 16777216) (h2 : ((s.len + (putF s.len bb.1).length : Nat) : Int) ≤ s.room) :
    s.wapp bb sync = (0, { s with file := some (s.bytes ++ putF s.len bb.1, if sync = true then s.len + (putF s.len bb.1).length else s.sy) }) := by
  have ho := s.open_nil h
  have hl : (if s.open.1 = 0 then s.len else 0) = s.len := by
    rw [ho]
    unfold DS.len
    cases s.file <;> rfl
  unfold DS.wapp
  rw [if_neg (by simpa using hb), if_neg (by rw [ho]; rintro ⟨h3, h4⟩; dsimp only at h3 h4; split at h3 <;> simp_all), hl]
  have ho2 : s.open.2 = s := by rw [ho]
  rw [ho2, s.append_nil h h1 h2]
  dsimp only
  cases sync with
  | false => rw [if_pos (.inr rfl)]; rfl
  | true =>
    rw [if_neg (by simp)]
    unfold DS.sync
    rw [DS.open_nil (s := { s with file := some (s.bytes ++ putF s.len bb.1, s.sy) }) h]
    simp only [reduceCtorEq, if_false, if_true]
    congr 3
    show some (s.bytes ++ putF s.len bb.1, (s.bytes ++ putF s.len bb.1).length) = _
    rw [List.length_append, s.bytes_len]
def Asc : Int → List BatD → Prop
  | _, [] => True
  | last, x :: xs => (0 ≤ x.1 ∧ x.1 < 2 ^ 64) ∧ checkC x.2 = 0 ∧ numC x.1 x.2.length ∧ last < x.1 ∧ Asc (x.1 + x.2.length - 1) xs
def encs (xs : List BatD) : List (List Int) := xs.map fun x => encB x.1 x.2
theorem recF_asc : ∀ {xs : List BatD} {last : Int}, Asc last xs → recF (encs xs) last = (xs, false)
  | [], _, _ => rfl
  | x :: xs, last, ⟨h0, h1, h2, h3, h4⟩ => by
    have e : allP batchP (encB x.1 x.2) = (0, x) := allP_enc (Ba.enc_batch h0 h1 h2)
    have ih := recF_asc h4
    show recF (encB x.1 x.2 :: encs xs) last = _
    unfold recF
    rw [e]
    dsimp only
    rw [if_neg (by omega), ih]
theorem Asc.take : ∀ {xs : List BatD} {last : Int} (k : Nat), Asc last xs → Asc last (xs.take k)
  | [], _, k, h => by rw [List.take_nil]; exact h
  | x :: xs, last, 0, h => trivial
  | x :: xs, last, k + 1, ⟨h0, h1, h2, h3, h4⟩ => ⟨h0, h1, h2, h3, Asc.take k h4⟩
def lastB : Int → List BatD → Int
  | last, [] => last
  | _, x :: xs => lastB (x.1 + x.2.length - 1) xs
theorem Asc.snoc : ∀ {xs : List BatD} {last : Int}, Asc last xs → (0 ≤ x.1 ∧ x.1 < 2 ^ 64) → checkC x.2 = 0 → numC x.1 x.2.length → lastB last xs < x.1 → Asc last (xs ++ [x])
  | [], _, _, h0, h1, h2, h3 => ⟨h0, h1, h2, h3, trivial⟩
  | y :: xs, last, ⟨i0, i1, i2, i3, i4⟩, h0, h1, h2, h3 => ⟨i0, i1, i2, i3, Asc.snoc i4 h0 h1 h2 h3⟩
theorem lastB_snoc : ∀ {xs : List BatD} {last : Int}, lastB last (xs ++ [x]) = x.1 + x.2.length - 1
  | [], _ => rfl
  | y :: xs, last => lastB_snoc (xs := xs)
theorem logF_whole (h : IsLog sm 0 (encs xs) b es) (ha : Asc 0 xs) : logF b = (xs, 0) := by
  unfold logF
  rw [rdF_eq (Fr.Rd.whole hsm h)]
  dsimp only
  rw [recF_asc ha]
  rfl
theorem encs_take (xs : List BatD) (k : Nat) : (encs xs).take k = encs (xs.take k) := by unfold encs; rw [List.map_take]
theorem logF_cut (h : IsLog sm 0 (encs xs) b es) (ha : Asc 0 xs) {m : Nat} (hm : m ≤ b.length) : ∃ c, logF (b.take m) = (xs.take (upTo es m), c) ∧ c ≠ 2 := by
  obtain ⟨d', c, h1, h2⟩ := Fr.Rd.cutLog hsm h (m := m) (d := 0) hm
  rw [Nat.zero_add, encs_take] at h1
  refine ⟨c, ?_, h2⟩
  unfold logF
  rw [rdF_eq h1]
  dsimp only
  rw [recF_asc (ha.take _)]
  rfl
theorem Log_snoc (h : IsLog sm 0 (encs xs) b es) (x : BatD) : IsLog sm 0 (encs (xs ++ [x])) (b ++ putF b.length (encB x.1 x.2)) (es ++ [b.length + (putF b.length (encB x.1 x.2)).length]) := by
  have := h.snoc (r := encB x.1 x.2) (o := putF b.length (encB x.1 x.2)) (by rw [Nat.zero_add]; exact putF_is _ _)
  rw [Nat.zero_add] at this
  unfold encs
  rw [List.map_append]
  exact this
end
end Go.Proofs.YtdcdgmiojlldaaaDoor.Wl
/- The disk: Crash; batches compared; alive. -/
namespace Go.Proofs.YtdcdgmiojlldaaaDoor.Wl
open Go Big Go.RowKit Go.IntWalk Var Low Par
set_option linter.unusedVariables false
set_option linter.unusedSimpArgs false
open Fr (sm hsm IsPut IsLog byEl upTo)
open Ba (bv opEl bytesB OpD batchP encB checkC numC rightO)
def crashN (f : List Int × Nat) (keep : Int) : Nat := f.2 + min (f.1.length - f.2) keep.toNat
def DS.crash (s : DS) (keep : Int) : DS := { s with file := s.file.map fun f => (f.1.take (crashN f keep), crashN f keep) }
section
variable {α : Type} {Q : α → Prop} {n m : Nat} {w w' w0 w1 : World} {A B C R : Option Addr} {l c c' d base e mb p b L rc : Nat} {k q cls keep : Int} {x r o zs : List Int} {rs : List (List Int)} {out xs ys : List BatD} {S S' T : Nat → Prop} {fp : Option Nat} {s : DS} {sync : Bool}
theorem Rt.ixBt (hs : SlE batEl w A l xs) {i : Int} (h0 : 0 ≤ i) (h1 : i < l) {f : Addr → Option α}
    (h : ∀ (x : BatD) (a : Addr) (B : Option Addr) (d : Nat), xs[i.toNat]? = some x → (0 ≤ x.1 ∧ x.1 < 2 ^ 64) → Ev opEl w B x.2.length d x.2 → w.cell? a = some (.int .u64 x.1) → w.cell? (Addr.add a 1) = some (.slice B x.2.length d) → Rt (f a) Q) : Rt (ixA A l i 2 f) Q := by
  refine Rt.ixe hs rfl h0 h1 fun x a us e1 _ e3 e4 => ?_
  obtain ⟨B, d, rfl, hx, hv⟩ := e3
  have c0 := e4 0 _ rfl
  rw [Addr.add_zero'] at c0
  exact h x a B d e1 hx hv c0 (e4 1 _ rfl)
theorem SameBs_l0 (hn : 2 ^ 62 < n) (hx : Ev batEl w0 A l c xs) (hy : Ev batEl w0 B l c' ys) (hl : l < 2 ^ 60) (hol : ∀ x ∈ xs, x.2.length < 2 ^ 62) : ∀ (q i j : Nat) (w : World), i + q = l → q < j → Kp w0 w → xs.take i = ys.take i →
    Rt (butteryref1_SameBatches.l0 n j A l c B l c' (i : Int) w) fun r => Kp w0 r.w ∧ (r.ex = .exit 0 ∧ r.vals = [] ∧ xs = ys ∨ r.ex = .ret ∧ r.vals = [.bool false] ∧ xs ≠ ys) := by
  intro q
  have hxl := hx.len
  have hyl := hy.len
  induction q with
  | zero =>
    intro i j w hi hj hk hr
    obtain ⟨j, rfl⟩ : ∃ j', j = j' + 1 := ⟨j - 1, by omega⟩
    rw [butteryref1_SameBatches.l0_succ]
    exact Rt.cDF (by omega) (Rt.some' ⟨hk, .inl ⟨rfl, rfl, by rwa [List.take_of_length_le (by omega), List.take_of_length_le (by omega)] at hr⟩⟩)
  | succ q ih =>
    intro i j w hi hj hk hr
    obtain ⟨j, rfl⟩ : ∃ j', j = j' + 1 := ⟨j - 1, by omega⟩
    rw [butteryref1_SameBatches.l0_succ]
    have hkd := hk.dr
    refine Rt.cDT (by omega) (Rt.ixBt (hx.kp hkd).sl (by omega) (by omega) fun x a B1 d1 ex hx0 hxv c0 c1 => ?_)
    rw [Int.toNat_natCast] at ex
    (repeat (first | (with_reducible (first | refine Rt.fin ?_ | refine Rt.tL ?_ | refine Rt.tI ?_ | refine Rt.tB ?_ | refine Rt.tS ?_ | refine Rt.tP ?_ | refine Rt.tD ?_ | refine Rt.tM ?_ | refine Rt.tC ?_ | refine Rt.tN ?_ | refine Rt.tA ?_ | refine Rt.tG ?_ | refine Rt.tF ?_ | refine Rt.os ?_ | refine Rt.clS ?_ | refine Rt.jmN ?_ | refine Rt.jbN ?_ | refine Rt.jbE ?_)) | ((with_reducible (first | apply Rt.ld0 | apply Rt.ld1 | apply Rt.ld2 | apply Rt.ld3 | apply Rt.ld4 | apply Rt.ld5)); first | assumption | exact Lc.kp (by assumption) (by assumption)) | ((with_reducible apply Rt.ol); first | assumption | exact cell_kp (by assumption) (by assumption)) | ((with_reducible apply Rt.ckR); focus ((repeat (first | (with_reducible (first | refine Rt.fin ?_ | refine Rt.tL ?_ | refine Rt.tI ?_ | refine Rt.tB ?_ | refine Rt.tS ?_ | refine Rt.tP ?_ | refine Rt.tD ?_ | refine Rt.tM ?_ | refine Rt.tC ?_ | refine Rt.tN ?_ | refine Rt.tA ?_ | refine Rt.tG ?_ | refine Rt.tF ?_ | refine Rt.os ?_ | refine Rt.clS ?_ | refine Rt.jmN ?_ | refine Rt.jbN ?_ | refine Rt.jbE ?_)) | ((with_reducible (first | apply Rt.ld0 | apply Rt.ld1 | apply Rt.ld2 | apply Rt.ld3 | apply Rt.ld4 | apply Rt.ld5)); first | assumption | exact Lc.kp (by assumption) (by assumption)) | ((with_reducible apply Rt.ol); first | assumption | exact cell_kp (by assumption) (by assumption)))); exact Rt.some' rfl))))
    refine Rt.ixBt (hy.kp hkd).sl (by omega) (by omega) fun y a' B2 d2 ey hy0 hyv c2 c3 => ?_
    rw [Int.toNat_natCast] at ey
    (repeat (first | (with_reducible (first | refine Rt.fin ?_ | refine Rt.tL ?_ | refine Rt.tI ?_ | refine Rt.tB ?_ | refine Rt.tS ?_ | refine Rt.tP ?_ | refine Rt.tD ?_ | refine Rt.tM ?_ | refine Rt.tC ?_ | refine Rt.tN ?_ | refine Rt.tA ?_ | refine Rt.tG ?_ | refine Rt.tF ?_ | refine Rt.os ?_ | refine Rt.clS ?_ | refine Rt.jmN ?_ | refine Rt.jbN ?_ | refine Rt.jbE ?_)) | ((with_reducible (first | apply Rt.ld0 | apply Rt.ld1 | apply Rt.ld2 | apply Rt.ld3 | apply Rt.ld4 | apply Rt.ld5)); first | assumption | exact Lc.kp (by assumption) (by assumption)) | ((with_reducible apply Rt.ol); first | assumption | exact cell_kp (by assumption) (by assumption)) | ((with_reducible apply Rt.ckR); focus ((repeat (first | (with_reducible (first | refine Rt.fin ?_ | refine Rt.tL ?_ | refine Rt.tI ?_ | refine Rt.tB ?_ | refine Rt.tS ?_ | refine Rt.tP ?_ | refine Rt.tD ?_ | refine Rt.tM ?_ | refine Rt.tC ?_ | refine Rt.tN ?_ | refine Rt.tA ?_ | refine Rt.tG ?_ | refine Rt.tF ?_ | refine Rt.os ?_ | refine Rt.clS ?_ | refine Rt.jmN ?_ | refine Rt.jbN ?_ | refine Rt.jbE ?_)) | ((with_reducible (first | apply Rt.ld0 | apply Rt.ld1 | apply Rt.ld2 | apply Rt.ld3 | apply Rt.ld4 | apply Rt.ld5)); first | assumption | exact Lc.kp (by assumption) (by assumption)) | ((with_reducible apply Rt.ol); first | assumption | exact cell_kp (by assumption) (by assumption)))); exact Rt.some' rfl))))
    have hxm := hol x (List.mem_of_getElem? ex)
    refine Rt.cBo (Ba.SameBatch_spec hxv hyv hxm (by omega)) fun b w2 hb k2 => ?_
    have k02 := hkd.tr k2
    have hne : x ≠ y → xs ≠ ys := fun h h' => by subst h'; rw [ex] at ey; exact h (Option.some.inj ey)
    cases b with
    | false =>
      refine Rt.cT rfl (Rt.some' ⟨k02, .inr ⟨rfl, rfl, hne fun h => ?_⟩⟩)
      subst h
      have := hb.2 ⟨rfl, rfl⟩
      cases this
    | true =>
      have hxy : x = y := Prod.ext (hb.1 rfl).1 (hb.1 rfl).2
      subst hxy
      refine Rt.cF rfl ?_
      have e2 : IntKind.i64.wrap ((i : Int) + 1) = ((i + 1 : Nat) : Int) := by rw [i64_in _ (by omega)]; omega
      rw [e2]
      refine ih (i + 1) j w2 (by omega) (by omega) k02 ?_
      obtain ⟨h1, h2⟩ := List.getElem?_eq_some_iff.1 ex
      obtain ⟨h3, h4⟩ := List.getElem?_eq_some_iff.1 ey
      rw [List.take_succ_eq_append_getElem h1, List.take_succ_eq_append_getElem h3, hr, h2, h4]
theorem SameBs_spec (hn : 2 ^ 63 < n) (hx : Ev batEl w A l c xs) (hy : Ev batEl w B m c' ys) (hl : l < 2 ^ 60) (hol : ∀ x ∈ xs, x.2.length < 2 ^ 62) : Rt (butteryref1_SameBatches n [.slice A l c, .slice B m c'] w) (RB (xs = ys) w) := by
  have hxl := hx.len
  have hyl := hy.len
  rw [butteryref1_SameBatches_eq]
  refine Rt.fin (Rt.cN (fun h => ?_) fun h => ?_)
  · have : l = m := by omega
    subst this
    refine Rt.jb (Rt.mono (SameBs_l0 (n := n) (by omega) hx hy hl hol l 0 n w (by omega) (by omega) (Kp.rfl' w) rfl) ?_)
    rintro ⟨ex, vs, w1⟩ ⟨k1, ⟨h2, h3, h4⟩ | ⟨h2, h3, h4⟩⟩
    · dsimp only at k1 h2 h3; subst h2 h3
      refine .inl ⟨.inr rfl, ?_⟩
      (repeat (first | (with_reducible (first | refine Rt.fin ?_ | refine Rt.tL ?_ | refine Rt.tI ?_ | refine Rt.tB ?_ | refine Rt.tS ?_ | refine Rt.tP ?_ | refine Rt.tD ?_ | refine Rt.tM ?_ | refine Rt.tC ?_ | refine Rt.tN ?_ | refine Rt.tA ?_ | refine Rt.tG ?_ | refine Rt.tF ?_ | refine Rt.os ?_ | refine Rt.clS ?_ | refine Rt.jmN ?_ | refine Rt.jbN ?_ | refine Rt.jbE ?_)) | ((with_reducible (first | apply Rt.ld0 | apply Rt.ld1 | apply Rt.ld2 | apply Rt.ld3 | apply Rt.ld4 | apply Rt.ld5)); first | assumption | exact Lc.kp (by assumption) (by assumption)) | ((with_reducible apply Rt.ol); first | assumption | exact cell_kp (by assumption) (by assumption)) | ((with_reducible apply Rt.ckR); focus ((repeat (first | (with_reducible (first | refine Rt.fin ?_ | refine Rt.tL ?_ | refine Rt.tI ?_ | refine Rt.tB ?_ | refine Rt.tS ?_ | refine Rt.tP ?_ | refine Rt.tD ?_ | refine Rt.tM ?_ | refine Rt.tC ?_ | refine Rt.tN ?_ | refine Rt.tA ?_ | refine Rt.tG ?_ | refine Rt.tF ?_ | refine Rt.os ?_ | refine Rt.clS ?_ | refine Rt.jmN ?_ | refine Rt.jbN ?_ | refine Rt.jbE ?_)) | ((with_reducible (first | apply Rt.ld0 | apply Rt.ld1 | apply Rt.ld2 | apply Rt.ld3 | apply Rt.ld4 | apply Rt.ld5)); first | assumption | exact Lc.kp (by assumption) (by assumption)) | ((with_reducible apply Rt.ol); first | assumption | exact cell_kp (by assumption) (by assumption)))); exact Rt.some' rfl))))
      exact Rt.endB (by simpa using h4) k1
    · dsimp only at k1 h2 h3; subst h2 h3
      exact .inr ⟨rfl, rfl, false, w1, rfl, by simpa using h4, k1⟩
  · exact Rt.endB (by simp only [Bool.false_eq_true, false_iff]; intro h'; subst h'; omega) (Kp.rfl' w)
end
end Go.Proofs.YtdcdgmiojlldaaaDoor.Wl
/- The disk: Crash; alive. -/
namespace Go.Proofs.YtdcdgmiojlldaaaDoor.Wl
open Go Big Go.RowKit Go.IntWalk Var Low Par
set_option linter.unusedVariables false
set_option linter.unusedSimpArgs false
open Fr (sm hsm IsPut IsLog byEl upTo)
open Ba (bv opEl bytesB OpD batchP encB checkC numC rightO)
section
variable {α : Type} {Q : α → Prop} {n m : Nat} {w w' w0 w1 : World} {A B C R : Option Addr} {l c c' d base e mb p b L rc : Nat} {k q cls keep : Int} {x r o zs : List Int} {rs : List (List Int)} {out xs ys : List BatD} {S S' T : Nat → Prop} {fp : Option Nat} {s : DS} {sync : Bool}
theorem on_len {l' c' j : Nat} (h : On (.slice B l c) j) : On (.slice B l' c') j := by
  cases B <;> exact h
theorem Own.cut0 {K : IntKind} {zs : List Int} (h : Own K e w base (.slice A zs.length c) zs) {i : Nat} (hi : i ≤ zs.length) {f : Option Addr → Nat → Nat → Option α} (hf : Own K e w base (.slice A i c) (zs.take i) → Rt (f A i c) Q) : Rt (cutS A c 0 (i : Int) 1 f) Q := by
  rcases h.2 with ⟨h', hn'⟩ | ⟨g, cap, cur, h', hb, hg, hnc, hcm, _⟩
  · injection h' with h1 h2 h3
    subst h1 h3
    have hi0 : i = 0 := by omega
    subst hi0
    exact hf (by rw [List.take_zero]; exact Own.nil w base)
  · injection h' with h1 h2 h3
    subst h1 h3
    have e1 : ∀ x, (if c = (0 : Int).toNat then (some (⟨g, 0, none⟩ : Addr)) else x) = if c = 0 then some ⟨g, 0, none⟩ else x := fun _ => rfl
    rw [cutS, if_pos ⟨Int.le_refl _, by omega, by omega⟩, show (if c = (0 : Int).toNat then (some (⟨g, 0, none⟩ : Addr)) else (some (⟨g, 0, none⟩ : Addr)).map (·.add ((0 : Int).toNat * 1))) = some ⟨g, 0, none⟩ by split <;> rfl]
    exact hf (Own.less h hi)
theorem Crash_spec (h : Dk w S d s) (hn : 10 < n) : Rt (disk_Disk_Crash n [pt d, .int .i64 keep] w) fun r => ∃ w', r = ([], w') ∧ Dk w' S d (s.crash keep) ∧ Gx S w w' := by
  obtain ⟨mb, fp, A, c, hd⟩ := h
  have hl := hd.lc
  rw [disk_Disk_Crash_eq]
  refine Rt.fin ?_
  (repeat (first | (with_reducible (first | refine Rt.fin ?_ | refine Rt.tL ?_ | refine Rt.tI ?_ | refine Rt.tB ?_ | refine Rt.tS ?_ | refine Rt.tP ?_ | refine Rt.tD ?_ | refine Rt.tM ?_ | refine Rt.tC ?_ | refine Rt.tN ?_ | refine Rt.tA ?_ | refine Rt.tG ?_ | refine Rt.tF ?_ | refine Rt.os ?_ | refine Rt.clS ?_ | refine Rt.jmN ?_ | refine Rt.jbN ?_ | refine Rt.jbE ?_)) | ((with_reducible (first | apply Rt.ld0 | apply Rt.ld1 | apply Rt.ld2 | apply Rt.ld3 | apply Rt.ld4 | apply Rt.ld5)); first | assumption | exact Lc.kp (by assumption) (by assumption)) | ((with_reducible apply Rt.ol); first | assumption | exact cell_kp (by assumption) (by assumption)) | ((with_reducible apply Rt.ckR); focus ((repeat (first | (with_reducible (first | refine Rt.fin ?_ | refine Rt.tL ?_ | refine Rt.tI ?_ | refine Rt.tB ?_ | refine Rt.tS ?_ | refine Rt.tP ?_ | refine Rt.tD ?_ | refine Rt.tM ?_ | refine Rt.tC ?_ | refine Rt.tN ?_ | refine Rt.tA ?_ | refine Rt.tG ?_ | refine Rt.tF ?_ | refine Rt.os ?_ | refine Rt.clS ?_ | refine Rt.jmN ?_ | refine Rt.jbN ?_ | refine Rt.jbE ?_)) | ((with_reducible (first | apply Rt.ld0 | apply Rt.ld1 | apply Rt.ld2 | apply Rt.ld3 | apply Rt.ld4 | apply Rt.ld5)); first | assumption | exact Lc.kp (by assumption) (by assumption)) | ((with_reducible apply Rt.ol); first | assumption | exact cell_kp (by assumption) (by assumption)))); exact Rt.some' rfl))))
  refine Rt.st2 hl fun w2 l2 g2 => ?_
  (repeat (first | (with_reducible (first | refine Rt.fin ?_ | refine Rt.tL ?_ | refine Rt.tI ?_ | refine Rt.tB ?_ | refine Rt.tS ?_ | refine Rt.tP ?_ | refine Rt.tD ?_ | refine Rt.tM ?_ | refine Rt.tC ?_ | refine Rt.tN ?_ | refine Rt.tA ?_ | refine Rt.tG ?_ | refine Rt.tF ?_ | refine Rt.os ?_ | refine Rt.clS ?_ | refine Rt.jmN ?_ | refine Rt.jbN ?_ | refine Rt.jbE ?_)) | ((with_reducible (first | apply Rt.ld0 | apply Rt.ld1 | apply Rt.ld2 | apply Rt.ld3 | apply Rt.ld4 | apply Rt.ld5)); first | assumption | exact Lc.kp (by assumption) (by assumption)) | ((with_reducible apply Rt.ol); first | assumption | exact cell_kp (by assumption) (by assumption)) | ((with_reducible apply Rt.ckR); focus ((repeat (first | (with_reducible (first | refine Rt.fin ?_ | refine Rt.tL ?_ | refine Rt.tI ?_ | refine Rt.tB ?_ | refine Rt.tS ?_ | refine Rt.tP ?_ | refine Rt.tD ?_ | refine Rt.tM ?_ | refine Rt.tC ?_ | refine Rt.tN ?_ | refine Rt.tA ?_ | refine Rt.tG ?_ | refine Rt.tF ?_ | refine Rt.os ?_ | refine Rt.clS ?_ | refine Rt.jmN ?_ | refine Rt.jbN ?_ | refine Rt.jbE ?_)) | ((with_reducible (first | apply Rt.ld0 | apply Rt.ld1 | apply Rt.ld2 | apply Rt.ld3 | apply Rt.ld4 | apply Rt.ld5)); first | assumption | exact Lc.kp (by assumption) (by assumption)) | ((with_reducible apply Rt.ol); first | assumption | exact cell_kp (by assumption) (by assumption)))); exact Rt.some' rfl))))
  refine Rt.range (hd.fm.gx g2 hd.ne) fun w3 r3 k3 s3 => ?_
  refine Rt.tD ?_
  obtain ⟨m, rfl⟩ := Nat.exists_eq_add_of_le' (show 2 ≤ n by omega)
  rw [disk_Disk_Crash.l0_succ]
  have l3 := l2.kp k3
  have hsd := hd.lt
  have hw2 := g2.size
  have hit : ∀ j, S j → j ≠ w2.heap.size := fun j hj => by have := hsd j hj; omega
  cases hf : s.file with
  | none =>
    have hfl := hd.fl
    obtain rfl := hfl.none_iff.2 hf
    refine Rt.jb (Rt.next0 r3 ?_)
    refine Rt.some' (.inl ⟨.inr rfl, ?_⟩)
    (repeat (first | (with_reducible (first | refine Rt.fin ?_ | refine Rt.tL ?_ | refine Rt.tI ?_ | refine Rt.tB ?_ | refine Rt.tS ?_ | refine Rt.tP ?_ | refine Rt.tD ?_ | refine Rt.tM ?_ | refine Rt.tC ?_ | refine Rt.tN ?_ | refine Rt.tA ?_ | refine Rt.tG ?_ | refine Rt.tF ?_ | refine Rt.os ?_ | refine Rt.clS ?_ | refine Rt.jmN ?_ | refine Rt.jbN ?_ | refine Rt.jbE ?_)) | ((with_reducible (first | apply Rt.ld0 | apply Rt.ld1 | apply Rt.ld2 | apply Rt.ld3 | apply Rt.ld4 | apply Rt.ld5)); first | assumption | exact Lc.kp (by assumption) (by assumption)) | ((with_reducible apply Rt.ol); first | assumption | exact cell_kp (by assumption) (by assumption)) | ((with_reducible apply Rt.ckR); focus ((repeat (first | (with_reducible (first | refine Rt.fin ?_ | refine Rt.tL ?_ | refine Rt.tI ?_ | refine Rt.tB ?_ | refine Rt.tS ?_ | refine Rt.tP ?_ | refine Rt.tD ?_ | refine Rt.tM ?_ | refine Rt.tC ?_ | refine Rt.tN ?_ | refine Rt.tA ?_ | refine Rt.tG ?_ | refine Rt.tF ?_ | refine Rt.os ?_ | refine Rt.clS ?_ | refine Rt.jmN ?_ | refine Rt.jbN ?_ | refine Rt.jbE ?_)) | ((with_reducible (first | apply Rt.ld0 | apply Rt.ld1 | apply Rt.ld2 | apply Rt.ld3 | apply Rt.ld4 | apply Rt.ld5)); first | assumption | exact Lc.kp (by assumption) (by assumption)) | ((with_reducible apply Rt.ol); first | assumption | exact cell_kp (by assumption) (by assumption)))); exact Rt.some' rfl))))
    have gg : Gx (fun j => j = d) w w3 := g2.tr k3.gx
    refine Rt.some' ⟨rfl, w3, rfl, ⟨mb, none, A, c, ?_⟩, gg.wide fun j _ hj => hj ▸ hd.sd⟩
    refine DxA.turn hd gg (fun j hj hO => (hd.sf j hO).2.1 hj) (fun _ h => h) (fun j hj => Nat.lt_of_lt_of_le (hsd j hj) gg.size) ?_ rfl rfl ?_ r3.fm
    · have e : (s.crash keep).len = 0 := by unfold DS.len DS.crash; rw [hf]; rfl
      rw [e]; exact l3
    · show Fl w3 S _ none (s.file.map _)
      rw [hf]; exact trivial
  | some f =>
    have hfl := hd.fl
    rw [hf] at hfl
    obtain ⟨p, rfl, i1, i2, i3, i4, i5, B, e, hp, i6, i7⟩ := hfl.some'
    have npd : p ≠ d := fun h => i2 (.inl h)
    have npi := hit p i1
    refine Rt.jb (Rt.next1 r3 fun w4 r4 g4 => ?_)
    show Rt (tP (pt p) _) _
    have gT : Gx (fun j => j = d ∨ j = w2.heap.size) w w4 := ((g2.wide fun j _ h => .inl h).tr k3.gx).tr' (g4.wide fun j _ h => .inr h) fun j _ h => h
    have hp4 : Lc w4 p [.slice B f.1.length e, .int .i64 (f.2 : Int)] := hp.gx gT fun h => h.elim npd npi
    have o4 : Own .u8 5 w4 0 (.slice B f.1.length e) f.1 := i6.gx gT fun j hj h => h.elim (fun h => (i7 j hj).2.1 (.inl h)) (hit j (i7 j hj).1)
    have l4 := l3.gx g4 (hit d hd.sd)
    have kd : Kp w4 w4.drew.drew := (Kp.rfl' w4).dr.dr
    have hp4d := hp4.kp (Kp.rfl' w4).dr
    have hp4dd := hp4.kp kd
    (repeat (first | (with_reducible (first | refine Rt.fin ?_ | refine Rt.tL ?_ | refine Rt.tI ?_ | refine Rt.tB ?_ | refine Rt.tS ?_ | refine Rt.tP ?_ | refine Rt.tD ?_ | refine Rt.tM ?_ | refine Rt.tC ?_ | refine Rt.tN ?_ | refine Rt.tA ?_ | refine Rt.tG ?_ | refine Rt.tF ?_ | refine Rt.os ?_ | refine Rt.clS ?_ | refine Rt.jmN ?_ | refine Rt.jbN ?_ | refine Rt.jbE ?_)) | ((with_reducible (first | apply Rt.ld0 | apply Rt.ld1 | apply Rt.ld2 | apply Rt.ld3 | apply Rt.ld4 | apply Rt.ld5)); first | assumption | exact Lc.kp (by assumption) (by assumption)) | ((with_reducible apply Rt.ol); first | assumption | exact cell_kp (by assumption) (by assumption)) | ((with_reducible apply Rt.ckR); focus ((repeat (first | (with_reducible (first | refine Rt.fin ?_ | refine Rt.tL ?_ | refine Rt.tI ?_ | refine Rt.tB ?_ | refine Rt.tS ?_ | refine Rt.tP ?_ | refine Rt.tD ?_ | refine Rt.tM ?_ | refine Rt.tC ?_ | refine Rt.tN ?_ | refine Rt.tA ?_ | refine Rt.tG ?_ | refine Rt.tF ?_ | refine Rt.os ?_ | refine Rt.clS ?_ | refine Rt.jmN ?_ | refine Rt.jbN ?_ | refine Rt.jbE ?_)) | ((with_reducible (first | apply Rt.ld0 | apply Rt.ld1 | apply Rt.ld2 | apply Rt.ld3 | apply Rt.ld4 | apply Rt.ld5)); first | assumption | exact Lc.kp (by assumption) (by assumption)) | ((with_reducible apply Rt.ol); first | assumption | exact cell_kp (by assumption) (by assumption)))); exact Rt.some' rfl))))
    have e1 : IntKind.i64.wrap ((f.1.length : Int) - f.2) = ((f.1.length - f.2 : Nat) : Int) := by rw [i64_in _ (by omega)]; omega
    have e2 : IntKind.i64.wrap ((f.2 : Int) + if IntKind.i64.wrap ((f.1.length : Int) - f.2) < (if 0 < keep then keep else 0) then IntKind.i64.wrap ((f.1.length : Int) - f.2) else (if 0 < keep then keep else 0)) = (crashN f keep : Int) := by
      rw [e1]
      have e3 : (if ((f.1.length - f.2 : Nat) : Int) < (if 0 < keep then keep else 0) then ((f.1.length - f.2 : Nat) : Int) else (if 0 < keep then keep else 0)) = ((min (f.1.length - f.2) keep.toNat : Nat) : Int) := by
        split <;> split at * <;> omega
      rw [e3, i64_in _ (by omega)]
      unfold crashN
      omega
    rw [e2]
    have hcn : crashN f keep ≤ f.1.length := by unfold crashN; omega
    refine Own.cut0 (o4.kp kd) hcn fun o5 => ?_
    (repeat (first | (with_reducible (first | refine Rt.fin ?_ | refine Rt.tL ?_ | refine Rt.tI ?_ | refine Rt.tB ?_ | refine Rt.tS ?_ | refine Rt.tP ?_ | refine Rt.tD ?_ | refine Rt.tM ?_ | refine Rt.tC ?_ | refine Rt.tN ?_ | refine Rt.tA ?_ | refine Rt.tG ?_ | refine Rt.tF ?_ | refine Rt.os ?_ | refine Rt.clS ?_ | refine Rt.jmN ?_ | refine Rt.jbN ?_ | refine Rt.jbE ?_)) | ((with_reducible (first | apply Rt.ld0 | apply Rt.ld1 | apply Rt.ld2 | apply Rt.ld3 | apply Rt.ld4 | apply Rt.ld5)); first | assumption | exact Lc.kp (by assumption) (by assumption)) | ((with_reducible apply Rt.ol); first | assumption | exact cell_kp (by assumption) (by assumption)) | ((with_reducible apply Rt.ckR); focus ((repeat (first | (with_reducible (first | refine Rt.fin ?_ | refine Rt.tL ?_ | refine Rt.tI ?_ | refine Rt.tB ?_ | refine Rt.tS ?_ | refine Rt.tP ?_ | refine Rt.tD ?_ | refine Rt.tM ?_ | refine Rt.tC ?_ | refine Rt.tN ?_ | refine Rt.tA ?_ | refine Rt.tG ?_ | refine Rt.tF ?_ | refine Rt.os ?_ | refine Rt.clS ?_ | refine Rt.jmN ?_ | refine Rt.jbN ?_ | refine Rt.jbE ?_)) | ((with_reducible (first | apply Rt.ld0 | apply Rt.ld1 | apply Rt.ld2 | apply Rt.ld3 | apply Rt.ld4 | apply Rt.ld5)); first | assumption | exact Lc.kp (by assumption) (by assumption)) | ((with_reducible apply Rt.ol); first | assumption | exact cell_kp (by assumption) (by assumption)))); exact Rt.some' rfl))))
    refine Rt.st0 hp4dd fun w6 l6 g6 => ?_
    (repeat (first | (with_reducible (first | refine Rt.fin ?_ | refine Rt.tL ?_ | refine Rt.tI ?_ | refine Rt.tB ?_ | refine Rt.tS ?_ | refine Rt.tP ?_ | refine Rt.tD ?_ | refine Rt.tM ?_ | refine Rt.tC ?_ | refine Rt.tN ?_ | refine Rt.tA ?_ | refine Rt.tG ?_ | refine Rt.tF ?_ | refine Rt.os ?_ | refine Rt.clS ?_ | refine Rt.jmN ?_ | refine Rt.jbN ?_ | refine Rt.jbE ?_)) | ((with_reducible (first | apply Rt.ld0 | apply Rt.ld1 | apply Rt.ld2 | apply Rt.ld3 | apply Rt.ld4 | apply Rt.ld5)); first | assumption | exact Lc.kp (by assumption) (by assumption)) | ((with_reducible apply Rt.ol); first | assumption | exact cell_kp (by assumption) (by assumption)) | ((with_reducible apply Rt.ckR); focus ((repeat (first | (with_reducible (first | refine Rt.fin ?_ | refine Rt.tL ?_ | refine Rt.tI ?_ | refine Rt.tB ?_ | refine Rt.tS ?_ | refine Rt.tP ?_ | refine Rt.tD ?_ | refine Rt.tM ?_ | refine Rt.tC ?_ | refine Rt.tN ?_ | refine Rt.tA ?_ | refine Rt.tG ?_ | refine Rt.tF ?_ | refine Rt.os ?_ | refine Rt.clS ?_ | refine Rt.jmN ?_ | refine Rt.jbN ?_ | refine Rt.jbE ?_)) | ((with_reducible (first | apply Rt.ld0 | apply Rt.ld1 | apply Rt.ld2 | apply Rt.ld3 | apply Rt.ld4 | apply Rt.ld5)); first | assumption | exact Lc.kp (by assumption) (by assumption)) | ((with_reducible apply Rt.ol); first | assumption | exact cell_kp (by assumption) (by assumption)))); exact Rt.some' rfl))))
    refine Rt.st1 l6 fun w7 l7 g7 => ?_
    have l7d := ((((l4.kp kd).gx g6 (fun h => npd h.symm)).gx g7 (fun h => npd h.symm)).kp (Kp.rfl' w7).dr)
    have l7p := l7.kp (Kp.rfl' w7).dr
    (repeat (first | (with_reducible (first | refine Rt.fin ?_ | refine Rt.tL ?_ | refine Rt.tI ?_ | refine Rt.tB ?_ | refine Rt.tS ?_ | refine Rt.tP ?_ | refine Rt.tD ?_ | refine Rt.tM ?_ | refine Rt.tC ?_ | refine Rt.tN ?_ | refine Rt.tA ?_ | refine Rt.tG ?_ | refine Rt.tF ?_ | refine Rt.os ?_ | refine Rt.clS ?_ | refine Rt.jmN ?_ | refine Rt.jbN ?_ | refine Rt.jbE ?_)) | ((with_reducible (first | apply Rt.ld0 | apply Rt.ld1 | apply Rt.ld2 | apply Rt.ld3 | apply Rt.ld4 | apply Rt.ld5)); first | assumption | exact Lc.kp (by assumption) (by assumption)) | ((with_reducible apply Rt.ol); first | assumption | exact cell_kp (by assumption) (by assumption)) | ((with_reducible apply Rt.ckR); focus ((repeat (first | (with_reducible (first | refine Rt.fin ?_ | refine Rt.tL ?_ | refine Rt.tI ?_ | refine Rt.tB ?_ | refine Rt.tS ?_ | refine Rt.tP ?_ | refine Rt.tD ?_ | refine Rt.tM ?_ | refine Rt.tC ?_ | refine Rt.tN ?_ | refine Rt.tA ?_ | refine Rt.tG ?_ | refine Rt.tF ?_ | refine Rt.os ?_ | refine Rt.clS ?_ | refine Rt.jmN ?_ | refine Rt.jbN ?_ | refine Rt.jbE ?_)) | ((with_reducible (first | apply Rt.ld0 | apply Rt.ld1 | apply Rt.ld2 | apply Rt.ld3 | apply Rt.ld4 | apply Rt.ld5)); first | assumption | exact Lc.kp (by assumption) (by assumption)) | ((with_reducible apply Rt.ol); first | assumption | exact cell_kp (by assumption) (by assumption)))); exact Rt.some' rfl))))
    refine Rt.st2 l7d fun w8 l8 g8 => ?_
    have gU : Gx (fun j => j = p ∨ j = d) w4 w8 := (kd.gx.tr ((g6.tr g7).wide fun j _ h => .inl h)).dr.tr (g8.wide fun j _ h => .inr h)
    have e3 : IntKind.i64.wrap (0 + (crashN f keep : Int)) = (crashN f keep : Int) := by rw [i64_in _ (by omega)]; omega
    rw [e3] at l8
    have r8 := r4.gx gU (fun h => h.elim (fun h => i2 (.inr (.inl h.symm))) hd.ne) (fun h => h.elim (fun h => npi h.symm) fun h => hit d hd.sd h.symm)
    rw [disk_Disk_Crash.l0_succ]
    refine Rt.next0 r8 ?_
    refine Rt.some' (.inl ⟨.inr rfl, ?_⟩)
    (repeat (first | (with_reducible (first | refine Rt.fin ?_ | refine Rt.tL ?_ | refine Rt.tI ?_ | refine Rt.tB ?_ | refine Rt.tS ?_ | refine Rt.tP ?_ | refine Rt.tD ?_ | refine Rt.tM ?_ | refine Rt.tC ?_ | refine Rt.tN ?_ | refine Rt.tA ?_ | refine Rt.tG ?_ | refine Rt.tF ?_ | refine Rt.os ?_ | refine Rt.clS ?_ | refine Rt.jmN ?_ | refine Rt.jbN ?_ | refine Rt.jbE ?_)) | ((with_reducible (first | apply Rt.ld0 | apply Rt.ld1 | apply Rt.ld2 | apply Rt.ld3 | apply Rt.ld4 | apply Rt.ld5)); first | assumption | exact Lc.kp (by assumption) (by assumption)) | ((with_reducible apply Rt.ol); first | assumption | exact cell_kp (by assumption) (by assumption)) | ((with_reducible apply Rt.ckR); focus ((repeat (first | (with_reducible (first | refine Rt.fin ?_ | refine Rt.tL ?_ | refine Rt.tI ?_ | refine Rt.tB ?_ | refine Rt.tS ?_ | refine Rt.tP ?_ | refine Rt.tD ?_ | refine Rt.tM ?_ | refine Rt.tC ?_ | refine Rt.tN ?_ | refine Rt.tA ?_ | refine Rt.tG ?_ | refine Rt.tF ?_ | refine Rt.os ?_ | refine Rt.clS ?_ | refine Rt.jmN ?_ | refine Rt.jbN ?_ | refine Rt.jbE ?_)) | ((with_reducible (first | apply Rt.ld0 | apply Rt.ld1 | apply Rt.ld2 | apply Rt.ld3 | apply Rt.ld4 | apply Rt.ld5)); first | assumption | exact Lc.kp (by assumption) (by assumption)) | ((with_reducible apply Rt.ol); first | assumption | exact cell_kp (by assumption) (by assumption)))); exact Rt.some' rfl))))
    have gA : Gx (fun j => j = d ∨ j = p ∨ j = w2.heap.size) w w8 := (gT.wide fun j _ h => h.imp id .inr).tr (gU.wide fun j _ h => h.elim (fun h => .inr (.inl h)) .inl)
    have gS : Gx S w w8 := gA.wide fun j hj h => h.elim (fun h => h ▸ hd.sd) fun h => h.elim (fun h => h ▸ i1) fun h => by omega
    refine Rt.some' ⟨rfl, w8, rfl, ⟨mb, some p, A, c, ?_⟩, gS⟩
    have hfile : (s.crash keep).file = some (f.1.take (crashN f keep), crashN f keep) := by unfold DS.crash; rw [hf]; rfl
    have hlt : (f.1.take (crashN f keep)).length = crashN f keep := by rw [List.length_take]; omega
    have o8 : Own .u8 5 w8 0 (.slice B (crashN f keep) e) (f.1.take (crashN f keep)) := ((o5.gx (g6.tr g7) fun j hj h => (i7 j (on_len hj)).2.2 h).dr).gx g8 fun j hj h => (i7 j (on_len hj)).2.1 (.inl h)
    refine DxA.turn hd gA (fun j hj hO => ?_) (fun _ h => h) (fun j hj => Nat.lt_of_lt_of_le (hsd j hj) gS.size) ?_ rfl rfl ?_ r8.fm
    · rcases hj with h | h | h
      · exact (hd.sf j hO).2.1 h
      · exact i2 (h ▸ .inr (.inr hO))
      · exact hit j (hd.sf j hO).1 h
    · have e : (s.crash keep).len = crashN f keep := by unfold DS.len; rw [hfile]; exact hlt
      rw [e]; exact l8
    · rw [hfile]
      refine ⟨i1, i2, fun z hz => i3 z (List.mem_of_mem_take hz), by rw [hlt]; exact Nat.le_refl _, by rw [hlt]; omega, B, e, ?_, ?_, fun j hj => i7 j (on_len hj)⟩
      · show Lc w8 p [.slice B (f.1.take (crashN f keep)).length e, .int .i64 (crashN f keep : Int)]
        rw [hlt]
        exact l7p.gx g8 npd
      · show Own .u8 5 w8 0 (.slice B (f.1.take (crashN f keep)).length e) (f.1.take (crashN f keep))
        rw [hlt]; exact o8
theorem num8_spec (e : Int) : butterylaw8_num n [.int .i64 e] w = some ([.int .i64 e], w) := by rw [butterylaw8_num_eq, fin_ret]
theorem bytesB_good {q : Int} {ops : List OpD} (hc : checkC ops = 0) (hnum : numC q ops.length) : bytesB q ops = (encB q ops, 0) := by
  have h1 := Ba.checkC_ok.1 hc
  unfold Ba.bytesB
  simp [hc, hnum]
theorem one_good {q : Int} {o : OpD} (ho : rightO o) (h1 : 1 ≤ q) (h2 : q ≤ 72057594037927935) : checkC [o] = 0 ∧ numC q [o].length := by
  refine ⟨Ba.checkC_ok.2 ⟨by simp, by simp, fun o' h => ?_⟩, h1, h2, ?_⟩
  · rw [List.mem_singleton.1 h]; exact ho
  · simp; omega
theorem putF_len (a : Nat) (r : List Int) : 7 + r.length ≤ (putF a r).length ∧ (putF a r).length ≤ 20 + 2 * r.length := (putF_is a r).len
def oA : OpD := ⟨0, [97], []⟩
theorem oA_right : rightO oA := ⟨.inl ⟨rfl, rfl⟩, by decide, by decide, by decide⟩
theorem encB_one {o : OpD} (hk : o.key.length < 2 ^ 63) (hv : o.val.length < 2 ^ 63) : (encB q [o]).length ≤ 33 + o.key.length + o.val.length := by
  have h1 := Ba.enc_len10 (x := o.key.length) (by omega)
  have h2 := Ba.enc_len10 (x := o.val.length) (by omega)
  have e : (encB q [o]).length = 12 + (Ba.encO o).length := by
    unfold Ba.encB Ba.bodyB
    simp [lowB_len]; omega
  rw [e]
  unfold Ba.encO
  split <;> simp <;> omega
theorem rec_none (hf : s.fails = []) (h : s.file = none) : s.rec_ = (([], 0, 8), s) := by
  unfold DS.rec_
  rw [s.open_nil hf, if_pos h, if_pos (by simp)]
theorem rec_some (hf : s.fails = []) {f : List Int × Nat} (h : s.file = some f) : s.rec_ = (((logF s.bytes).1, (logF s.bytes).2, 0), s) := by
  unfold DS.rec_
  rw [s.open_nil hf, h, if_neg (by simp)]
  dsimp only
  rw [s.open_nil hf, h, if_neg (by simp)]
structure LogD (w0 w : World) (d : Nat) (xs : List BatD) (s : DS) : Prop where
  dk : ∃ S, Dk w S d s ∧ (∀ j, S j → w0.heap.size ≤ j)
  kp : Kp w0 w
  fa : s.fails = []
  lg : ∃ es, IsLog sm 0 (encs xs) s.bytes es
  asc : Asc 0 xs
theorem LogD.kp' (h : LogD w0 w d xs s) (k : Kp w w') : LogD w0 w' d xs s := by
  obtain ⟨⟨S, h1, h2⟩, h3, h4, h5, h6⟩ := h
  exact ⟨⟨S, h1.kp k, h2⟩, h3.tr k, h4, h5, h6⟩
theorem LogD.new {room : Int} (hr : room < 2 ^ 63) : Rt (disk_New n [.int .i64 room] w) fun r => ∃ d w', r = ([pt d], w') ∧ LogD w w' d [] ⟨if 0 < room then room else 0, none, [], 0⟩ := by
  obtain ⟨_, hr1, d, w1, S, rfl, h1, k1, hS⟩ := New_spec (n := n) (w := w) hr
  exact ⟨_, hr1, d, w1, rfl, ⟨S, h1, hS⟩, k1, rfl, ⟨[], .nil⟩, trivial⟩
noncomputable def DS.with (s : DS) (x : BatD) (sync : Bool) : DS := { s with file := some (s.bytes ++ putF s.len (encB x.1 x.2), if sync = true then s.len + (putF s.len (encB x.1 x.2)).length else s.sy) }
theorem LogD.app (h : LogD w0 w d xs s) {x : BatD} (hx0 : 0 ≤ x.1 ∧ x.1 < 2 ^ 64) (hc : checkC x.2 = 0) (hnum : numC x.1 x.2.length) (hla : lastB 0 xs < x.1) (hx : Ev opEl w A l c x.2)
    (h1 : s.len + (20 + 2 * (encB x.1 x.2).length) ≤ 16777216) (h2 : ((s.len + (20 + 2 * (encB x.1 x.2).length) : Nat) : Int) ≤ s.room) (hn : 2 ^ 50 < n) :
    Rt (wal_Append n [pt d, .string nl, bv x.1 A l c, .bool sync] w) fun r => ∃ w', r = ([.int .i64 0], w') ∧ LogD w0 w' d (xs ++ [x]) (s.with x sync) := by
  obtain ⟨⟨S, hd, hS⟩, hk, hf, ⟨es, hlg⟩, hasc⟩ := h
  have hb := bytesB_good hc hnum
  have hp := putF_len s.len (encB x.1 x.2)
  have e := DS.wapp_nil (bb := bytesB x.1 x.2) (sync := sync) hf (by rw [hb]) (by rw [hb]; dsimp only; omega) (by rw [hb]; dsimp only; omega)
  obtain ⟨_, hr, w2, S2, rfl, g2, hs2, h2⟩ := WApp_spec (sync := sync) hd hx0 hx hn
  rw [e] at hr h2
  rw [hb] at h2
  refine ⟨_, hr, w2, rfl, ⟨S2, h2, fun j hj => (hs2 j hj).elim (hS j) fun h => Nat.le_trans hk.size h⟩, hk.tx g2 hS, hf, ?_, hasc.snoc hx0 hc hnum hla⟩
  have := Log_snoc hlg x
  rw [s.bytes_len] at this
  exact ⟨_, this⟩
theorem LogD.rec_ (h : LogD w0 w d xs s) (hne : s.file ≠ none) (hn : 2 ^ 59 < n) : Rt (wal_Recover n [pt d, .string nl] w) fun r => ∃ A c w', r = ([.slice A xs.length c, .int .i64 0, .int .i64 0], w') ∧ Ev batEl w' A xs.length c xs ∧ Kp w0 w' := by
  obtain ⟨⟨S, hd, hS⟩, hk, hf, ⟨es, hlg⟩, hasc⟩ := h
  obtain ⟨f, hf'⟩ := Option.ne_none_iff_exists'.1 hne
  have e : s.rec_ = ((xs, 0, 0), s) := by rw [rec_some hf hf', logF_whole hlg hasc]
  obtain ⟨_, hr, A, c, w2, rfl, o2, h2, g2⟩ := Recover_spec hd hn
  rw [e] at hr o2
  exact ⟨_, hr, A, c, w2, rfl, o2.ownE.ev, hk.tx g2 hS⟩
theorem rec_empty (h : LogD w0 w d xs s) (hne : s.file = none) (hn : 2 ^ 59 < n) : Rt (wal_Recover n [pt d, .string nl] w) fun r => ∃ w' A c, r = ([.slice A 0 c, .int .i64 0, .int .i64 8], w') ∧ LogD w0 w' d xs s := by
  obtain ⟨⟨S, hd, hS⟩, hk, hf, hl, hasc⟩ := h
  obtain ⟨_, hr, A, c, w2, rfl, o2, h2, g2⟩ := Recover_spec hd hn
  rw [rec_none hf hne] at hr h2
  exact ⟨_, hr, w2, A, c, rfl, ⟨S, h2, hS⟩, hk.tx g2 hS, hf, hl, hasc⟩
end
end Go.Proofs.YtdcdgmiojlldaaaDoor.Wl
/- WAL: alive. -/
namespace Go.Proofs.YtdcdgmiojlldaaaDoor.Wl
open Go Big Go.RowKit Go.IntWalk Var Low Par
set_option linter.unusedVariables false
set_option linter.unusedSimpArgs false
open Fr (sm hsm IsPut IsLog byEl upTo)
open Ba (bv opEl bytesB OpD batchP encB checkC numC rightO)
section
variable {α : Type} {Q : α → Prop} {n m : Nat} {w w' w0 w1 : World} {A B C R : Option Addr} {l c c' d base e mb p b L rc : Nat} {k q cls keep : Int} {x r o zs : List Int} {rs : List (List Int)} {out xs ys : List BatD} {S S' T : Nat → Prop} {fp : Option Nat} {s : DS} {sync : Bool}
theorem nilB (w : World) : Bv .u8 w none 0 0 [] := ⟨Sl.nil .., fun _ => ⟨rfl, rfl⟩, Nat.le_refl _, Nat.zero_le _, by simp⟩
theorem op_lc {b : Nat} {o : OpD} (hl : Lc w b [.int .i64 o.kind, .slice A l c, .slice B m d]) (hk : (Lit.int .i64 o.kind).wf = true) (h1 : Bv .u8 w A l c o.key) (h2 : Bv .u8 w B m d o.val) : Ev opEl w (some ⟨b, 0, none⟩) 1 1 [o] :=
  Lc.ev1 hl ⟨_, _, _, _, _, _, _, rfl, rfl, hk, h1, h2⟩ rfl
theorem alive_spec (hn : 2 ^ 63 < n) : Rt (butterylaw8_alive n [] w) (RB True w) := by
  rw [butterylaw8_alive_eq]
  refine Rt.fin ?_
  obtain ⟨_, hr1, d, w1, rfl, h1⟩ := LogD.new (n := n) (w := w) (room := 1000) (by omega)
  refine Rt.cl hr1 ?_
  (repeat (first | (with_reducible (first | refine Rt.fin ?_ | refine Rt.tL ?_ | refine Rt.tI ?_ | refine Rt.tB ?_ | refine Rt.tS ?_ | refine Rt.tP ?_ | refine Rt.tD ?_ | refine Rt.tM ?_ | refine Rt.tC ?_ | refine Rt.tN ?_ | refine Rt.tA ?_ | refine Rt.tG ?_ | refine Rt.tF ?_ | refine Rt.os ?_ | refine Rt.clS ?_ | refine Rt.jmN ?_ | refine Rt.jbN ?_ | refine Rt.jbE ?_)) | ((with_reducible (first | apply Rt.ld0 | apply Rt.ld1 | apply Rt.ld2 | apply Rt.ld3 | apply Rt.ld4 | apply Rt.ld5)); first | assumption | exact Lc.kp (by assumption) (by assumption)) | ((with_reducible apply Rt.ol); first | assumption | exact cell_kp (by assumption) (by assumption)) | ((with_reducible apply Rt.ckR); focus ((repeat (first | (with_reducible (first | refine Rt.fin ?_ | refine Rt.tL ?_ | refine Rt.tI ?_ | refine Rt.tB ?_ | refine Rt.tS ?_ | refine Rt.tP ?_ | refine Rt.tD ?_ | refine Rt.tM ?_ | refine Rt.tC ?_ | refine Rt.tN ?_ | refine Rt.tA ?_ | refine Rt.tG ?_ | refine Rt.tF ?_ | refine Rt.os ?_ | refine Rt.clS ?_ | refine Rt.jmN ?_ | refine Rt.jbN ?_ | refine Rt.jbE ?_)) | ((with_reducible (first | apply Rt.ld0 | apply Rt.ld1 | apply Rt.ld2 | apply Rt.ld3 | apply Rt.ld4 | apply Rt.ld5)); first | assumption | exact Lc.kp (by assumption) (by assumption)) | ((with_reducible apply Rt.ol); first | assumption | exact cell_kp (by assumption) (by assumption)))); exact Rt.some' rfl))))
  obtain ⟨_, hr2, w2, A2, c2, rfl, h2⟩ := rec_empty (n := n) h1 rfl (by omega)
  refine Rt.cl hr2 ?_
  (repeat (first | (with_reducible (first | refine Rt.fin ?_ | refine Rt.tL ?_ | refine Rt.tI ?_ | refine Rt.tB ?_ | refine Rt.tS ?_ | refine Rt.tP ?_ | refine Rt.tD ?_ | refine Rt.tM ?_ | refine Rt.tC ?_ | refine Rt.tN ?_ | refine Rt.tA ?_ | refine Rt.tG ?_ | refine Rt.tF ?_ | refine Rt.os ?_ | refine Rt.clS ?_ | refine Rt.jmN ?_ | refine Rt.jbN ?_ | refine Rt.jbE ?_)) | ((with_reducible (first | apply Rt.ld0 | apply Rt.ld1 | apply Rt.ld2 | apply Rt.ld3 | apply Rt.ld4 | apply Rt.ld5)); first | assumption | exact Lc.kp (by assumption) (by assumption)) | ((with_reducible apply Rt.ol); first | assumption | exact cell_kp (by assumption) (by assumption)) | ((with_reducible apply Rt.ckR); focus ((repeat (first | (with_reducible (first | refine Rt.fin ?_ | refine Rt.tL ?_ | refine Rt.tI ?_ | refine Rt.tB ?_ | refine Rt.tS ?_ | refine Rt.tP ?_ | refine Rt.tD ?_ | refine Rt.tM ?_ | refine Rt.tC ?_ | refine Rt.tN ?_ | refine Rt.tA ?_ | refine Rt.tG ?_ | refine Rt.tF ?_ | refine Rt.os ?_ | refine Rt.clS ?_ | refine Rt.jmN ?_ | refine Rt.jbN ?_ | refine Rt.jbE ?_)) | ((with_reducible (first | apply Rt.ld0 | apply Rt.ld1 | apply Rt.ld2 | apply Rt.ld3 | apply Rt.ld4 | apply Rt.ld5)); first | assumption | exact Lc.kp (by assumption) (by assumption)) | ((with_reducible apply Rt.ol); first | assumption | exact cell_kp (by assumption) (by assumption)))); exact Rt.some' rfl))))
  refine Rt.lit Fr.conv [97] 1 rfl rfl (by decide) (by decide) fun A3 w3 b3 k3 => ?_
  (repeat (first | (with_reducible (first | refine Rt.fin ?_ | refine Rt.tL ?_ | refine Rt.tI ?_ | refine Rt.tB ?_ | refine Rt.tS ?_ | refine Rt.tP ?_ | refine Rt.tD ?_ | refine Rt.tM ?_ | refine Rt.tC ?_ | refine Rt.tN ?_ | refine Rt.tA ?_ | refine Rt.tG ?_ | refine Rt.tF ?_ | refine Rt.os ?_ | refine Rt.clS ?_ | refine Rt.jmN ?_ | refine Rt.jbN ?_ | refine Rt.jbE ?_)) | ((with_reducible (first | apply Rt.ld0 | apply Rt.ld1 | apply Rt.ld2 | apply Rt.ld3 | apply Rt.ld4 | apply Rt.ld5)); first | assumption | exact Lc.kp (by assumption) (by assumption)) | ((with_reducible apply Rt.ol); first | assumption | exact cell_kp (by assumption) (by assumption)) | ((with_reducible apply Rt.ckR); focus ((repeat (first | (with_reducible (first | refine Rt.fin ?_ | refine Rt.tL ?_ | refine Rt.tI ?_ | refine Rt.tB ?_ | refine Rt.tS ?_ | refine Rt.tP ?_ | refine Rt.tD ?_ | refine Rt.tM ?_ | refine Rt.tC ?_ | refine Rt.tN ?_ | refine Rt.tA ?_ | refine Rt.tG ?_ | refine Rt.tF ?_ | refine Rt.os ?_ | refine Rt.clS ?_ | refine Rt.jmN ?_ | refine Rt.jbN ?_ | refine Rt.jbE ?_)) | ((with_reducible (first | apply Rt.ld0 | apply Rt.ld1 | apply Rt.ld2 | apply Rt.ld3 | apply Rt.ld4 | apply Rt.ld5)); first | assumption | exact Lc.kp (by assumption) (by assumption)) | ((with_reducible apply Rt.ol); first | assumption | exact cell_kp (by assumption) (by assumption)))); exact Rt.some' rfl))))
  refine Rt.al fun w4 l4 k4 s4 => ?_
  have h4 := (h2.kp' k3).kp' k4
  obtain ⟨hc, hnum⟩ := one_good (q := 1) oA_right (by omega) (by omega)
  have hel : (encB 1 [oA]).length ≤ 34 := encB_one (o := oA) (by decide) (by decide)
  obtain ⟨_, hr5, w5, rfl, h5⟩ := LogD.app (n := n) (sync := true) h4 (x := (1, [oA])) (by decide) hc hnum (by decide) (op_lc l4 (by decide) (b3.kp k4) (nilB w4)) (by show 0 + (20 + 2 * (encB 1 [oA]).length) ≤ _; omega) (by show ((0 + (20 + 2 * (encB 1 [oA]).length) : Nat) : Int) ≤ (if (0 : Int) < 1000 then 1000 else 0); rw [if_pos (by omega)]; omega) (by omega)
  refine Rt.cl hr5 ?_
  (repeat (first | (with_reducible (first | refine Rt.fin ?_ | refine Rt.tL ?_ | refine Rt.tI ?_ | refine Rt.tB ?_ | refine Rt.tS ?_ | refine Rt.tP ?_ | refine Rt.tD ?_ | refine Rt.tM ?_ | refine Rt.tC ?_ | refine Rt.tN ?_ | refine Rt.tA ?_ | refine Rt.tG ?_ | refine Rt.tF ?_ | refine Rt.os ?_ | refine Rt.clS ?_ | refine Rt.jmN ?_ | refine Rt.jbN ?_ | refine Rt.jbE ?_)) | ((with_reducible (first | apply Rt.ld0 | apply Rt.ld1 | apply Rt.ld2 | apply Rt.ld3 | apply Rt.ld4 | apply Rt.ld5)); first | assumption | exact Lc.kp (by assumption) (by assumption)) | ((with_reducible apply Rt.ol); first | assumption | exact cell_kp (by assumption) (by assumption)) | ((with_reducible apply Rt.ckR); focus ((repeat (first | (with_reducible (first | refine Rt.fin ?_ | refine Rt.tL ?_ | refine Rt.tI ?_ | refine Rt.tB ?_ | refine Rt.tS ?_ | refine Rt.tP ?_ | refine Rt.tD ?_ | refine Rt.tM ?_ | refine Rt.tC ?_ | refine Rt.tN ?_ | refine Rt.tA ?_ | refine Rt.tG ?_ | refine Rt.tF ?_ | refine Rt.os ?_ | refine Rt.clS ?_ | refine Rt.jmN ?_ | refine Rt.jbN ?_ | refine Rt.jbE ?_)) | ((with_reducible (first | apply Rt.ld0 | apply Rt.ld1 | apply Rt.ld2 | apply Rt.ld3 | apply Rt.ld4 | apply Rt.ld5)); first | assumption | exact Lc.kp (by assumption) (by assumption)) | ((with_reducible apply Rt.ol); first | assumption | exact cell_kp (by assumption) (by assumption)))); exact Rt.some' rfl))))
  obtain ⟨_, hr6, A6, c6, w6, rfl, e6, k6⟩ := LogD.rec_ (n := n) h5 (by unfold DS.with; simp) (by omega)
  refine Rt.cl hr6 ?_
  (repeat (first | (with_reducible (first | refine Rt.fin ?_ | refine Rt.tL ?_ | refine Rt.tI ?_ | refine Rt.tB ?_ | refine Rt.tS ?_ | refine Rt.tP ?_ | refine Rt.tD ?_ | refine Rt.tM ?_ | refine Rt.tC ?_ | refine Rt.tN ?_ | refine Rt.tA ?_ | refine Rt.tG ?_ | refine Rt.tF ?_ | refine Rt.os ?_ | refine Rt.clS ?_ | refine Rt.jmN ?_ | refine Rt.jbN ?_ | refine Rt.jbE ?_)) | ((with_reducible (first | apply Rt.ld0 | apply Rt.ld1 | apply Rt.ld2 | apply Rt.ld3 | apply Rt.ld4 | apply Rt.ld5)); first | assumption | exact Lc.kp (by assumption) (by assumption)) | ((with_reducible apply Rt.ol); first | assumption | exact cell_kp (by assumption) (by assumption)) | ((with_reducible apply Rt.ckR); focus ((repeat (first | (with_reducible (first | refine Rt.fin ?_ | refine Rt.tL ?_ | refine Rt.tI ?_ | refine Rt.tB ?_ | refine Rt.tS ?_ | refine Rt.tP ?_ | refine Rt.tD ?_ | refine Rt.tM ?_ | refine Rt.tC ?_ | refine Rt.tN ?_ | refine Rt.tA ?_ | refine Rt.tG ?_ | refine Rt.tF ?_ | refine Rt.os ?_ | refine Rt.clS ?_ | refine Rt.jmN ?_ | refine Rt.jbN ?_ | refine Rt.jbE ?_)) | ((with_reducible (first | apply Rt.ld0 | apply Rt.ld1 | apply Rt.ld2 | apply Rt.ld3 | apply Rt.ld4 | apply Rt.ld5)); first | assumption | exact Lc.kp (by assumption) (by assumption)) | ((with_reducible apply Rt.ol); first | assumption | exact cell_kp (by assumption) (by assumption)))); exact Rt.some' rfl))))
  rw [num8_spec]
  (repeat (first | (with_reducible (first | refine Rt.fin ?_ | refine Rt.tL ?_ | refine Rt.tI ?_ | refine Rt.tB ?_ | refine Rt.tS ?_ | refine Rt.tP ?_ | refine Rt.tD ?_ | refine Rt.tM ?_ | refine Rt.tC ?_ | refine Rt.tN ?_ | refine Rt.tA ?_ | refine Rt.tG ?_ | refine Rt.tF ?_ | refine Rt.os ?_ | refine Rt.clS ?_ | refine Rt.jmN ?_ | refine Rt.jbN ?_ | refine Rt.jbE ?_)) | ((with_reducible (first | apply Rt.ld0 | apply Rt.ld1 | apply Rt.ld2 | apply Rt.ld3 | apply Rt.ld4 | apply Rt.ld5)); first | assumption | exact Lc.kp (by assumption) (by assumption)) | ((with_reducible apply Rt.ol); first | assumption | exact cell_kp (by assumption) (by assumption)) | ((with_reducible apply Rt.ckR); focus ((repeat (first | (with_reducible (first | refine Rt.fin ?_ | refine Rt.tL ?_ | refine Rt.tI ?_ | refine Rt.tB ?_ | refine Rt.tS ?_ | refine Rt.tP ?_ | refine Rt.tD ?_ | refine Rt.tM ?_ | refine Rt.tC ?_ | refine Rt.tN ?_ | refine Rt.tA ?_ | refine Rt.tG ?_ | refine Rt.tF ?_ | refine Rt.os ?_ | refine Rt.clS ?_ | refine Rt.jmN ?_ | refine Rt.jbN ?_ | refine Rt.jbE ?_)) | ((with_reducible (first | apply Rt.ld0 | apply Rt.ld1 | apply Rt.ld2 | apply Rt.ld3 | apply Rt.ld4 | apply Rt.ld5)); first | assumption | exact Lc.kp (by assumption) (by assumption)) | ((with_reducible apply Rt.ol); first | assumption | exact cell_kp (by assumption) (by assumption)))); exact Rt.some' rfl))))
  refine Rt.cT rfl ?_
  rw [num8_spec]
  (repeat (first | (with_reducible (first | refine Rt.fin ?_ | refine Rt.tL ?_ | refine Rt.tI ?_ | refine Rt.tB ?_ | refine Rt.tS ?_ | refine Rt.tP ?_ | refine Rt.tD ?_ | refine Rt.tM ?_ | refine Rt.tC ?_ | refine Rt.tN ?_ | refine Rt.tA ?_ | refine Rt.tG ?_ | refine Rt.tF ?_ | refine Rt.os ?_ | refine Rt.clS ?_ | refine Rt.jmN ?_ | refine Rt.jbN ?_ | refine Rt.jbE ?_)) | ((with_reducible (first | apply Rt.ld0 | apply Rt.ld1 | apply Rt.ld2 | apply Rt.ld3 | apply Rt.ld4 | apply Rt.ld5)); first | assumption | exact Lc.kp (by assumption) (by assumption)) | ((with_reducible apply Rt.ol); first | assumption | exact cell_kp (by assumption) (by assumption)) | ((with_reducible apply Rt.ckR); focus ((repeat (first | (with_reducible (first | refine Rt.fin ?_ | refine Rt.tL ?_ | refine Rt.tI ?_ | refine Rt.tB ?_ | refine Rt.tS ?_ | refine Rt.tP ?_ | refine Rt.tD ?_ | refine Rt.tM ?_ | refine Rt.tC ?_ | refine Rt.tN ?_ | refine Rt.tA ?_ | refine Rt.tG ?_ | refine Rt.tF ?_ | refine Rt.os ?_ | refine Rt.clS ?_ | refine Rt.jmN ?_ | refine Rt.jbN ?_ | refine Rt.jbE ?_)) | ((with_reducible (first | apply Rt.ld0 | apply Rt.ld1 | apply Rt.ld2 | apply Rt.ld3 | apply Rt.ld4 | apply Rt.ld5)); first | assumption | exact Lc.kp (by assumption) (by assumption)) | ((with_reducible apply Rt.ol); first | assumption | exact cell_kp (by assumption) (by assumption)))); exact Rt.some' rfl))))
  refine Rt.cT rfl ?_
  rw [num8_spec]
  (repeat (first | (with_reducible (first | refine Rt.fin ?_ | refine Rt.tL ?_ | refine Rt.tI ?_ | refine Rt.tB ?_ | refine Rt.tS ?_ | refine Rt.tP ?_ | refine Rt.tD ?_ | refine Rt.tM ?_ | refine Rt.tC ?_ | refine Rt.tN ?_ | refine Rt.tA ?_ | refine Rt.tG ?_ | refine Rt.tF ?_ | refine Rt.os ?_ | refine Rt.clS ?_ | refine Rt.jmN ?_ | refine Rt.jbN ?_ | refine Rt.jbE ?_)) | ((with_reducible (first | apply Rt.ld0 | apply Rt.ld1 | apply Rt.ld2 | apply Rt.ld3 | apply Rt.ld4 | apply Rt.ld5)); first | assumption | exact Lc.kp (by assumption) (by assumption)) | ((with_reducible apply Rt.ol); first | assumption | exact cell_kp (by assumption) (by assumption)) | ((with_reducible apply Rt.ckR); focus ((repeat (first | (with_reducible (first | refine Rt.fin ?_ | refine Rt.tL ?_ | refine Rt.tI ?_ | refine Rt.tB ?_ | refine Rt.tS ?_ | refine Rt.tP ?_ | refine Rt.tD ?_ | refine Rt.tM ?_ | refine Rt.tC ?_ | refine Rt.tN ?_ | refine Rt.tA ?_ | refine Rt.tG ?_ | refine Rt.tF ?_ | refine Rt.os ?_ | refine Rt.clS ?_ | refine Rt.jmN ?_ | refine Rt.jbN ?_ | refine Rt.jbE ?_)) | ((with_reducible (first | apply Rt.ld0 | apply Rt.ld1 | apply Rt.ld2 | apply Rt.ld3 | apply Rt.ld4 | apply Rt.ld5)); first | assumption | exact Lc.kp (by assumption) (by assumption)) | ((with_reducible apply Rt.ol); first | assumption | exact cell_kp (by assumption) (by assumption)))); exact Rt.some' rfl))))
  refine Rt.cT rfl ?_
  exact Rt.endB (by simp) k6
end
end Go.Proofs.YtdcdgmiojlldaaaDoor.Wl
/- WB -/
/- WAL: a torn log. -/
namespace Go.Proofs.YtdcdgmiojlldaaaDoor.Wl
open Go Big Go.RowKit Go.IntWalk Var Low Par
set_option linter.unusedVariables false
set_option linter.unusedSimpArgs false
open Fr (sm hsm IsPut IsLog byEl upTo upTo_at upTo_le nums)
open Ba (bv opEl bytesB OpD batchP encB checkC numC rightO)
section
variable {α : Type} {Q : α → Prop} {n m : Nat} {w w' w0 w1 : World} {A B C R : Option Addr} {l c c' d base e mb p b L rc : Nat} {k q cls keep : Int} {x r o zs : List Int} {rs : List (List Int)} {out xs ys : List BatD} {S S' T : Nat → Prop} {fp : Option Nat} {s : DS} {sync : Bool}
theorem asc_ops : ∀ {xs : List BatD} {last : Int}, Asc last xs → ∀ x ∈ xs, x.2.length ≤ 100
  | [], _, _, x, hx => by cases hx
  | y :: xs, last, ⟨h0, h1, h2, h3, h4⟩, x, hx => by
    rcases List.mem_cons.1 hx with rfl | hx
    · exact (Ba.checkC_ok.1 h1).2.1
    · exact asc_ops h4 x hx
theorem next_last {x : BatD} (hc : checkC x.2 = 0) (hnum : numC x.1 x.2.length) : IntKind.u64.wrap (IntKind.u64.wrap (x.1 + IntKind.u64.wrap (x.2.length : Int)) - 1) = x.1 + x.2.length - 1 := by
  obtain ⟨h1, h2, _⟩ := Ba.checkC_ok.1 hc
  obtain ⟨h3, h4, h5⟩ := hnum
  rw [u64_in (x.2.length : Int) (by omega), u64_in (x.1 + (x.2.length : Int)) (by omega), u64_in _ (by omega)]
end
end Go.Proofs.YtdcdgmiojlldaaaDoor.Wl
/- WA -/
/- WAL: more. -/
namespace Go.Proofs.YtdcdgmiojlldaaaDoor.Wl
open Go Big Go.RowKit Go.IntWalk Var Low Par
set_option linter.unusedVariables false
set_option linter.unusedSimpArgs false
open Fr (sm hsm IsPut IsLog byEl upTo)
open Ba (bv opEl bytesB OpD batchP encB checkC numC rightO)
section
variable {α : Type} {Q : α → Prop} {n m : Nat} {w w' w0 w1 : World} {A B C R : Option Addr} {l c c' d base e mb p b L rc : Nat} {k q cls keep : Int} {x r o zs : List Int} {rs : List (List Int)} {out xs ys : List BatD} {S S' T : Nat → Prop} {fp : Option Nat} {s : DS} {sync : Bool}
theorem with_len (s : DS) (x : BatD) (sync : Bool) : (s.with x sync).len = s.len + (putF s.len (encB x.1 x.2)).length := by
  unfold DS.with
  show (s.bytes ++ putF s.len (encB x.1 x.2)).length = _
  rw [List.length_append, s.bytes_len]
theorem with_sy (s : DS) (x : BatD) : (s.with x true).sy = (s.with x true).len := by rw [with_len]; rfl
end
end Go.Proofs.YtdcdgmiojlldaaaDoor.Wl
/- WC -/
/- WAL: what is synced is kept. -/
namespace Go.Proofs.YtdcdgmiojlldaaaDoor.Wl
open Go Big Go.RowKit Go.IntWalk Var Low Par
set_option linter.unusedVariables false
set_option linter.unusedSimpArgs false
open Fr (sm hsm IsPut IsLog byEl upTo upTo_at upTo_le upTo_cons nums)
open Ba (bv opEl bytesB OpD batchP encB checkC numC rightO)
theorem upTo_mono : ∀ {es : List Nat} {t t' : Nat}, t ≤ t' → upTo es t ≤ upTo es t'
  | [], _, _, _ => Nat.le_refl _
  | e :: es, t, t', h => by
    rw [upTo_cons, upTo_cons]
    have := upTo_mono (es := es) h
    split <;> split <;> omega
theorem upTo_app : ∀ {es r : List Nat} {t : Nat}, upTo es t ≤ upTo (es ++ r) t
  | [], _, _ => Nat.zero_le _
  | e :: es, r, t => by
    rw [List.cons_append, upTo_cons, upTo_cons]
    have := upTo_app (es := es) (r := r) (t := t)
    split <;> omega
theorem upTo_all : ∀ {es : List Nat} {t : Nat}, (∀ e ∈ es, e ≤ t) → upTo es t = es.length
  | [], _, _ => rfl
  | e :: es, t, h => by
    rw [upTo_cons, if_pos (h e List.mem_cons_self), upTo_all fun e he => h e (List.mem_cons_of_mem _ he)]; rfl
theorem IsLog_ends {sm : List Int → Int} {a : Nat} {rs : List (List Int)} {b : List Int} {es : List Nat} (h : IsLog sm a rs b es) : ∀ e ∈ es, e ≤ a + b.length := by
  induction h with
  | nil => intro e he; cases he
  | cons h t ih =>
    intro e he
    rw [List.length_append]
    rcases List.mem_cons.1 he with rfl | he
    · omega
    · have := ih e he; omega
theorem IsLog_es {sm : List Int → Int} {a : Nat} {rs : List (List Int)} {b : List Int} {es : List Nat} (h : IsLog sm a rs b es) : es.length = rs.length := by
  induction h with
  | nil => rfl
  | cons h t ih => simp [ih]
section
variable {α : Type} {Q : α → Prop} {n m : Nat} {w w' w0 w1 : World} {A B C R : Option Addr} {l c c' d base e mb p b L rc sn : Nat} {k q cls keep : Int} {x r o zs : List Int} {rs : List (List Int)} {out xs ys : List BatD} {S S' T : Nat → Prop} {fp : Option Nat} {s : DS} {sync : Bool}
theorem Dk.sy_le (h : Dk w S d s) : s.sy ≤ s.len := by
  obtain ⟨mb, fp, A, c, hd⟩ := h
  unfold DS.sy DS.len
  cases hf : s.file with
  | none => exact Nat.le_refl _
  | some f => have hfl := hd.fl; rw [hf] at hfl; obtain ⟨p, _, _, _, _, i4, _⟩ := hfl.some'; exact i4
def Kept (xs : List BatD) (s : DS) (sn : Nat) : Prop := sn ≤ xs.length → ∃ es, IsLog sm 0 (encs xs) s.bytes es ∧ sn ≤ upTo es s.sy
theorem Kept.step {x : BatD} (hl : ∃ es, IsLog sm 0 (encs xs) s.bytes es) (h : Kept xs s sn) (hs : sync = true ↔ xs.length + 1 = sn) : Kept (xs ++ [x]) (s.with x sync) sn := by
  intro hle
  rw [List.length_append, List.length_singleton] at hle
  have hb : (s.with x sync).bytes = s.bytes ++ putF s.bytes.length (encB x.1 x.2) := by rw [s.bytes_len]; rfl
  by_cases h1 : xs.length + 1 = sn
  · have := hs.2 h1
    subst this
    obtain ⟨es, hlg⟩ := hl
    have hn := Log_snoc hlg x
    refine ⟨_, by rw [hb]; exact hn, ?_⟩
    rw [with_sy, ← DS.bytes_len, hb, upTo_all fun e he => by have := IsLog_ends hn e he; omega, IsLog_es hn]
    unfold encs
    simp; omega
  · cases sync with
    | true => exact absurd (hs.1 rfl) h1
    | false =>
      obtain ⟨es, hlg, hu⟩ := h (by omega)
      refine ⟨_, by rw [hb]; exact Log_snoc hlg x, ?_⟩
      show sn ≤ upTo (es ++ _) s.sy
      exact Nat.le_trans hu upTo_app
theorem Keeps_l0 {x2 : Int} (hn : 2 ^ 50 < n) (hx : Ev batEl w0 A l c xs) (hl : l ≤ 10) (hsn : sn ≤ l) : ∀ (t i j : Nat) (w : World) (s : DS), i + t = l → t < j → LogD w0 w d (xs.take i) s → s.room = 16777216 → s.len ≤ 1200020 * i → Kept (xs.take i) s sn → (0 < i → s.file ≠ none) →
    Rt (butterylaw8_WalKeeps.l0 n j A l c (sn : Int) x2 (some ⟨d, 0, none⟩) (lastB 0 (xs.take i)) (i : Int) w) fun r => ∃ w', r = ⟨.ret, [.bool true], w'⟩ ∧ Kp w0 w' ∨ r = ⟨.exit 0, [.slice A l c, .int .i64 (sn : Int), .int .i64 x2, pt d], w'⟩ ∧ ∃ s', LogD w0 w' d xs s' ∧ Kept xs s' sn ∧ (l = 0 → s' = s) ∧ (0 < l → s'.file ≠ none) := by
  have hxl := hx.len
  intro t
  induction t with
  | zero =>
    intro i j w s hi hj h hr hlen hk hfn
    obtain ⟨j, rfl⟩ : ∃ j', j = j' + 1 := ⟨j - 1, by omega⟩
    rw [butterylaw8_WalKeeps.l0_succ]
    rw [List.take_of_length_le (by omega)] at h hk
    exact Rt.cDF (by omega) (Rt.some' ⟨w, .inr ⟨rfl, s, h, hk, fun _ => rfl, fun h => hfn (by omega)⟩⟩)
  | succ t ih =>
    intro i j w s hi hj h hr hlen hk hfn
    obtain ⟨j, rfl⟩ : ∃ j', j = j' + 1 := ⟨j - 1, by omega⟩
    rw [butterylaw8_WalKeeps.l0_succ]
    obtain ⟨x, ex⟩ : ∃ x, xs[i]? = some x := ⟨_, List.getElem?_eq_getElem (by omega)⟩
    have same : ∀ {y : BatD}, xs[((i : Int)).toNat]? = some y → x = y := fun {y} h => by rw [Int.toNat_natCast, ex] at h; exact Option.some.inj h
    have hk0 := h.kp
    refine Rt.cDT (by omega) (Rt.ixBt (hx.kp hk0).sl (by omega) (by omega) fun y a B1 d1 ey hy0 hyv c0 c1 => ?_)
    obtain rfl := same ey
    (repeat (first | (with_reducible (first | refine Rt.fin ?_ | refine Rt.tL ?_ | refine Rt.tI ?_ | refine Rt.tB ?_ | refine Rt.tS ?_ | refine Rt.tP ?_ | refine Rt.tD ?_ | refine Rt.tM ?_ | refine Rt.tC ?_ | refine Rt.tN ?_ | refine Rt.tA ?_ | refine Rt.tG ?_ | refine Rt.tF ?_ | refine Rt.os ?_ | refine Rt.clS ?_ | refine Rt.jmN ?_ | refine Rt.jbN ?_ | refine Rt.jbE ?_)) | ((with_reducible (first | apply Rt.ld0 | apply Rt.ld1 | apply Rt.ld2 | apply Rt.ld3 | apply Rt.ld4 | apply Rt.ld5)); first | assumption | exact Lc.kp (by assumption) (by assumption)) | ((with_reducible apply Rt.ol); first | assumption | exact cell_kp (by assumption) (by assumption)) | ((with_reducible apply Rt.ckR); focus ((repeat (first | (with_reducible (first | refine Rt.fin ?_ | refine Rt.tL ?_ | refine Rt.tI ?_ | refine Rt.tB ?_ | refine Rt.tS ?_ | refine Rt.tP ?_ | refine Rt.tD ?_ | refine Rt.tM ?_ | refine Rt.tC ?_ | refine Rt.tN ?_ | refine Rt.tA ?_ | refine Rt.tG ?_ | refine Rt.tF ?_ | refine Rt.os ?_ | refine Rt.clS ?_ | refine Rt.jmN ?_ | refine Rt.jbN ?_ | refine Rt.jbE ?_)) | ((with_reducible (first | apply Rt.ld0 | apply Rt.ld1 | apply Rt.ld2 | apply Rt.ld3 | apply Rt.ld4 | apply Rt.ld5)); first | assumption | exact Lc.kp (by assumption) (by assumption)) | ((with_reducible apply Rt.ol); first | assumption | exact cell_kp (by assumption) (by assumption)))); exact Rt.some' rfl))))
    refine Ba.Rt.cROe (Ba.RBytes_spec hy0 hyv (by omega)) fun B2 d2 w1 o1 k1 => ?_
    have k01 := hk0.tr k1
    have hbl := Ba.bytesB_len (s := x.1) (xs := x.2) fun _ _ => trivial
    refine Rt.cN (fun h0 => ?_) fun h0 => Rt.some' ⟨_, .inl ⟨rfl, k01⟩⟩
    obtain ⟨hc, hnum, hbe⟩ := Ba.bytesB_ok h0
    have hnl := next_last hc hnum
    rw [hbe] at hbl
    clear c0 c1
    refine Rt.ixBt (hx.kp k01).sl (by omega) (by omega) fun y a2 B3 d3 ey2 _ _ c0 c1 => ?_
    obtain rfl := same ey2
    (repeat (first | (with_reducible (first | refine Rt.fin ?_ | refine Rt.tL ?_ | refine Rt.tI ?_ | refine Rt.tB ?_ | refine Rt.tS ?_ | refine Rt.tP ?_ | refine Rt.tD ?_ | refine Rt.tM ?_ | refine Rt.tC ?_ | refine Rt.tN ?_ | refine Rt.tA ?_ | refine Rt.tG ?_ | refine Rt.tF ?_ | refine Rt.os ?_ | refine Rt.clS ?_ | refine Rt.jmN ?_ | refine Rt.jbN ?_ | refine Rt.jbE ?_)) | ((with_reducible (first | apply Rt.ld0 | apply Rt.ld1 | apply Rt.ld2 | apply Rt.ld3 | apply Rt.ld4 | apply Rt.ld5)); first | assumption | exact Lc.kp (by assumption) (by assumption)) | ((with_reducible apply Rt.ol); first | assumption | exact cell_kp (by assumption) (by assumption)) | ((with_reducible apply Rt.ckR); focus ((repeat (first | (with_reducible (first | refine Rt.fin ?_ | refine Rt.tL ?_ | refine Rt.tI ?_ | refine Rt.tB ?_ | refine Rt.tS ?_ | refine Rt.tP ?_ | refine Rt.tD ?_ | refine Rt.tM ?_ | refine Rt.tC ?_ | refine Rt.tN ?_ | refine Rt.tA ?_ | refine Rt.tG ?_ | refine Rt.tF ?_ | refine Rt.os ?_ | refine Rt.clS ?_ | refine Rt.jmN ?_ | refine Rt.jbN ?_ | refine Rt.jbE ?_)) | ((with_reducible (first | apply Rt.ld0 | apply Rt.ld1 | apply Rt.ld2 | apply Rt.ld3 | apply Rt.ld4 | apply Rt.ld5)); first | assumption | exact Lc.kp (by assumption) (by assumption)) | ((with_reducible apply Rt.ol); first | assumption | exact cell_kp (by assumption) (by assumption)))); exact Rt.some' rfl))))
    refine Rt.cD (fun h1 => Rt.some' ⟨_, .inl ⟨rfl, k01⟩⟩) fun h1 => ?_
    have k01d := k01.dr
    clear c0 c1
    refine Rt.ixBt (hx.kp k01d).sl (by omega) (by omega) fun y a3 B4 d4 ey3 _ _ c0 c1 => ?_
    obtain rfl := same ey3
    (repeat (first | (with_reducible (first | refine Rt.fin ?_ | refine Rt.tL ?_ | refine Rt.tI ?_ | refine Rt.tB ?_ | refine Rt.tS ?_ | refine Rt.tP ?_ | refine Rt.tD ?_ | refine Rt.tM ?_ | refine Rt.tC ?_ | refine Rt.tN ?_ | refine Rt.tA ?_ | refine Rt.tG ?_ | refine Rt.tF ?_ | refine Rt.os ?_ | refine Rt.clS ?_ | refine Rt.jmN ?_ | refine Rt.jbN ?_ | refine Rt.jbE ?_)) | ((with_reducible (first | apply Rt.ld0 | apply Rt.ld1 | apply Rt.ld2 | apply Rt.ld3 | apply Rt.ld4 | apply Rt.ld5)); first | assumption | exact Lc.kp (by assumption) (by assumption)) | ((with_reducible apply Rt.ol); first | assumption | exact cell_kp (by assumption) (by assumption)) | ((with_reducible apply Rt.ckR); focus ((repeat (first | (with_reducible (first | refine Rt.fin ?_ | refine Rt.tL ?_ | refine Rt.tI ?_ | refine Rt.tB ?_ | refine Rt.tS ?_ | refine Rt.tP ?_ | refine Rt.tD ?_ | refine Rt.tM ?_ | refine Rt.tC ?_ | refine Rt.tN ?_ | refine Rt.tA ?_ | refine Rt.tG ?_ | refine Rt.tF ?_ | refine Rt.os ?_ | refine Rt.clS ?_ | refine Rt.jmN ?_ | refine Rt.jbN ?_ | refine Rt.jbE ?_)) | ((with_reducible (first | apply Rt.ld0 | apply Rt.ld1 | apply Rt.ld2 | apply Rt.ld3 | apply Rt.ld4 | apply Rt.ld5)); first | assumption | exact Lc.kp (by assumption) (by assumption)) | ((with_reducible apply Rt.ol); first | assumption | exact cell_kp (by assumption) (by assumption)))); exact Rt.some' rfl))))
    clear c0 c1
    refine Rt.ixBt (hx.kp k01d).sl (by omega) (by omega) fun y a4 B5 d5 ey4 _ _ c0 c1 => ?_
    obtain rfl := same ey4
    (repeat (first | (with_reducible (first | refine Rt.fin ?_ | refine Rt.tL ?_ | refine Rt.tI ?_ | refine Rt.tB ?_ | refine Rt.tS ?_ | refine Rt.tP ?_ | refine Rt.tD ?_ | refine Rt.tM ?_ | refine Rt.tC ?_ | refine Rt.tN ?_ | refine Rt.tA ?_ | refine Rt.tG ?_ | refine Rt.tF ?_ | refine Rt.os ?_ | refine Rt.clS ?_ | refine Rt.jmN ?_ | refine Rt.jbN ?_ | refine Rt.jbE ?_)) | ((with_reducible (first | apply Rt.ld0 | apply Rt.ld1 | apply Rt.ld2 | apply Rt.ld3 | apply Rt.ld4 | apply Rt.ld5)); first | assumption | exact Lc.kp (by assumption) (by assumption)) | ((with_reducible apply Rt.ol); first | assumption | exact cell_kp (by assumption) (by assumption)) | ((with_reducible apply Rt.ckR); focus ((repeat (first | (with_reducible (first | refine Rt.fin ?_ | refine Rt.tL ?_ | refine Rt.tI ?_ | refine Rt.tB ?_ | refine Rt.tS ?_ | refine Rt.tP ?_ | refine Rt.tD ?_ | refine Rt.tM ?_ | refine Rt.tC ?_ | refine Rt.tN ?_ | refine Rt.tA ?_ | refine Rt.tG ?_ | refine Rt.tF ?_ | refine Rt.os ?_ | refine Rt.clS ?_ | refine Rt.jmN ?_ | refine Rt.jbN ?_ | refine Rt.jbE ?_)) | ((with_reducible (first | apply Rt.ld0 | apply Rt.ld1 | apply Rt.ld2 | apply Rt.ld3 | apply Rt.ld4 | apply Rt.ld5)); first | assumption | exact Lc.kp (by assumption) (by assumption)) | ((with_reducible apply Rt.ol); first | assumption | exact cell_kp (by assumption) (by assumption)))); exact Rt.some' rfl))))
    clear c0 c1
    refine Rt.ixBt (hx.kp k01d).sl (by omega) (by omega) fun y a5 B6 d6 ey5 _ hyv5 c0 c1 => ?_
    obtain rfl := same ey5
    (repeat (first | (with_reducible (first | refine Rt.fin ?_ | refine Rt.tL ?_ | refine Rt.tI ?_ | refine Rt.tB ?_ | refine Rt.tS ?_ | refine Rt.tP ?_ | refine Rt.tD ?_ | refine Rt.tM ?_ | refine Rt.tC ?_ | refine Rt.tN ?_ | refine Rt.tA ?_ | refine Rt.tG ?_ | refine Rt.tF ?_ | refine Rt.os ?_ | refine Rt.clS ?_ | refine Rt.jmN ?_ | refine Rt.jbN ?_ | refine Rt.jbE ?_)) | ((with_reducible (first | apply Rt.ld0 | apply Rt.ld1 | apply Rt.ld2 | apply Rt.ld3 | apply Rt.ld4 | apply Rt.ld5)); first | assumption | exact Lc.kp (by assumption) (by assumption)) | ((with_reducible apply Rt.ol); first | assumption | exact cell_kp (by assumption) (by assumption)) | ((with_reducible apply Rt.ckR); focus ((repeat (first | (with_reducible (first | refine Rt.fin ?_ | refine Rt.tL ?_ | refine Rt.tI ?_ | refine Rt.tB ?_ | refine Rt.tS ?_ | refine Rt.tP ?_ | refine Rt.tD ?_ | refine Rt.tM ?_ | refine Rt.tC ?_ | refine Rt.tN ?_ | refine Rt.tA ?_ | refine Rt.tG ?_ | refine Rt.tF ?_ | refine Rt.os ?_ | refine Rt.clS ?_ | refine Rt.jmN ?_ | refine Rt.jbN ?_ | refine Rt.jbE ?_)) | ((with_reducible (first | apply Rt.ld0 | apply Rt.ld1 | apply Rt.ld2 | apply Rt.ld3 | apply Rt.ld4 | apply Rt.ld5)); first | assumption | exact Lc.kp (by assumption) (by assumption)) | ((with_reducible apply Rt.ol); first | assumption | exact cell_kp (by assumption) (by assumption)))); exact Rt.some' rfl))))
    rw [hnl]
    have hd1 := (h.kp' k1).kp' (Kp.rfl' w1).dr
    have e3 : IntKind.i64.wrap ((i : Int) + 1) = ((i + 1 : Nat) : Int) := by rw [i64_in _ (by omega)]; omega
    rw [e3]
    obtain ⟨_, hr6, w6, rfl, h6⟩ := LogD.app (n := n) (sync := (((i + 1 : Nat) : Int) == (sn : Int))) hd1 hy0 hc hnum (by omega) hyv5 (by omega) (by rw [hr]; omega) hn
    refine Rt.cl hr6 ?_
    (repeat (first | (with_reducible (first | refine Rt.fin ?_ | refine Rt.tL ?_ | refine Rt.tI ?_ | refine Rt.tB ?_ | refine Rt.tS ?_ | refine Rt.tP ?_ | refine Rt.tD ?_ | refine Rt.tM ?_ | refine Rt.tC ?_ | refine Rt.tN ?_ | refine Rt.tA ?_ | refine Rt.tG ?_ | refine Rt.tF ?_ | refine Rt.os ?_ | refine Rt.clS ?_ | refine Rt.jmN ?_ | refine Rt.jbN ?_ | refine Rt.jbE ?_)) | ((with_reducible (first | apply Rt.ld0 | apply Rt.ld1 | apply Rt.ld2 | apply Rt.ld3 | apply Rt.ld4 | apply Rt.ld5)); first | assumption | exact Lc.kp (by assumption) (by assumption)) | ((with_reducible apply Rt.ol); first | assumption | exact cell_kp (by assumption) (by assumption)) | ((with_reducible apply Rt.ckR); focus ((repeat (first | (with_reducible (first | refine Rt.fin ?_ | refine Rt.tL ?_ | refine Rt.tI ?_ | refine Rt.tB ?_ | refine Rt.tS ?_ | refine Rt.tP ?_ | refine Rt.tD ?_ | refine Rt.tM ?_ | refine Rt.tC ?_ | refine Rt.tN ?_ | refine Rt.tA ?_ | refine Rt.tG ?_ | refine Rt.tF ?_ | refine Rt.os ?_ | refine Rt.clS ?_ | refine Rt.jmN ?_ | refine Rt.jbN ?_ | refine Rt.jbE ?_)) | ((with_reducible (first | apply Rt.ld0 | apply Rt.ld1 | apply Rt.ld2 | apply Rt.ld3 | apply Rt.ld4 | apply Rt.ld5)); first | assumption | exact Lc.kp (by assumption) (by assumption)) | ((with_reducible apply Rt.ol); first | assumption | exact cell_kp (by assumption) (by assumption)))); exact Rt.some' rfl))))
    rw [num8_spec]
    (repeat (first | (with_reducible (first | refine Rt.fin ?_ | refine Rt.tL ?_ | refine Rt.tI ?_ | refine Rt.tB ?_ | refine Rt.tS ?_ | refine Rt.tP ?_ | refine Rt.tD ?_ | refine Rt.tM ?_ | refine Rt.tC ?_ | refine Rt.tN ?_ | refine Rt.tA ?_ | refine Rt.tG ?_ | refine Rt.tF ?_ | refine Rt.os ?_ | refine Rt.clS ?_ | refine Rt.jmN ?_ | refine Rt.jbN ?_ | refine Rt.jbE ?_)) | ((with_reducible (first | apply Rt.ld0 | apply Rt.ld1 | apply Rt.ld2 | apply Rt.ld3 | apply Rt.ld4 | apply Rt.ld5)); first | assumption | exact Lc.kp (by assumption) (by assumption)) | ((with_reducible apply Rt.ol); first | assumption | exact cell_kp (by assumption) (by assumption)) | ((with_reducible apply Rt.ckR); focus ((repeat (first | (with_reducible (first | refine Rt.fin ?_ | refine Rt.tL ?_ | refine Rt.tI ?_ | refine Rt.tB ?_ | refine Rt.tS ?_ | refine Rt.tP ?_ | refine Rt.tD ?_ | refine Rt.tM ?_ | refine Rt.tC ?_ | refine Rt.tN ?_ | refine Rt.tA ?_ | refine Rt.tG ?_ | refine Rt.tF ?_ | refine Rt.os ?_ | refine Rt.clS ?_ | refine Rt.jmN ?_ | refine Rt.jbN ?_ | refine Rt.jbE ?_)) | ((with_reducible (first | apply Rt.ld0 | apply Rt.ld1 | apply Rt.ld2 | apply Rt.ld3 | apply Rt.ld4 | apply Rt.ld5)); first | assumption | exact Lc.kp (by assumption) (by assumption)) | ((with_reducible apply Rt.ol); first | assumption | exact cell_kp (by assumption) (by assumption)))); exact Rt.some' rfl))))
    refine Rt.cF rfl ?_
    have htk : xs.take (i + 1) = xs.take i ++ [x] := by rw [List.take_add_one, ex]; rfl
    have hti : (xs.take i).length = i := by rw [List.length_take]; omega
    have hlast : lastB 0 (xs.take (i + 1)) = x.1 + x.2.length - 1 := by rw [htk, lastB_snoc]
    rw [← hlast]
    rw [← htk] at h6
    have hst := Kept.step (x := x) (sync := (((i + 1 : Nat) : Int) == (sn : Int))) h.lg hk (by rw [hti, beq_iff_eq]; omega)
    rw [← htk] at hst
    refine Rt.mono (ih (i + 1) j w6 _ (by omega) (by omega) h6 hr ?_ hst (fun _ => by unfold DS.with; simp)) ?_
    · rw [with_len]
      have := putF_len s.len (encB x.1 x.2)
      omega
    · rintro r ⟨w', hq⟩
      exact ⟨w', hq.imp id fun ⟨h1, s', h2, h3, h4, h5⟩ => ⟨h1, s', h2, h3, fun h => by omega, h5⟩⟩
theorem Keeps_spec {a1 a2 : Int} (hn : 2 ^ 63 < n) (hx : Ev batEl w A l c xs) : Rt (butterylaw8_WalKeeps n [.slice A l c, .int .i64 a1, .int .i64 a2] w) (RB True w) := by
  have hxl := hx.len
  rw [butterylaw8_WalKeeps_eq]
  refine Rt.fin (Rt.cBt (alive_spec hn) trivial fun w1 k1 => Rt.cF rfl (Rt.cD (fun h => Rt.endB (by simp) k1) fun h0 => Rt.cD (fun h => Rt.endB (by simp) k1) fun h1 => Rt.cD (fun h => Rt.endB (by simp) k1) fun h2 => ?_))
  obtain ⟨_, hr1, d, w2, rfl, h5⟩ := LogD.new (n := n) (w := w1) (room := 16777216) (by omega)
  refine Rt.cl hr1 ?_
  (repeat (first | (with_reducible (first | refine Rt.fin ?_ | refine Rt.tL ?_ | refine Rt.tI ?_ | refine Rt.tB ?_ | refine Rt.tS ?_ | refine Rt.tP ?_ | refine Rt.tD ?_ | refine Rt.tM ?_ | refine Rt.tC ?_ | refine Rt.tN ?_ | refine Rt.tA ?_ | refine Rt.tG ?_ | refine Rt.tF ?_ | refine Rt.os ?_ | refine Rt.clS ?_ | refine Rt.jmN ?_ | refine Rt.jbN ?_ | refine Rt.jbE ?_)) | ((with_reducible (first | apply Rt.ld0 | apply Rt.ld1 | apply Rt.ld2 | apply Rt.ld3 | apply Rt.ld4 | apply Rt.ld5)); first | assumption | exact Lc.kp (by assumption) (by assumption)) | ((with_reducible apply Rt.ol); first | assumption | exact cell_kp (by assumption) (by assumption)) | ((with_reducible apply Rt.ckR); focus ((repeat (first | (with_reducible (first | refine Rt.fin ?_ | refine Rt.tL ?_ | refine Rt.tI ?_ | refine Rt.tB ?_ | refine Rt.tS ?_ | refine Rt.tP ?_ | refine Rt.tD ?_ | refine Rt.tM ?_ | refine Rt.tC ?_ | refine Rt.tN ?_ | refine Rt.tA ?_ | refine Rt.tG ?_ | refine Rt.tF ?_ | refine Rt.os ?_ | refine Rt.clS ?_ | refine Rt.jmN ?_ | refine Rt.jbN ?_ | refine Rt.jbE ?_)) | ((with_reducible (first | apply Rt.ld0 | apply Rt.ld1 | apply Rt.ld2 | apply Rt.ld3 | apply Rt.ld4 | apply Rt.ld5)); first | assumption | exact Lc.kp (by assumption) (by assumption)) | ((with_reducible apply Rt.ol); first | assumption | exact cell_kp (by assumption) (by assumption)))); exact Rt.some' rfl))))
  obtain ⟨sn, rfl⟩ : ∃ sn : Nat, a1 = (sn : Int) := ⟨a1.toNat, by omega⟩
  refine Rt.jb (Rt.mono (Keeps_l0 (n := n) (sn := sn) (x2 := a2) (by omega) (hx.kp k1) (by omega) (by omega) l 0 n w2 _ (by omega) (by omega) h5 rfl (Nat.zero_le _) (fun h => ⟨[], .nil, by rw [List.take_zero] at h; exact Nat.le_trans h (Nat.zero_le _)⟩) (fun h => by omega)) ?_)
  rintro r ⟨w3, ⟨rfl, k3⟩ | ⟨rfl, s', h6, hK, hl0, hfn⟩⟩
  · exact .inr ⟨rfl, rfl, true, w3, rfl, by simp, k1.tr k3⟩
  refine .inl ⟨.inr rfl, ?_⟩
  (repeat (first | (with_reducible (first | refine Rt.fin ?_ | refine Rt.tL ?_ | refine Rt.tI ?_ | refine Rt.tB ?_ | refine Rt.tS ?_ | refine Rt.tP ?_ | refine Rt.tD ?_ | refine Rt.tM ?_ | refine Rt.tC ?_ | refine Rt.tN ?_ | refine Rt.tA ?_ | refine Rt.tG ?_ | refine Rt.tF ?_ | refine Rt.os ?_ | refine Rt.clS ?_ | refine Rt.jmN ?_ | refine Rt.jbN ?_ | refine Rt.jbE ?_)) | ((with_reducible (first | apply Rt.ld0 | apply Rt.ld1 | apply Rt.ld2 | apply Rt.ld3 | apply Rt.ld4 | apply Rt.ld5)); first | assumption | exact Lc.kp (by assumption) (by assumption)) | ((with_reducible apply Rt.ol); first | assumption | exact cell_kp (by assumption) (by assumption)) | ((with_reducible apply Rt.ckR); focus ((repeat (first | (with_reducible (first | refine Rt.fin ?_ | refine Rt.tL ?_ | refine Rt.tI ?_ | refine Rt.tB ?_ | refine Rt.tS ?_ | refine Rt.tP ?_ | refine Rt.tD ?_ | refine Rt.tM ?_ | refine Rt.tC ?_ | refine Rt.tN ?_ | refine Rt.tA ?_ | refine Rt.tG ?_ | refine Rt.tF ?_ | refine Rt.os ?_ | refine Rt.clS ?_ | refine Rt.jmN ?_ | refine Rt.jbN ?_ | refine Rt.jbE ?_)) | ((with_reducible (first | apply Rt.ld0 | apply Rt.ld1 | apply Rt.ld2 | apply Rt.ld3 | apply Rt.ld4 | apply Rt.ld5)); first | assumption | exact Lc.kp (by assumption) (by assumption)) | ((with_reducible apply Rt.ol); first | assumption | exact cell_kp (by assumption) (by assumption)))); exact Rt.some' rfl))))
  obtain ⟨⟨S, hd, hS⟩, k3, hf6, hlg, hasc⟩ := h6
  have hsy := hd.sy_le
  obtain ⟨_, hr7, w4, rfl, hd4, g4⟩ := Crash_spec (n := n) (keep := a2) hd (by omega)
  refine Rt.cl hr7 ?_
  (repeat (first | (with_reducible (first | refine Rt.fin ?_ | refine Rt.tL ?_ | refine Rt.tI ?_ | refine Rt.tB ?_ | refine Rt.tS ?_ | refine Rt.tP ?_ | refine Rt.tD ?_ | refine Rt.tM ?_ | refine Rt.tC ?_ | refine Rt.tN ?_ | refine Rt.tA ?_ | refine Rt.tG ?_ | refine Rt.tF ?_ | refine Rt.os ?_ | refine Rt.clS ?_ | refine Rt.jmN ?_ | refine Rt.jbN ?_ | refine Rt.jbE ?_)) | ((with_reducible (first | apply Rt.ld0 | apply Rt.ld1 | apply Rt.ld2 | apply Rt.ld3 | apply Rt.ld4 | apply Rt.ld5)); first | assumption | exact Lc.kp (by assumption) (by assumption)) | ((with_reducible apply Rt.ol); first | assumption | exact cell_kp (by assumption) (by assumption)) | ((with_reducible apply Rt.ckR); focus ((repeat (first | (with_reducible (first | refine Rt.fin ?_ | refine Rt.tL ?_ | refine Rt.tI ?_ | refine Rt.tB ?_ | refine Rt.tS ?_ | refine Rt.tP ?_ | refine Rt.tD ?_ | refine Rt.tM ?_ | refine Rt.tC ?_ | refine Rt.tN ?_ | refine Rt.tA ?_ | refine Rt.tG ?_ | refine Rt.tF ?_ | refine Rt.os ?_ | refine Rt.clS ?_ | refine Rt.jmN ?_ | refine Rt.jbN ?_ | refine Rt.jbE ?_)) | ((with_reducible (first | apply Rt.ld0 | apply Rt.ld1 | apply Rt.ld2 | apply Rt.ld3 | apply Rt.ld4 | apply Rt.ld5)); first | assumption | exact Lc.kp (by assumption) (by assumption)) | ((with_reducible apply Rt.ol); first | assumption | exact cell_kp (by assumption) (by assumption)))); exact Rt.some' rfl))))
  have k4 := k3.tx g4 hS
  obtain ⟨_, hr8, A8, c8, w5, rfl, o8, hd8, g8⟩ := Recover_spec (n := n) hd4 (by omega)
  have k5 : Kp w1 w5 := k4.tx g8 hS
  refine Rt.cl hr8 ?_
  (repeat (first | (with_reducible (first | refine Rt.fin ?_ | refine Rt.tL ?_ | refine Rt.tI ?_ | refine Rt.tB ?_ | refine Rt.tS ?_ | refine Rt.tP ?_ | refine Rt.tD ?_ | refine Rt.tM ?_ | refine Rt.tC ?_ | refine Rt.tN ?_ | refine Rt.tA ?_ | refine Rt.tG ?_ | refine Rt.tF ?_ | refine Rt.os ?_ | refine Rt.clS ?_ | refine Rt.jmN ?_ | refine Rt.jbN ?_ | refine Rt.jbE ?_)) | ((with_reducible (first | apply Rt.ld0 | apply Rt.ld1 | apply Rt.ld2 | apply Rt.ld3 | apply Rt.ld4 | apply Rt.ld5)); first | assumption | exact Lc.kp (by assumption) (by assumption)) | ((with_reducible apply Rt.ol); first | assumption | exact cell_kp (by assumption) (by assumption)) | ((with_reducible apply Rt.ckR); focus ((repeat (first | (with_reducible (first | refine Rt.fin ?_ | refine Rt.tL ?_ | refine Rt.tI ?_ | refine Rt.tB ?_ | refine Rt.tS ?_ | refine Rt.tP ?_ | refine Rt.tD ?_ | refine Rt.tM ?_ | refine Rt.tC ?_ | refine Rt.tN ?_ | refine Rt.tA ?_ | refine Rt.tG ?_ | refine Rt.tF ?_ | refine Rt.os ?_ | refine Rt.clS ?_ | refine Rt.jmN ?_ | refine Rt.jbN ?_ | refine Rt.jbE ?_)) | ((with_reducible (first | apply Rt.ld0 | apply Rt.ld1 | apply Rt.ld2 | apply Rt.ld3 | apply Rt.ld4 | apply Rt.ld5)); first | assumption | exact Lc.kp (by assumption) (by assumption)) | ((with_reducible apply Rt.ol); first | assumption | exact cell_kp (by assumption) (by assumption)))); exact Rt.some' rfl))))
  by_cases hz : l = 0
  · have hs0 := hl0 hz
    subst hs0
    rw [rec_none (s := DS.crash _ a2) rfl rfl]
    subst hz
    refine Rt.cT rfl ?_
    rw [num8_spec]
    (repeat (first | (with_reducible (first | refine Rt.fin ?_ | refine Rt.tL ?_ | refine Rt.tI ?_ | refine Rt.tB ?_ | refine Rt.tS ?_ | refine Rt.tP ?_ | refine Rt.tD ?_ | refine Rt.tM ?_ | refine Rt.tC ?_ | refine Rt.tN ?_ | refine Rt.tA ?_ | refine Rt.tG ?_ | refine Rt.tF ?_ | refine Rt.os ?_ | refine Rt.clS ?_ | refine Rt.jmN ?_ | refine Rt.jbN ?_ | refine Rt.jbE ?_)) | ((with_reducible (first | apply Rt.ld0 | apply Rt.ld1 | apply Rt.ld2 | apply Rt.ld3 | apply Rt.ld4 | apply Rt.ld5)); first | assumption | exact Lc.kp (by assumption) (by assumption)) | ((with_reducible apply Rt.ol); first | assumption | exact cell_kp (by assumption) (by assumption)) | ((with_reducible apply Rt.ckR); focus ((repeat (first | (with_reducible (first | refine Rt.fin ?_ | refine Rt.tL ?_ | refine Rt.tI ?_ | refine Rt.tB ?_ | refine Rt.tS ?_ | refine Rt.tP ?_ | refine Rt.tD ?_ | refine Rt.tM ?_ | refine Rt.tC ?_ | refine Rt.tN ?_ | refine Rt.tA ?_ | refine Rt.tG ?_ | refine Rt.tF ?_ | refine Rt.os ?_ | refine Rt.clS ?_ | refine Rt.jmN ?_ | refine Rt.jbN ?_ | refine Rt.jbE ?_)) | ((with_reducible (first | apply Rt.ld0 | apply Rt.ld1 | apply Rt.ld2 | apply Rt.ld3 | apply Rt.ld4 | apply Rt.ld5)); first | assumption | exact Lc.kp (by assumption) (by assumption)) | ((with_reducible apply Rt.ol); first | assumption | exact cell_kp (by assumption) (by assumption)))); exact Rt.some' rfl))))
    exact Rt.endB (by simp) (k1.tr k5)
  · obtain ⟨f, hf⟩ := Option.ne_none_iff_exists'.1 (hfn (by omega))
    have hfc : (s'.crash a2).file = some (f.1.take (crashN f a2), crashN f a2) := by unfold DS.crash; rw [hf]; rfl
    have hbf : s'.bytes = f.1 := by unfold DS.bytes; rw [hf]
    have hyf : s'.sy = f.2 := by unfold DS.sy; rw [hf]
    have hlf : s'.len = f.1.length := by unfold DS.len; rw [hf]
    obtain ⟨es, hes, hu⟩ := hK (by omega)
    rw [hbf] at hes
    have hkn : f.2 ≤ crashN f a2 ∧ crashN f a2 ≤ f.1.length := by unfold crashN; omega
    obtain ⟨cc, hlog, hcc⟩ := logF_cut hes hasc (m := crashN f a2) hkn.2
    have hbc : (s'.crash a2).bytes = f.1.take (crashN f a2) := by unfold DS.bytes; rw [hfc]
    rw [rec_some (s := s'.crash a2) hf6 hfc, hbc, hlog] at o8 ⊢
    have hu2 := upTo_mono (es := es) hkn.1
    rw [hyf] at hu
    have hu3 := upTo_le es (crashN f a2)
    have hel := IsLog_es hes
    have hxl' : (encs xs).length = xs.length := by unfold encs; simp
    have hlen : (xs.take (upTo es (crashN f a2))).length = upTo es (crashN f a2) := by rw [List.length_take]; omega
    dsimp only at o8 ⊢
    refine Rt.cF (by simp; omega) ?_
    rw [num8_spec]
    (repeat (first | (with_reducible (first | refine Rt.fin ?_ | refine Rt.tL ?_ | refine Rt.tI ?_ | refine Rt.tB ?_ | refine Rt.tS ?_ | refine Rt.tP ?_ | refine Rt.tD ?_ | refine Rt.tM ?_ | refine Rt.tC ?_ | refine Rt.tN ?_ | refine Rt.tA ?_ | refine Rt.tG ?_ | refine Rt.tF ?_ | refine Rt.os ?_ | refine Rt.clS ?_ | refine Rt.jmN ?_ | refine Rt.jbN ?_ | refine Rt.jbE ?_)) | ((with_reducible (first | apply Rt.ld0 | apply Rt.ld1 | apply Rt.ld2 | apply Rt.ld3 | apply Rt.ld4 | apply Rt.ld5)); first | assumption | exact Lc.kp (by assumption) (by assumption)) | ((with_reducible apply Rt.ol); first | assumption | exact cell_kp (by assumption) (by assumption)) | ((with_reducible apply Rt.ckR); focus ((repeat (first | (with_reducible (first | refine Rt.fin ?_ | refine Rt.tL ?_ | refine Rt.tI ?_ | refine Rt.tB ?_ | refine Rt.tS ?_ | refine Rt.tP ?_ | refine Rt.tD ?_ | refine Rt.tM ?_ | refine Rt.tC ?_ | refine Rt.tN ?_ | refine Rt.tA ?_ | refine Rt.tG ?_ | refine Rt.tF ?_ | refine Rt.os ?_ | refine Rt.clS ?_ | refine Rt.jmN ?_ | refine Rt.jbN ?_ | refine Rt.jbE ?_)) | ((with_reducible (first | apply Rt.ld0 | apply Rt.ld1 | apply Rt.ld2 | apply Rt.ld3 | apply Rt.ld4 | apply Rt.ld5)); first | assumption | exact Lc.kp (by assumption) (by assumption)) | ((with_reducible apply Rt.ol); first | assumption | exact cell_kp (by assumption) (by assumption)))); exact Rt.some' rfl))))
    refine Rt.cT rfl ?_
    refine Rt.cN (fun h => absurd h hcc) fun _ => ?_
    refine Rt.cDT (by omega) (Rt.cDT (by omega) ?_)
    refine Rt.cutE (hx.kp (k1.tr k5)) rfl (by omega) (by omega) (by omega) fun F eF => ?_
    rw [Int.toNat_natCast, show Int.toNat 0 = 0 from rfl, List.drop_zero, Nat.sub_zero, Nat.sub_zero] at eF
    refine Rt.cBt (SameBs_spec hn o8.ownE.ev eF (by omega) fun x hx' => by have := asc_ops hasc x (List.mem_of_mem_take hx'); omega) (by rw [hlen]) fun w6 k6 => ?_
    exact Rt.endB (by simp) ((k1.tr k5).tr k6)
end
end Go.Proofs.YtdcdgmiojlldaaaDoor.Wl
