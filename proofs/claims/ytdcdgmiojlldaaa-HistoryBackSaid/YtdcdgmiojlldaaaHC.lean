/- History: the state's map. -/
import Derived.Test.YtdcdgmiojlldaaaHB
import Derived.Maps.Range
import Derived.StringKeys
namespace Go.Proofs.Ytdcdgmiojlldaaa.Hi
open Go Big Go.RowKit Go.IntWalk Go.Maps Go.WideShapes
set_option linter.unusedVariables false
set_option linter.unusedSimpArgs false
def hR (v : Value) : Option (DataW Value × List MemPlace) := some (.held v, [])
theorem k9 : Try.prog.underlying 9 = some .string := by kernel_rfl
theorem k45 : Try.prog.underlying 45 = some (.map 9 23) := by kernel_rfl
theorem z23 (w : World) : (zeroValue 23).run Try.prog w = .ok (.slice none 0 0) w := by kernel_rfl
theorem bts_inj {a b : List Int} (ha : Bytes a) (hb : Bytes b) (h : bts a = bts b) : a = b := str_inj ha hb h
theorem str_data (a : List Int) : (Big.str a).data.toList = bts a := by unfold Big.str bts; simp
theorem keyS {a : List Int} (h : a.length ≤ maxLen) : keyOf Try.prog 9 (.string (Big.str a)) = some (.string (bts a)) := by
  have h1 := WideMaps.keyOf_string_mk (P := Try.prog) k9 (s := Big.str a) (by unfold Big.str; simpa [ByteArray.size] using h)
  rw [str_data] at h1
  exact h1
theorem keyLit (u : List UInt8) (h : u.length ≤ maxLen) : WideAt.IsKeyLit (.string u) := by
  have := WideMaps.keyOf_string_mk (P := Try.prog) k9 (s := ⟨u.toArray⟩) (by simpa [ByteArray.size] using h)
  have h2 := (string_keyed k9).key this
  simpa using h2
/-- The map of a state: what each key has lies in blocks that were there at ws. -/
def Mk (ws w : World) (b N : Nat) (f : List Int → Option (List Int)) : Prop :=
  ∃ n D, w.ownsMap (H := Value) Try.prog 9 hR b n D ∧ n ≤ N ∧ ∀ k, Bytes k → (f k = none → ∀ z, D.atKey (.string (bts k)) z = z) ∧ (∀ v, f k = some v → ∃ A l c, (∀ z, D.atKey (.string (bts k)) z = .held (.slice A l c)) ∧ Bv .u8 ws A l c v)
def putF (f : List Int → Option (List Int)) (o : OpD) : List Int → Option (List Int) := fun k => if k = o.key then (if o.kind = 1 then some o.val else none) else f k
section
variable {α : Type} {Q : α → Prop} {n m base mb b N : Nat} {w w' w0 w1 ws : World} {A B C : Option Addr} {l c m1 d1 m2 d2 d : Nat} {bs cs : List Int} {ops xs : List OpD} {S T : Nat → Prop} {X : List (List OpD)} {f : List Int → Option (List Int)} {D : DataW Value}
theorem rn_run {P : Program} {s : Sem Value} {v : Value} {g : Value → World → Option α} (h : s.run P w = .ok v w') : rn P s w g = g v w' := by simp only [rn, h]
theorem rn_do {P : Program} {s : Sem Unit} {u : Value} {g : Value → World → Option α} (h : s.run P w = .ok () w') : rn P (do s; pure u) w g = g u w' := by simp [rn, h]
theorem owns_gx {nn : Nat} (h : w.ownsMap (H := Value) Try.prog 9 hR b nn D) (hg : Gx S w w') (hn : ¬ S b) : w'.ownsMap (H := Value) Try.prog 9 hR b nn D := by
  obtain ⟨es, clock, hb, h2⟩ := h
  exact ⟨es, clock, (hg.block b (Array.getElem?_eq_some_iff.1 hb).1 hn).trans hb, h2⟩
theorem Mk.gx (h : Mk ws w b N f) (hg : Gx S w w') (hn : ¬ S b) : Mk ws w' b N f := by
  obtain ⟨n, D, h1, h2, h3⟩ := h
  exact ⟨n, D, owns_gx h1 hg hn, h2, h3⟩
theorem Mk.kp (h : Mk ws w b N f) (k : Kp w w') : Mk ws w' b N f := h.gx (S := fun _ => False) k.gx fun h => h
theorem Mk.lt (h : Mk ws w b N f) : b < w.heap.size := by obtain ⟨n, D, h1, _⟩ := h; exact h1.lt
theorem Mk.new : Mk ws (w.alloc (.map #[] 0)) w.heap.size 0 fun _ => none :=
  ⟨0, _, World.ownsMap_made w _ _ _, Nat.le_refl _, fun k _ => ⟨fun _ z => rfl, fun v h => by cases h⟩⟩
theorem put_spec (h : Mk ws w b N f) {o : OpD} (hk : Kp ws w) (h1 : Bv .u8 ws A l c o.key) (h2 : Bv .u8 ws B m1 d1 o.val) (hN : N < 2 ^ 20) (hl : l ≤ 2 ^ 20) (hb : ws.heap.size ≤ b) : Rt (history_put n [.map (some b), .agg #[.int .i64 o.kind, .slice A l c, .slice B m1 d1]] w) fun y => ∃ w', y = ([], w') ∧ Mk ws w' b (N + 1) (putF f o) ∧ Kp ws w' := by
  rw [history_put_eq]
  have hbl := h.lt
  have hkey : o.key.length = l := h1.len
  have hmax : (2 : Nat) ^ 20 < maxLen := by decide
  have hkk := keyS (a := o.key) (by omega)
  have hrng : Bytes o.key := h1.rng
  have hlit := keyLit (bts o.key) (by unfold bts; simp; omega)
  refine Rt.fin (Rt.al fun w1 l1 k1 s1 => ?_)
  have kw1 := hk.tr k1
  have hM := h.kp k1
  (repeat (first | (with_reducible (first | refine Rt.fin ?_ | refine Rt.tL ?_ | refine Rt.tI ?_ | refine Rt.tB ?_ | refine Rt.tS ?_ | refine Rt.tP ?_ | refine Rt.tD ?_ | refine Rt.tM ?_ | refine Rt.tC ?_ | refine Rt.tN ?_ | refine Rt.tA ?_ | refine Rt.tG ?_ | refine Rt.tF ?_ | refine Rt.os ?_ | refine Rt.clS ?_ | refine Rt.jmN ?_ | refine Rt.jbN ?_ | refine Rt.jbE ?_)) | ((with_reducible (first | apply Rt.ld0 | apply Rt.ld1 | apply Rt.ld2 | apply Rt.ld3 | apply Rt.ld4 | apply Rt.ld5)); first | assumption | exact Lc.kp (by assumption) (by assumption)) | ((with_reducible apply Rt.ol); first | assumption | exact cell_kp (by assumption) (by assumption)) | ((with_reducible apply Rt.ckR); focus ((repeat (first | (with_reducible (first | refine Rt.fin ?_ | refine Rt.tL ?_ | refine Rt.tI ?_ | refine Rt.tB ?_ | refine Rt.tS ?_ | refine Rt.tP ?_ | refine Rt.tD ?_ | refine Rt.tM ?_ | refine Rt.tC ?_ | refine Rt.tN ?_ | refine Rt.tA ?_ | refine Rt.tG ?_ | refine Rt.tF ?_ | refine Rt.os ?_ | refine Rt.clS ?_ | refine Rt.jmN ?_ | refine Rt.jbN ?_ | refine Rt.jbE ?_)) | ((with_reducible (first | apply Rt.ld0 | apply Rt.ld1 | apply Rt.ld2 | apply Rt.ld3 | apply Rt.ld4 | apply Rt.ld5)); first | assumption | exact Lc.kp (by assumption) (by assumption)) | ((with_reducible apply Rt.ol); first | assumption | exact cell_kp (by assumption) (by assumption)))); exact Rt.some' rfl))))
  refine Rt.str (h1.kp kw1) ?_
  obtain ⟨n0, D, hD, hn0, hf⟩ := hM
  obtain ⟨w2, hrun, hD2, ht⟩ := hD.drop (string_keyed k9) k45 hkk 0
  rw [rn_run hrun]
  have g2 := Gx.of_grown ht.grown
  have hbb : ∀ j, some b = some j → ws.heap.size ≤ j := fun j hj => by injection hj with hj; omega
  have kw2 := kw1.tx g2 hbb
  have l2 := l1.gx g2 fun e => by injection e with e; omega
  (repeat (first | (with_reducible (first | refine Rt.fin ?_ | refine Rt.tL ?_ | refine Rt.tI ?_ | refine Rt.tB ?_ | refine Rt.tS ?_ | refine Rt.tP ?_ | refine Rt.tD ?_ | refine Rt.tM ?_ | refine Rt.tC ?_ | refine Rt.tN ?_ | refine Rt.tA ?_ | refine Rt.tG ?_ | refine Rt.tF ?_ | refine Rt.os ?_ | refine Rt.clS ?_ | refine Rt.jmN ?_ | refine Rt.jbN ?_ | refine Rt.jbE ?_)) | ((with_reducible (first | apply Rt.ld0 | apply Rt.ld1 | apply Rt.ld2 | apply Rt.ld3 | apply Rt.ld4 | apply Rt.ld5)); first | assumption | exact Lc.kp (by assumption) (by assumption)) | ((with_reducible apply Rt.ol); first | assumption | exact cell_kp (by assumption) (by assumption)) | ((with_reducible apply Rt.ckR); focus ((repeat (first | (with_reducible (first | refine Rt.fin ?_ | refine Rt.tL ?_ | refine Rt.tI ?_ | refine Rt.tB ?_ | refine Rt.tS ?_ | refine Rt.tP ?_ | refine Rt.tD ?_ | refine Rt.tM ?_ | refine Rt.tC ?_ | refine Rt.tN ?_ | refine Rt.tA ?_ | refine Rt.tG ?_ | refine Rt.tF ?_ | refine Rt.os ?_ | refine Rt.clS ?_ | refine Rt.jmN ?_ | refine Rt.jbN ?_ | refine Rt.jbE ?_)) | ((with_reducible (first | apply Rt.ld0 | apply Rt.ld1 | apply Rt.ld2 | apply Rt.ld3 | apply Rt.ld4 | apply Rt.ld5)); first | assumption | exact Lc.kp (by assumption) (by assumption)) | ((with_reducible apply Rt.ol); first | assumption | exact cell_kp (by assumption) (by assumption)))); exact Rt.some' rfl))))
  have hdel : ∀ k, Bytes k → k ≠ o.key → ∀ z, (D.del (.string (bts o.key))).atKey (.string (bts k)) z = D.atKey (.string (bts k)) z := fun k hkb hne z => atKey_del_other (fun e => hne (bts_inj hkb hrng (by injection e))) z
  refine Rt.cQ (fun h1k => ?_) fun h1k => ?_
  · (repeat (first | (with_reducible (first | refine Rt.fin ?_ | refine Rt.tL ?_ | refine Rt.tI ?_ | refine Rt.tB ?_ | refine Rt.tS ?_ | refine Rt.tP ?_ | refine Rt.tD ?_ | refine Rt.tM ?_ | refine Rt.tC ?_ | refine Rt.tN ?_ | refine Rt.tA ?_ | refine Rt.tG ?_ | refine Rt.tF ?_ | refine Rt.os ?_ | refine Rt.clS ?_ | refine Rt.jmN ?_ | refine Rt.jbN ?_ | refine Rt.jbE ?_)) | ((with_reducible (first | apply Rt.ld0 | apply Rt.ld1 | apply Rt.ld2 | apply Rt.ld3 | apply Rt.ld4 | apply Rt.ld5)); first | assumption | exact Lc.kp (by assumption) (by assumption)) | ((with_reducible apply Rt.ol); first | assumption | exact cell_kp (by assumption) (by assumption)) | ((with_reducible apply Rt.ckR); focus ((repeat (first | (with_reducible (first | refine Rt.fin ?_ | refine Rt.tL ?_ | refine Rt.tI ?_ | refine Rt.tB ?_ | refine Rt.tS ?_ | refine Rt.tP ?_ | refine Rt.tD ?_ | refine Rt.tM ?_ | refine Rt.tC ?_ | refine Rt.tN ?_ | refine Rt.tA ?_ | refine Rt.tG ?_ | refine Rt.tF ?_ | refine Rt.os ?_ | refine Rt.clS ?_ | refine Rt.jmN ?_ | refine Rt.jbN ?_ | refine Rt.jbE ?_)) | ((with_reducible (first | apply Rt.ld0 | apply Rt.ld1 | apply Rt.ld2 | apply Rt.ld3 | apply Rt.ld4 | apply Rt.ld5)); first | assumption | exact Lc.kp (by assumption) (by assumption)) | ((with_reducible apply Rt.ol); first | assumption | exact cell_kp (by assumption) (by assumption)))); exact Rt.some' rfl))))
    refine Rt.str (h1.kp kw2) ?_
    (repeat (first | (with_reducible (first | refine Rt.fin ?_ | refine Rt.tL ?_ | refine Rt.tI ?_ | refine Rt.tB ?_ | refine Rt.tS ?_ | refine Rt.tP ?_ | refine Rt.tD ?_ | refine Rt.tM ?_ | refine Rt.tC ?_ | refine Rt.tN ?_ | refine Rt.tA ?_ | refine Rt.tG ?_ | refine Rt.tF ?_ | refine Rt.os ?_ | refine Rt.clS ?_ | refine Rt.jmN ?_ | refine Rt.jbN ?_ | refine Rt.jbE ?_)) | ((with_reducible (first | apply Rt.ld0 | apply Rt.ld1 | apply Rt.ld2 | apply Rt.ld3 | apply Rt.ld4 | apply Rt.ld5)); first | assumption | exact Lc.kp (by assumption) (by assumption)) | ((with_reducible apply Rt.ol); first | assumption | exact cell_kp (by assumption) (by assumption)) | ((with_reducible apply Rt.ckR); focus ((repeat (first | (with_reducible (first | refine Rt.fin ?_ | refine Rt.tL ?_ | refine Rt.tI ?_ | refine Rt.tB ?_ | refine Rt.tS ?_ | refine Rt.tP ?_ | refine Rt.tD ?_ | refine Rt.tM ?_ | refine Rt.tC ?_ | refine Rt.tN ?_ | refine Rt.tA ?_ | refine Rt.tG ?_ | refine Rt.tF ?_ | refine Rt.os ?_ | refine Rt.clS ?_ | refine Rt.jmN ?_ | refine Rt.jbN ?_ | refine Rt.jbE ?_)) | ((with_reducible (first | apply Rt.ld0 | apply Rt.ld1 | apply Rt.ld2 | apply Rt.ld3 | apply Rt.ld4 | apply Rt.ld5)); first | assumption | exact Lc.kp (by assumption) (by assumption)) | ((with_reducible apply Rt.ol); first | assumption | exact cell_kp (by assumption) (by assumption)))); exact Rt.some' rfl))))
    obtain ⟨w3, hrun3, hD3, ht3⟩ := hD2.update (string_keyed k9) k45 (show n0 < maxLen by omega) hkk (show hR (.slice B m1 d1) = some (.held (.slice B m1 d1), []) from rfl)
    rw [rn_do hrun3]
    refine Rt.some' ⟨rfl, w3, rfl, ⟨n0 + 1, _, hD3, by omega, fun k hkb => ?_⟩, kw2.tx (Gx.of_grown ht3) hbb⟩
    unfold putF
    by_cases hne : k = o.key
    · rw [if_pos hne, if_pos h1k]
      subst hne
      refine ⟨fun e => (by cases e), fun v e => ?_⟩
      obtain rfl := Option.some.inj e
      exact ⟨B, m1, d1, fun z => atKey_put_same hD2.isMap hlit _ z, h2⟩
    · rw [if_neg hne]
      have e1 : ∀ z, ((D.del (.string (bts o.key))).put (.string (bts o.key)) (.held (.slice B m1 d1))).atKey (.string (bts k)) z = D.atKey (.string (bts k)) z := fun z => by
        rw [atKey_put_other (fun e => hne (bts_inj hkb hrng (by injection e)))]; exact hdel k hkb hne z
      refine ⟨fun e z => by rw [e1]; exact (hf k hkb).1 e z, fun v e => ?_⟩
      obtain ⟨A', l', c', q1, q2⟩ := (hf k hkb).2 v e
      exact ⟨A', l', c', fun z => by rw [e1]; exact q1 z, q2⟩
  · refine Rt.some' ⟨rfl, w2, rfl, ⟨n0, _, hD2, by omega, fun k hkb => ?_⟩, kw2⟩
    unfold putF
    by_cases hne : k = o.key
    · rw [if_pos hne, if_neg h1k]
      subst hne
      exact ⟨fun _ z => atKey_del_same z, fun v e => (by cases e)⟩
    · rw [if_neg hne]
      refine ⟨fun e z => by rw [hdel k hkb hne]; exact (hf k hkb).1 e z, fun v e => ?_⟩
      obtain ⟨A', l', c', q1, q2⟩ := (hf k hkb).2 v e
      exact ⟨A', l', c', fun z => by rw [hdel k hkb hne]; exact q1 z, q2⟩
end
end Go.Proofs.Ytdcdgmiojlldaaa.Hi
