/- packed by slim.py -/
import Derived.Laws.IdiomCopy
import Derived.Test.YtdcdgmiojlldaaaDoorZP5
/- Objects that turn: footprints, appends with their footprint, the delete of the first. -/
namespace Go.Proofs.YtdcdgmiojlldaaaDoor.Big
open Go Go.RowKit
set_option linter.unusedVariables false
set_option linter.unusedSimpArgs false
def RF (S : Nat → Prop) (w0 : World) (vs : List Value) (R : (Nat → Prop) → World → Prop) : List Value × World → Prop := fun r => ∃ w' S', r = (vs, w') ∧ Gx S w0 w' ∧ (∀ j, S' j → S j ∨ w0.heap.size ≤ j) ∧ R S' w'
section
variable {α : Type} {Q : α → Prop} {P : Program} {t e : TypeId} {k : IntKind} {w w' w0 : World} {base : Nat} {v : Value} {xs ys : List Int} {S S' T : Nat → Prop} {i : TypeInfo}
theorem Rt.appO (hT : SlT P t e k i) {ty : TypeId} (ho : Own k e w base v xs) {B : Option Addr} {m d : Nat} (hs : Sl k w B m ys) (hB : B = none → m = 0 ∧ d = 0) (hn : xs.length + m ≤ 2 ^ 40) (hb : base ≤ w.heap.size)
    {f : Value → World → Option α} (h : ∀ A c w', Own k e w' base (.slice A (xs.length + m) c) (xs ++ ys) → (∀ j, On (.slice A (xs.length + m) c) j → On v j ∨ w.heap.size ≤ j) → Gx (On v) w w' → Rt (f (.slice A (xs.length + m) c) w') Q) :
    Rt (rn P (Builtin.append_ #[t, t] ty #[v, .slice B m d]) w f) Q := by
  obtain ⟨v', w', h1, h2, h3, h4⟩ := append_run hT w base ty ho hs hB hn hb
  rw [h1]
  obtain ⟨A, c, rfl⟩ := h2.slice
  have hl : (xs ++ ys).length = xs.length + m := by rw [List.length_append, hs.1]
  rw [hl] at h2 h4 ⊢
  refine h A c w' h2 (fun j hj => ?_) ((Gx.of_grown h3).wide fun k _ e => e)
  have hj : Value.ownBlock (.slice A (xs.length + m) c) = some j := hj
  rcases h4 with h4 | h4
  · exact .inl (by rw [h4] at hj; exact hj)
  · rw [h4] at hj; injection hj with hj; exact .inr (by omega)
theorem Own.less {g c : Nat} (h : Own k e w base (.slice (some ⟨g, 0, none⟩) xs.length c) xs) {n : Nat} (hn : n ≤ xs.length) : Own k e w base (.slice (some ⟨g, 0, none⟩) n c) (xs.take n) := by
  have hl : (xs.take n).length = n := by rw [List.length_take]; omega
  unfold Own
  rw [hl]
  rcases h.2 with ⟨h', hn'⟩ | ⟨g', cap, cur, h', hb, hg, hnc, hcm, hcs, ht⟩
  · injection h' with h1; cases h1
  · injection h' with h1 h2 h3
    injection h1 with h1
    injection h1 with h1
    subst h1 h3
    refine ⟨by simp; omega, .inr ⟨g, c, cur, rfl, hb, hg, by omega, hcm, hcs, ?_⟩⟩
    rw [List.map_take, ← ht, List.take_take, Nat.mul_one, Nat.mul_one]
    congr 1; omega
end
end Go.Proofs.YtdcdgmiojlldaaaDoor.Big
