/- packed by slim.py -/
import Derived.Laws.IdiomCopy
import Derived.Test.YtdcdgmiojlldaaaDoorZT5
/- Objects that turn: footprints, appends with their footprint, the delete of the first. -/
namespace Go.Proofs.YtdcdgmiojlldaaaDoor.Big
open Go Go.RowKit
set_option linter.unusedVariables false
set_option linter.unusedSimpArgs false
def RF (S : Nat → Prop) (w0 : World) (vs : List Value) (R : (Nat → Prop) → World → Prop) : List Value × World → Prop := fun r => ∃ w' S', r = (vs, w') ∧ Gx S w0 w' ∧ (∀ j, S' j → S j ∨ w0.heap.size ≤ j) ∧ R S' w'
section
variable {α : Type} {Q : α → Prop} {P : Program} {t e : TypeId} {k : IntKind} {w w' w0 : World} {base : Nat} {v : Value} {xs ys : List Int} {S S' T : Nat → Prop} {i : TypeInfo}
theorem Rt.appO (hT : SlT P t e k i) {ty : TypeId} (ho : Own k e w base v xs) {B : Option Addr} {m d : Nat} (hs : Sl k w B m ys) (hB : B = none → m = 0 ∧ d = 0) (hn : xs.length + m ≤ 2 ^ 40) (hb : base ≤ w.heap.size)
    {f : Value → World → Option α} (h : ∀ A c w', Own k e w' base (.slice A (xs.length + m) c) (xs ++ ys) → (∀ j, On (.slice A (xs.length + m) c) j → On v j ∨ w.heap.size ≤ j) → Gx (On v) w w' → Rt (f (.slice A (xs.length + m) c) w') Q) :
    Rt (rn P (Builtin.append_ #[t, t] ty #[v, .slice B m d]) w f) Q := by
  obtain ⟨v', w', h1, h2, h3, h4⟩ := append_run hT w base ty ho hs hB hn hb
  rw [h1]
  obtain ⟨A, c, rfl⟩ := h2.slice
  have hl : (xs ++ ys).length = xs.length + m := by rw [List.length_append, hs.1]
  rw [hl] at h2 h4 ⊢
  refine h A c w' h2 (fun j hj => ?_) ((Gx.of_grown h3).wide fun k _ e => e)
  have hj : Value.ownBlock (.slice A (xs.length + m) c) = some j := hj
  rcases h4 with h4 | h4
  · exact .inl (by rw [h4] at hj; exact hj)
  · rw [h4] at hj; injection hj with hj; exact .inr (by omega)
theorem Lc.sl1 {b : Nat} {x : Int} (h : Lc w b [.int k x]) : Sl k w (some ⟨b, 0, none⟩) 1 [x] :=
  ⟨rfl, .inr ⟨_, rfl, fun j hj => by
    have : j = 0 := by omega
    subst this
    rw [Addr.add_lit, Nat.zero_add, h.ld]; rfl⟩⟩
theorem Rt.push (hT : SlT P t e k i) {ty : TypeId} (ho : Own k e w base v xs) {b : Nat} {x : Int} (hl : Lc w b [.int k x]) (hn : xs.length + 1 ≤ 2 ^ 40) (hb : base ≤ w.heap.size)
    {f : Value → World → Option α} (h : ∀ A c w', Own k e w' base (.slice A (xs.length + 1) c) (xs ++ [x]) → (∀ j, On (.slice A (xs.length + 1) c) j → On v j ∨ w.heap.size ≤ j) → Gx (On v) w w' → Rt (f (.slice A (xs.length + 1) c) w') Q) :
    Rt (rn P (Builtin.append_ #[t, t] ty #[v, .slice (some ⟨b, 0, none⟩) 1 1]) w f) Q :=
  Rt.appO hT ho hl.sl1 (fun h => by cases h) hn hb h
end
end Go.Proofs.YtdcdgmiojlldaaaDoor.Big
