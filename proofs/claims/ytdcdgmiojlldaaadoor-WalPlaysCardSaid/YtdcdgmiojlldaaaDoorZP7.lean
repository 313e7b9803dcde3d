/- packed by slim.py -/
import Derived.Maps.OwnSet
import Derived.Test.YtdcdgmiojlldaaaDoorZP6
/- Maps of numbers to true: sets of numbers. -/
namespace Go.Proofs.YtdcdgmiojlldaaaDoor.Big
open Go Go.RowKit Go.Maps Go.WideShapes
set_option linter.unusedVariables false
set_option linter.unusedSimpArgs false
section
variable {α : Type} {Q : α → Prop} {w : World} {t : TypeId}
theorem Lc.ld5 {b : Nat} {a x y z u v : Value} {l : List Value} (h : Lc w b (x :: y :: z :: u :: v :: a :: l)) : w.cell? (Addr.add ⟨b, 0, none⟩ 5) = some a := by rw [Addr.add_lit, h.ld]; rfl
theorem Rt.ld5 {b : Nat} {a x y z u v : Value} {l : List Value} {f : Value → Option α} (hl : Lc w b (x :: y :: z :: u :: v :: a :: l)) (h : Rt (f a) Q) : Rt (opt (w.cell? (Addr.add ⟨b, 0, none⟩ 5)) f) Q := Rt.ol hl.ld5 h
theorem Rt.st4 {b : Nat} {x y z a c v : Value} {l : List Value} {f : World → Option α} (hl : Lc w b (a :: y :: z :: c :: x :: l)) (h : ∀ w1, Lc w1 b (a :: y :: z :: c :: v :: l) → Gx (fun k => k = b) w w1 → Rt (f w1) Q) : Rt (stC w (Addr.add ⟨b, 0, none⟩ 4) v f) Q := by
  obtain ⟨h1, h2, h3⟩ := hl.st 4 (by simp) v
  rw [Addr.add_lit, Nat.zero_add, h3]; exact h _ h1 h2
end
section
variable {α : Type} {Q : α → Prop} {P : Program} {t k e : TypeId} {w w' : World} {b : Nat} {ks : List Int} {S : Nat → Prop} {x : Int}
end
end Go.Proofs.YtdcdgmiojlldaaaDoor.Big
