/- Arguments, opened. -/
import Derived.Test.YtdcdgmiojlldaaaM4
namespace Go.Proofs.Ytdcdgmiojlldaaa.Big
open Go Go.RowKit
set_option linter.unusedVariables false
set_option linter.unusedSimpArgs false
section
variable {H : Type} {enc : TypeId × Value → H} {P : Program} {W : World} {base b0 : Nat} {spare : Nat → Bool} {held : Bool} {r : Reach} {t e : TypeId} {v : Value} {d : DataW H} {p : List MemPlace} {k : IntKind}
theorem bv_openT (ht : P.underlying t = some (.slice e)) (he : P.underlying e = some (.int k)) (hc : P.cellsOf e = 1) (h : DataW.Trod enc P W base spare held t v d p) (hv : Value.okWide P W r b0 t v) : ∃ A l c xs, v = .slice A l c ∧ Bv k W A l c xs := by
  obtain ⟨A, l, c, rfl⟩ := WideShapes.okWide_slice ht hv
  obtain ⟨fuel, hf⟩ := h
  obtain ⟨A', l', c', xs, he, hb⟩ := bv_open ht he hc hf
  have he : [Value.slice A l c] = [Value.slice A' l' c'] := he
  simp only [List.cons.injEq, and_true] at he
  exact ⟨A', l', c', xs, he, hb⟩
theorem ev_openT {α : Type} {E : El α} (ht : P.underlying t = some (.slice e)) (hc : P.cellsOf e = E.sz) (hel : ∀ (n : Nat) (cs : List Value) (x : DataW H × List MemPlace), DataW.trod enc P W base spare held n e cs = some x → ∃ y, E.rd W cs y)
    (h : DataW.Trod enc P W base spare held t v d p) (hv : Value.okWide P W r b0 t v) : ∃ A l c xs, v = .slice A l c ∧ Ev E W A l c xs := by
  obtain ⟨A, l, c, rfl⟩ := WideShapes.okWide_slice ht hv
  obtain ⟨fuel, hf⟩ := h
  obtain ⟨A', l', c', xs, he, hb⟩ := ev_open ht hc hel hf
  have he : [Value.slice A l c] = [Value.slice A' l' c'] := he
  simp only [List.cons.injEq, and_true] at he
  exact ⟨A', l', c', xs, he, hb⟩
theorem int_openT (ht : P.underlying t = some (.int k)) (h : DataW.Trod enc P W base spare held t v d p) (hv : Value.okWide P W r b0 t v) : ∃ n, v = .int k n ∧ (Lit.int k n).wf = true := by
  obtain ⟨n, rfl⟩ := WideShapes.okWide_int ht hv
  obtain ⟨fuel, hf⟩ := h
  obtain ⟨m, he, hw⟩ := int_open ht hf
  have he : [Value.int k n] = [Value.int k m] := he
  simp only [List.cons.injEq, and_true] at he
  exact ⟨m, he, hw⟩
theorem bool_openT (ht : P.underlying t = some .bool) (hv : Value.okWide P W r b0 t v) : ∃ b, v = .bool b := WideShapes.okWide_bool ht hv
end
theorem i64b {x : Int} (h : (Lit.int .i64 x).wf = true) : -2 ^ 63 ≤ x ∧ x < 2 ^ 63 := by
  have h : IntKind.i64.min ≤ x ∧ x ≤ IntKind.i64.max := by simpa [Lit.wf] using h
  have h1 : IntKind.i64.min = -2 ^ 63 := rfl
  have h2 : IntKind.i64.max = 2 ^ 63 - 1 := rfl
  omega
theorem u64b {x : Int} (h : (Lit.int .u64 x).wf = true) : 0 ≤ x ∧ x < 2 ^ 64 := by
  have h : IntKind.u64.min ≤ x ∧ x ≤ IntKind.u64.max := by simpa [Lit.wf] using h
  have h1 : IntKind.u64.min = 0 := rfl
  have h2 : IntKind.u64.max = 2 ^ 64 - 1 := rfl
  omega
end Go.Proofs.Ytdcdgmiojlldaaa.Big
