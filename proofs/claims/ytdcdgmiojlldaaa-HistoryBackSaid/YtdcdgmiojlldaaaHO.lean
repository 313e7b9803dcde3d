/- HistoryBack: its arguments, opened. -/
import Derived.Test.YtdcdgmiojlldaaaHN
namespace Go.Proofs.Ytdcdgmiojlldaaa.Hi
open Go Big Go.RowKit
set_option linter.unusedVariables false
set_option linter.unusedSimpArgs false
theorem len3 {l : List Value} (h : l.length = 3) : ∃ a b c, l = [a, b, c] := by
  match l, h with
  | [a, b, c], _ => exact ⟨a, b, c, rfl⟩
theorem op_open {H : Type} {enc : TypeId × Value → H} {W : World} {base : Nat} {spare : Nat → Bool} {held : Bool} (n : Nat) (cs : List Value) (y : DataW H × List MemPlace) (h : DataW.trod enc Try.prog W base spare held n 38 cs = some y) : ∃ x, opEl.rd W cs x := by
  obtain ⟨hl, hg⟩ := st_open Try.underlying38 h
  have hl : cs.length = 3 := hl.trans (by kernel_rfl)
  obtain ⟨c0, c1, c2, rfl⟩ := len3 hl
  clear hl h
  obtain ⟨_, _, g0⟩ := hg 0 _ rfl
  obtain ⟨_, _, g1⟩ := hg 1 _ rfl
  obtain ⟨_, _, g2⟩ := hg 2 _ rfl
  obtain ⟨k, e0, r0⟩ := int_open (k := .i64) Try.underlying3 g0
  obtain ⟨A, l, c, xs, e1, b1⟩ := bv_open (e := 5) (k := .u8) Try.underlying23 Try.underlying5 (by kernel_rfl) g1
  obtain ⟨B, m, d, ys, e2, b2⟩ := bv_open (e := 5) (k := .u8) Try.underlying23 Try.underlying5 (by kernel_rfl) g2
  have f0 : c0 = Value.int .i64 k := (List.cons.inj ((show [c0] = List.take (Try.prog.cellsOf 3) (List.drop 0 [c0, c1, c2]) by rw [show Try.prog.cellsOf 3 = 1 by kernel_rfl]; rfl).trans e0)).1
  have f1 : c1 = Value.slice A l c := (List.cons.inj ((show [c1] = List.take (Try.prog.cellsOf 23) (List.drop 1 [c0, c1, c2]) by rw [show Try.prog.cellsOf 23 = 1 by kernel_rfl]; rfl).trans e1)).1
  have f2 : c2 = Value.slice B m d := (List.cons.inj ((show [c2] = List.take (Try.prog.cellsOf 23) (List.drop 2 [c0, c1, c2]) by rw [show Try.prog.cellsOf 23 = 1 by kernel_rfl]; rfl).trans e2)).1
  clear e0 e1 e2
  subst f0 f1 f2
  exact ⟨⟨k, xs, ys⟩, A, l, c, B, m, d, rfl, b1, b2⟩
theorem ops_open {H : Type} {enc : TypeId × Value → H} {W : World} {base : Nat} {spare : Nat → Bool} {held : Bool} (n : Nat) (cs : List Value) (y : DataW H × List MemPlace) (h : DataW.trod enc Try.prog W base spare held n 28 cs = some y) : ∃ x, opsEl.rd W cs x := by
  obtain ⟨A, l, c, xs, e, hx⟩ := ev_open (E := opEl) Try.underlying28 (by kernel_rfl) op_open h
  subst e
  exact ⟨xs, A, l, c, rfl, hx⟩
end Go.Proofs.Ytdcdgmiojlldaaa.Hi
