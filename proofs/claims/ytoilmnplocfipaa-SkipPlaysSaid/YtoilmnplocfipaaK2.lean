/- Entries and keys that come in. -/
import Derived.Test.YtoilmnplocfipaaK1
namespace Go.Proofs.Ytoilmnplocfipaa.Ik
open Go Big Go.RowKit Go.IntWalk
set_option linter.unusedVariables false
set_option linter.unusedSimpArgs false
set_option maxRecDepth 100000
section
variable {H : Type} {enc : TypeId × Value → H} {W : World} {base : Nat} {spare : Nat → Bool} {held : Bool}
theorem key_rd (n : Nat) (cs : List Value) (y : DataW H × List MemPlace) (h : DataW.trod enc Try.prog W base spare held n 32 cs = some y) : ∃ A l c s k x, cs = [.slice A l c, .int .u64 s, .int .i64 k] ∧ KeyV W A l c s k x := by
  obtain ⟨hl, hg⟩ := st_open Try.underlying32 h
  have hl : cs.length = 3 := hl
  match cs, hl with
  | [c0, c1, c2], _ =>
    obtain ⟨_, _, g0⟩ := hg 0 _ rfl
    obtain ⟨_, _, g1⟩ := hg 1 _ rfl
    obtain ⟨_, _, g2⟩ := hg 2 _ rfl
    obtain ⟨A, l, c, xs, e0, b0⟩ := bv_open (e := 5) (k := .u8) Try.underlying29 Try.underlying5 (by kernel_rfl) g0
    obtain ⟨s, e1, r1⟩ := int_open (k := .u64) Try.underlying30 g1
    obtain ⟨k, e2, r2⟩ := int_open (k := .i64) Try.underlying3 g2
    have f0 : c0 = Value.slice A l c := (List.cons.inj (show [c0] = [Value.slice A l c] from e0)).1
    have f1 : c1 = Value.int .u64 s := (List.cons.inj (show [c1] = [Value.int .u64 s] from e1)).1
    have f2 : c2 = Value.int .i64 k := (List.cons.inj (show [c2] = [Value.int .i64 k] from e2)).1
    clear e0 e1 e2
    subst f0 f1 f2
    exact ⟨A, l, c, s, k, ⟨xs, s, k⟩, rfl, b0, rfl, rfl, r1, r2⟩
theorem en_open (n : Nat) (cs : List Value) (y : DataW H × List MemPlace) (h : DataW.trod enc Try.prog W base spare held n 34 cs = some y) : ∃ x, enEl.rd W cs x := by
  obtain ⟨hl, hg⟩ := st_open Try.underlying34 h
  have hl : cs.length = 4 := hl
  match cs, hl with
  | [c0, c1, c2, c3], _ =>
    obtain ⟨_, _, g0⟩ := hg 0 _ rfl
    obtain ⟨_, _, g1⟩ := hg 1 _ rfl
    obtain ⟨A, l, c, s, k, x, e0, b0⟩ := key_rd _ _ _ g0
    obtain ⟨B, m, d, ys, e1, b1⟩ := bv_open (e := 5) (k := .u8) Try.underlying29 Try.underlying5 (by kernel_rfl) g1
    have e0 : [c0, c1, c2] = [.slice A l c, .int .u64 s, .int .i64 k] := e0
    have f1 : c3 = Value.slice B m d := (List.cons.inj (show [c3] = [Value.slice B m d] from e1)).1
    injection e0 with f2 e0
    injection e0 with f3 e0
    injection e0 with f4 e0
    clear e0 e1
    subst f1 f2 f3 f4
    exact ⟨⟨x.key, x.seq, x.kind, ys⟩, A, l, c, s, k, B, m, d, rfl, b0.key, b0.seq, b0.kind, b0.rs, b0.rk, b1⟩
end
end Go.Proofs.Ytoilmnplocfipaa.Ik
