/-
  No cell of these rows narrows 'for every input' (looked for: loops, veiled, ifaces, maps, wideKeys, modest, calm, conditions, laid).
  DERIVED. THE GIVEN ROWS OF THIS SEAT. 9 by the template 'for every input the law returns true; each argument reads behind the call as it read before'; 0 by the template 'total and deterministic' (their statements: YtoilmnplocfipaaTotals.lean).
  GIVEN WITH THE SEED: the statements are not yours to turn. If you find one false, say at which input.
  Laid BY PROGRAM, IN A SANDBOX (cutbox-rows.mjs): the forced cells as the released guide's own fill.sh prints them over the translation cd3c215063f69f99… (all of the seat's roots in one cut). By AI agents, Wed Nov 11 2026. No macro, syntax, notation, axiom, sorry.
-/
import Derived.Test.YtoilmnplocfipaaChecked
import GoSem.Claim
import GoSem.ClaimJoined
import GoSem.ClaimMapViews
import Derived.JoinedTies
import Derived.KernelRfl
namespace Go.Proofs.Ytoilmnplocfipaa
/- THE CELL 'sum', in the pinned program and in every row, IS THE sha256 OF THE DUMP (.gsa) THAT YtoilmnplocfipaaProg.lean LOADS. Nothing in Lean hashes anything: it is a label: what it is worth is what the hold of that sum in a sandbox is worth. -/
noncomputable def Try.pinned : Pinned := { name := "ytoilmnplocfipaa", sum := "cd3c215063f69f991238a06ac4c6ceb2614ddaa6e7099a1766acb4b7f510dc9e", checked := Try.checked }
namespace Rows
def none {H : Type} : Left H := { results := [], args := [] }

/-- 'butterylaw21.DropLeast': WHATEVER THE INPUT: true; the input reads as it did. -/
def dropLeastSpec : ChangeSpec := { name := "dropLeast", fn := fun _ => fun
  | [d1, d2] => { results := [.lit (.bool true)], args := [d1, d2] }
  | _ => none }
def dropLeastRow : OpenClaim := { program := "ytoilmnplocfipaa", sum := "cd3c215063f69f991238a06ac4c6ceb2614ddaa6e7099a1766acb4b7f510dc9e", func := "buttery/butterylaw21.DropLeast", spec := "dropLeast", inPlace := ["internal/bytealg.Compare"], unfollowed := true, recurses := true, apart := false }
def DropLeastSaid : Prop := dropLeastRow.holds Try.pinned (OpenSpec.ofChange dropLeastSpec)

/-- ITS FALSE NEIGHBOUR: 'it returns false'. Refute it at one input. -/
def dropLeastWrong : ChangeSpec := { name := "dropLeast", fn := fun _ => fun
  | [d1, d2] => { results := [.lit (.bool false)], args := [d1, d2] }
  | _ => none }
def DropLeastWrongFalsely : Prop := dropLeastRow.holds Try.pinned (OpenSpec.ofChange dropLeastWrong)

/-- 'butterylaw21.DropAgain': WHATEVER THE INPUT: true; the input reads as it did. -/
def dropAgainSpec : ChangeSpec := { name := "dropAgain", fn := fun _ => fun
  | [d1, d2, d3] => { results := [.lit (.bool true)], args := [d1, d2, d3] }
  | _ => none }
def dropAgainRow : OpenClaim := { program := "ytoilmnplocfipaa", sum := "cd3c215063f69f991238a06ac4c6ceb2614ddaa6e7099a1766acb4b7f510dc9e", func := "buttery/butterylaw21.DropAgain", spec := "dropAgain", inPlace := ["internal/bytealg.Compare"], unfollowed := true, recurses := true, apart := false }
def DropAgainSaid : Prop := dropAgainRow.holds Try.pinned (OpenSpec.ofChange dropAgainSpec)

/-- ITS FALSE NEIGHBOUR: 'it returns false'. Refute it at one input. -/
def dropAgainWrong : ChangeSpec := { name := "dropAgain", fn := fun _ => fun
  | [d1, d2, d3] => { results := [.lit (.bool false)], args := [d1, d2, d3] }
  | _ => none }
def DropAgainWrongFalsely : Prop := dropAgainRow.holds Try.pinned (OpenSpec.ofChange dropAgainWrong)

/-- 'butterylaw21.DropKnown': WHATEVER THE INPUT: true; the input reads as it did. -/
def dropKnownSpec : ChangeSpec := { name := "dropKnown", fn := fun _ => fun
  | [d] => { results := [.lit (.bool true)], args := [d] }
  | _ => none }
def dropKnownRow : OpenClaim := { program := "ytoilmnplocfipaa", sum := "cd3c215063f69f991238a06ac4c6ceb2614ddaa6e7099a1766acb4b7f510dc9e", func := "buttery/butterylaw21.DropKnown", spec := "dropKnown", inPlace := ["internal/bytealg.Compare"], unfollowed := true, recurses := true, apart := false }
def DropKnownSaid : Prop := dropKnownRow.holds Try.pinned (OpenSpec.ofChange dropKnownSpec)

/-- ITS FALSE NEIGHBOUR: 'it returns false'. Refute it at one input. -/
def dropKnownWrong : ChangeSpec := { name := "dropKnown", fn := fun _ => fun
  | [d] => { results := [.lit (.bool false)], args := [d] }
  | _ => none }
def DropKnownWrongFalsely : Prop := dropKnownRow.holds Try.pinned (OpenSpec.ofChange dropKnownWrong)

/-- 'butterylaw9.SkipSorts': WHATEVER THE INPUT: true; the input reads as it did. -/
def skipSortsSpec : ChangeSpec := { name := "skipSorts", fn := fun _ => fun
  | [d1, d2, d3] => { results := [.lit (.bool true)], args := [d1, d2, d3] }
  | _ => none }
def skipSortsRow : OpenClaim := { program := "ytoilmnplocfipaa", sum := "cd3c215063f69f991238a06ac4c6ceb2614ddaa6e7099a1766acb4b7f510dc9e", func := "buttery/butterylaw9.SkipSorts", spec := "skipSorts", inPlace := ["internal/bytealg.Compare"], apart := false }
def SkipSortsSaid : Prop := skipSortsRow.holds Try.pinned (OpenSpec.ofChange skipSortsSpec)

/-- ITS FALSE NEIGHBOUR: 'it returns false'. Refute it at one input. -/
def skipSortsWrong : ChangeSpec := { name := "skipSorts", fn := fun _ => fun
  | [d1, d2, d3] => { results := [.lit (.bool false)], args := [d1, d2, d3] }
  | _ => none }
def SkipSortsWrongFalsely : Prop := skipSortsRow.holds Try.pinned (OpenSpec.ofChange skipSortsWrong)

/-- 'butterylaw21.DropKeeps': WHATEVER THE INPUT: true; the input reads as it did. -/
def dropKeepsSpec : ChangeSpec := { name := "dropKeeps", fn := fun _ => fun
  | [d1, d2, d3, d4] => { results := [.lit (.bool true)], args := [d1, d2, d3, d4] }
  | _ => none }
def dropKeepsRow : OpenClaim := { program := "ytoilmnplocfipaa", sum := "cd3c215063f69f991238a06ac4c6ceb2614ddaa6e7099a1766acb4b7f510dc9e", func := "buttery/butterylaw21.DropKeeps", spec := "dropKeeps", inPlace := ["internal/bytealg.Compare"], unfollowed := true, recurses := true, apart := false }
def DropKeepsSaid : Prop := dropKeepsRow.holds Try.pinned (OpenSpec.ofChange dropKeepsSpec)

/-- ITS FALSE NEIGHBOUR: 'it returns false'. Refute it at one input. -/
def dropKeepsWrong : ChangeSpec := { name := "dropKeeps", fn := fun _ => fun
  | [d1, d2, d3, d4] => { results := [.lit (.bool false)], args := [d1, d2, d3, d4] }
  | _ => none }
def DropKeepsWrongFalsely : Prop := dropKeepsRow.holds Try.pinned (OpenSpec.ofChange dropKeepsWrong)

/-- 'butterylaw21.DropVisible': WHATEVER THE INPUT: true; the input reads as it did. -/
def dropVisibleSpec : ChangeSpec := { name := "dropVisible", fn := fun _ => fun
  | [d1, d2, d3] => { results := [.lit (.bool true)], args := [d1, d2, d3] }
  | _ => none }
def dropVisibleRow : OpenClaim := { program := "ytoilmnplocfipaa", sum := "cd3c215063f69f991238a06ac4c6ceb2614ddaa6e7099a1766acb4b7f510dc9e", func := "buttery/butterylaw21.DropVisible", spec := "dropVisible", inPlace := ["internal/bytealg.Compare"], unfollowed := true, recurses := true, apart := false }
def DropVisibleSaid : Prop := dropVisibleRow.holds Try.pinned (OpenSpec.ofChange dropVisibleSpec)

/-- ITS FALSE NEIGHBOUR: 'it returns false'. Refute it at one input. -/
def dropVisibleWrong : ChangeSpec := { name := "dropVisible", fn := fun _ => fun
  | [d1, d2, d3] => { results := [.lit (.bool false)], args := [d1, d2, d3] }
  | _ => none }
def DropVisibleWrongFalsely : Prop := dropVisibleRow.holds Try.pinned (OpenSpec.ofChange dropVisibleWrong)

/-- 'butterylaw9.SkipNewest': WHATEVER THE INPUT: true; the input reads as it did. -/
def skipNewestSpec : ChangeSpec := { name := "skipNewest", fn := fun _ => fun
  | [d1, d2] => { results := [.lit (.bool true)], args := [d1, d2] }
  | _ => none }
def skipNewestRow : OpenClaim := { program := "ytoilmnplocfipaa", sum := "cd3c215063f69f991238a06ac4c6ceb2614ddaa6e7099a1766acb4b7f510dc9e", func := "buttery/butterylaw9.SkipNewest", spec := "skipNewest", inPlace := ["internal/bytealg.Compare"], apart := false }
def SkipNewestSaid : Prop := skipNewestRow.holds Try.pinned (OpenSpec.ofChange skipNewestSpec)

/-- ITS FALSE NEIGHBOUR: 'it returns false'. Refute it at one input. -/
def skipNewestWrong : ChangeSpec := { name := "skipNewest", fn := fun _ => fun
  | [d1, d2] => { results := [.lit (.bool false)], args := [d1, d2] }
  | _ => none }
def SkipNewestWrongFalsely : Prop := skipNewestRow.holds Try.pinned (OpenSpec.ofChange skipNewestWrong)

/-- 'butterylaw9.SkipSeeks': WHATEVER THE INPUT: true; the input reads as it did. -/
def skipSeeksSpec : ChangeSpec := { name := "skipSeeks", fn := fun _ => fun
  | [d1, d2] => { results := [.lit (.bool true)], args := [d1, d2] }
  | _ => none }
def skipSeeksRow : OpenClaim := { program := "ytoilmnplocfipaa", sum := "cd3c215063f69f991238a06ac4c6ceb2614ddaa6e7099a1766acb4b7f510dc9e", func := "buttery/butterylaw9.SkipSeeks", spec := "skipSeeks", inPlace := ["internal/bytealg.Compare"], apart := false }
def SkipSeeksSaid : Prop := skipSeeksRow.holds Try.pinned (OpenSpec.ofChange skipSeeksSpec)

/-- ITS FALSE NEIGHBOUR: 'it returns false'. Refute it at one input. -/
def skipSeeksWrong : ChangeSpec := { name := "skipSeeks", fn := fun _ => fun
  | [d1, d2] => { results := [.lit (.bool false)], args := [d1, d2] }
  | _ => none }
def SkipSeeksWrongFalsely : Prop := skipSeeksRow.holds Try.pinned (OpenSpec.ofChange skipSeeksWrong)

/-- 'butterylaw9.SkipPlays': WHATEVER THE INPUT: true; the input reads as it did. -/
def skipPlaysSpec : ChangeSpec := { name := "skipPlays", fn := fun _ => fun
  | [d1, d2, d3] => { results := [.lit (.bool true)], args := [d1, d2, d3] }
  | _ => none }
def skipPlaysRow : OpenClaim := { program := "ytoilmnplocfipaa", sum := "cd3c215063f69f991238a06ac4c6ceb2614ddaa6e7099a1766acb4b7f510dc9e", func := "buttery/butterylaw9.SkipPlays", spec := "skipPlays", inPlace := ["internal/bytealg.Compare"], apart := false }
def SkipPlaysSaid : Prop := skipPlaysRow.holds Try.pinned (OpenSpec.ofChange skipPlaysSpec)

/-- ITS FALSE NEIGHBOUR: 'it returns false'. Refute it at one input. -/
def skipPlaysWrong : ChangeSpec := { name := "skipPlays", fn := fun _ => fun
  | [d1, d2, d3] => { results := [.lit (.bool false)], args := [d1, d2, d3] }
  | _ => none }
def SkipPlaysWrongFalsely : Prop := skipPlaysRow.holds Try.pinned (OpenSpec.ofChange skipPlaysWrong)

/- THE SECOND FORM. 'bulk': how many values and letters a reading holds, each counted each time it is reached (what is shared counts as often as it is met; a slice's spare places count too). A statement '..UptoSaid' is the law's where the arguments, and the package variables that the reading takes, are together of bulk at most 1048576: NARROWER than '..Said'. Prove '..Said' where nothing that the law and all that it calls make is longer than what came in: it says more and counts as full. Else prove '..UptoSaid'. A law counts once. -/
mutual
def uptoBulk {H : Type} : DataW H → Nat
  | .lit (.string bytes) => bytes.length + 1
  | .lit _ => 1
  | .nil => 1
  | .ptr d => uptoBulk d + 1
  | .slice elems spare => uptoBulkAll elems + uptoBulkAll spare + 1
  | .agg parts => uptoBulkAll parts + 1
  | .iface _ d => uptoBulk d + 1
  | .map entries => uptoBulkEntries entries + 1
  | .held _ => 1
def uptoBulkAll {H : Type} : List (DataW H) → Nat
  | [] => 0
  | d :: r => uptoBulk d + uptoBulkAll r
def uptoBulkEntries {H : Type} : List (Lit × DataW H) → Nat
  | [] => 0
  | x :: r => uptoBulkEntry x + uptoBulkEntries r
def uptoBulkEntry {H : Type} : Lit × DataW H → Nat
  | (.string bytes, d) => bytes.length + uptoBulk d + 1
  | (_, d) => uptoBulk d + 1
 end
def uptoSmall : (H : Type) → List (DataW H) → Bool := fun _ ds => decide (uptoBulkAll ds ≤ 1048576)
def OpenSpec.upto (s : _root_.Go.ChangeSpec) : _root_.Go.OpenSpec := { _root_.Go.OpenSpec.ofChange s with cond := some uptoSmall }

/-- 'butterylaw21.DropLeast', WHERE WHAT IT READS IS OF BULK AT MOST 1048576: true; the input reads as it did. -/
def dropLeastUptoRow : OpenClaim := { program := "ytoilmnplocfipaa", sum := "cd3c215063f69f991238a06ac4c6ceb2614ddaa6e7099a1766acb4b7f510dc9e", func := "buttery/butterylaw21.DropLeast", spec := "dropLeast", inPlace := ["internal/bytealg.Compare"], unfollowed := true, recurses := true, apart := false, narrowed := true }
def DropLeastUptoSaid : Prop := dropLeastUptoRow.holds Try.pinned (OpenSpec.upto dropLeastSpec)

/-- 'butterylaw21.DropAgain', WHERE WHAT IT READS IS OF BULK AT MOST 1048576: true; the input reads as it did. -/
def dropAgainUptoRow : OpenClaim := { program := "ytoilmnplocfipaa", sum := "cd3c215063f69f991238a06ac4c6ceb2614ddaa6e7099a1766acb4b7f510dc9e", func := "buttery/butterylaw21.DropAgain", spec := "dropAgain", inPlace := ["internal/bytealg.Compare"], unfollowed := true, recurses := true, apart := false, narrowed := true }
def DropAgainUptoSaid : Prop := dropAgainUptoRow.holds Try.pinned (OpenSpec.upto dropAgainSpec)

/-- 'butterylaw21.DropKnown', WHERE WHAT IT READS IS OF BULK AT MOST 1048576: true; the input reads as it did. -/
def dropKnownUptoRow : OpenClaim := { program := "ytoilmnplocfipaa", sum := "cd3c215063f69f991238a06ac4c6ceb2614ddaa6e7099a1766acb4b7f510dc9e", func := "buttery/butterylaw21.DropKnown", spec := "dropKnown", inPlace := ["internal/bytealg.Compare"], unfollowed := true, recurses := true, apart := false, narrowed := true }
def DropKnownUptoSaid : Prop := dropKnownUptoRow.holds Try.pinned (OpenSpec.upto dropKnownSpec)

/-- 'butterylaw9.SkipSorts', WHERE WHAT IT READS IS OF BULK AT MOST 1048576: true; the input reads as it did. -/
def skipSortsUptoRow : OpenClaim := { program := "ytoilmnplocfipaa", sum := "cd3c215063f69f991238a06ac4c6ceb2614ddaa6e7099a1766acb4b7f510dc9e", func := "buttery/butterylaw9.SkipSorts", spec := "skipSorts", inPlace := ["internal/bytealg.Compare"], apart := false, narrowed := true }
def SkipSortsUptoSaid : Prop := skipSortsUptoRow.holds Try.pinned (OpenSpec.upto skipSortsSpec)

/-- 'butterylaw21.DropKeeps', WHERE WHAT IT READS IS OF BULK AT MOST 1048576: true; the input reads as it did. -/
def dropKeepsUptoRow : OpenClaim := { program := "ytoilmnplocfipaa", sum := "cd3c215063f69f991238a06ac4c6ceb2614ddaa6e7099a1766acb4b7f510dc9e", func := "buttery/butterylaw21.DropKeeps", spec := "dropKeeps", inPlace := ["internal/bytealg.Compare"], unfollowed := true, recurses := true, apart := false, narrowed := true }
def DropKeepsUptoSaid : Prop := dropKeepsUptoRow.holds Try.pinned (OpenSpec.upto dropKeepsSpec)

/-- 'butterylaw21.DropVisible', WHERE WHAT IT READS IS OF BULK AT MOST 1048576: true; the input reads as it did. -/
def dropVisibleUptoRow : OpenClaim := { program := "ytoilmnplocfipaa", sum := "cd3c215063f69f991238a06ac4c6ceb2614ddaa6e7099a1766acb4b7f510dc9e", func := "buttery/butterylaw21.DropVisible", spec := "dropVisible", inPlace := ["internal/bytealg.Compare"], unfollowed := true, recurses := true, apart := false, narrowed := true }
def DropVisibleUptoSaid : Prop := dropVisibleUptoRow.holds Try.pinned (OpenSpec.upto dropVisibleSpec)

/-- 'butterylaw9.SkipNewest', WHERE WHAT IT READS IS OF BULK AT MOST 1048576: true; the input reads as it did. -/
def skipNewestUptoRow : OpenClaim := { program := "ytoilmnplocfipaa", sum := "cd3c215063f69f991238a06ac4c6ceb2614ddaa6e7099a1766acb4b7f510dc9e", func := "buttery/butterylaw9.SkipNewest", spec := "skipNewest", inPlace := ["internal/bytealg.Compare"], apart := false, narrowed := true }
def SkipNewestUptoSaid : Prop := skipNewestUptoRow.holds Try.pinned (OpenSpec.upto skipNewestSpec)

/-- 'butterylaw9.SkipSeeks', WHERE WHAT IT READS IS OF BULK AT MOST 1048576: true; the input reads as it did. -/
def skipSeeksUptoRow : OpenClaim := { program := "ytoilmnplocfipaa", sum := "cd3c215063f69f991238a06ac4c6ceb2614ddaa6e7099a1766acb4b7f510dc9e", func := "buttery/butterylaw9.SkipSeeks", spec := "skipSeeks", inPlace := ["internal/bytealg.Compare"], apart := false, narrowed := true }
def SkipSeeksUptoSaid : Prop := skipSeeksUptoRow.holds Try.pinned (OpenSpec.upto skipSeeksSpec)

/-- 'butterylaw9.SkipPlays', WHERE WHAT IT READS IS OF BULK AT MOST 1048576: true; the input reads as it did. -/
def skipPlaysUptoRow : OpenClaim := { program := "ytoilmnplocfipaa", sum := "cd3c215063f69f991238a06ac4c6ceb2614ddaa6e7099a1766acb4b7f510dc9e", func := "buttery/butterylaw9.SkipPlays", spec := "skipPlays", inPlace := ["internal/bytealg.Compare"], apart := false, narrowed := true }
def SkipPlaysUptoSaid : Prop := skipPlaysUptoRow.holds Try.pinned (OpenSpec.upto skipPlaysSpec)

end Rows
end Go.Proofs.Ytoilmnplocfipaa
