/-
  No cell of these rows narrows 'for every input' (looked for: loops, veiled, ifaces, maps, wideKeys, modest, calm, conditions, laid).
  DERIVED. THE GIVEN ROWS OF THIS SEAT. 10 by the template 'for every input the law returns true; each argument reads behind the call as it read before'; 0 by the template 'total and deterministic' (their statements: YtkepocdeegncgaaTotals.lean).
  GIVEN WITH THE SEED: the statements are not yours to turn. If you find one false, say at which input.
  Laid BY PROGRAM, IN A SANDBOX (cutbox-rows.mjs): the forced cells as the released guide's own fill.sh prints them over the translation f411647101ceaf6e… (all of the seat's roots in one cut). By AI agents, Wed Nov 11 2026. No macro, syntax, notation, axiom, sorry.
-/
import Derived.Test.YtkepocdeegncgaaChecked
import GoSem.Claim
import GoSem.ClaimJoined
import GoSem.ClaimMapViews
import Derived.JoinedTies
import Derived.KernelRfl
namespace Go.Proofs.Ytkepocdeegncgaa
/- THE CELL 'sum', in the pinned program and in every row, IS THE sha256 OF THE DUMP (.gsa) THAT YtkepocdeegncgaaProg.lean LOADS. Nothing in Lean hashes anything: it is a label: what it is worth is what the hold of that sum in a sandbox is worth. -/
noncomputable def Try.pinned : Pinned := { name := "ytkepocdeegncgaa", sum := "f411647101ceaf6ef114e23ac1ece4b56d2343771fa54d612de2f0cf140f51ca", checked := Try.checked }
namespace Rows
def none {H : Type} : Left H := { results := [], args := [] }

/-- 'butterylaw5.BatchLimits': WHATEVER THE INPUT: true; the input reads as it did. -/
def batchLimitsSpec : ChangeSpec := { name := "batchLimits", fn := fun _ => fun
  | [d1, d2] => { results := [.lit (.bool true)], args := [d1, d2] }
  | _ => none }
def batchLimitsRow : OpenClaim := { program := "ytkepocdeegncgaa", sum := "f411647101ceaf6ef114e23ac1ece4b56d2343771fa54d612de2f0cf140f51ca", func := "buttery/butterylaw5.BatchLimits", spec := "batchLimits", apart := false }
def BatchLimitsSaid : Prop := batchLimitsRow.holds Try.pinned (OpenSpec.ofChange batchLimitsSpec)

/-- ITS FALSE NEIGHBOUR: 'it returns false'. Refute it at one input. -/
def batchLimitsWrong : ChangeSpec := { name := "batchLimits", fn := fun _ => fun
  | [d1, d2] => { results := [.lit (.bool false)], args := [d1, d2] }
  | _ => none }
def BatchLimitsWrongFalsely : Prop := batchLimitsRow.holds Try.pinned (OpenSpec.ofChange batchLimitsWrong)

/-- 'butterylaw5.BatchSizes': WHATEVER THE INPUT: true; the input reads as it did. -/
def batchSizesSpec : ChangeSpec := { name := "batchSizes", fn := fun _ => fun
  | [d1, d2] => { results := [.lit (.bool true)], args := [d1, d2] }
  | _ => none }
def batchSizesRow : OpenClaim := { program := "ytkepocdeegncgaa", sum := "f411647101ceaf6ef114e23ac1ece4b56d2343771fa54d612de2f0cf140f51ca", func := "buttery/butterylaw5.BatchSizes", spec := "batchSizes", apart := false }
def BatchSizesSaid : Prop := batchSizesRow.holds Try.pinned (OpenSpec.ofChange batchSizesSpec)

/-- ITS FALSE NEIGHBOUR: 'it returns false'. Refute it at one input. -/
def batchSizesWrong : ChangeSpec := { name := "batchSizes", fn := fun _ => fun
  | [d1, d2] => { results := [.lit (.bool false)], args := [d1, d2] }
  | _ => none }
def BatchSizesWrongFalsely : Prop := batchSizesRow.holds Try.pinned (OpenSpec.ofChange batchSizesWrong)

/-- 'butterylaw4.IkeyOrders': WHATEVER THE INPUT: true; the input reads as it did. -/
def ikeyOrdersSpec : ChangeSpec := { name := "ikeyOrders", fn := fun _ => fun
  | [d1, d2, d3] => { results := [.lit (.bool true)], args := [d1, d2, d3] }
  | _ => none }
def ikeyOrdersRow : OpenClaim := { program := "ytkepocdeegncgaa", sum := "f411647101ceaf6ef114e23ac1ece4b56d2343771fa54d612de2f0cf140f51ca", func := "buttery/butterylaw4.IkeyOrders", spec := "ikeyOrders", inPlace := ["internal/bytealg.Compare"], apart := false }
def IkeyOrdersSaid : Prop := ikeyOrdersRow.holds Try.pinned (OpenSpec.ofChange ikeyOrdersSpec)

/-- ITS FALSE NEIGHBOUR: 'it returns false'. Refute it at one input. -/
def ikeyOrdersWrong : ChangeSpec := { name := "ikeyOrders", fn := fun _ => fun
  | [d1, d2, d3] => { results := [.lit (.bool false)], args := [d1, d2, d3] }
  | _ => none }
def IkeyOrdersWrongFalsely : Prop := ikeyOrdersRow.holds Try.pinned (OpenSpec.ofChange ikeyOrdersWrong)

/-- 'butterylaw4.IkeyNewest': WHATEVER THE INPUT: true; the input reads as it did. -/
def ikeyNewestSpec : ChangeSpec := { name := "ikeyNewest", fn := fun _ => fun
  | [d1, d2, d3, d4, d5] => { results := [.lit (.bool true)], args := [d1, d2, d3, d4, d5] }
  | _ => none }
def ikeyNewestRow : OpenClaim := { program := "ytkepocdeegncgaa", sum := "f411647101ceaf6ef114e23ac1ece4b56d2343771fa54d612de2f0cf140f51ca", func := "buttery/butterylaw4.IkeyNewest", spec := "ikeyNewest", inPlace := ["internal/bytealg.Compare"], apart := false }
def IkeyNewestSaid : Prop := ikeyNewestRow.holds Try.pinned (OpenSpec.ofChange ikeyNewestSpec)

/-- ITS FALSE NEIGHBOUR: 'it returns false'. Refute it at one input. -/
def ikeyNewestWrong : ChangeSpec := { name := "ikeyNewest", fn := fun _ => fun
  | [d1, d2, d3, d4, d5] => { results := [.lit (.bool false)], args := [d1, d2, d3, d4, d5] }
  | _ => none }
def IkeyNewestWrongFalsely : Prop := ikeyNewestRow.holds Try.pinned (OpenSpec.ofChange ikeyNewestWrong)

/-- 'butterylaw4.IkeyBytesOrder': WHATEVER THE INPUT: true; the input reads as it did. -/
def ikeyBytesOrderSpec : ChangeSpec := { name := "ikeyBytesOrder", fn := fun _ => fun
  | [d1, d2, d3, d4] => { results := [.lit (.bool true)], args := [d1, d2, d3, d4] }
  | _ => none }
def ikeyBytesOrderRow : OpenClaim := { program := "ytkepocdeegncgaa", sum := "f411647101ceaf6ef114e23ac1ece4b56d2343771fa54d612de2f0cf140f51ca", func := "buttery/butterylaw4.IkeyBytesOrder", spec := "ikeyBytesOrder", inPlace := ["internal/bytealg.Compare"], apart := false }
def IkeyBytesOrderSaid : Prop := ikeyBytesOrderRow.holds Try.pinned (OpenSpec.ofChange ikeyBytesOrderSpec)

/-- ITS FALSE NEIGHBOUR: 'it returns false'. Refute it at one input. -/
def ikeyBytesOrderWrong : ChangeSpec := { name := "ikeyBytesOrder", fn := fun _ => fun
  | [d1, d2, d3, d4] => { results := [.lit (.bool false)], args := [d1, d2, d3, d4] }
  | _ => none }
def IkeyBytesOrderWrongFalsely : Prop := ikeyBytesOrderRow.holds Try.pinned (OpenSpec.ofChange ikeyBytesOrderWrong)

/-- 'butterylaw4.IkeyReads': WHATEVER THE INPUT: true; the input reads as it did. -/
def ikeyReadsSpec : ChangeSpec := { name := "ikeyReads", fn := fun _ => fun
  | [d] => { results := [.lit (.bool true)], args := [d] }
  | _ => none }
def ikeyReadsRow : OpenClaim := { program := "ytkepocdeegncgaa", sum := "f411647101ceaf6ef114e23ac1ece4b56d2343771fa54d612de2f0cf140f51ca", func := "buttery/butterylaw4.IkeyReads", spec := "ikeyReads", inPlace := ["internal/bytealg.Compare"], apart := false }
def IkeyReadsSaid : Prop := ikeyReadsRow.holds Try.pinned (OpenSpec.ofChange ikeyReadsSpec)

/-- ITS FALSE NEIGHBOUR: 'it returns false'. Refute it at one input. -/
def ikeyReadsWrong : ChangeSpec := { name := "ikeyReads", fn := fun _ => fun
  | [d] => { results := [.lit (.bool false)], args := [d] }
  | _ => none }
def IkeyReadsWrongFalsely : Prop := ikeyReadsRow.holds Try.pinned (OpenSpec.ofChange ikeyReadsWrong)

/-- 'butterylaw4.IkeyBytes': WHATEVER THE INPUT: true; the input reads as it did. -/
def ikeyBytesSpec : ChangeSpec := { name := "ikeyBytes", fn := fun _ => fun
  | [d] => { results := [.lit (.bool true)], args := [d] }
  | _ => none }
def ikeyBytesRow : OpenClaim := { program := "ytkepocdeegncgaa", sum := "f411647101ceaf6ef114e23ac1ece4b56d2343771fa54d612de2f0cf140f51ca", func := "buttery/butterylaw4.IkeyBytes", spec := "ikeyBytes", inPlace := ["internal/bytealg.Compare"], apart := false }
def IkeyBytesSaid : Prop := ikeyBytesRow.holds Try.pinned (OpenSpec.ofChange ikeyBytesSpec)

/-- ITS FALSE NEIGHBOUR: 'it returns false'. Refute it at one input. -/
def ikeyBytesWrong : ChangeSpec := { name := "ikeyBytes", fn := fun _ => fun
  | [d] => { results := [.lit (.bool false)], args := [d] }
  | _ => none }
def IkeyBytesWrongFalsely : Prop := ikeyBytesRow.holds Try.pinned (OpenSpec.ofChange ikeyBytesWrong)

/-- 'butterylaw5.BatchTorn': WHATEVER THE INPUT: true; the input reads as it did. -/
def batchTornSpec : ChangeSpec := { name := "batchTorn", fn := fun _ => fun
  | [d1, d2, d3] => { results := [.lit (.bool true)], args := [d1, d2, d3] }
  | _ => none }
def batchTornRow : OpenClaim := { program := "ytkepocdeegncgaa", sum := "f411647101ceaf6ef114e23ac1ece4b56d2343771fa54d612de2f0cf140f51ca", func := "buttery/butterylaw5.BatchTorn", spec := "batchTorn", apart := false }
def BatchTornSaid : Prop := batchTornRow.holds Try.pinned (OpenSpec.ofChange batchTornSpec)

/-- ITS FALSE NEIGHBOUR: 'it returns false'. Refute it at one input. -/
def batchTornWrong : ChangeSpec := { name := "batchTorn", fn := fun _ => fun
  | [d1, d2, d3] => { results := [.lit (.bool false)], args := [d1, d2, d3] }
  | _ => none }
def BatchTornWrongFalsely : Prop := batchTornRow.holds Try.pinned (OpenSpec.ofChange batchTornWrong)

/-- 'butterylaw5.BatchBytes': WHATEVER THE INPUT: true; the input reads as it did. -/
def batchBytesSpec : ChangeSpec := { name := "batchBytes", fn := fun _ => fun
  | [d] => { results := [.lit (.bool true)], args := [d] }
  | _ => none }
def batchBytesRow : OpenClaim := { program := "ytkepocdeegncgaa", sum := "f411647101ceaf6ef114e23ac1ece4b56d2343771fa54d612de2f0cf140f51ca", func := "buttery/butterylaw5.BatchBytes", spec := "batchBytes", apart := false }
def BatchBytesSaid : Prop := batchBytesRow.holds Try.pinned (OpenSpec.ofChange batchBytesSpec)

/-- ITS FALSE NEIGHBOUR: 'it returns false'. Refute it at one input. -/
def batchBytesWrong : ChangeSpec := { name := "batchBytes", fn := fun _ => fun
  | [d] => { results := [.lit (.bool false)], args := [d] }
  | _ => none }
def BatchBytesWrongFalsely : Prop := batchBytesRow.holds Try.pinned (OpenSpec.ofChange batchBytesWrong)

/-- 'butterylaw5.BatchReads': WHATEVER THE INPUT: true; the input reads as it did. -/
def batchReadsSpec : ChangeSpec := { name := "batchReads", fn := fun _ => fun
  | [d] => { results := [.lit (.bool true)], args := [d] }
  | _ => none }
def batchReadsRow : OpenClaim := { program := "ytkepocdeegncgaa", sum := "f411647101ceaf6ef114e23ac1ece4b56d2343771fa54d612de2f0cf140f51ca", func := "buttery/butterylaw5.BatchReads", spec := "batchReads", apart := false }
def BatchReadsSaid : Prop := batchReadsRow.holds Try.pinned (OpenSpec.ofChange batchReadsSpec)

/-- ITS FALSE NEIGHBOUR: 'it returns false'. Refute it at one input. -/
def batchReadsWrong : ChangeSpec := { name := "batchReads", fn := fun _ => fun
  | [d] => { results := [.lit (.bool false)], args := [d] }
  | _ => none }
def BatchReadsWrongFalsely : Prop := batchReadsRow.holds Try.pinned (OpenSpec.ofChange batchReadsWrong)

/- THE SECOND FORM. 'bulk': how many values and letters a reading holds, each counted each time it is reached (what is shared counts as often as it is met; a slice's spare places count too). A statement '..UptoSaid' is the law's where the arguments, and the package variables that the reading takes, are together of bulk at most 1048576: NARROWER than '..Said'. Prove '..Said' where nothing that the law and all that it calls make is longer than what came in: it says more and counts as full. Else prove '..UptoSaid'. A law counts once. -/
mutual
def uptoBulk {H : Type} : DataW H → Nat
  | .lit (.string bytes) => bytes.length + 1
  | .lit _ => 1
  | .nil => 1
  | .ptr d => uptoBulk d + 1
  | .slice elems spare => uptoBulkAll elems + uptoBulkAll spare + 1
  | .agg parts => uptoBulkAll parts + 1
  | .iface _ d => uptoBulk d + 1
  | .map entries => uptoBulkEntries entries + 1
  | .held _ => 1
def uptoBulkAll {H : Type} : List (DataW H) → Nat
  | [] => 0
  | d :: r => uptoBulk d + uptoBulkAll r
def uptoBulkEntries {H : Type} : List (Lit × DataW H) → Nat
  | [] => 0
  | x :: r => uptoBulkEntry x + uptoBulkEntries r
def uptoBulkEntry {H : Type} : Lit × DataW H → Nat
  | (.string bytes, d) => bytes.length + uptoBulk d + 1
  | (_, d) => uptoBulk d + 1
 end
def uptoSmall : (H : Type) → List (DataW H) → Bool := fun _ ds => decide (uptoBulkAll ds ≤ 1048576)
def OpenSpec.upto (s : _root_.Go.ChangeSpec) : _root_.Go.OpenSpec := { _root_.Go.OpenSpec.ofChange s with cond := some uptoSmall }

/-- 'butterylaw5.BatchLimits', WHERE WHAT IT READS IS OF BULK AT MOST 1048576: true; the input reads as it did. -/
def batchLimitsUptoRow : OpenClaim := { program := "ytkepocdeegncgaa", sum := "f411647101ceaf6ef114e23ac1ece4b56d2343771fa54d612de2f0cf140f51ca", func := "buttery/butterylaw5.BatchLimits", spec := "batchLimits", apart := false, narrowed := true }
def BatchLimitsUptoSaid : Prop := batchLimitsUptoRow.holds Try.pinned (OpenSpec.upto batchLimitsSpec)

/-- 'butterylaw5.BatchSizes', WHERE WHAT IT READS IS OF BULK AT MOST 1048576: true; the input reads as it did. -/
def batchSizesUptoRow : OpenClaim := { program := "ytkepocdeegncgaa", sum := "f411647101ceaf6ef114e23ac1ece4b56d2343771fa54d612de2f0cf140f51ca", func := "buttery/butterylaw5.BatchSizes", spec := "batchSizes", apart := false, narrowed := true }
def BatchSizesUptoSaid : Prop := batchSizesUptoRow.holds Try.pinned (OpenSpec.upto batchSizesSpec)

/-- 'butterylaw4.IkeyOrders', WHERE WHAT IT READS IS OF BULK AT MOST 1048576: true; the input reads as it did. -/
def ikeyOrdersUptoRow : OpenClaim := { program := "ytkepocdeegncgaa", sum := "f411647101ceaf6ef114e23ac1ece4b56d2343771fa54d612de2f0cf140f51ca", func := "buttery/butterylaw4.IkeyOrders", spec := "ikeyOrders", inPlace := ["internal/bytealg.Compare"], apart := false, narrowed := true }
def IkeyOrdersUptoSaid : Prop := ikeyOrdersUptoRow.holds Try.pinned (OpenSpec.upto ikeyOrdersSpec)

/-- 'butterylaw4.IkeyNewest', WHERE WHAT IT READS IS OF BULK AT MOST 1048576: true; the input reads as it did. -/
def ikeyNewestUptoRow : OpenClaim := { program := "ytkepocdeegncgaa", sum := "f411647101ceaf6ef114e23ac1ece4b56d2343771fa54d612de2f0cf140f51ca", func := "buttery/butterylaw4.IkeyNewest", spec := "ikeyNewest", inPlace := ["internal/bytealg.Compare"], apart := false, narrowed := true }
def IkeyNewestUptoSaid : Prop := ikeyNewestUptoRow.holds Try.pinned (OpenSpec.upto ikeyNewestSpec)

/-- 'butterylaw4.IkeyBytesOrder', WHERE WHAT IT READS IS OF BULK AT MOST 1048576: true; the input reads as it did. -/
def ikeyBytesOrderUptoRow : OpenClaim := { program := "ytkepocdeegncgaa", sum := "f411647101ceaf6ef114e23ac1ece4b56d2343771fa54d612de2f0cf140f51ca", func := "buttery/butterylaw4.IkeyBytesOrder", spec := "ikeyBytesOrder", inPlace := ["internal/bytealg.Compare"], apart := false, narrowed := true }
def IkeyBytesOrderUptoSaid : Prop := ikeyBytesOrderUptoRow.holds Try.pinned (OpenSpec.upto ikeyBytesOrderSpec)

/-- 'butterylaw4.IkeyReads', WHERE WHAT IT READS IS OF BULK AT MOST 1048576: true; the input reads as it did. -/
def ikeyReadsUptoRow : OpenClaim := { program := "ytkepocdeegncgaa", sum := "f411647101ceaf6ef114e23ac1ece4b56d2343771fa54d612de2f0cf140f51ca", func := "buttery/butterylaw4.IkeyReads", spec := "ikeyReads", inPlace := ["internal/bytealg.Compare"], apart := false, narrowed := true }
def IkeyReadsUptoSaid : Prop := ikeyReadsUptoRow.holds Try.pinned (OpenSpec.upto ikeyReadsSpec)

/-- 'butterylaw4.IkeyBytes', WHERE WHAT IT READS IS OF BULK AT MOST 1048576: true; the input reads as it did. -/
def ikeyBytesUptoRow : OpenClaim := { program := "ytkepocdeegncgaa", sum := "f411647101ceaf6ef114e23ac1ece4b56d2343771fa54d612de2f0cf140f51ca", func := "buttery/butterylaw4.IkeyBytes", spec := "ikeyBytes", inPlace := ["internal/bytealg.Compare"], apart := false, narrowed := true }
def IkeyBytesUptoSaid : Prop := ikeyBytesUptoRow.holds Try.pinned (OpenSpec.upto ikeyBytesSpec)

/-- 'butterylaw5.BatchTorn', WHERE WHAT IT READS IS OF BULK AT MOST 1048576: true; the input reads as it did. -/
def batchTornUptoRow : OpenClaim := { program := "ytkepocdeegncgaa", sum := "f411647101ceaf6ef114e23ac1ece4b56d2343771fa54d612de2f0cf140f51ca", func := "buttery/butterylaw5.BatchTorn", spec := "batchTorn", apart := false, narrowed := true }
def BatchTornUptoSaid : Prop := batchTornUptoRow.holds Try.pinned (OpenSpec.upto batchTornSpec)

/-- 'butterylaw5.BatchBytes', WHERE WHAT IT READS IS OF BULK AT MOST 1048576: true; the input reads as it did. -/
def batchBytesUptoRow : OpenClaim := { program := "ytkepocdeegncgaa", sum := "f411647101ceaf6ef114e23ac1ece4b56d2343771fa54d612de2f0cf140f51ca", func := "buttery/butterylaw5.BatchBytes", spec := "batchBytes", apart := false, narrowed := true }
def BatchBytesUptoSaid : Prop := batchBytesUptoRow.holds Try.pinned (OpenSpec.upto batchBytesSpec)

/-- 'butterylaw5.BatchReads', WHERE WHAT IT READS IS OF BULK AT MOST 1048576: true; the input reads as it did. -/
def batchReadsUptoRow : OpenClaim := { program := "ytkepocdeegncgaa", sum := "f411647101ceaf6ef114e23ac1ece4b56d2343771fa54d612de2f0cf140f51ca", func := "buttery/butterylaw5.BatchReads", spec := "batchReads", apart := false, narrowed := true }
def BatchReadsUptoSaid : Prop := batchReadsUptoRow.holds Try.pinned (OpenSpec.upto batchReadsSpec)

end Rows
end Go.Proofs.Ytkepocdeegncgaa
