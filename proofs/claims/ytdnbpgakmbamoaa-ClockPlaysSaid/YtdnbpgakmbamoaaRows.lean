/-
  No cell of these rows narrows 'for every input' (looked for: loops, veiled, ifaces, maps, wideKeys, modest, calm, conditions, laid).
  DERIVED. THE GIVEN ROWS OF THIS SEAT. 11 by the template 'for every input the law returns true; each argument reads behind the call as it read before'; 0 by the template 'total and deterministic' (their statements: YtdnbpgakmbamoaaTotals.lean).
  GIVEN WITH THE SEED: the statements are not yours to turn. If you find one false, say at which input.
  Laid BY PROGRAM, IN A SANDBOX (cutbox-rows.mjs): the forced cells as the released guide's own fill.sh prints them over the translation 215dd625a21be90a… (all of the seat's roots in one cut). By AI agents, Wed Nov 11 2026. No macro, syntax, notation, axiom, sorry.
-/
import Derived.Test.YtdnbpgakmbamoaaChecked
import GoSem.Claim
import GoSem.ClaimJoined
import GoSem.ClaimMapViews
import Derived.JoinedTies
import Derived.KernelRfl
namespace Go.Proofs.Ytdnbpgakmbamoaa
/- THE CELL 'sum', in the pinned program and in every row, IS THE sha256 OF THE DUMP (.gsa) THAT YtdnbpgakmbamoaaProg.lean LOADS. Nothing in Lean hashes anything: it is a label: what it is worth is what the hold of that sum in a sandbox is worth. -/
noncomputable def Try.pinned : Pinned := { name := "ytdnbpgakmbamoaa", sum := "215dd625a21be90a1ec915a39579189de8293ba64d517334fea25d9cccd6ae66", checked := Try.checked }
namespace Rows
def none {H : Type} : Left H := { results := [], args := [] }

/-- 'butterylaw10.BuffersRow': WHATEVER THE INPUT: true; the input reads as it did. -/
def buffersRowSpec : ChangeSpec := { name := "buffersRow", fn := fun _ => fun
  | [d1, d2] => { results := [.lit (.bool true)], args := [d1, d2] }
  | _ => none }
def buffersRowRow : OpenClaim := { program := "ytdnbpgakmbamoaa", sum := "215dd625a21be90a1ec915a39579189de8293ba64d517334fea25d9cccd6ae66", func := "buttery/butterylaw10.BuffersRow", spec := "buffersRow", apart := false }
def BuffersRowSaid : Prop := buffersRowRow.holds Try.pinned (OpenSpec.ofChange buffersRowSpec)

/-- ITS FALSE NEIGHBOUR: 'it returns false'. Refute it at one input. -/
def buffersRowWrong : ChangeSpec := { name := "buffersRow", fn := fun _ => fun
  | [d1, d2] => { results := [.lit (.bool false)], args := [d1, d2] }
  | _ => none }
def BuffersRowWrongFalsely : Prop := buffersRowRow.holds Try.pinned (OpenSpec.ofChange buffersRowWrong)

/-- 'butterylaw16.EditLimits': WHATEVER THE INPUT: true; the input reads as it did. -/
def editLimitsSpec : ChangeSpec := { name := "editLimits", fn := fun _ => fun
  | [d1, d2] => { results := [.lit (.bool true)], args := [d1, d2] }
  | _ => none }
def editLimitsRow : OpenClaim := { program := "ytdnbpgakmbamoaa", sum := "215dd625a21be90a1ec915a39579189de8293ba64d517334fea25d9cccd6ae66", func := "buttery/butterylaw16.EditLimits", spec := "editLimits", inPlace := ["internal/bytealg.Compare"], apart := false }
def EditLimitsSaid : Prop := editLimitsRow.holds Try.pinned (OpenSpec.ofChange editLimitsSpec)

/-- ITS FALSE NEIGHBOUR: 'it returns false'. Refute it at one input. -/
def editLimitsWrong : ChangeSpec := { name := "editLimits", fn := fun _ => fun
  | [d1, d2] => { results := [.lit (.bool false)], args := [d1, d2] }
  | _ => none }
def EditLimitsWrongFalsely : Prop := editLimitsRow.holds Try.pinned (OpenSpec.ofChange editLimitsWrong)

/-- 'butterylaw10.BuffersPlays': WHATEVER THE INPUT: true; the input reads as it did. -/
def buffersPlaysSpec : ChangeSpec := { name := "buffersPlays", fn := fun _ => fun
  | [d1, d2, d3] => { results := [.lit (.bool true)], args := [d1, d2, d3] }
  | _ => none }
def buffersPlaysRow : OpenClaim := { program := "ytdnbpgakmbamoaa", sum := "215dd625a21be90a1ec915a39579189de8293ba64d517334fea25d9cccd6ae66", func := "buttery/butterylaw10.BuffersPlays", spec := "buffersPlays", apart := false }
def BuffersPlaysSaid : Prop := buffersPlaysRow.holds Try.pinned (OpenSpec.ofChange buffersPlaysSpec)

/-- ITS FALSE NEIGHBOUR: 'it returns false'. Refute it at one input. -/
def buffersPlaysWrong : ChangeSpec := { name := "buffersPlays", fn := fun _ => fun
  | [d1, d2, d3] => { results := [.lit (.bool false)], args := [d1, d2, d3] }
  | _ => none }
def BuffersPlaysWrongFalsely : Prop := buffersPlaysRow.holds Try.pinned (OpenSpec.ofChange buffersPlaysWrong)

/-- 'butterylaw10.BuffersBudget': WHATEVER THE INPUT: true; the input reads as it did. -/
def buffersBudgetSpec : ChangeSpec := { name := "buffersBudget", fn := fun _ => fun
  | [d1, d2, d3] => { results := [.lit (.bool true)], args := [d1, d2, d3] }
  | _ => none }
def buffersBudgetRow : OpenClaim := { program := "ytdnbpgakmbamoaa", sum := "215dd625a21be90a1ec915a39579189de8293ba64d517334fea25d9cccd6ae66", func := "buttery/butterylaw10.BuffersBudget", spec := "buffersBudget", apart := false }
def BuffersBudgetSaid : Prop := buffersBudgetRow.holds Try.pinned (OpenSpec.ofChange buffersBudgetSpec)

/-- ITS FALSE NEIGHBOUR: 'it returns false'. Refute it at one input. -/
def buffersBudgetWrong : ChangeSpec := { name := "buffersBudget", fn := fun _ => fun
  | [d1, d2, d3] => { results := [.lit (.bool false)], args := [d1, d2, d3] }
  | _ => none }
def BuffersBudgetWrongFalsely : Prop := buffersBudgetRow.holds Try.pinned (OpenSpec.ofChange buffersBudgetWrong)

/-- 'butterylaw14.ClockTurns': WHATEVER THE INPUT: true; the input reads as it did. -/
def clockTurnsSpec : ChangeSpec := { name := "clockTurns", fn := fun _ => fun
  | [d1, d2] => { results := [.lit (.bool true)], args := [d1, d2] }
  | _ => none }
def clockTurnsRow : OpenClaim := { program := "ytdnbpgakmbamoaa", sum := "215dd625a21be90a1ec915a39579189de8293ba64d517334fea25d9cccd6ae66", func := "buttery/butterylaw14.ClockTurns", spec := "clockTurns", apart := false }
def ClockTurnsSaid : Prop := clockTurnsRow.holds Try.pinned (OpenSpec.ofChange clockTurnsSpec)

/-- ITS FALSE NEIGHBOUR: 'it returns false'. Refute it at one input. -/
def clockTurnsWrong : ChangeSpec := { name := "clockTurns", fn := fun _ => fun
  | [d1, d2] => { results := [.lit (.bool false)], args := [d1, d2] }
  | _ => none }
def ClockTurnsWrongFalsely : Prop := clockTurnsRow.holds Try.pinned (OpenSpec.ofChange clockTurnsWrong)

/-- 'butterylaw14.ClockRoom': WHATEVER THE INPUT: true; the input reads as it did. -/
def clockRoomSpec : ChangeSpec := { name := "clockRoom", fn := fun _ => fun
  | [d1, d2] => { results := [.lit (.bool true)], args := [d1, d2] }
  | _ => none }
def clockRoomRow : OpenClaim := { program := "ytdnbpgakmbamoaa", sum := "215dd625a21be90a1ec915a39579189de8293ba64d517334fea25d9cccd6ae66", func := "buttery/butterylaw14.ClockRoom", spec := "clockRoom", apart := false }
def ClockRoomSaid : Prop := clockRoomRow.holds Try.pinned (OpenSpec.ofChange clockRoomSpec)

/-- ITS FALSE NEIGHBOUR: 'it returns false'. Refute it at one input. -/
def clockRoomWrong : ChangeSpec := { name := "clockRoom", fn := fun _ => fun
  | [d1, d2] => { results := [.lit (.bool false)], args := [d1, d2] }
  | _ => none }
def ClockRoomWrongFalsely : Prop := clockRoomRow.holds Try.pinned (OpenSpec.ofChange clockRoomWrong)

/-- 'butterylaw14.ClockWhole': WHATEVER THE INPUT: true; the input reads as it did. -/
def clockWholeSpec : ChangeSpec := { name := "clockWhole", fn := fun _ => fun
  | [d1, d2] => { results := [.lit (.bool true)], args := [d1, d2] }
  | _ => none }
def clockWholeRow : OpenClaim := { program := "ytdnbpgakmbamoaa", sum := "215dd625a21be90a1ec915a39579189de8293ba64d517334fea25d9cccd6ae66", func := "buttery/butterylaw14.ClockWhole", spec := "clockWhole", apart := false }
def ClockWholeSaid : Prop := clockWholeRow.holds Try.pinned (OpenSpec.ofChange clockWholeSpec)

/-- ITS FALSE NEIGHBOUR: 'it returns false'. Refute it at one input. -/
def clockWholeWrong : ChangeSpec := { name := "clockWhole", fn := fun _ => fun
  | [d1, d2] => { results := [.lit (.bool false)], args := [d1, d2] }
  | _ => none }
def ClockWholeWrongFalsely : Prop := clockWholeRow.holds Try.pinned (OpenSpec.ofChange clockWholeWrong)

/-- 'butterylaw14.ClockPlays': WHATEVER THE INPUT: true; the input reads as it did. -/
def clockPlaysSpec : ChangeSpec := { name := "clockPlays", fn := fun _ => fun
  | [d1, d2] => { results := [.lit (.bool true)], args := [d1, d2] }
  | _ => none }
def clockPlaysRow : OpenClaim := { program := "ytdnbpgakmbamoaa", sum := "215dd625a21be90a1ec915a39579189de8293ba64d517334fea25d9cccd6ae66", func := "buttery/butterylaw14.ClockPlays", spec := "clockPlays", apart := false }
def ClockPlaysSaid : Prop := clockPlaysRow.holds Try.pinned (OpenSpec.ofChange clockPlaysSpec)

/-- ITS FALSE NEIGHBOUR: 'it returns false'. Refute it at one input. -/
def clockPlaysWrong : ChangeSpec := { name := "clockPlays", fn := fun _ => fun
  | [d1, d2] => { results := [.lit (.bool false)], args := [d1, d2] }
  | _ => none }
def ClockPlaysWrongFalsely : Prop := clockPlaysRow.holds Try.pinned (OpenSpec.ofChange clockPlaysWrong)

/-- 'butterylaw16.EditBytes': WHATEVER THE INPUT: true; the input reads as it did. -/
def editBytesSpec : ChangeSpec := { name := "editBytes", fn := fun _ => fun
  | [d] => { results := [.lit (.bool true)], args := [d] }
  | _ => none }
def editBytesRow : OpenClaim := { program := "ytdnbpgakmbamoaa", sum := "215dd625a21be90a1ec915a39579189de8293ba64d517334fea25d9cccd6ae66", func := "buttery/butterylaw16.EditBytes", spec := "editBytes", inPlace := ["internal/bytealg.Compare"], apart := false }
def EditBytesSaid : Prop := editBytesRow.holds Try.pinned (OpenSpec.ofChange editBytesSpec)

/-- ITS FALSE NEIGHBOUR: 'it returns false'. Refute it at one input. -/
def editBytesWrong : ChangeSpec := { name := "editBytes", fn := fun _ => fun
  | [d] => { results := [.lit (.bool false)], args := [d] }
  | _ => none }
def EditBytesWrongFalsely : Prop := editBytesRow.holds Try.pinned (OpenSpec.ofChange editBytesWrong)

/-- 'butterylaw16.EditReads': WHATEVER THE INPUT: true; the input reads as it did. -/
def editReadsSpec : ChangeSpec := { name := "editReads", fn := fun _ => fun
  | [d] => { results := [.lit (.bool true)], args := [d] }
  | _ => none }
def editReadsRow : OpenClaim := { program := "ytdnbpgakmbamoaa", sum := "215dd625a21be90a1ec915a39579189de8293ba64d517334fea25d9cccd6ae66", func := "buttery/butterylaw16.EditReads", spec := "editReads", inPlace := ["internal/bytealg.Compare"], apart := false }
def EditReadsSaid : Prop := editReadsRow.holds Try.pinned (OpenSpec.ofChange editReadsSpec)

/-- ITS FALSE NEIGHBOUR: 'it returns false'. Refute it at one input. -/
def editReadsWrong : ChangeSpec := { name := "editReads", fn := fun _ => fun
  | [d] => { results := [.lit (.bool false)], args := [d] }
  | _ => none }
def EditReadsWrongFalsely : Prop := editReadsRow.holds Try.pinned (OpenSpec.ofChange editReadsWrong)

/-- 'butterylaw16.EditTorn': WHATEVER THE INPUT: true; the input reads as it did. -/
def editTornSpec : ChangeSpec := { name := "editTorn", fn := fun _ => fun
  | [d1, d2, d3] => { results := [.lit (.bool true)], args := [d1, d2, d3] }
  | _ => none }
def editTornRow : OpenClaim := { program := "ytdnbpgakmbamoaa", sum := "215dd625a21be90a1ec915a39579189de8293ba64d517334fea25d9cccd6ae66", func := "buttery/butterylaw16.EditTorn", spec := "editTorn", inPlace := ["internal/bytealg.Compare"], apart := false }
def EditTornSaid : Prop := editTornRow.holds Try.pinned (OpenSpec.ofChange editTornSpec)

/-- ITS FALSE NEIGHBOUR: 'it returns false'. Refute it at one input. -/
def editTornWrong : ChangeSpec := { name := "editTorn", fn := fun _ => fun
  | [d1, d2, d3] => { results := [.lit (.bool false)], args := [d1, d2, d3] }
  | _ => none }
def EditTornWrongFalsely : Prop := editTornRow.holds Try.pinned (OpenSpec.ofChange editTornWrong)

/- THE SECOND FORM. 'bulk': how many values and letters a reading holds, each counted each time it is reached (what is shared counts as often as it is met; a slice's spare places count too). A statement '..UptoSaid' is the law's where the arguments, and the package variables that the reading takes, are together of bulk at most 1048576: NARROWER than '..Said'. Prove '..Said' where nothing that the law and all that it calls make is longer than what came in: it says more and counts as full. Else prove '..UptoSaid'. A law counts once. -/
mutual
def uptoBulk {H : Type} : DataW H → Nat
  | .lit (.string bytes) => bytes.length + 1
  | .lit _ => 1
  | .nil => 1
  | .ptr d => uptoBulk d + 1
  | .slice elems spare => uptoBulkAll elems + uptoBulkAll spare + 1
  | .agg parts => uptoBulkAll parts + 1
  | .iface _ d => uptoBulk d + 1
  | .map entries => uptoBulkEntries entries + 1
  | .held _ => 1
def uptoBulkAll {H : Type} : List (DataW H) → Nat
  | [] => 0
  | d :: r => uptoBulk d + uptoBulkAll r
def uptoBulkEntries {H : Type} : List (Lit × DataW H) → Nat
  | [] => 0
  | x :: r => uptoBulkEntry x + uptoBulkEntries r
def uptoBulkEntry {H : Type} : Lit × DataW H → Nat
  | (.string bytes, d) => bytes.length + uptoBulk d + 1
  | (_, d) => uptoBulk d + 1
 end
def uptoSmall : (H : Type) → List (DataW H) → Bool := fun _ ds => decide (uptoBulkAll ds ≤ 1048576)
def OpenSpec.upto (s : _root_.Go.ChangeSpec) : _root_.Go.OpenSpec := { _root_.Go.OpenSpec.ofChange s with cond := some uptoSmall }

/-- 'butterylaw10.BuffersRow', WHERE WHAT IT READS IS OF BULK AT MOST 1048576: true; the input reads as it did. -/
def buffersRowUptoRow : OpenClaim := { program := "ytdnbpgakmbamoaa", sum := "215dd625a21be90a1ec915a39579189de8293ba64d517334fea25d9cccd6ae66", func := "buttery/butterylaw10.BuffersRow", spec := "buffersRow", apart := false, narrowed := true }
def BuffersRowUptoSaid : Prop := buffersRowUptoRow.holds Try.pinned (OpenSpec.upto buffersRowSpec)

/-- 'butterylaw16.EditLimits', WHERE WHAT IT READS IS OF BULK AT MOST 1048576: true; the input reads as it did. -/
def editLimitsUptoRow : OpenClaim := { program := "ytdnbpgakmbamoaa", sum := "215dd625a21be90a1ec915a39579189de8293ba64d517334fea25d9cccd6ae66", func := "buttery/butterylaw16.EditLimits", spec := "editLimits", inPlace := ["internal/bytealg.Compare"], apart := false, narrowed := true }
def EditLimitsUptoSaid : Prop := editLimitsUptoRow.holds Try.pinned (OpenSpec.upto editLimitsSpec)

/-- 'butterylaw10.BuffersPlays', WHERE WHAT IT READS IS OF BULK AT MOST 1048576: true; the input reads as it did. -/
def buffersPlaysUptoRow : OpenClaim := { program := "ytdnbpgakmbamoaa", sum := "215dd625a21be90a1ec915a39579189de8293ba64d517334fea25d9cccd6ae66", func := "buttery/butterylaw10.BuffersPlays", spec := "buffersPlays", apart := false, narrowed := true }
def BuffersPlaysUptoSaid : Prop := buffersPlaysUptoRow.holds Try.pinned (OpenSpec.upto buffersPlaysSpec)

/-- 'butterylaw10.BuffersBudget', WHERE WHAT IT READS IS OF BULK AT MOST 1048576: true; the input reads as it did. -/
def buffersBudgetUptoRow : OpenClaim := { program := "ytdnbpgakmbamoaa", sum := "215dd625a21be90a1ec915a39579189de8293ba64d517334fea25d9cccd6ae66", func := "buttery/butterylaw10.BuffersBudget", spec := "buffersBudget", apart := false, narrowed := true }
def BuffersBudgetUptoSaid : Prop := buffersBudgetUptoRow.holds Try.pinned (OpenSpec.upto buffersBudgetSpec)

/-- 'butterylaw14.ClockTurns', WHERE WHAT IT READS IS OF BULK AT MOST 1048576: true; the input reads as it did. -/
def clockTurnsUptoRow : OpenClaim := { program := "ytdnbpgakmbamoaa", sum := "215dd625a21be90a1ec915a39579189de8293ba64d517334fea25d9cccd6ae66", func := "buttery/butterylaw14.ClockTurns", spec := "clockTurns", apart := false, narrowed := true }
def ClockTurnsUptoSaid : Prop := clockTurnsUptoRow.holds Try.pinned (OpenSpec.upto clockTurnsSpec)

/-- 'butterylaw14.ClockRoom', WHERE WHAT IT READS IS OF BULK AT MOST 1048576: true; the input reads as it did. -/
def clockRoomUptoRow : OpenClaim := { program := "ytdnbpgakmbamoaa", sum := "215dd625a21be90a1ec915a39579189de8293ba64d517334fea25d9cccd6ae66", func := "buttery/butterylaw14.ClockRoom", spec := "clockRoom", apart := false, narrowed := true }
def ClockRoomUptoSaid : Prop := clockRoomUptoRow.holds Try.pinned (OpenSpec.upto clockRoomSpec)

/-- 'butterylaw14.ClockWhole', WHERE WHAT IT READS IS OF BULK AT MOST 1048576: true; the input reads as it did. -/
def clockWholeUptoRow : OpenClaim := { program := "ytdnbpgakmbamoaa", sum := "215dd625a21be90a1ec915a39579189de8293ba64d517334fea25d9cccd6ae66", func := "buttery/butterylaw14.ClockWhole", spec := "clockWhole", apart := false, narrowed := true }
def ClockWholeUptoSaid : Prop := clockWholeUptoRow.holds Try.pinned (OpenSpec.upto clockWholeSpec)

/-- 'butterylaw14.ClockPlays', WHERE WHAT IT READS IS OF BULK AT MOST 1048576: true; the input reads as it did. -/
def clockPlaysUptoRow : OpenClaim := { program := "ytdnbpgakmbamoaa", sum := "215dd625a21be90a1ec915a39579189de8293ba64d517334fea25d9cccd6ae66", func := "buttery/butterylaw14.ClockPlays", spec := "clockPlays", apart := false, narrowed := true }
def ClockPlaysUptoSaid : Prop := clockPlaysUptoRow.holds Try.pinned (OpenSpec.upto clockPlaysSpec)

/-- 'butterylaw16.EditBytes', WHERE WHAT IT READS IS OF BULK AT MOST 1048576: true; the input reads as it did. -/
def editBytesUptoRow : OpenClaim := { program := "ytdnbpgakmbamoaa", sum := "215dd625a21be90a1ec915a39579189de8293ba64d517334fea25d9cccd6ae66", func := "buttery/butterylaw16.EditBytes", spec := "editBytes", inPlace := ["internal/bytealg.Compare"], apart := false, narrowed := true }
def EditBytesUptoSaid : Prop := editBytesUptoRow.holds Try.pinned (OpenSpec.upto editBytesSpec)

/-- 'butterylaw16.EditReads', WHERE WHAT IT READS IS OF BULK AT MOST 1048576: true; the input reads as it did. -/
def editReadsUptoRow : OpenClaim := { program := "ytdnbpgakmbamoaa", sum := "215dd625a21be90a1ec915a39579189de8293ba64d517334fea25d9cccd6ae66", func := "buttery/butterylaw16.EditReads", spec := "editReads", inPlace := ["internal/bytealg.Compare"], apart := false, narrowed := true }
def EditReadsUptoSaid : Prop := editReadsUptoRow.holds Try.pinned (OpenSpec.upto editReadsSpec)

/-- 'butterylaw16.EditTorn', WHERE WHAT IT READS IS OF BULK AT MOST 1048576: true; the input reads as it did. -/
def editTornUptoRow : OpenClaim := { program := "ytdnbpgakmbamoaa", sum := "215dd625a21be90a1ec915a39579189de8293ba64d517334fea25d9cccd6ae66", func := "buttery/butterylaw16.EditTorn", spec := "editTorn", inPlace := ["internal/bytealg.Compare"], apart := false, narrowed := true }
def EditTornUptoSaid : Prop := editTornUptoRow.holds Try.pinned (OpenSpec.upto editTornSpec)

end Rows
end Go.Proofs.Ytdnbpgakmbamoaa
