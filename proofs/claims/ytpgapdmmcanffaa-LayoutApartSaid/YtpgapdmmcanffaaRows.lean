/-
  No cell of these rows narrows 'for every input' (looked for: loops, veiled, ifaces, maps, wideKeys, modest, calm, conditions, laid).
  DERIVED. THE GIVEN ROWS OF THIS SEAT. 8 by the template 'for every input the law returns true; each argument reads behind the call as it read before'; 0 by the template 'total and deterministic' (their statements: YtpgapdmmcanffaaTotals.lean).
  GIVEN WITH THE SEED: the statements are not yours to turn. If you find one false, say at which input.
  Laid BY PROGRAM, IN A SANDBOX (cutbox-rows.mjs): the forced cells as the released guide's own fill.sh prints them over the translation 1c299bbd972c335e… (all of the seat's roots in one cut). By AI agents, Wed Nov 11 2026. No macro, syntax, notation, axiom, sorry.
-/
import Derived.Test.YtpgapdmmcanffaaChecked
import GoSem.Claim
import GoSem.ClaimJoined
import GoSem.ClaimMapViews
import Derived.JoinedTies
import Derived.KernelRfl
namespace Go.Proofs.Ytpgapdmmcanffaa
/- THE CELL 'sum', in the pinned program and in every row, IS THE sha256 OF THE DUMP (.gsa) THAT YtpgapdmmcanffaaProg.lean LOADS. Nothing in Lean hashes anything: it is a label: what it is worth is what the hold of that sum in a sandbox is worth. -/
noncomputable def Try.pinned : Pinned := { name := "ytpgapdmmcanffaa", sum := "1c299bbd972c335e0135ffd8a204262433afca4b945990eb6f80626cc6431b4b", checked := Try.checked }
namespace Rows
def none {H : Type} : Left H := { results := [], args := [] }

/-- 'assartlaw02.LayoutChecks': WHATEVER THE INPUT: true; the input reads as it did. -/
def layoutChecksSpec : ChangeSpec := { name := "layoutChecks", fn := fun _ => fun
  | [d] => { results := [.lit (.bool true)], args := [d] }
  | _ => none }
def layoutChecksRow : OpenClaim := { program := "ytpgapdmmcanffaa", sum := "1c299bbd972c335e0135ffd8a204262433afca4b945990eb6f80626cc6431b4b", func := "assart/assartlaw02.LayoutChecks", spec := "layoutChecks", apart := false }
def LayoutChecksSaid : Prop := layoutChecksRow.holds Try.pinned (OpenSpec.ofChange layoutChecksSpec)

/-- ITS FALSE NEIGHBOUR: 'it returns false'. Refute it at one input. -/
def layoutChecksWrong : ChangeSpec := { name := "layoutChecks", fn := fun _ => fun
  | [d] => { results := [.lit (.bool false)], args := [d] }
  | _ => none }
def LayoutChecksWrongFalsely : Prop := layoutChecksRow.holds Try.pinned (OpenSpec.ofChange layoutChecksWrong)

/-- 'assartlaw02.LayoutPages': WHATEVER THE INPUT: true; the input reads as it did. -/
def layoutPagesSpec : ChangeSpec := { name := "layoutPages", fn := fun _ => fun
  | [d1, d2, d3, d4] => { results := [.lit (.bool true)], args := [d1, d2, d3, d4] }
  | _ => none }
def layoutPagesRow : OpenClaim := { program := "ytpgapdmmcanffaa", sum := "1c299bbd972c335e0135ffd8a204262433afca4b945990eb6f80626cc6431b4b", func := "assart/assartlaw02.LayoutPages", spec := "layoutPages", apart := false }
def LayoutPagesSaid : Prop := layoutPagesRow.holds Try.pinned (OpenSpec.ofChange layoutPagesSpec)

/-- ITS FALSE NEIGHBOUR: 'it returns false'. Refute it at one input. -/
def layoutPagesWrong : ChangeSpec := { name := "layoutPages", fn := fun _ => fun
  | [d1, d2, d3, d4] => { results := [.lit (.bool false)], args := [d1, d2, d3, d4] }
  | _ => none }
def LayoutPagesWrongFalsely : Prop := layoutPagesRow.holds Try.pinned (OpenSpec.ofChange layoutPagesWrong)

/-- 'assartlaw02.LayoutApart': WHATEVER THE INPUT: true; the input reads as it did. -/
def layoutApartSpec : ChangeSpec := { name := "layoutApart", fn := fun _ => fun
  | [d] => { results := [.lit (.bool true)], args := [d] }
  | _ => none }
def layoutApartRow : OpenClaim := { program := "ytpgapdmmcanffaa", sum := "1c299bbd972c335e0135ffd8a204262433afca4b945990eb6f80626cc6431b4b", func := "assart/assartlaw02.LayoutApart", spec := "layoutApart", apart := false }
def LayoutApartSaid : Prop := layoutApartRow.holds Try.pinned (OpenSpec.ofChange layoutApartSpec)

/-- ITS FALSE NEIGHBOUR: 'it returns false'. Refute it at one input. -/
def layoutApartWrong : ChangeSpec := { name := "layoutApart", fn := fun _ => fun
  | [d] => { results := [.lit (.bool false)], args := [d] }
  | _ => none }
def LayoutApartWrongFalsely : Prop := layoutApartRow.holds Try.pinned (OpenSpec.ofChange layoutApartWrong)

/-- 'assartlaw02.LayoutAligned': WHATEVER THE INPUT: true; the input reads as it did. -/
def layoutAlignedSpec : ChangeSpec := { name := "layoutAligned", fn := fun _ => fun
  | [d1, d2, d3] => { results := [.lit (.bool true)], args := [d1, d2, d3] }
  | _ => none }
def layoutAlignedRow : OpenClaim := { program := "ytpgapdmmcanffaa", sum := "1c299bbd972c335e0135ffd8a204262433afca4b945990eb6f80626cc6431b4b", func := "assart/assartlaw02.LayoutAligned", spec := "layoutAligned", apart := false }
def LayoutAlignedSaid : Prop := layoutAlignedRow.holds Try.pinned (OpenSpec.ofChange layoutAlignedSpec)

/-- ITS FALSE NEIGHBOUR: 'it returns false'. Refute it at one input. -/
def layoutAlignedWrong : ChangeSpec := { name := "layoutAligned", fn := fun _ => fun
  | [d1, d2, d3] => { results := [.lit (.bool false)], args := [d1, d2, d3] }
  | _ => none }
def LayoutAlignedWrongFalsely : Prop := layoutAlignedRow.holds Try.pinned (OpenSpec.ofChange layoutAlignedWrong)

/-- 'assartlaw02.LayoutWords': WHATEVER THE INPUT: true; the input reads as it did. -/
def layoutWordsSpec : ChangeSpec := { name := "layoutWords", fn := fun _ => fun
  | [d1, d2, d3, d4] => { results := [.lit (.bool true)], args := [d1, d2, d3, d4] }
  | _ => none }
def layoutWordsRow : OpenClaim := { program := "ytpgapdmmcanffaa", sum := "1c299bbd972c335e0135ffd8a204262433afca4b945990eb6f80626cc6431b4b", func := "assart/assartlaw02.LayoutWords", spec := "layoutWords", apart := false }
def LayoutWordsSaid : Prop := layoutWordsRow.holds Try.pinned (OpenSpec.ofChange layoutWordsSpec)

/-- ITS FALSE NEIGHBOUR: 'it returns false'. Refute it at one input. -/
def layoutWordsWrong : ChangeSpec := { name := "layoutWords", fn := fun _ => fun
  | [d1, d2, d3, d4] => { results := [.lit (.bool false)], args := [d1, d2, d3, d4] }
  | _ => none }
def LayoutWordsWrongFalsely : Prop := layoutWordsRow.holds Try.pinned (OpenSpec.ofChange layoutWordsWrong)

/-- 'assartlaw29.RoomNumbers': WHATEVER THE INPUT: true; the input reads as it did. -/
def roomNumbersSpec : ChangeSpec := { name := "roomNumbers", fn := fun _ => fun
  | [d1, d2, d3, d4] => { results := [.lit (.bool true)], args := [d1, d2, d3, d4] }
  | _ => none }
def roomNumbersRow : OpenClaim := { program := "ytpgapdmmcanffaa", sum := "1c299bbd972c335e0135ffd8a204262433afca4b945990eb6f80626cc6431b4b", func := "assart/assartlaw29.RoomNumbers", spec := "roomNumbers", apart := false }
def RoomNumbersSaid : Prop := roomNumbersRow.holds Try.pinned (OpenSpec.ofChange roomNumbersSpec)

/-- ITS FALSE NEIGHBOUR: 'it returns false'. Refute it at one input. -/
def roomNumbersWrong : ChangeSpec := { name := "roomNumbers", fn := fun _ => fun
  | [d1, d2, d3, d4] => { results := [.lit (.bool false)], args := [d1, d2, d3, d4] }
  | _ => none }
def RoomNumbersWrongFalsely : Prop := roomNumbersRow.holds Try.pinned (OpenSpec.ofChange roomNumbersWrong)

/-- 'assartlaw29.RoomClass': WHATEVER THE INPUT: true; the input reads as it did. -/
def roomClassSpec : ChangeSpec := { name := "roomClass", fn := fun _ => fun
  | [d1, d2, d3, d4] => { results := [.lit (.bool true)], args := [d1, d2, d3, d4] }
  | _ => none }
def roomClassRow : OpenClaim := { program := "ytpgapdmmcanffaa", sum := "1c299bbd972c335e0135ffd8a204262433afca4b945990eb6f80626cc6431b4b", func := "assart/assartlaw29.RoomClass", spec := "roomClass", apart := false }
def RoomClassSaid : Prop := roomClassRow.holds Try.pinned (OpenSpec.ofChange roomClassSpec)

/-- ITS FALSE NEIGHBOUR: 'it returns false'. Refute it at one input. -/
def roomClassWrong : ChangeSpec := { name := "roomClass", fn := fun _ => fun
  | [d1, d2, d3, d4] => { results := [.lit (.bool false)], args := [d1, d2, d3, d4] }
  | _ => none }
def RoomClassWrongFalsely : Prop := roomClassRow.holds Try.pinned (OpenSpec.ofChange roomClassWrong)

/-- 'assartlaw08.ChunkParts': WHATEVER THE INPUT: true; the input reads as it did. -/
def chunkPartsSpec : ChangeSpec := { name := "chunkParts", fn := fun _ => fun
  | [d1, d2, d3] => { results := [.lit (.bool true)], args := [d1, d2, d3] }
  | _ => none }
def chunkPartsRow : OpenClaim := { program := "ytpgapdmmcanffaa", sum := "1c299bbd972c335e0135ffd8a204262433afca4b945990eb6f80626cc6431b4b", func := "assart/assartlaw08.ChunkParts", spec := "chunkParts", unfollowed := true, recurses := true, apart := false }
def ChunkPartsSaid : Prop := chunkPartsRow.holds Try.pinned (OpenSpec.ofChange chunkPartsSpec)

/-- ITS FALSE NEIGHBOUR: 'it returns false'. Refute it at one input. -/
def chunkPartsWrong : ChangeSpec := { name := "chunkParts", fn := fun _ => fun
  | [d1, d2, d3] => { results := [.lit (.bool false)], args := [d1, d2, d3] }
  | _ => none }
def ChunkPartsWrongFalsely : Prop := chunkPartsRow.holds Try.pinned (OpenSpec.ofChange chunkPartsWrong)

/- THE SECOND FORM. 'bulk': how many values and letters a reading holds, each counted each time it is reached (what is shared counts as often as it is met; a slice's spare places count too). A statement '..UptoSaid' is the law's where the arguments, and the package variables that the reading takes, are together of bulk at most 1048576: NARROWER than '..Said'. Prove '..Said' where nothing that the law and all that it calls make is longer than what came in: it says more and counts as full. Else prove '..UptoSaid'. A law counts once. -/
mutual
def uptoBulk {H : Type} : DataW H → Nat
  | .lit (.string bytes) => bytes.length + 1
  | .lit _ => 1
  | .nil => 1
  | .ptr d => uptoBulk d + 1
  | .slice elems spare => uptoBulkAll elems + uptoBulkAll spare + 1
  | .agg parts => uptoBulkAll parts + 1
  | .iface _ d => uptoBulk d + 1
  | .map entries => uptoBulkEntries entries + 1
  | .held _ => 1
def uptoBulkAll {H : Type} : List (DataW H) → Nat
  | [] => 0
  | d :: r => uptoBulk d + uptoBulkAll r
def uptoBulkEntries {H : Type} : List (Lit × DataW H) → Nat
  | [] => 0
  | x :: r => uptoBulkEntry x + uptoBulkEntries r
def uptoBulkEntry {H : Type} : Lit × DataW H → Nat
  | (.string bytes, d) => bytes.length + uptoBulk d + 1
  | (_, d) => uptoBulk d + 1
 end
def uptoSmall : (H : Type) → List (DataW H) → Bool := fun _ ds => decide (uptoBulkAll ds ≤ 1048576)
def OpenSpec.upto (s : _root_.Go.ChangeSpec) : _root_.Go.OpenSpec := { _root_.Go.OpenSpec.ofChange s with cond := some uptoSmall }

/-- 'assartlaw02.LayoutChecks', WHERE WHAT IT READS IS OF BULK AT MOST 1048576: true; the input reads as it did. -/
def layoutChecksUptoRow : OpenClaim := { program := "ytpgapdmmcanffaa", sum := "1c299bbd972c335e0135ffd8a204262433afca4b945990eb6f80626cc6431b4b", func := "assart/assartlaw02.LayoutChecks", spec := "layoutChecks", apart := false, narrowed := true }
def LayoutChecksUptoSaid : Prop := layoutChecksUptoRow.holds Try.pinned (OpenSpec.upto layoutChecksSpec)

/-- 'assartlaw02.LayoutPages', WHERE WHAT IT READS IS OF BULK AT MOST 1048576: true; the input reads as it did. -/
def layoutPagesUptoRow : OpenClaim := { program := "ytpgapdmmcanffaa", sum := "1c299bbd972c335e0135ffd8a204262433afca4b945990eb6f80626cc6431b4b", func := "assart/assartlaw02.LayoutPages", spec := "layoutPages", apart := false, narrowed := true }
def LayoutPagesUptoSaid : Prop := layoutPagesUptoRow.holds Try.pinned (OpenSpec.upto layoutPagesSpec)

/-- 'assartlaw02.LayoutApart', WHERE WHAT IT READS IS OF BULK AT MOST 1048576: true; the input reads as it did. -/
def layoutApartUptoRow : OpenClaim := { program := "ytpgapdmmcanffaa", sum := "1c299bbd972c335e0135ffd8a204262433afca4b945990eb6f80626cc6431b4b", func := "assart/assartlaw02.LayoutApart", spec := "layoutApart", apart := false, narrowed := true }
def LayoutApartUptoSaid : Prop := layoutApartUptoRow.holds Try.pinned (OpenSpec.upto layoutApartSpec)

/-- 'assartlaw02.LayoutAligned', WHERE WHAT IT READS IS OF BULK AT MOST 1048576: true; the input reads as it did. -/
def layoutAlignedUptoRow : OpenClaim := { program := "ytpgapdmmcanffaa", sum := "1c299bbd972c335e0135ffd8a204262433afca4b945990eb6f80626cc6431b4b", func := "assart/assartlaw02.LayoutAligned", spec := "layoutAligned", apart := false, narrowed := true }
def LayoutAlignedUptoSaid : Prop := layoutAlignedUptoRow.holds Try.pinned (OpenSpec.upto layoutAlignedSpec)

/-- 'assartlaw02.LayoutWords', WHERE WHAT IT READS IS OF BULK AT MOST 1048576: true; the input reads as it did. -/
def layoutWordsUptoRow : OpenClaim := { program := "ytpgapdmmcanffaa", sum := "1c299bbd972c335e0135ffd8a204262433afca4b945990eb6f80626cc6431b4b", func := "assart/assartlaw02.LayoutWords", spec := "layoutWords", apart := false, narrowed := true }
def LayoutWordsUptoSaid : Prop := layoutWordsUptoRow.holds Try.pinned (OpenSpec.upto layoutWordsSpec)

/-- 'assartlaw29.RoomNumbers', WHERE WHAT IT READS IS OF BULK AT MOST 1048576: true; the input reads as it did. -/
def roomNumbersUptoRow : OpenClaim := { program := "ytpgapdmmcanffaa", sum := "1c299bbd972c335e0135ffd8a204262433afca4b945990eb6f80626cc6431b4b", func := "assart/assartlaw29.RoomNumbers", spec := "roomNumbers", apart := false, narrowed := true }
def RoomNumbersUptoSaid : Prop := roomNumbersUptoRow.holds Try.pinned (OpenSpec.upto roomNumbersSpec)

/-- 'assartlaw29.RoomClass', WHERE WHAT IT READS IS OF BULK AT MOST 1048576: true; the input reads as it did. -/
def roomClassUptoRow : OpenClaim := { program := "ytpgapdmmcanffaa", sum := "1c299bbd972c335e0135ffd8a204262433afca4b945990eb6f80626cc6431b4b", func := "assart/assartlaw29.RoomClass", spec := "roomClass", apart := false, narrowed := true }
def RoomClassUptoSaid : Prop := roomClassUptoRow.holds Try.pinned (OpenSpec.upto roomClassSpec)

/-- 'assartlaw08.ChunkParts', WHERE WHAT IT READS IS OF BULK AT MOST 1048576: true; the input reads as it did. -/
def chunkPartsUptoRow : OpenClaim := { program := "ytpgapdmmcanffaa", sum := "1c299bbd972c335e0135ffd8a204262433afca4b945990eb6f80626cc6431b4b", func := "assart/assartlaw08.ChunkParts", spec := "chunkParts", unfollowed := true, recurses := true, apart := false, narrowed := true }
def ChunkPartsUptoSaid : Prop := chunkPartsUptoRow.holds Try.pinned (OpenSpec.upto chunkPartsSpec)

end Rows
end Go.Proofs.Ytpgapdmmcanffaa
