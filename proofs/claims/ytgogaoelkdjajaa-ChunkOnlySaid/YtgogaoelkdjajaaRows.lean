/-
  No cell of these rows narrows 'for every input' (looked for: loops, veiled, ifaces, maps, wideKeys, modest, calm, conditions, laid).
  DERIVED. THE GIVEN ROWS OF THIS SEAT. 11 by the template 'for every input the law returns true; each argument reads behind the call as it read before'; 0 by the template 'total and deterministic' (their statements: YtgogaoelkdjajaaTotals.lean).
  GIVEN WITH THE SEED: the statements are not yours to turn. If you find one false, say at which input.
  Laid BY PROGRAM, IN A SANDBOX (cutbox-rows.mjs): the forced cells as the released guide's own fill.sh prints them over the translation a9bd9242d5ae7be8… (all of the seat's roots in one cut). By AI agents, Wed Nov 11 2026. No macro, syntax, notation, axiom, sorry.
-/
import Derived.Test.YtgogaoelkdjajaaChecked
import GoSem.Claim
import GoSem.ClaimJoined
import GoSem.ClaimMapViews
import Derived.JoinedTies
import Derived.KernelRfl
namespace Go.Proofs.Ytgogaoelkdjajaa
/- THE CELL 'sum', in the pinned program and in every row, IS THE sha256 OF THE DUMP (.gsa) THAT YtgogaoelkdjajaaProg.lean LOADS. Nothing in Lean hashes anything: it is a label: what it is worth is what the hold of that sum in a sandbox is worth. -/
noncomputable def Try.pinned : Pinned := { name := "ytgogaoelkdjajaa", sum := "a9bd9242d5ae7be8a13901235fa42d769fda238836f6bf921bda9dcfd53f91c7", checked := Try.checked }
namespace Rows
def none {H : Type} : Left H := { results := [], args := [] }

/-- 'assartlaw08.ChunkPlays': WHATEVER THE INPUT: true; the input reads as it did. -/
def chunkPlaysSpec : ChangeSpec := { name := "chunkPlays", fn := fun _ => fun
  | [d1, d2] => { results := [.lit (.bool true)], args := [d1, d2] }
  | _ => none }
def chunkPlaysRow : OpenClaim := { program := "ytgogaoelkdjajaa", sum := "a9bd9242d5ae7be8a13901235fa42d769fda238836f6bf921bda9dcfd53f91c7", func := "assart/assartlaw08.ChunkPlays", spec := "chunkPlays", unfollowed := true, recurses := true, apart := false }
def ChunkPlaysSaid : Prop := chunkPlaysRow.holds Try.pinned (OpenSpec.ofChange chunkPlaysSpec)

/-- ITS FALSE NEIGHBOUR: 'it returns false'. Refute it at one input. -/
def chunkPlaysWrong : ChangeSpec := { name := "chunkPlays", fn := fun _ => fun
  | [d1, d2] => { results := [.lit (.bool false)], args := [d1, d2] }
  | _ => none }
def ChunkPlaysWrongFalsely : Prop := chunkPlaysRow.holds Try.pinned (OpenSpec.ofChange chunkPlaysWrong)

/-- 'assartlaw08.ChunkCounted': WHATEVER THE INPUT: true; the input reads as it did. -/
def chunkCountedSpec : ChangeSpec := { name := "chunkCounted", fn := fun _ => fun
  | [d1, d2, d3, d4] => { results := [.lit (.bool true)], args := [d1, d2, d3, d4] }
  | _ => none }
def chunkCountedRow : OpenClaim := { program := "ytgogaoelkdjajaa", sum := "a9bd9242d5ae7be8a13901235fa42d769fda238836f6bf921bda9dcfd53f91c7", func := "assart/assartlaw08.ChunkCounted", spec := "chunkCounted", unfollowed := true, recurses := true, apart := false }
def ChunkCountedSaid : Prop := chunkCountedRow.holds Try.pinned (OpenSpec.ofChange chunkCountedSpec)

/-- ITS FALSE NEIGHBOUR: 'it returns false'. Refute it at one input. -/
def chunkCountedWrong : ChangeSpec := { name := "chunkCounted", fn := fun _ => fun
  | [d1, d2, d3, d4] => { results := [.lit (.bool false)], args := [d1, d2, d3, d4] }
  | _ => none }
def ChunkCountedWrongFalsely : Prop := chunkCountedRow.holds Try.pinned (OpenSpec.ofChange chunkCountedWrong)

/-- 'assartlaw08.ChunkOnly': WHATEVER THE INPUT: true; the input reads as it did. -/
def chunkOnlySpec : ChangeSpec := { name := "chunkOnly", fn := fun _ => fun
  | [d1, d2] => { results := [.lit (.bool true)], args := [d1, d2] }
  | _ => none }
def chunkOnlyRow : OpenClaim := { program := "ytgogaoelkdjajaa", sum := "a9bd9242d5ae7be8a13901235fa42d769fda238836f6bf921bda9dcfd53f91c7", func := "assart/assartlaw08.ChunkOnly", spec := "chunkOnly", unfollowed := true, recurses := true, apart := false }
def ChunkOnlySaid : Prop := chunkOnlyRow.holds Try.pinned (OpenSpec.ofChange chunkOnlySpec)

/-- ITS FALSE NEIGHBOUR: 'it returns false'. Refute it at one input. -/
def chunkOnlyWrong : ChangeSpec := { name := "chunkOnly", fn := fun _ => fun
  | [d1, d2] => { results := [.lit (.bool false)], args := [d1, d2] }
  | _ => none }
def ChunkOnlyWrongFalsely : Prop := chunkOnlyRow.holds Try.pinned (OpenSpec.ofChange chunkOnlyWrong)

/-- 'assartlaw10.PlistAgree': WHATEVER THE INPUT: true; the input reads as it did. -/
def plistAgreeSpec : ChangeSpec := { name := "plistAgree", fn := fun _ => fun
  | [d1, d2, d3, d4] => { results := [.lit (.bool true)], args := [d1, d2, d3, d4] }
  | _ => none }
def plistAgreeRow : OpenClaim := { program := "ytgogaoelkdjajaa", sum := "a9bd9242d5ae7be8a13901235fa42d769fda238836f6bf921bda9dcfd53f91c7", func := "assart/assartlaw10.PlistAgree", spec := "plistAgree", unfollowed := true, recurses := true, apart := false }
def PlistAgreeSaid : Prop := plistAgreeRow.holds Try.pinned (OpenSpec.ofChange plistAgreeSpec)

/-- ITS FALSE NEIGHBOUR: 'it returns false'. Refute it at one input. -/
def plistAgreeWrong : ChangeSpec := { name := "plistAgree", fn := fun _ => fun
  | [d1, d2, d3, d4] => { results := [.lit (.bool false)], args := [d1, d2, d3, d4] }
  | _ => none }
def PlistAgreeWrongFalsely : Prop := plistAgreeRow.holds Try.pinned (OpenSpec.ofChange plistAgreeWrong)

/-- 'assartlaw10.PlistOut': WHATEVER THE INPUT: true; the input reads as it did. -/
def plistOutSpec : ChangeSpec := { name := "plistOut", fn := fun _ => fun
  | [d1, d2, d3, d4, d5] => { results := [.lit (.bool true)], args := [d1, d2, d3, d4, d5] }
  | _ => none }
def plistOutRow : OpenClaim := { program := "ytgogaoelkdjajaa", sum := "a9bd9242d5ae7be8a13901235fa42d769fda238836f6bf921bda9dcfd53f91c7", func := "assart/assartlaw10.PlistOut", spec := "plistOut", unfollowed := true, recurses := true, apart := false }
def PlistOutSaid : Prop := plistOutRow.holds Try.pinned (OpenSpec.ofChange plistOutSpec)

/-- ITS FALSE NEIGHBOUR: 'it returns false'. Refute it at one input. -/
def plistOutWrong : ChangeSpec := { name := "plistOut", fn := fun _ => fun
  | [d1, d2, d3, d4, d5] => { results := [.lit (.bool false)], args := [d1, d2, d3, d4, d5] }
  | _ => none }
def PlistOutWrongFalsely : Prop := plistOutRow.holds Try.pinned (OpenSpec.ofChange plistOutWrong)

/-- 'assartlaw10.PlistPlays': WHATEVER THE INPUT: true; the input reads as it did. -/
def plistPlaysSpec : ChangeSpec := { name := "plistPlays", fn := fun _ => fun
  | [d1, d2, d3] => { results := [.lit (.bool true)], args := [d1, d2, d3] }
  | _ => none }
def plistPlaysRow : OpenClaim := { program := "ytgogaoelkdjajaa", sum := "a9bd9242d5ae7be8a13901235fa42d769fda238836f6bf921bda9dcfd53f91c7", func := "assart/assartlaw10.PlistPlays", spec := "plistPlays", unfollowed := true, recurses := true, apart := false }
def PlistPlaysSaid : Prop := plistPlaysRow.holds Try.pinned (OpenSpec.ofChange plistPlaysSpec)

/-- ITS FALSE NEIGHBOUR: 'it returns false'. Refute it at one input. -/
def plistPlaysWrong : ChangeSpec := { name := "plistPlays", fn := fun _ => fun
  | [d1, d2, d3] => { results := [.lit (.bool false)], args := [d1, d2, d3] }
  | _ => none }
def PlistPlaysWrongFalsely : Prop := plistPlaysRow.holds Try.pinned (OpenSpec.ofChange plistPlaysWrong)

/-- 'assartlaw10.PlistEach': WHATEVER THE INPUT: true; the input reads as it did. -/
def plistEachSpec : ChangeSpec := { name := "plistEach", fn := fun _ => fun
  | [d1, d2] => { results := [.lit (.bool true)], args := [d1, d2] }
  | _ => none }
def plistEachRow : OpenClaim := { program := "ytgogaoelkdjajaa", sum := "a9bd9242d5ae7be8a13901235fa42d769fda238836f6bf921bda9dcfd53f91c7", func := "assart/assartlaw10.PlistEach", spec := "plistEach", unfollowed := true, recurses := true, apart := false }
def PlistEachSaid : Prop := plistEachRow.holds Try.pinned (OpenSpec.ofChange plistEachSpec)

/-- ITS FALSE NEIGHBOUR: 'it returns false'. Refute it at one input. -/
def plistEachWrong : ChangeSpec := { name := "plistEach", fn := fun _ => fun
  | [d1, d2] => { results := [.lit (.bool false)], args := [d1, d2] }
  | _ => none }
def PlistEachWrongFalsely : Prop := plistEachRow.holds Try.pinned (OpenSpec.ofChange plistEachWrong)

/-- 'assartlaw09.ExtentPlays': WHATEVER THE INPUT: true; the input reads as it did. -/
def extentPlaysSpec : ChangeSpec := { name := "extentPlays", fn := fun _ => fun
  | [d1, d2] => { results := [.lit (.bool true)], args := [d1, d2] }
  | _ => none }
def extentPlaysRow : OpenClaim := { program := "ytgogaoelkdjajaa", sum := "a9bd9242d5ae7be8a13901235fa42d769fda238836f6bf921bda9dcfd53f91c7", func := "assart/assartlaw09.ExtentPlays", spec := "extentPlays", unfollowed := true, recurses := true, apart := false }
def ExtentPlaysSaid : Prop := extentPlaysRow.holds Try.pinned (OpenSpec.ofChange extentPlaysSpec)

/-- ITS FALSE NEIGHBOUR: 'it returns false'. Refute it at one input. -/
def extentPlaysWrong : ChangeSpec := { name := "extentPlays", fn := fun _ => fun
  | [d1, d2] => { results := [.lit (.bool false)], args := [d1, d2] }
  | _ => none }
def ExtentPlaysWrongFalsely : Prop := extentPlaysRow.holds Try.pinned (OpenSpec.ofChange extentPlaysWrong)

/-- 'assartlaw09.ExtentLeast': WHATEVER THE INPUT: true; the input reads as it did. -/
def extentLeastSpec : ChangeSpec := { name := "extentLeast", fn := fun _ => fun
  | [d1, d2, d3, d4] => { results := [.lit (.bool true)], args := [d1, d2, d3, d4] }
  | _ => none }
def extentLeastRow : OpenClaim := { program := "ytgogaoelkdjajaa", sum := "a9bd9242d5ae7be8a13901235fa42d769fda238836f6bf921bda9dcfd53f91c7", func := "assart/assartlaw09.ExtentLeast", spec := "extentLeast", unfollowed := true, recurses := true, apart := false }
def ExtentLeastSaid : Prop := extentLeastRow.holds Try.pinned (OpenSpec.ofChange extentLeastSpec)

/-- ITS FALSE NEIGHBOUR: 'it returns false'. Refute it at one input. -/
def extentLeastWrong : ChangeSpec := { name := "extentLeast", fn := fun _ => fun
  | [d1, d2, d3, d4] => { results := [.lit (.bool false)], args := [d1, d2, d3, d4] }
  | _ => none }
def ExtentLeastWrongFalsely : Prop := extentLeastRow.holds Try.pinned (OpenSpec.ofChange extentLeastWrong)

/-- 'assartlaw09.ExtentBack': WHATEVER THE INPUT: true; the input reads as it did. -/
def extentBackSpec : ChangeSpec := { name := "extentBack", fn := fun _ => fun
  | [d1, d2, d3, d4, d5] => { results := [.lit (.bool true)], args := [d1, d2, d3, d4, d5] }
  | _ => none }
def extentBackRow : OpenClaim := { program := "ytgogaoelkdjajaa", sum := "a9bd9242d5ae7be8a13901235fa42d769fda238836f6bf921bda9dcfd53f91c7", func := "assart/assartlaw09.ExtentBack", spec := "extentBack", unfollowed := true, recurses := true, apart := false }
def ExtentBackSaid : Prop := extentBackRow.holds Try.pinned (OpenSpec.ofChange extentBackSpec)

/-- ITS FALSE NEIGHBOUR: 'it returns false'. Refute it at one input. -/
def extentBackWrong : ChangeSpec := { name := "extentBack", fn := fun _ => fun
  | [d1, d2, d3, d4, d5] => { results := [.lit (.bool false)], args := [d1, d2, d3, d4, d5] }
  | _ => none }
def ExtentBackWrongFalsely : Prop := extentBackRow.holds Try.pinned (OpenSpec.ofChange extentBackWrong)

/-- 'assartlaw09.ExtentTrim': WHATEVER THE INPUT: true; the input reads as it did. -/
def extentTrimSpec : ChangeSpec := { name := "extentTrim", fn := fun _ => fun
  | [d1, d2] => { results := [.lit (.bool true)], args := [d1, d2] }
  | _ => none }
def extentTrimRow : OpenClaim := { program := "ytgogaoelkdjajaa", sum := "a9bd9242d5ae7be8a13901235fa42d769fda238836f6bf921bda9dcfd53f91c7", func := "assart/assartlaw09.ExtentTrim", spec := "extentTrim", unfollowed := true, recurses := true, apart := false }
def ExtentTrimSaid : Prop := extentTrimRow.holds Try.pinned (OpenSpec.ofChange extentTrimSpec)

/-- ITS FALSE NEIGHBOUR: 'it returns false'. Refute it at one input. -/
def extentTrimWrong : ChangeSpec := { name := "extentTrim", fn := fun _ => fun
  | [d1, d2] => { results := [.lit (.bool false)], args := [d1, d2] }
  | _ => none }
def ExtentTrimWrongFalsely : Prop := extentTrimRow.holds Try.pinned (OpenSpec.ofChange extentTrimWrong)

/- THE SECOND FORM. 'bulk': how many values and letters a reading holds, each counted each time it is reached (what is shared counts as often as it is met; a slice's spare places count too). A statement '..UptoSaid' is the law's where the arguments, and the package variables that the reading takes, are together of bulk at most 1048576: NARROWER than '..Said'. Prove '..Said' where nothing that the law and all that it calls make is longer than what came in: it says more and counts as full. Else prove '..UptoSaid'. A law counts once. -/
mutual
def uptoBulk {H : Type} : DataW H → Nat
  | .lit (.string bytes) => bytes.length + 1
  | .lit _ => 1
  | .nil => 1
  | .ptr d => uptoBulk d + 1
  | .slice elems spare => uptoBulkAll elems + uptoBulkAll spare + 1
  | .agg parts => uptoBulkAll parts + 1
  | .iface _ d => uptoBulk d + 1
  | .map entries => uptoBulkEntries entries + 1
  | .held _ => 1
def uptoBulkAll {H : Type} : List (DataW H) → Nat
  | [] => 0
  | d :: r => uptoBulk d + uptoBulkAll r
def uptoBulkEntries {H : Type} : List (Lit × DataW H) → Nat
  | [] => 0
  | x :: r => uptoBulkEntry x + uptoBulkEntries r
def uptoBulkEntry {H : Type} : Lit × DataW H → Nat
  | (.string bytes, d) => bytes.length + uptoBulk d + 1
  | (_, d) => uptoBulk d + 1
 end
def uptoSmall : (H : Type) → List (DataW H) → Bool := fun _ ds => decide (uptoBulkAll ds ≤ 1048576)
def OpenSpec.upto (s : _root_.Go.ChangeSpec) : _root_.Go.OpenSpec := { _root_.Go.OpenSpec.ofChange s with cond := some uptoSmall }

/-- 'assartlaw08.ChunkPlays', WHERE WHAT IT READS IS OF BULK AT MOST 1048576: true; the input reads as it did. -/
def chunkPlaysUptoRow : OpenClaim := { program := "ytgogaoelkdjajaa", sum := "a9bd9242d5ae7be8a13901235fa42d769fda238836f6bf921bda9dcfd53f91c7", func := "assart/assartlaw08.ChunkPlays", spec := "chunkPlays", unfollowed := true, recurses := true, apart := false, narrowed := true }
def ChunkPlaysUptoSaid : Prop := chunkPlaysUptoRow.holds Try.pinned (OpenSpec.upto chunkPlaysSpec)

/-- 'assartlaw08.ChunkCounted', WHERE WHAT IT READS IS OF BULK AT MOST 1048576: true; the input reads as it did. -/
def chunkCountedUptoRow : OpenClaim := { program := "ytgogaoelkdjajaa", sum := "a9bd9242d5ae7be8a13901235fa42d769fda238836f6bf921bda9dcfd53f91c7", func := "assart/assartlaw08.ChunkCounted", spec := "chunkCounted", unfollowed := true, recurses := true, apart := false, narrowed := true }
def ChunkCountedUptoSaid : Prop := chunkCountedUptoRow.holds Try.pinned (OpenSpec.upto chunkCountedSpec)

/-- 'assartlaw08.ChunkOnly', WHERE WHAT IT READS IS OF BULK AT MOST 1048576: true; the input reads as it did. -/
def chunkOnlyUptoRow : OpenClaim := { program := "ytgogaoelkdjajaa", sum := "a9bd9242d5ae7be8a13901235fa42d769fda238836f6bf921bda9dcfd53f91c7", func := "assart/assartlaw08.ChunkOnly", spec := "chunkOnly", unfollowed := true, recurses := true, apart := false, narrowed := true }
def ChunkOnlyUptoSaid : Prop := chunkOnlyUptoRow.holds Try.pinned (OpenSpec.upto chunkOnlySpec)

/-- 'assartlaw10.PlistAgree', WHERE WHAT IT READS IS OF BULK AT MOST 1048576: true; the input reads as it did. -/
def plistAgreeUptoRow : OpenClaim := { program := "ytgogaoelkdjajaa", sum := "a9bd9242d5ae7be8a13901235fa42d769fda238836f6bf921bda9dcfd53f91c7", func := "assart/assartlaw10.PlistAgree", spec := "plistAgree", unfollowed := true, recurses := true, apart := false, narrowed := true }
def PlistAgreeUptoSaid : Prop := plistAgreeUptoRow.holds Try.pinned (OpenSpec.upto plistAgreeSpec)

/-- 'assartlaw10.PlistOut', WHERE WHAT IT READS IS OF BULK AT MOST 1048576: true; the input reads as it did. -/
def plistOutUptoRow : OpenClaim := { program := "ytgogaoelkdjajaa", sum := "a9bd9242d5ae7be8a13901235fa42d769fda238836f6bf921bda9dcfd53f91c7", func := "assart/assartlaw10.PlistOut", spec := "plistOut", unfollowed := true, recurses := true, apart := false, narrowed := true }
def PlistOutUptoSaid : Prop := plistOutUptoRow.holds Try.pinned (OpenSpec.upto plistOutSpec)

/-- 'assartlaw10.PlistPlays', WHERE WHAT IT READS IS OF BULK AT MOST 1048576: true; the input reads as it did. -/
def plistPlaysUptoRow : OpenClaim := { program := "ytgogaoelkdjajaa", sum := "a9bd9242d5ae7be8a13901235fa42d769fda238836f6bf921bda9dcfd53f91c7", func := "assart/assartlaw10.PlistPlays", spec := "plistPlays", unfollowed := true, recurses := true, apart := false, narrowed := true }
def PlistPlaysUptoSaid : Prop := plistPlaysUptoRow.holds Try.pinned (OpenSpec.upto plistPlaysSpec)

/-- 'assartlaw10.PlistEach', WHERE WHAT IT READS IS OF BULK AT MOST 1048576: true; the input reads as it did. -/
def plistEachUptoRow : OpenClaim := { program := "ytgogaoelkdjajaa", sum := "a9bd9242d5ae7be8a13901235fa42d769fda238836f6bf921bda9dcfd53f91c7", func := "assart/assartlaw10.PlistEach", spec := "plistEach", unfollowed := true, recurses := true, apart := false, narrowed := true }
def PlistEachUptoSaid : Prop := plistEachUptoRow.holds Try.pinned (OpenSpec.upto plistEachSpec)

/-- 'assartlaw09.ExtentPlays', WHERE WHAT IT READS IS OF BULK AT MOST 1048576: true; the input reads as it did. -/
def extentPlaysUptoRow : OpenClaim := { program := "ytgogaoelkdjajaa", sum := "a9bd9242d5ae7be8a13901235fa42d769fda238836f6bf921bda9dcfd53f91c7", func := "assart/assartlaw09.ExtentPlays", spec := "extentPlays", unfollowed := true, recurses := true, apart := false, narrowed := true }
def ExtentPlaysUptoSaid : Prop := extentPlaysUptoRow.holds Try.pinned (OpenSpec.upto extentPlaysSpec)

/-- 'assartlaw09.ExtentLeast', WHERE WHAT IT READS IS OF BULK AT MOST 1048576: true; the input reads as it did. -/
def extentLeastUptoRow : OpenClaim := { program := "ytgogaoelkdjajaa", sum := "a9bd9242d5ae7be8a13901235fa42d769fda238836f6bf921bda9dcfd53f91c7", func := "assart/assartlaw09.ExtentLeast", spec := "extentLeast", unfollowed := true, recurses := true, apart := false, narrowed := true }
def ExtentLeastUptoSaid : Prop := extentLeastUptoRow.holds Try.pinned (OpenSpec.upto extentLeastSpec)

/-- 'assartlaw09.ExtentBack', WHERE WHAT IT READS IS OF BULK AT MOST 1048576: true; the input reads as it did. -/
def extentBackUptoRow : OpenClaim := { program := "ytgogaoelkdjajaa", sum := "a9bd9242d5ae7be8a13901235fa42d769fda238836f6bf921bda9dcfd53f91c7", func := "assart/assartlaw09.ExtentBack", spec := "extentBack", unfollowed := true, recurses := true, apart := false, narrowed := true }
def ExtentBackUptoSaid : Prop := extentBackUptoRow.holds Try.pinned (OpenSpec.upto extentBackSpec)

/-- 'assartlaw09.ExtentTrim', WHERE WHAT IT READS IS OF BULK AT MOST 1048576: true; the input reads as it did. -/
def extentTrimUptoRow : OpenClaim := { program := "ytgogaoelkdjajaa", sum := "a9bd9242d5ae7be8a13901235fa42d769fda238836f6bf921bda9dcfd53f91c7", func := "assart/assartlaw09.ExtentTrim", spec := "extentTrim", unfollowed := true, recurses := true, apart := false, narrowed := true }
def ExtentTrimUptoSaid : Prop := extentTrimUptoRow.holds Try.pinned (OpenSpec.upto extentTrimSpec)

end Rows
end Go.Proofs.Ytgogaoelkdjajaa
