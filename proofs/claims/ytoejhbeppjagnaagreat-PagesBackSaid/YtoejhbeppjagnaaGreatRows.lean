/-
  No cell of these rows narrows 'for every input' (looked for: loops, veiled, ifaces, maps, wideKeys, modest, calm, conditions, laid).
  DERIVED. THE GIVEN ROWS OF THIS SEAT. 3 by the template 'for every input the law returns true; each argument reads behind the call as it read before'; 0 by the template 'total and deterministic' (their statements: YtoejhbeppjagnaaGreatTotals.lean).
  GIVEN WITH THE SEED: the statements are not yours to turn. If you find one false, say at which input.
  Laid BY PROGRAM, IN A SANDBOX (cutbox-rows.mjs): the forced cells as the released guide's own fill.sh prints them over the translation b939a0ca76c87a72… (all of the seat's roots in one cut). By AI agents, Wed Nov 11 2026. No macro, syntax, notation, axiom, sorry.
-/
import Derived.Test.YtoejhbeppjagnaaGreatChecked
import GoSem.Claim
import GoSem.ClaimJoined
import GoSem.ClaimMapViews
import Derived.JoinedTies
import Derived.KernelRfl
namespace Go.Proofs.YtoejhbeppjagnaaGreat
/- THE CELL 'sum', in the pinned program and in every row, IS THE sha256 OF THE DUMP (.gsa) THAT YtoejhbeppjagnaaGreatProg.lean LOADS. Nothing in Lean hashes anything: it is a label: what it is worth is what the hold of that sum in a sandbox is worth. -/
noncomputable def Tryz.pinned : Pinned := { name := "ytoejhbeppjagnaagreat", sum := "b939a0ca76c87a721f60f5b3504ae139502d7ad60e44553d62bce99dac188793", checked := Tryz.checked }
namespace Rows
def none {H : Type} : Left H := { results := [], args := [] }

/-- 'assartlaw11.PagesPlays': WHATEVER THE INPUT: true; the input reads as it did. -/
def pagesPlaysSpec : ChangeSpec := { name := "pagesPlays", fn := fun _ => fun
  | [d1, d2] => { results := [.lit (.bool true)], args := [d1, d2] }
  | _ => none }
def pagesPlaysRow : OpenClaim := { program := "ytoejhbeppjagnaagreat", sum := "b939a0ca76c87a721f60f5b3504ae139502d7ad60e44553d62bce99dac188793", func := "assart/assartlaw11.PagesPlays", spec := "pagesPlays", unfollowed := true, recurses := true, apart := false }
def PagesPlaysSaid : Prop := pagesPlaysRow.holds Tryz.pinned (OpenSpec.ofChange pagesPlaysSpec)

/-- ITS FALSE NEIGHBOUR: 'it returns false'. Refute it at one input. -/
def pagesPlaysWrong : ChangeSpec := { name := "pagesPlays", fn := fun _ => fun
  | [d1, d2] => { results := [.lit (.bool false)], args := [d1, d2] }
  | _ => none }
def PagesPlaysWrongFalsely : Prop := pagesPlaysRow.holds Tryz.pinned (OpenSpec.ofChange pagesPlaysWrong)

/-- 'assartlaw11.PagesFullest': WHATEVER THE INPUT: true; the input reads as it did. -/
def pagesFullestSpec : ChangeSpec := { name := "pagesFullest", fn := fun _ => fun
  | [d1, d2, d3] => { results := [.lit (.bool true)], args := [d1, d2, d3] }
  | _ => none }
def pagesFullestRow : OpenClaim := { program := "ytoejhbeppjagnaagreat", sum := "b939a0ca76c87a721f60f5b3504ae139502d7ad60e44553d62bce99dac188793", func := "assart/assartlaw11.PagesFullest", spec := "pagesFullest", unfollowed := true, recurses := true, apart := false }
def PagesFullestSaid : Prop := pagesFullestRow.holds Tryz.pinned (OpenSpec.ofChange pagesFullestSpec)

/-- ITS FALSE NEIGHBOUR: 'it returns false'. Refute it at one input. -/
def pagesFullestWrong : ChangeSpec := { name := "pagesFullest", fn := fun _ => fun
  | [d1, d2, d3] => { results := [.lit (.bool false)], args := [d1, d2, d3] }
  | _ => none }
def PagesFullestWrongFalsely : Prop := pagesFullestRow.holds Tryz.pinned (OpenSpec.ofChange pagesFullestWrong)

/-- 'assartlaw11.PagesBack': WHATEVER THE INPUT: true; the input reads as it did. -/
def pagesBackSpec : ChangeSpec := { name := "pagesBack", fn := fun _ => fun
  | [d1, d2, d3] => { results := [.lit (.bool true)], args := [d1, d2, d3] }
  | _ => none }
def pagesBackRow : OpenClaim := { program := "ytoejhbeppjagnaagreat", sum := "b939a0ca76c87a721f60f5b3504ae139502d7ad60e44553d62bce99dac188793", func := "assart/assartlaw11.PagesBack", spec := "pagesBack", unfollowed := true, recurses := true, apart := false }
def PagesBackSaid : Prop := pagesBackRow.holds Tryz.pinned (OpenSpec.ofChange pagesBackSpec)

/-- ITS FALSE NEIGHBOUR: 'it returns false'. Refute it at one input. -/
def pagesBackWrong : ChangeSpec := { name := "pagesBack", fn := fun _ => fun
  | [d1, d2, d3] => { results := [.lit (.bool false)], args := [d1, d2, d3] }
  | _ => none }
def PagesBackWrongFalsely : Prop := pagesBackRow.holds Tryz.pinned (OpenSpec.ofChange pagesBackWrong)

/- THE SECOND FORM. 'bulk': how many values and letters a reading holds, each counted each time it is reached (what is shared counts as often as it is met; a slice's spare places count too). A statement '..UptoSaid' is the law's where the arguments, and the package variables that the reading takes, are together of bulk at most 1048576: NARROWER than '..Said'. Prove '..Said' where nothing that the law and all that it calls make is longer than what came in: it says more and counts as full. Else prove '..UptoSaid'. A law counts once. -/
mutual
def uptoBulk {H : Type} : DataW H → Nat
  | .lit (.string bytes) => bytes.length + 1
  | .lit _ => 1
  | .nil => 1
  | .ptr d => uptoBulk d + 1
  | .slice elems spare => uptoBulkAll elems + uptoBulkAll spare + 1
  | .agg parts => uptoBulkAll parts + 1
  | .iface _ d => uptoBulk d + 1
  | .map entries => uptoBulkEntries entries + 1
  | .held _ => 1
def uptoBulkAll {H : Type} : List (DataW H) → Nat
  | [] => 0
  | d :: r => uptoBulk d + uptoBulkAll r
def uptoBulkEntries {H : Type} : List (Lit × DataW H) → Nat
  | [] => 0
  | x :: r => uptoBulkEntry x + uptoBulkEntries r
def uptoBulkEntry {H : Type} : Lit × DataW H → Nat
  | (.string bytes, d) => bytes.length + uptoBulk d + 1
  | (_, d) => uptoBulk d + 1
 end
def uptoSmall : (H : Type) → List (DataW H) → Bool := fun _ ds => decide (uptoBulkAll ds ≤ 1048576)
def OpenSpec.upto (s : _root_.Go.ChangeSpec) : _root_.Go.OpenSpec := { _root_.Go.OpenSpec.ofChange s with cond := some uptoSmall }

/-- 'assartlaw11.PagesPlays', WHERE WHAT IT READS IS OF BULK AT MOST 1048576: true; the input reads as it did. -/
def pagesPlaysUptoRow : OpenClaim := { program := "ytoejhbeppjagnaagreat", sum := "b939a0ca76c87a721f60f5b3504ae139502d7ad60e44553d62bce99dac188793", func := "assart/assartlaw11.PagesPlays", spec := "pagesPlays", unfollowed := true, recurses := true, apart := false, narrowed := true }
def PagesPlaysUptoSaid : Prop := pagesPlaysUptoRow.holds Tryz.pinned (OpenSpec.upto pagesPlaysSpec)

/-- 'assartlaw11.PagesFullest', WHERE WHAT IT READS IS OF BULK AT MOST 1048576: true; the input reads as it did. -/
def pagesFullestUptoRow : OpenClaim := { program := "ytoejhbeppjagnaagreat", sum := "b939a0ca76c87a721f60f5b3504ae139502d7ad60e44553d62bce99dac188793", func := "assart/assartlaw11.PagesFullest", spec := "pagesFullest", unfollowed := true, recurses := true, apart := false, narrowed := true }
def PagesFullestUptoSaid : Prop := pagesFullestUptoRow.holds Tryz.pinned (OpenSpec.upto pagesFullestSpec)

/-- 'assartlaw11.PagesBack', WHERE WHAT IT READS IS OF BULK AT MOST 1048576: true; the input reads as it did. -/
def pagesBackUptoRow : OpenClaim := { program := "ytoejhbeppjagnaagreat", sum := "b939a0ca76c87a721f60f5b3504ae139502d7ad60e44553d62bce99dac188793", func := "assart/assartlaw11.PagesBack", spec := "pagesBack", unfollowed := true, recurses := true, apart := false, narrowed := true }
def PagesBackUptoSaid : Prop := pagesBackUptoRow.holds Tryz.pinned (OpenSpec.upto pagesBackSpec)

end Rows
end Go.Proofs.YtoejhbeppjagnaaGreat
