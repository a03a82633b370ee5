/-
  No cell of these rows narrows 'for every input' (looked for: loops, veiled, ifaces, maps, wideKeys, modest, calm, conditions, laid).
  DERIVED. THE GIVEN ROWS OF THIS SEAT. 8 by the template 'for every input the law returns true; each argument reads behind the call as it read before'; 0 by the template 'total and deterministic' (their statements: YtimebkgadobpoaaTotals.lean).
  GIVEN WITH THE SEED: the statements are not yours to turn. If you find one false, say at which input.
  Laid BY PROGRAM, IN A SANDBOX (cutbox-rows.mjs): the forced cells as the released guide's own fill.sh prints them over the translation 1c2a3f094a2ff61f… (all of the seat's roots in one cut). By AI agents, Wed Nov 11 2026. No macro, syntax, notation, axiom, sorry.
-/
import Derived.Test.YtimebkgadobpoaaChecked
import GoSem.Claim
import GoSem.ClaimJoined
import GoSem.ClaimMapViews
import Derived.JoinedTies
import Derived.KernelRfl
namespace Go.Proofs.Ytimebkgadobpoaa
/- THE CELL 'sum', in the pinned program and in every row, IS THE sha256 OF THE DUMP (.gsa) THAT YtimebkgadobpoaaProg.lean LOADS. Nothing in Lean hashes anything: it is a label: what it is worth is what the hold of that sum in a sandbox is worth. -/
noncomputable def Try.pinned : Pinned := { name := "ytimebkgadobpoaa", sum := "1c2a3f094a2ff61f27e91f593b7f06b1994af4eccf6b8d6ed5a2d7ef9972779f", checked := Try.checked }
namespace Rows
def none {H : Type} : Left H := { results := [], args := [] }

/-- 'assartlaw25.EventsRight': WHATEVER THE INPUT: true; the input reads as it did. -/
def eventsRightSpec : ChangeSpec := { name := "eventsRight", fn := fun _ => fun
  | [d1, d2] => { results := [.lit (.bool true)], args := [d1, d2] }
  | _ => none }
def eventsRightRow : OpenClaim := { program := "ytimebkgadobpoaa", sum := "1c2a3f094a2ff61f27e91f593b7f06b1994af4eccf6b8d6ed5a2d7ef9972779f", func := "assart/assartlaw25.EventsRight", spec := "eventsRight", unfollowed := true, recurses := true, apart := false }
def EventsRightSaid : Prop := eventsRightRow.holds Try.pinned (OpenSpec.ofChange eventsRightSpec)

/-- ITS FALSE NEIGHBOUR: 'it returns false'. Refute it at one input. -/
def eventsRightWrong : ChangeSpec := { name := "eventsRight", fn := fun _ => fun
  | [d1, d2] => { results := [.lit (.bool false)], args := [d1, d2] }
  | _ => none }
def EventsRightWrongFalsely : Prop := eventsRightRow.holds Try.pinned (OpenSpec.ofChange eventsRightWrong)

/-- 'assartlaw25.EventsPart': WHATEVER THE INPUT: true; the input reads as it did. -/
def eventsPartSpec : ChangeSpec := { name := "eventsPart", fn := fun _ => fun
  | [d1, d2, d3, d4] => { results := [.lit (.bool true)], args := [d1, d2, d3, d4] }
  | _ => none }
def eventsPartRow : OpenClaim := { program := "ytimebkgadobpoaa", sum := "1c2a3f094a2ff61f27e91f593b7f06b1994af4eccf6b8d6ed5a2d7ef9972779f", func := "assart/assartlaw25.EventsPart", spec := "eventsPart", unfollowed := true, recurses := true, apart := false }
def EventsPartSaid : Prop := eventsPartRow.holds Try.pinned (OpenSpec.ofChange eventsPartSpec)

/-- ITS FALSE NEIGHBOUR: 'it returns false'. Refute it at one input. -/
def eventsPartWrong : ChangeSpec := { name := "eventsPart", fn := fun _ => fun
  | [d1, d2, d3, d4] => { results := [.lit (.bool false)], args := [d1, d2, d3, d4] }
  | _ => none }
def EventsPartWrongFalsely : Prop := eventsPartRow.holds Try.pinned (OpenSpec.ofChange eventsPartWrong)

/-- 'assartlaw25.EventsAhead': WHATEVER THE INPUT: true; the input reads as it did. -/
def eventsAheadSpec : ChangeSpec := { name := "eventsAhead", fn := fun _ => fun
  | [d1, d2, d3] => { results := [.lit (.bool true)], args := [d1, d2, d3] }
  | _ => none }
def eventsAheadRow : OpenClaim := { program := "ytimebkgadobpoaa", sum := "1c2a3f094a2ff61f27e91f593b7f06b1994af4eccf6b8d6ed5a2d7ef9972779f", func := "assart/assartlaw25.EventsAhead", spec := "eventsAhead", unfollowed := true, recurses := true, apart := false }
def EventsAheadSaid : Prop := eventsAheadRow.holds Try.pinned (OpenSpec.ofChange eventsAheadSpec)

/-- ITS FALSE NEIGHBOUR: 'it returns false'. Refute it at one input. -/
def eventsAheadWrong : ChangeSpec := { name := "eventsAhead", fn := fun _ => fun
  | [d1, d2, d3] => { results := [.lit (.bool false)], args := [d1, d2, d3] }
  | _ => none }
def EventsAheadWrongFalsely : Prop := eventsAheadRow.holds Try.pinned (OpenSpec.ofChange eventsAheadWrong)

/-- 'assartlaw25.EventsLooks': WHATEVER THE INPUT: true; the input reads as it did. -/
def eventsLooksSpec : ChangeSpec := { name := "eventsLooks", fn := fun _ => fun
  | [d1, d2, d3] => { results := [.lit (.bool true)], args := [d1, d2, d3] }
  | _ => none }
def eventsLooksRow : OpenClaim := { program := "ytimebkgadobpoaa", sum := "1c2a3f094a2ff61f27e91f593b7f06b1994af4eccf6b8d6ed5a2d7ef9972779f", func := "assart/assartlaw25.EventsLooks", spec := "eventsLooks", unfollowed := true, recurses := true, apart := false }
def EventsLooksSaid : Prop := eventsLooksRow.holds Try.pinned (OpenSpec.ofChange eventsLooksSpec)

/-- ITS FALSE NEIGHBOUR: 'it returns false'. Refute it at one input. -/
def eventsLooksWrong : ChangeSpec := { name := "eventsLooks", fn := fun _ => fun
  | [d1, d2, d3] => { results := [.lit (.bool false)], args := [d1, d2, d3] }
  | _ => none }
def EventsLooksWrongFalsely : Prop := eventsLooksRow.holds Try.pinned (OpenSpec.ofChange eventsLooksWrong)

/-- 'assartlaw26.OrderSorts': WHATEVER THE INPUT: true; the input reads as it did. -/
def orderSortsSpec : ChangeSpec := { name := "orderSorts", fn := fun _ => fun
  | [d] => { results := [.lit (.bool true)], args := [d] }
  | _ => none }
def orderSortsRow : OpenClaim := { program := "ytimebkgadobpoaa", sum := "1c2a3f094a2ff61f27e91f593b7f06b1994af4eccf6b8d6ed5a2d7ef9972779f", func := "assart/assartlaw26.OrderSorts", spec := "orderSorts", apart := false }
def OrderSortsSaid : Prop := orderSortsRow.holds Try.pinned (OpenSpec.ofChange orderSortsSpec)

/-- ITS FALSE NEIGHBOUR: 'it returns false'. Refute it at one input. -/
def orderSortsWrong : ChangeSpec := { name := "orderSorts", fn := fun _ => fun
  | [d] => { results := [.lit (.bool false)], args := [d] }
  | _ => none }
def OrderSortsWrongFalsely : Prop := orderSortsRow.holds Try.pinned (OpenSpec.ofChange orderSortsWrong)

/-- 'assartlaw26.OrderChecks': WHATEVER THE INPUT: true; the input reads as it did. -/
def orderChecksSpec : ChangeSpec := { name := "orderChecks", fn := fun _ => fun
  | [d1, d2] => { results := [.lit (.bool true)], args := [d1, d2] }
  | _ => none }
def orderChecksRow : OpenClaim := { program := "ytimebkgadobpoaa", sum := "1c2a3f094a2ff61f27e91f593b7f06b1994af4eccf6b8d6ed5a2d7ef9972779f", func := "assart/assartlaw26.OrderChecks", spec := "orderChecks", apart := false }
def OrderChecksSaid : Prop := orderChecksRow.holds Try.pinned (OpenSpec.ofChange orderChecksSpec)

/-- ITS FALSE NEIGHBOUR: 'it returns false'. Refute it at one input. -/
def orderChecksWrong : ChangeSpec := { name := "orderChecks", fn := fun _ => fun
  | [d1, d2] => { results := [.lit (.bool false)], args := [d1, d2] }
  | _ => none }
def OrderChecksWrongFalsely : Prop := orderChecksRow.holds Try.pinned (OpenSpec.ofChange orderChecksWrong)

/-- 'assartlaw26.OrderAll': WHATEVER THE INPUT: true; the input reads as it did. -/
def orderAllSpec : ChangeSpec := { name := "orderAll", fn := fun _ => fun
  | [d] => { results := [.lit (.bool true)], args := [d] }
  | _ => none }
def orderAllRow : OpenClaim := { program := "ytimebkgadobpoaa", sum := "1c2a3f094a2ff61f27e91f593b7f06b1994af4eccf6b8d6ed5a2d7ef9972779f", func := "assart/assartlaw26.OrderAll", spec := "orderAll", apart := false }
def OrderAllSaid : Prop := orderAllRow.holds Try.pinned (OpenSpec.ofChange orderAllSpec)

/-- ITS FALSE NEIGHBOUR: 'it returns false'. Refute it at one input. -/
def orderAllWrong : ChangeSpec := { name := "orderAll", fn := fun _ => fun
  | [d] => { results := [.lit (.bool false)], args := [d] }
  | _ => none }
def OrderAllWrongFalsely : Prop := orderAllRow.holds Try.pinned (OpenSpec.ofChange orderAllWrong)

/-- 'assartlaw26.OrderOne': WHATEVER THE INPUT: true; the input reads as it did. -/
def orderOneSpec : ChangeSpec := { name := "orderOne", fn := fun _ => fun
  | [d1, d2, d3] => { results := [.lit (.bool true)], args := [d1, d2, d3] }
  | _ => none }
def orderOneRow : OpenClaim := { program := "ytimebkgadobpoaa", sum := "1c2a3f094a2ff61f27e91f593b7f06b1994af4eccf6b8d6ed5a2d7ef9972779f", func := "assart/assartlaw26.OrderOne", spec := "orderOne", apart := false }
def OrderOneSaid : Prop := orderOneRow.holds Try.pinned (OpenSpec.ofChange orderOneSpec)

/-- ITS FALSE NEIGHBOUR: 'it returns false'. Refute it at one input. -/
def orderOneWrong : ChangeSpec := { name := "orderOne", fn := fun _ => fun
  | [d1, d2, d3] => { results := [.lit (.bool false)], args := [d1, d2, d3] }
  | _ => none }
def OrderOneWrongFalsely : Prop := orderOneRow.holds Try.pinned (OpenSpec.ofChange orderOneWrong)

/- THE SECOND FORM. 'bulk': how many values and letters a reading holds, each counted each time it is reached (what is shared counts as often as it is met; a slice's spare places count too). A statement '..UptoSaid' is the law's where the arguments, and the package variables that the reading takes, are together of bulk at most 1048576: NARROWER than '..Said'. Prove '..Said' where nothing that the law and all that it calls make is longer than what came in: it says more and counts as full. Else prove '..UptoSaid'. A law counts once. -/
mutual
def uptoBulk {H : Type} : DataW H → Nat
  | .lit (.string bytes) => bytes.length + 1
  | .lit _ => 1
  | .nil => 1
  | .ptr d => uptoBulk d + 1
  | .slice elems spare => uptoBulkAll elems + uptoBulkAll spare + 1
  | .agg parts => uptoBulkAll parts + 1
  | .iface _ d => uptoBulk d + 1
  | .map entries => uptoBulkEntries entries + 1
  | .held _ => 1
def uptoBulkAll {H : Type} : List (DataW H) → Nat
  | [] => 0
  | d :: r => uptoBulk d + uptoBulkAll r
def uptoBulkEntries {H : Type} : List (Lit × DataW H) → Nat
  | [] => 0
  | x :: r => uptoBulkEntry x + uptoBulkEntries r
def uptoBulkEntry {H : Type} : Lit × DataW H → Nat
  | (.string bytes, d) => bytes.length + uptoBulk d + 1
  | (_, d) => uptoBulk d + 1
 end
def uptoSmall : (H : Type) → List (DataW H) → Bool := fun _ ds => decide (uptoBulkAll ds ≤ 1048576)
def OpenSpec.upto (s : _root_.Go.ChangeSpec) : _root_.Go.OpenSpec := { _root_.Go.OpenSpec.ofChange s with cond := some uptoSmall }

/-- 'assartlaw25.EventsRight', WHERE WHAT IT READS IS OF BULK AT MOST 1048576: true; the input reads as it did. -/
def eventsRightUptoRow : OpenClaim := { program := "ytimebkgadobpoaa", sum := "1c2a3f094a2ff61f27e91f593b7f06b1994af4eccf6b8d6ed5a2d7ef9972779f", func := "assart/assartlaw25.EventsRight", spec := "eventsRight", unfollowed := true, recurses := true, apart := false, narrowed := true }
def EventsRightUptoSaid : Prop := eventsRightUptoRow.holds Try.pinned (OpenSpec.upto eventsRightSpec)

/-- 'assartlaw25.EventsPart', WHERE WHAT IT READS IS OF BULK AT MOST 1048576: true; the input reads as it did. -/
def eventsPartUptoRow : OpenClaim := { program := "ytimebkgadobpoaa", sum := "1c2a3f094a2ff61f27e91f593b7f06b1994af4eccf6b8d6ed5a2d7ef9972779f", func := "assart/assartlaw25.EventsPart", spec := "eventsPart", unfollowed := true, recurses := true, apart := false, narrowed := true }
def EventsPartUptoSaid : Prop := eventsPartUptoRow.holds Try.pinned (OpenSpec.upto eventsPartSpec)

/-- 'assartlaw25.EventsAhead', WHERE WHAT IT READS IS OF BULK AT MOST 1048576: true; the input reads as it did. -/
def eventsAheadUptoRow : OpenClaim := { program := "ytimebkgadobpoaa", sum := "1c2a3f094a2ff61f27e91f593b7f06b1994af4eccf6b8d6ed5a2d7ef9972779f", func := "assart/assartlaw25.EventsAhead", spec := "eventsAhead", unfollowed := true, recurses := true, apart := false, narrowed := true }
def EventsAheadUptoSaid : Prop := eventsAheadUptoRow.holds Try.pinned (OpenSpec.upto eventsAheadSpec)

/-- 'assartlaw25.EventsLooks', WHERE WHAT IT READS IS OF BULK AT MOST 1048576: true; the input reads as it did. -/
def eventsLooksUptoRow : OpenClaim := { program := "ytimebkgadobpoaa", sum := "1c2a3f094a2ff61f27e91f593b7f06b1994af4eccf6b8d6ed5a2d7ef9972779f", func := "assart/assartlaw25.EventsLooks", spec := "eventsLooks", unfollowed := true, recurses := true, apart := false, narrowed := true }
def EventsLooksUptoSaid : Prop := eventsLooksUptoRow.holds Try.pinned (OpenSpec.upto eventsLooksSpec)

/-- 'assartlaw26.OrderSorts', WHERE WHAT IT READS IS OF BULK AT MOST 1048576: true; the input reads as it did. -/
def orderSortsUptoRow : OpenClaim := { program := "ytimebkgadobpoaa", sum := "1c2a3f094a2ff61f27e91f593b7f06b1994af4eccf6b8d6ed5a2d7ef9972779f", func := "assart/assartlaw26.OrderSorts", spec := "orderSorts", apart := false, narrowed := true }
def OrderSortsUptoSaid : Prop := orderSortsUptoRow.holds Try.pinned (OpenSpec.upto orderSortsSpec)

/-- 'assartlaw26.OrderChecks', WHERE WHAT IT READS IS OF BULK AT MOST 1048576: true; the input reads as it did. -/
def orderChecksUptoRow : OpenClaim := { program := "ytimebkgadobpoaa", sum := "1c2a3f094a2ff61f27e91f593b7f06b1994af4eccf6b8d6ed5a2d7ef9972779f", func := "assart/assartlaw26.OrderChecks", spec := "orderChecks", apart := false, narrowed := true }
def OrderChecksUptoSaid : Prop := orderChecksUptoRow.holds Try.pinned (OpenSpec.upto orderChecksSpec)

/-- 'assartlaw26.OrderAll', WHERE WHAT IT READS IS OF BULK AT MOST 1048576: true; the input reads as it did. -/
def orderAllUptoRow : OpenClaim := { program := "ytimebkgadobpoaa", sum := "1c2a3f094a2ff61f27e91f593b7f06b1994af4eccf6b8d6ed5a2d7ef9972779f", func := "assart/assartlaw26.OrderAll", spec := "orderAll", apart := false, narrowed := true }
def OrderAllUptoSaid : Prop := orderAllUptoRow.holds Try.pinned (OpenSpec.upto orderAllSpec)

/-- 'assartlaw26.OrderOne', WHERE WHAT IT READS IS OF BULK AT MOST 1048576: true; the input reads as it did. -/
def orderOneUptoRow : OpenClaim := { program := "ytimebkgadobpoaa", sum := "1c2a3f094a2ff61f27e91f593b7f06b1994af4eccf6b8d6ed5a2d7ef9972779f", func := "assart/assartlaw26.OrderOne", spec := "orderOne", apart := false, narrowed := true }
def OrderOneUptoSaid : Prop := orderOneUptoRow.holds Try.pinned (OpenSpec.upto orderOneSpec)

end Rows
end Go.Proofs.Ytimebkgadobpoaa
