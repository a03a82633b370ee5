import Derived.Test.YtimebkgadobpoaaD26d
namespace Go.Rx
open Go.Proofs

def refTo (l : List Ev) (o : List Int) : Nat → Option (List Int)
  | 0 => some (List.replicate l.length 0)
  | i + 1 => match refTo l o i with
    | none => none
    | some r => match decide (o.getD i 0 < 0) || (decide (o.getD i 0 ≥ (l.length : Int)) || (r.getD (o.getD i 0).toNat 0 != 0 || !(l.getD (o.getD i 0).toNat dEv).Sure)) with
      | true => none
      | false => some (r.set (o.getD i 0).toNat ((i : Int) + 1))

def undone0 (l : List Ev) (r : List Int) (n : Nat) : Bool := (List.range n).any fun p => (l.getD p dEv).Done && r.getD p 0 == 0
def rbadAt (l : List Ev) (r : List Int) (i j : Nat) : Bool :=
  r.getD i 0 != 0 && (r.getD j 0 != 0 && (aheadM (l.getD i dEv) (l.getD j dEv) && decide (r.getD j 0 < r.getD i 0)))
def rbadRow (l : List Ev) (r : List Int) (i n : Nat) : Bool := (List.range n).any fun j => rbadAt l r i j
def rbadTo (l : List Ev) (r : List Int) (n : Nat) : Bool := (List.range n).any fun i => rbadRow l r i l.length

def refCheckM (l : List Ev) (o : List Int) : Int :=
  match refTo l o o.length with
  | none => 2
  | some r => match undone0 l r l.length with
    | true => 2
    | false => match rbadTo l r l.length with
      | true => 17
      | false => 0

def sig30 : FuncId → Option Spec := fun f => bif Nat.beq f 16 then some (ev2S aheadM) else none
noncomputable def cfg30 : Cfg := { cfgB with
  sigs := sig30
  keep := fun r => match r with
    | 3 => some [(0, none), (1, none), (5, some 0), (6, none)]
    | 10 => some [(0, none), (1, none), (5, some 0), (8, none)]
    | 15 => some [(0, none), (1, none), (5, some 0), (9, none)]
    | 18 => some [(0, none), (1, none), (5, some 0), (9, none), (10, none)]
    | _ => none
  keepB := fun b => match b with
    | 0 => some [(0, none), (1, none), (5, some 0)]
    | 2 => some [(0, none), (1, none), (5, some 0)]
    | 4 => some []
    | 6 => some [(0, none), (1, none), (5, some 0), (9, none)]
    | _ => none
  plan := fun r => match r with | 20 => some (List.range 34, 0) | _ => none }
end Go.Rx
