import Derived.Test.YtimebkgadobpoaaD26c
namespace Go.Rx
open Go.Proofs

/-- The places of calls in an order, after so many entries. -/
def rankTo (l : List Ev) (o : List Int) : Nat → Option (List Int)
  | 0 => some (List.replicate l.length (-1))
  | i + 1 => match rankTo l o i with
    | none => none
    | some r => match decide (o.getD i 0 < 0) || (decide (o.getD i 0 ≥ (l.length : Int)) || (r.getD (o.getD i 0).toNat 0 != -1 || !(l.getD (o.getD i 0).toNat dEv).Sure)) with
      | true => none
      | false => some (r.set (o.getD i 0).toNat (i : Int))

def undone (l : List Ev) (r : List Int) (n : Nat) : Bool := (List.range n).any fun p => (l.getD p dEv).Done && r.getD p 0 == -1

def rankM (l : List Ev) (o : List Int) : Option (List Int) :=
  match rankTo l o o.length with
  | none => none
  | some r => match undone l r l.length with
    | true => none
    | false => some r

def ranksS : Spec where
  tr := fun args H K => match args, H with
    | [.row 0, .row 1], [.row 3 l true, .row 0 o true] => l.length ≤ 100000 ∧ List.length o ≤ 100000 ∧ (∀ r, rankM l o = some r → K (.tup [.row 2, vb true]) [.row 3 l true, .row 0 o true, .row 0 r false]) ∧
      (rankM l o = none → K (.tup [.row 2, vb false]) [.row 3 l true, .row 0 o true, .row 0 ([] : List Int) false])
    | _, _ => False

theorem ranksS_elim {args : List V} {H : Heap} {K : V → Heap → Prop} (h : ranksS.tr args H K) :
    ∃ (l : List Ev) (o : List Int), args = [.row 0, .row 1] ∧ H = [.row 3 l true, .row 0 o true] ∧ l.length ≤ 100000 ∧ o.length ≤ 100000 ∧
      (∀ r, rankM l o = some r → K (.tup [.row 2, vb true]) [.row 3 l true, .row 0 o true, .row 0 r false]) ∧ (rankM l o = none → K (.tup [.row 2, vb false]) [.row 3 l true, .row 0 o true, .row 0 ([] : List Int) false]) := by
  unfold ranksS at h
  simp only at h
  split at h
  · exact ⟨_, _, rfl, rfl, h⟩
  · exact h.elim

def badAt (l : List Ev) (o r : List Int) (i j : Nat) : Bool :=
  aheadM (l.getD (o.getD i 0).toNat dEv) (l.getD (o.getD j 0).toNat dEv) && decide (r.getD (o.getD j 0).toNat 0 < r.getD (o.getD i 0).toNat 0)

def badTo (l : List Ev) (o r : List Int) (n : Nat) : Bool := (List.range n).any fun i => (List.range i).any fun j => badAt l o r i j

def checkM (l : List Ev) (o : List Int) : Int :=
  match rankM l o with
  | none => 2
  | some r => match badTo l o r o.length with
    | true => 17
    | false => 0

def checkS (f : List Ev → List Int → Int) : Spec where
  tr := fun args H K => match args, H with
    | [.row 0, .row 1], [.row 3 l true, .row 0 o true] => l.length ≤ 100000 ∧ List.length o ≤ 100000 ∧ K (vi (f l o)) [.row 3 l true, .row 0 o true]
    | _, _ => False

theorem checkS_elim {f : List Ev → List Int → Int} {args : List V} {H : Heap} {K : V → Heap → Prop} (h : (checkS f).tr args H K) :
    ∃ (l : List Ev) (o : List Int), args = [.row 0, .row 1] ∧ H = [.row 3 l true, .row 0 o true] ∧ l.length ≤ 100000 ∧ o.length ≤ 100000 ∧ K (vi (f l o)) [.row 3 l true, .row 0 o true] := by
  unfold checkS at h
  simp only at h
  split at h
  · exact ⟨_, _, rfl, rfl, h⟩
  · exact h.elim

noncomputable def cfg38 : Cfg := { cfgB with
  keep := fun r => match r with
    | 3 => some [(0, none), (1, none), (6, some 0), (16, none), (17, none)]
    | 8 => some [(0, none), (1, none), (6, some 0), (24, none), (25, none), (26, none)]
    | 15 => some [(0, none), (1, none), (6, some 0), (59, none), (60, none), (61, none)]
    | _ => none
  keepB := fun b => match b with
    | 0 => some [(0, none), (1, none), (6, some 0)]
    | 2 => some [(0, none), (1, none), (6, some 0)]
    | 4 => some [(0, none), (1, none), (6, some 0)]
    | _ => none }
def sig29 : FuncId → Option Spec := fun f => bif Nat.beq f 38 then some ranksS else bif Nat.beq f 15 then some (ev2S aheadM) else none
noncomputable def cfg29 : Cfg := { cfgB with
  sigs := sig29
  keep := fun r => match r with
    | 5 => some [(0, none), (1, none), (5, none), (19, none), (20, none), (21, none)]
    | 8 => some [(0, none), (1, none), (5, none), (19, none), (20, none), (21, none), (7, none), (8, none), (28, none), (29, none), (30, none)]
    | _ => none
  keepB := fun b => match b with
    | 0 => some []
    | 2 => some [(0, none), (1, none), (5, none), (19, none), (20, none), (21, none)]
    | _ => none
  plan := fun r => match r with | 10 => some (List.range 20, 0) | _ => none }
end Go.Rx
