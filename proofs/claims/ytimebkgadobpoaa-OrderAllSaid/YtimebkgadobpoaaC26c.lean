import Derived.Test.YtimebkgadobpoaaD26b
namespace Go.Rx
open Go.Proofs
def sigL (n : Nat) : FuncId → Option Spec := fun f => bif Nat.beq f n then some (ev2S lessM) else none
noncomputable def cfg27 : Cfg := { cfgB with
  sigs := sigL 25
  keep := fun r => match r with
    | 3 => some [(0, none), (3, some 0), (7, none), (8, none), (9, none)]
    | 8 => some [(0, none), (3, some 0), (7, none), (8, none), (9, none), (5, none), (4, none), (6, none)]
    | _ => none
  keepB := fun b => match b with
    | 0 => some [(3, some 0)]
    | 1 => some [(0, none), (3, some 0), (7, none), (8, none), (9, none)]
    | _ => none
  plan := fun r => match r with | 10 => some (List.range 11, 0) | 11 => some (List.range 18, 1) | _ => none }
noncomputable def cfg28 : Cfg := { cfgB with
  sigs := sigL 26
  keep := fun r => match r with
    | 3 => some [(0, none), (3, some 0), (4, none)]
    | 7 => some [(0, none), (3, some 0), (4, none), (5, none)]
    | _ => none
  keepB := fun b => match b with
    | 0 => some [(3, some 0)]
    | 1 => some [(0, none), (3, some 0), (4, none)]
    | 2 => some [(0, none), (3, some 0), (4, none), (5, none)]
    | _ => none
  plan := fun r => match r with | 7 => some (List.range 17, 0) | _ => none }
end Go.Rx
