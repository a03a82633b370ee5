import Derived.Test.YtimebkgadobpoaaD25b
namespace Go.Rx
open Go.Proofs
noncomputable def sig12 : FuncId → Option Spec := fun f => match f with
  | 15 => some (ev2S aheadM)
  | 16 => some (ev2S aheadM)
  | 31 => some (wevS oneM)
  | 32 => some (wevS oneM)
  | 33 => some placesS
  | _ => none
noncomputable def cfg12 : Cfg := { cfgB with
  sigs := sig12
  keep := fun r => match r with | 3 => some [(0, none), (1, none), (5, none), (13, none), (14, none), (15, none)] | 14 => some [(0, none), (1, none), (9, none), (62, none)] | _ => none
  keepB := fun b => match b with | 0 => some [(0, none), (1, none), (5, none)] | 2 => some [(0, none), (9, none)] | _ => none
  plan := fun r => match r with | 5 => some (List.range 19, 0) | 8 => some (List.range 12, 0) | _ => none }
noncomputable def cfg13 : Cfg := { cfgB with
  sigs := sig12
  keep := fun r => match r with | 2 => some [(0, none), (1, none), (5, none)] | 7 => some [(0, none), (1, none), (5, none), (6, none)] | _ => none
  keepB := fun b => match b with | 0 => some [] | 2 => some [(0, none), (1, none), (5, none)] | _ => none
  plan := fun r => match r with | 4 => some (List.range 25, 0) | 9 => some (List.range 23, 0) | _ => none }
noncomputable def cfg14 : Cfg := { cfgB with sigs := sig12 }
end Go.Rx
