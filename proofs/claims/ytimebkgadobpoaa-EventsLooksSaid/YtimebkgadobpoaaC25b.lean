import Derived.Test.YtimebkgadobpoaaD25a
namespace Go.Rx
open Go.Proofs
noncomputable def sig33 : FuncId → Option Spec := fun f => match f with
  | 34 => some (boxS pendM)
  | 37 => some (boxS ofM)
  | _ => none
noncomputable def cfg33 : Cfg := { cfgB with
  sigs := sig33
  keep := fun r => match r with | 3 => some [(0, none), (1, none), (5, some 0), (8, none), (9, none), (10, none)] | _ => none
  keepB := fun b => match b with | 0 => some [(5, some 0)] | _ => none }
noncomputable def cfg17 : Cfg := { cfgB with
  keep := fun r => match r with | 3 => some [(0, none), (1, none), (5, some 0), (6, none)] | _ => none
  keepB := fun b => match b with | 0 => some [(5, some 0)] | _ => none }
noncomputable def cfg22 : Cfg := { cfgB with
  keep := fun r => match r with | 5 => some [(3, none), (13, none), (14, none), (15, none)] | _ => none
  keepB := fun b => match b with | 0 => some [(3, none)] | _ => none }
noncomputable def cfg23 : Cfg := { cfgB with
  keep := fun r => match r with | 3 => some [(0, none), (3, none), (4, none)] | _ => none
  keepB := fun b => match b with | 0 => some [(3, none)] | _ => none }
end Go.Rx
