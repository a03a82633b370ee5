import Derived.Test.YtimebkgadobpoaaD25d
namespace Go.Rx
open Go.Proofs
noncomputable def sigE : FuncId → Option Spec := fun f => match f with
  | 12 => some (rowBS rightB)
  | 13 => some (rowBS rightB)
  | 14 => some (rowsS fun t l => posM (pendM t) l)
  | 15 => some (ev2S aheadM)
  | 16 => some (ev2S aheadM)
  | 17 => some (rowsS fun t l => posM (pendM t) l)
  | 18 => some sameS
  | 19 => some (rowBS2 quietM)
  | 20 => some (rowsS fun t l => posM (ofM t) l)
  | 21 => some (rowsS fun t l => posM (ofM t) l)
  | 22 => some (rowIS lastM)
  | 23 => some (rowIS lastM)
  | _ => none
noncomputable def cfg11 : Cfg := { cfgB with
  sigs := sigE
  planT := fun r => match r with | 2 => some (chainT (List.range 13) (.alt (chainT [13, 14, 15, 16, 17, 18, 19, 20, 21, 22, 23, 24, 25, 26] .fin) (chainT [14, 13, 15, 16, 17, 18, 19, 20, 21, 22, 23, 24, 25, 26] .fin)), 0) | _ => none }
noncomputable def sigF : FuncId → Option Spec := fun f => match f with
  | 11 => some trueS
  | f => sigE f
noncomputable def cfg3 : Cfg := { cfgB with sigs := sigF }
noncomputable def cfg5 : Cfg := { cfgB with
  sigs := sigF
  unroll := fun r => match r with | 2 => some 5 | _ => none }
noncomputable def cfg4 : Cfg := { cfgB with
  sigs := sigF
  keep := fun r => match r with | 8 => some [(1, none), (9, none), (10, none)] | 11 => some [(1, none), (9, none), (10, none), (11, none)] | _ => none
  keepB := fun b => match b with | 0 => some [] | 2 => some [(1, none), (9, none), (10, none)] | _ => none
  plan := fun r => match r with | 13 => some (List.range 49, 0) | _ => none }
noncomputable def cfg6 : Cfg := { cfgB with
  sigs := sigF
  keep := fun r => match r with | 4 => some [(0, none), (1, none), (2, none), (7, none)] | 7 => some [(0, none), (1, none), (2, none), (7, none), (8, none)] | _ => none
  keepB := fun b => match b with | 0 => some [(0, none), (1, none), (2, none)] | 2 => some [(0, none), (1, none), (2, none), (7, none)] | _ => none
  plan := fun r => match r with | 9 => some ([0, 1, 2, 3, 4, 5, 6, 7, 9, 10, 11, 12, 13, 14, 15, 16, 8, 17, 18], 0) | _ => none }
end Go.Rx
