import Derived.Test.YtimebkgadobpoaaD26a
namespace Go.Rx
open Go.Proofs
noncomputable def cfg18 : Cfg := { cfgB with
  keep := fun r => match r with | 4 => some [(0, none), (1, none), (5, none)] | _ => none
  keepB := fun b => match b with | 0 => some [] | _ => none
  plan := fun r => match r with | 6 => some (List.range 9, 0) | _ => none }
end Go.Rx
