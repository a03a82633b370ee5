import Derived.Test.YtpgapdmmcanffaaD02g
namespace Go.Rx
open Go.Proofs
noncomputable def sig43 : FuncId → Option Spec := fun f => match f with
  | 15 => some (inl cfgB Try.f15)
  | _ => none
noncomputable def cfg43 : Cfg := { cfgB with sigs := sig43, plan := planOf 43 }
end Go.Rx
