import Derived.Test.YtimebkgadobpoaaD26b
import Derived.Test.YtimebkgadobpoaaM25
namespace Go.Rx
open Go.Proofs
noncomputable def sig34 : FuncId → Option Spec := fun f => match f with
  | 35 => some (inl cfgB Try.f35)
  | 36 => some (inl cfgB Try.f36)
  | _ => none
noncomputable def cfg34 : Cfg := { cfgB with sigs := sig34 }
end Go.Rx
