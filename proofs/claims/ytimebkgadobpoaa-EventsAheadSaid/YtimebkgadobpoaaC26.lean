import Derived.Test.YtimebkgadobpoaaM26
import Derived.Test.YtimebkgadobpoaaProg
namespace Go.Rx
open Go.Proofs
def tagT : TypeId → Option Nat := fun t => match t with | 22 => some 3 | 26 => some 0 | 40 => some 0 | 50 => some 1 | _ => none
def elTT : ET := ⟨fun t => match t with | 0 => 3 | 1 => 4 | 3 => 36 | _ => 0, fun _ _ _ => False⟩
noncomputable def cfgB : Cfg where
  P := Try.prog
  tagOf := tagT
  elT := elTT
  sigs := fun _ => none
  keep := fun _ => none
  keepB := fun _ => none
  plan := fun _ => none
end Go.Rx
