/- Layer 29 (room): the configurations of the executor. -/
import Derived.Test.YtpgapdmmcanffaaD02d
namespace Go.Rx
open Go.Proofs

def planOf9 : Nat → Nat → Option (List Nat × Nat)
  | 8, 10 => some ([0, 1, 3, 4, 2, 5, 6, 7, 8, 9, 10, 11, 13, 14, 15, 16, 12, 17, 18, 19, 20, 21, 22, 24, 23, 25, 26, 27, 28, 29, 30, 31], 0)
  | 9, 6 => some ([0, 1, 2, 3, 4, 5, 6, 7, 8, 9, 10, 12, 13, 14, 11, 15, 16, 17], 0)
  | 54, 1 => some ([0, 3, 4, 1, 2, 5, 6, 7], 0)
  | 57, 6 => some ([0, 1, 3, 4, 5, 6, 7, 8, 2, 9, 10], 0)
  | _, _ => none
noncomputable def cfgA (n : Nat) (s : FuncId → Option Spec) (u : Nat → Option Nat) : Cfg := { cfgB with sigs := s, plan := planOf9 n, unroll := u }
def noU9 : Nat → Option Nat := fun _ => none
def un2 (n : Nat) : Nat → Option Nat := fun r => match r with | 2 => some n | _ => none
noncomputable def sigA0 : FuncId → Option Spec := fun f => match f with
  | 100 => some (inl cfgB Try.f100)
  | 102 => some (inl (cfgA 102 (fun _ => none) (fun r => match r with | 5 => some 7 | _ => none)) Try.f102)
  | _ => none
noncomputable def sigA1 : FuncId → Option Spec := fun f => match f with
  | 101 => some (inl (cfgA 101 sigA0 noU9) Try.f101)
  | f => sigA0 f
end Go.Rx
