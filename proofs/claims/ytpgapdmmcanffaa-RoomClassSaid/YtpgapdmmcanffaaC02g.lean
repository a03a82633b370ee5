import Derived.Test.YtpgapdmmcanffaaD02d
namespace Go.Rx
open Go.Proofs

/-! The reference's functions, run in place, level by level. -/
noncomputable def cfgR (n : Nat) (s : FuncId → Option Spec) (u : Nat → Option Nat) : Cfg := { cfgB with sigs := s, plan := planOf n, unroll := u }
def noU : Nat → Option Nat := fun _ => none
noncomputable def cfg74 : Cfg := cfgR 74 (fun _ => none) (fun r => match r with | 3 => some 7 | _ => none)
noncomputable def sigR0 : FuncId → Option Spec := fun f => match f with
  | 19 => some (inl cfgB Try.f19)
  | 71 => some (inl cfgB Try.f71)
  | 72 => some (inl cfgB Try.f72)
  | 74 => some (inl cfg74 Try.f74)
  | _ => none
noncomputable def sigR1 : FuncId → Option Spec := fun f => match f with
  | 75 => some (inl (cfgR 75 sigR0 noU) Try.f75)
  | 76 => some (inl (cfgR 76 sigR0 noU) Try.f76)
  | f => sigR0 f
noncomputable def sigR2 : FuncId → Option Spec := fun f => match f with
  | 79 => some (inl (cfgR 79 sigR1 noU) Try.f79)
  | f => sigR1 f
noncomputable def sigR3 : FuncId → Option Spec := fun f => match f with
  | 80 => some (inl (cfgR 80 sigR2 noU) Try.f80)
  | f => sigR2 f
noncomputable def sigR4 : FuncId → Option Spec := fun f => match f with
  | 78 => some (inl (cfgR 78 sigR3 noU) Try.f78)
  | f => sigR3 f
noncomputable def sigR5 : FuncId → Option Spec := fun f => match f with
  | 42 => some (inl (cfgR 42 sigR4 noU) Try.f42)
  | f => sigR4 f
noncomputable def sigR : FuncId → Option Spec := fun f => match f with
  | 41 => some (inl (cfgR 41 sigR5 noU) Try.f41)
  | f => sigR5 f
noncomputable def cfgQ (n : Nat) : Cfg := cfgR n sigR noU
noncomputable def cfg23 : Cfg := cfgR 23 sigR (fun r => match r with | 5 => some 6 | _ => none)
end Go.Rx
