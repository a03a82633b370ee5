import Derived.Test.YtpgapdmmcanffaaD02d
namespace Go.Rx
open Go.Proofs

noncomputable def sigL : FuncId → Option Spec := fun f => match f with
  | 11 => some (fS [11] (fun _ => True) (fun c => vi (bif rightM c then 0 else 2)))
  | 12 => some (fS2 [11] rightM (fun c => .tup [layV c, vi 0]) (fun _ => .tup [lay0, vi 2]))
  | 13 => some (fS [11] (fun _ => True) (fun c => vb (rightM c)))
  | 14 => some s14
  | 15 => some s15
  | 18 => some s18
  | 20 => some s20
  | 22 => some s22
  | 24 => some s24
  | 26 => some s26
  | 28 => some s28
  | 30 => some s30
  | 32 => some s32
  | 34 => some s34
  | 37 => some s37
  | 38 => some s38
  | 39 => some s39
  | 44 => some s44
  | 45 => some s45
  | _ => none
noncomputable def cfg16 : Cfg := { cfgB with sigs := sigL }
end Go.Rx
