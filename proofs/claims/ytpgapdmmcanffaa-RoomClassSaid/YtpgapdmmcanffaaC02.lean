/- Layer 02: the configurations of the executor, and what the functions tell, plainly. -/
import Derived.Test.YtpgapdmmcanffaaRxS
import Derived.Test.YtpgapdmmcanffaaProg
namespace Go.Rx
open Go.Proofs
def tagT : TypeId → Option Nat := fun t => match t with | 42 => some 0 | 41 => some 1 | 65 => some 6 | _ => none
def elTT : Nat → TypeId := fun t => match t with | 0 => 3 | 1 => 4 | 6 => 64 | 10 => 49 | 14 => 23 | 26 => 28 | _ => 0
noncomputable def cfgB : Cfg where
  P := Try.prog
  tagOf := tagT
  elT := elTT
  sigs := fun _ => none
  keep := fun _ => none
  keepB := fun _ => none
  plan := fun _ => none

def btw (n low high : Int) : Bool := decide (low ≤ n) && decide (n ≤ high)
def i (xs : List Int) (k : Nat) : Int := xs.getD k 0
/-- Which configurations may be. -/
def rightM (c : List Int) : Bool :=
  btw (i c 0) 1 64 && (btw (i c 1) 1 8 && (btw (i c 2) 1 256 && (btw (i c 3) 1 64 && (btw (i c 4) 0 16 && (btw (i c 5) 0 64 && (btw (i c 6) 1 1099511627776 && (btw (i c 7) 1 8 && (btw (i c 8) 0 8 && (btw (i c 9) 0 16 && btw (i c 10) 1 8)))))))))

noncomputable def cfg66 : Cfg := cfgB
def sig11 : FuncId → Option Spec := fun f => match f with
  | 66 => some (fS [3] (fun _ => True) (fun xs => vb (btw (i xs 0) (i xs 1) (i xs 2))))
  | _ => none
noncomputable def cfg11 : Cfg := { cfgB with sigs := sig11, unroll := fun r => match r with | 2 => some 12 | _ => none }
def sig13 : FuncId → Option Spec := fun f => match f with
  | 68 => some (fS [0, 0, 0] (fun _ => True) (fun xs => vb (btw (i xs 0) (i xs 1) (i xs 2))))
  | _ => none
noncomputable def cfg13 : Cfg := { cfgB with sigs := sig13 }
end Go.Rx
