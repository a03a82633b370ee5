import Derived.Test.YtpgapdmmcanffaaD02b
namespace Go.Rx
open Go.Proofs

/-- A callee that is run in place. -/
def inl (cfg : Cfg) (fn : Func) : Spec where
  tr := fun args H K => exF cfg fn args H K

theorem inl_ok {cfg : Cfg} (ok : CfgOK cfg) (hsig : ∀ g s, cfg.sigs g = some s → SpecOK cfg.P cfg.elT g s) {g : FuncId} {fn : Func}
    (hg : cfg.P.funcs[g]? = some fn) (hname : (fn.name == "runtime.NumGoroutine") = false) (hb : fn.body.isNone = false) : SpecOK cfg.P cfg.elT g (inl cfg fn) :=
  spec_of_exF ok hsig hg hname hb fun _ _ _ h => h

def big : Int := 1099511627776
def sml (x : Int) : Prop := 0 ≤ x ∧ x ≤ big
/-- A layout's numbers are small. -/
def inM (at_ i many : Int) : Int := bif decide (i < 0) then 0 else bif decide (i ≥ many) then 0 else at_ + i
def chunksM (l : List Int) : Int := (i l 2 + 3) / 4

noncomputable def sigM : FuncId → Option Spec := fun f => match f with
  | 67 => some (fS [0] (fun xs => 0 ≤ i xs 0 ∧ i xs 0 ≤ 1099511627776) (fun xs => vi ((i xs 0 + 3) / 4)))
  | 70 => some (inl cfgB Try.f70)
  | 73 => some (inl cfgB Try.f73)
  | 77 => some (inl cfgB Try.f77)
  | 71 => some (inl cfgB Try.f71)
  | 72 => some (inl cfgB Try.f72)
  | 69 => some (inl cfgB Try.f69)
  | _ => none
noncomputable def cfgM : Cfg := { cfgB with sigs := sigM }
noncomputable def cfgS : Cfg := { cfgB with sigs := sigM, plan := fun r => match r with | 1 => some (List.range 35, 0) | _ => none }
end Go.Rx
