import Derived.Test.YtpgapdmmcanffaaD02a
namespace Go.Rx
open Go.Proofs

/-- Two ways, by a test. -/
def fS2 (sh : List Nat) (b : List Int → Bool) (f g : List Int → V) : Spec where
  tr := fun args H K => match H, shA sh args with
    | [], some xs => (b xs = true → K (f xs) []) ∧ (b xs = false → K (g xs) [])
    | _, _ => False

theorem fS2_ok {cfg : Cfg} (ok : CfgOK cfg) (hsig : ∀ g s, cfg.sigs g = some s → SpecOK cfg.P cfg.elT g s) {g : FuncId} {fn : Func} {sh : List Nat} {b : List Int → Bool} {f1 f2 : List Int → V}
    (hg : cfg.P.funcs[g]? = some fn) (hname : (fn.name == "runtime.NumGoroutine") = false) (hb : fn.body.isNone = false)
    (h : ∀ (xs : List Int) (K : V → Heap → Prop), (b xs = true → K (f1 xs) []) → (b xs = false → K (f2 xs) []) → exF cfg fn (mkA sh 0 xs) [] K) : SpecOK cfg.P cfg.elT g (fS2 sh b f1 f2) := by
  refine spec_of_exF ok hsig hg hname hb ?_
  intro args H K ht
  unfold fS2 at ht
  simp only at ht
  split at ht
  · rename_i xs hxs
    have e := shA_mk [] hxs
    simp only [List.length_nil, List.nil_append] at e
    rw [e]
    exact h _ K ht.1 ht.2
  · exact ht.elim

def a0 (c : List Int) : Int := 3 + i c 3
def a1 (c : List Int) : Int := a0 c + (i c 2 + 3) / 4
def a6 (c : List Int) : Int := a1 c + 5 * i c 2
def a7 (c : List Int) : Int := a6 c + 62
def a8 (c : List Int) : Int := a7 c + 5 * (i c 1 * (i c 8 + 1))
def a9 (c : List Int) : Int := a8 c + 5 * (i c 9 + 1)
def a10 (c : List Int) : Int := (a9 c + 32 * i c 2 + 127) / 128 * 128
def a11 (c : List Int) : Int := a10 c + 32 * i c 2
/-- A layout, as numbers: the configuration, and where each part begins. -/
def layM (c : List Int) : List Int :=
  [i c 0, i c 1, i c 2, i c 3, i c 4, i c 5, i c 6, i c 7, i c 8, i c 9, i c 10, a0 c, a1 c, a1 c + i c 2, a1 c + 2 * i c 2, a1 c + 3 * i c 2, a1 c + 4 * i c 2, a6 c, a7 c, a8 c, a9 c, a10 c, a11 c]

def zer (n : Nat) : List Int := List.replicate n 0
def layV (c : List Int) : V := .agg (icV 23 0 (layM c))
def lay0 : V := .agg (icV 23 0 (zer 23))

def sig12 : FuncId → Option Spec := fun f => match f with
  | 11 => some (fS [11] (fun _ => True) (fun c => vi (bif rightM c then 0 else 2)))
  | 67 => some (fS [0] (fun xs => 0 ≤ i xs 0 ∧ i xs 0 ≤ 1099511627776) (fun xs => vi ((i xs 0 + 3) / 4)))
  | _ => none
noncomputable def cfg12 : Cfg := { cfgB with sigs := sig12, unroll := fun r => match r with | 8 => some 6 | 19 => some 12 | _ => none }
end Go.Rx
