import Derived.Test.YtpgapdmmcanffaaD02g
import Derived.Test.YtpgapdmmcanffaaD02e
namespace Go.Rx
open Go.Proofs

def qOf : Spec where
  tr := fun args H K => match H, shA [11] args with
    | [], some xs => (rightM xs = true → ∀ L : List Int, L = layM xs → K (.tup [.agg (icV 23 0 L), vi 0]) []) ∧ (rightM xs = false → K (.tup [lay0, vi 2]) [])
    | _, _ => False

theorem qOf_ok : SpecOK Try.prog elTT 12 qOf := spec_mono (fun args H K h => by
  unfold qOf at h
  simp only at h
  split at h
  · rename_i xs hxs
    unfold fS2
    simp only [hxs]
    exact ⟨fun hr => h.1 hr _ rfl, h.2⟩
  · exact h.elim) of_ok

noncomputable def sigT : FuncId → Option Spec := fun f => match f with
  | 12 => some qOf
  | 14 => some s14
  | 15 => some q15
  | 16 => some trueS
  | 17 => some q17
  | 18 => some q18
  | 19 => some q19
  | 20 => some q20
  | 21 => some q21
  | 22 => some q22
  | 24 => some q24
  | 25 => some q25
  | 26 => some q26
  | 27 => some q27
  | 28 => some q28
  | 29 => some q29
  | 30 => some q30
  | 31 => some q31
  | 32 => some q32
  | 33 => some q33
  | 34 => some q34
  | 35 => some q35
  | 37 => some q37
  | 38 => some q38
  | 39 => some q39
  | 40 => some q40
  | 41 => some q41
  | 42 => some q42
  | 44 => some q44
  | 45 => some q45
  | 46 => some q46
  | 47 => some q47
  | 48 => some q48
  | 49 => some q49
  | _ => none
noncomputable def cfgT (n : Nat) : Cfg := { cfgB with sigs := sigT, plan := planOf n }
end Go.Rx
