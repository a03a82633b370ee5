import Derived.Test.YtimebkgadobpoaaD25c
namespace Go.Rx
open Go.Proofs
def chainT : List Nat → PT → PT
  | [], t => t
  | i :: r, t => .op i (chainT r t)
def quietM (t : Int) (l : List Ev) : Bool := (posM (pendM t) l).length == 0
def trueS : Spec where
  tr := fun args H K => match args, H with
    | [], [] => K (vb true) []
    | _, _ => False
theorem trueS_elim {args : List V} {H : Heap} {K : V → Heap → Prop} (h : trueS.tr args H K) : args = [] ∧ H = [] ∧ K (vb true) [] := by
  unfold trueS at h
  simp only at h
  split at h
  · exact ⟨rfl, rfl, h⟩
  · exact h.elim
noncomputable def sig19 : FuncId → Option Spec := fun f => match f with
  | 14 => some (rowsS fun t l => posM (pendM t) l)
  | _ => none
noncomputable def cfg19 : Cfg := { cfgB with sigs := sig19 }
end Go.Rx
