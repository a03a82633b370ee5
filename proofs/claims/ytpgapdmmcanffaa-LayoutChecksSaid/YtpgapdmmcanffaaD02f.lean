import Derived.Test.YtpgapdmmcanffaaN02f
import Derived.Test.YtpgapdmmcanffaaRxI
namespace Go.Rx
open Go.Proofs

theorem args_conf {args : List V} {H : Heap} (h : ArgsOf [.el 14] 0 args H) : ∃ c : List Int, args = mkA [11] 0 c ∧ H = [] := by
  obtain ⟨c, _, rfl, _, rfl, rfl⟩ := h
  exact ⟨c, rfl, rfl⟩

attribute [local irreducible] Loop ex exF contK roundK retK at_ bodyOf mkEnv mkA

theorem checks_law : SpecOK Try.prog elTT 3 (lawS [.el 14]) := by
  refine spec_of_exF (cfg := cfg3) (cfg_ok rfl rfl rfl) sig3_ok (fn := Try.f3) (by kernel_rfl) (by kernel_rfl) (by kernel_rfl) ?_
  intro args H K h
  obtain ⟨ha, hk⟩ := h
  obtain ⟨c, rfl, rfl⟩ := args_conf ha
  refine Eq.mpr (nf3 c K) ⟨trivial, fun hr => ⟨trivial, ?_⟩, fun hr => ⟨trivial, ?_⟩⟩
  · rw [hr]
    refine br_false rfl (br_true rfl ⟨trivial, br_true ?_ ⟨trivial, hk _⟩⟩)
    simp [v14_0, v14_1, v14_2, v14_3, v14_4, v14_5, v14_6, v14_7, v14_8, v14_9, v14_10, layM, i]
  · rw [hr]
    exact br_true rfl (br_true rfl ⟨trivial, trivial, trivial, hk _⟩)
end Go.Rx
