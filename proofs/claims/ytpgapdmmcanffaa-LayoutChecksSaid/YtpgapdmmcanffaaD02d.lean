/- What the layout's functions tell, off their normal forms (by a program of this session's); their contracts. -/
import Derived.Test.YtpgapdmmcanffaaN02d
namespace Go.Rx
open Go.Proofs

def v20_0 (xs : List Int) : Int := (bif (Decidable.decide (List.getD xs 23 0 < 0)) then (0) else (bif (Decidable.decide (List.getD xs 23 0 ≥ Go.Rx.v18_0 [List.getD xs 0 0, List.getD xs 1 0, List.getD xs 2 0, List.getD xs 3 0, List.getD xs 4 0, List.getD xs 5 0, List.getD xs 6 0, List.getD xs 7 0, List.getD xs 8 0, List.getD xs 9 0, List.getD xs 10 0, List.getD xs 11 0, List.getD xs 12 0, List.getD xs 13 0, List.getD xs 14 0, List.getD xs 15 0, List.getD xs 16 0, List.getD xs 17 0, List.getD xs 18 0, List.getD xs 19 0, List.getD xs 20 0, List.getD xs 21 0, List.getD xs 22 0])) then (0) else (Go.IntKind.wrap Go.IntKind.i64 (List.getD xs 11 0 + List.getD xs 23 0))))

def p20 (xs : List Int) : Prop := (((( (Int.NonNeg (List.getD xs 2 0 - 0))) ∧ ( (Int.NonNeg (1099511627776 - List.getD xs 2 0))))))

def s20 : Spec := fS [23, 0] p20 (fun xs => vi (v20_0 xs))



attribute [local irreducible] Loop ex exF contK roundK retK at_ bodyOf mkEnv mkA

theorem sig20_ok : ∀ g s, sig20 g = some s → SpecOK Try.prog elTT g s := by
  intro g s hs
  unfold sig20 at hs
  split at hs
  · injection hs with hs; subst hs; exact ok18
  · injection hs with hs; subst hs; exact inl_ok (cfg := cfgB) (cfg_ok rfl rfl rfl) (nosig rfl) (fn := Try.f70) (by kernel_rfl) (by kernel_rfl) (by kernel_rfl)
  · cases hs

theorem ok20 : SpecOK Try.prog elTT 20 s20 :=
  fS_ok (cfg := cfg20) (cfg_ok rfl rfl rfl) sig20_ok (fn := Try.f20) (by kernel_rfl) (by kernel_rfl) (by kernel_rfl) fun xs K hp hk => Eq.mpr (nf20 xs K) (⟨hp, br_intro (fun h0 => by simpa only [v20_0, h0, cond_true, cond_false] using hk) (fun h0 => br_intro (fun h1 => by simpa only [v20_0, h0, h1, cond_true, cond_false] using hk) (fun h1 => by simpa only [v20_0, h0, h1, cond_true, cond_false] using hk))⟩)

end Go.Rx
