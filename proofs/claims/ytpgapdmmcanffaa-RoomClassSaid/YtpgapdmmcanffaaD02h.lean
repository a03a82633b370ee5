/- The laws' callees; a configuration that 'Some' makes may be. -/
import Derived.Test.YtpgapdmmcanffaaC02h
namespace Go.Rx
open Go.Proofs

theorem sigT_ok : ∀ g s, sigT g = some s → SpecOK Try.prog elTT g s := by
  intro g s hs
  unfold sigT at hs
  split at hs
  · injection hs with hs; subst hs; exact qOf_ok
  · injection hs with hs; subst hs; exact ok14
  · injection hs with hs; subst hs; exact okq15
  · injection hs with hs; subst hs; exact lives_ok
  · injection hs with hs; subst hs; exact okq17
  · injection hs with hs; subst hs; exact okq18
  · injection hs with hs; subst hs; exact okq19
  · injection hs with hs; subst hs; exact okq20
  · injection hs with hs; subst hs; exact okq21
  · injection hs with hs; subst hs; exact okq22
  · injection hs with hs; subst hs; exact okq24
  · injection hs with hs; subst hs; exact okq25
  · injection hs with hs; subst hs; exact okq26
  · injection hs with hs; subst hs; exact okq27
  · injection hs with hs; subst hs; exact okq28
  · injection hs with hs; subst hs; exact okq29
  · injection hs with hs; subst hs; exact okq30
  · injection hs with hs; subst hs; exact okq31
  · injection hs with hs; subst hs; exact okq32
  · injection hs with hs; subst hs; exact okq33
  · injection hs with hs; subst hs; exact okq34
  · injection hs with hs; subst hs; exact okq35
  · injection hs with hs; subst hs; exact okq37
  · injection hs with hs; subst hs; exact okq38
  · injection hs with hs; subst hs; exact okq39
  · injection hs with hs; subst hs; exact okq40
  · injection hs with hs; subst hs; exact okq41
  · injection hs with hs; subst hs; exact okq42
  · injection hs with hs; subst hs; exact okq44
  · injection hs with hs; subst hs; exact okq45
  · injection hs with hs; subst hs; exact okq46
  · injection hs with hs; subst hs; exact okq47
  · injection hs with hs; subst hs; exact okq48
  · injection hs with hs; subst hs; exact okq49
  · cases hs

theorem u64_pos (x : Int) : 0 ≤ IntKind.u64.wrap x := wrap_u64_nonneg x

theorem within_of (x lo n : Int) (h0 : 0 ≤ lo) (h1 : lo ≤ 1) (h2 : 1 ≤ n) (h3 : n ≤ 1099511627777) : lo ≤ IntKind.i64.wrap (lo + IntKind.i64.wrap (Int.tmod (IntKind.u64.wrap x) n)) ∧
    IntKind.i64.wrap (lo + IntKind.i64.wrap (Int.tmod (IntKind.u64.wrap x) n)) ≤ lo + n - 1 := by
  have hp := u64_pos x
  rw [Int.tmod_eq_emod_of_nonneg hp]
  have a := Int.emod_nonneg (IntKind.u64.wrap x) (show n ≠ 0 by omega)
  have b := Int.emod_lt_of_pos (IntKind.u64.wrap x) (show 0 < n by omega)
  simp (disch := omega) only [wrap_id]
  omega

/-- What 'Some' makes. -/
def someM (c : List Int) : List Int := [v17_0 c, v17_1 c, v17_2 c, v17_3 c, v17_4 c, v17_5 c, v17_6 c, v17_7 c, v17_8 c, v17_9 c, v17_10 c]

theorem some_right (c : List Int) : Right (someM c) := by
  refine ⟨?_, ?_, ?_, ?_, ?_, ?_, ?_, ?_, ?_, ?_, ?_⟩
  · exact within_of (c.getD 0 0) 1 64 (by decide) (by decide) (by decide) (by decide)
  · exact within_of (c.getD 1 0) 1 8 (by decide) (by decide) (by decide) (by decide)
  · exact within_of (c.getD 2 0) 1 256 (by decide) (by decide) (by decide) (by decide)
  · exact within_of (c.getD 3 0) 1 64 (by decide) (by decide) (by decide) (by decide)
  · exact within_of (c.getD 4 0) 0 17 (by decide) (by decide) (by decide) (by decide)
  · exact within_of (c.getD 5 0) 0 65 (by decide) (by decide) (by decide) (by decide)
  · exact within_of (c.getD 6 0) 1 1099511627776 (by decide) (by decide) (by decide) (by decide)
  · exact within_of (c.getD 7 0) 1 8 (by decide) (by decide) (by decide) (by decide)
  · exact within_of (c.getD 8 0) 0 9 (by decide) (by decide) (by decide) (by decide)
  · exact within_of (c.getD 9 0) 0 17 (by decide) (by decide) (by decide) (by decide)
  · exact within_of (c.getD 10 0) 1 8 (by decide) (by decide) (by decide) (by decide)

end Go.Rx
