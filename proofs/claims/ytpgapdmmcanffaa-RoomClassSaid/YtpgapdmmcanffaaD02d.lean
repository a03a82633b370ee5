/- What the layout's functions tell, off their normal forms (by a program of this session's); their contracts. -/
import Derived.Test.YtpgapdmmcanffaaN02d
namespace Go.Rx
open Go.Proofs

def v20_0 (xs : List Int) : Int := (bif (Decidable.decide (List.getD xs 23 0 < 0)) then (0) else (bif (Decidable.decide (List.getD xs 23 0 ≥ Go.Rx.v18_0 [List.getD xs 0 0, List.getD xs 1 0, List.getD xs 2 0, List.getD xs 3 0, List.getD xs 4 0, List.getD xs 5 0, List.getD xs 6 0, List.getD xs 7 0, List.getD xs 8 0, List.getD xs 9 0, List.getD xs 10 0, List.getD xs 11 0, List.getD xs 12 0, List.getD xs 13 0, List.getD xs 14 0, List.getD xs 15 0, List.getD xs 16 0, List.getD xs 17 0, List.getD xs 18 0, List.getD xs 19 0, List.getD xs 20 0, List.getD xs 21 0, List.getD xs 22 0])) then (0) else (Go.IntKind.wrap Go.IntKind.i64 (List.getD xs 11 0 + List.getD xs 23 0))))

def p20 (xs : List Int) : Prop := (((( (Int.NonNeg (List.getD xs 2 0 - 0))) ∧ ( (Int.NonNeg (1099511627776 - List.getD xs 2 0))))))

def s20 : Spec := fS [23, 0] p20 (fun xs => vi (v20_0 xs))

def q20 : Spec where
  tr := fun args H K => match H, shA [23, 0] args with
    | [], some xs => p20 xs ∧ ∀ (x0 : Int), x0 = v20_0 xs → K (vi x0) []
    | _, _ => False

def v17_0 (xs : List Int) : Int := (Go.IntKind.wrap Go.IntKind.i64 (1 + Go.IntKind.wrap Go.IntKind.i64 (Int.tmod (Go.IntKind.wrap Go.IntKind.u64 (List.getD xs 0 0)) (Go.IntKind.wrap Go.IntKind.u64 (Go.IntKind.wrap Go.IntKind.i64 (Go.IntKind.wrap Go.IntKind.i64 (64 - 1) + 1))))))

def v17_1 (xs : List Int) : Int := (Go.IntKind.wrap Go.IntKind.i64 (1 + Go.IntKind.wrap Go.IntKind.i64 (Int.tmod (Go.IntKind.wrap Go.IntKind.u64 (List.getD xs 1 0)) (Go.IntKind.wrap Go.IntKind.u64 (Go.IntKind.wrap Go.IntKind.i64 (Go.IntKind.wrap Go.IntKind.i64 (8 - 1) + 1))))))

def v17_2 (xs : List Int) : Int := (Go.IntKind.wrap Go.IntKind.i64 (1 + Go.IntKind.wrap Go.IntKind.i64 (Int.tmod (Go.IntKind.wrap Go.IntKind.u64 (List.getD xs 2 0)) (Go.IntKind.wrap Go.IntKind.u64 (Go.IntKind.wrap Go.IntKind.i64 (Go.IntKind.wrap Go.IntKind.i64 (256 - 1) + 1))))))

def v17_3 (xs : List Int) : Int := (Go.IntKind.wrap Go.IntKind.i64 (1 + Go.IntKind.wrap Go.IntKind.i64 (Int.tmod (Go.IntKind.wrap Go.IntKind.u64 (List.getD xs 3 0)) (Go.IntKind.wrap Go.IntKind.u64 (Go.IntKind.wrap Go.IntKind.i64 (Go.IntKind.wrap Go.IntKind.i64 (64 - 1) + 1))))))

def v17_4 (xs : List Int) : Int := (Go.IntKind.wrap Go.IntKind.i64 (0 + Go.IntKind.wrap Go.IntKind.i64 (Int.tmod (Go.IntKind.wrap Go.IntKind.u64 (List.getD xs 4 0)) (Go.IntKind.wrap Go.IntKind.u64 (Go.IntKind.wrap Go.IntKind.i64 (Go.IntKind.wrap Go.IntKind.i64 (16 - 0) + 1))))))

def v17_5 (xs : List Int) : Int := (Go.IntKind.wrap Go.IntKind.i64 (0 + Go.IntKind.wrap Go.IntKind.i64 (Int.tmod (Go.IntKind.wrap Go.IntKind.u64 (List.getD xs 5 0)) (Go.IntKind.wrap Go.IntKind.u64 (Go.IntKind.wrap Go.IntKind.i64 (Go.IntKind.wrap Go.IntKind.i64 (64 - 0) + 1))))))

def v17_6 (xs : List Int) : Int := (Go.IntKind.wrap Go.IntKind.i64 (1 + Go.IntKind.wrap Go.IntKind.i64 (Int.tmod (Go.IntKind.wrap Go.IntKind.u64 (List.getD xs 6 0)) (Go.IntKind.wrap Go.IntKind.u64 (Go.IntKind.wrap Go.IntKind.i64 (Go.IntKind.wrap Go.IntKind.i64 (1099511627776 - 1) + 1))))))

def v17_7 (xs : List Int) : Int := (Go.IntKind.wrap Go.IntKind.i64 (1 + Go.IntKind.wrap Go.IntKind.i64 (Int.tmod (Go.IntKind.wrap Go.IntKind.u64 (List.getD xs 7 0)) (Go.IntKind.wrap Go.IntKind.u64 (Go.IntKind.wrap Go.IntKind.i64 (Go.IntKind.wrap Go.IntKind.i64 (8 - 1) + 1))))))

def v17_8 (xs : List Int) : Int := (Go.IntKind.wrap Go.IntKind.i64 (0 + Go.IntKind.wrap Go.IntKind.i64 (Int.tmod (Go.IntKind.wrap Go.IntKind.u64 (List.getD xs 8 0)) (Go.IntKind.wrap Go.IntKind.u64 (Go.IntKind.wrap Go.IntKind.i64 (Go.IntKind.wrap Go.IntKind.i64 (8 - 0) + 1))))))

def v17_9 (xs : List Int) : Int := (Go.IntKind.wrap Go.IntKind.i64 (0 + Go.IntKind.wrap Go.IntKind.i64 (Int.tmod (Go.IntKind.wrap Go.IntKind.u64 (List.getD xs 9 0)) (Go.IntKind.wrap Go.IntKind.u64 (Go.IntKind.wrap Go.IntKind.i64 (Go.IntKind.wrap Go.IntKind.i64 (16 - 0) + 1))))))

def v17_10 (xs : List Int) : Int := (Go.IntKind.wrap Go.IntKind.i64 (1 + Go.IntKind.wrap Go.IntKind.i64 (Int.tmod (Go.IntKind.wrap Go.IntKind.u64 (List.getD xs 10 0)) (Go.IntKind.wrap Go.IntKind.u64 (Go.IntKind.wrap Go.IntKind.i64 (Go.IntKind.wrap Go.IntKind.i64 (8 - 1) + 1))))))

def p17 (xs : List Int) : Prop := True

def s17 : Spec := fS [11] p17 (fun xs => .agg [vi (v17_0 xs), vi (v17_1 xs), vi (v17_2 xs), vi (v17_3 xs), vi (v17_4 xs), vi (v17_5 xs), vi (v17_6 xs), vi (v17_7 xs), vi (v17_8 xs), vi (v17_9 xs), vi (v17_10 xs)])

def q17 : Spec where
  tr := fun args H K => match H, shA [11] args with
    | [], some xs => p17 xs ∧ ∀ (x0 : Int) (x1 : Int) (x2 : Int) (x3 : Int) (x4 : Int) (x5 : Int) (x6 : Int) (x7 : Int) (x8 : Int) (x9 : Int) (x10 : Int), x0 = v17_0 xs → x1 = v17_1 xs → x2 = v17_2 xs → x3 = v17_3 xs → x4 = v17_4 xs → x5 = v17_5 xs → x6 = v17_6 xs → x7 = v17_7 xs → x8 = v17_8 xs → x9 = v17_9 xs → x10 = v17_10 xs → K (.agg [vi x0, vi x1, vi x2, vi x3, vi x4, vi x5, vi x6, vi x7, vi x8, vi x9, vi x10]) []
    | _, _ => False



attribute [local irreducible] Loop ex exF contK roundK retK at_ bodyOf mkEnv mkA

theorem sig20_ok : ∀ g s, sig20 g = some s → SpecOK Try.prog elTT g s := by
  intro g s hs
  unfold sig20 at hs
  split at hs
  · injection hs with hs; subst hs; exact ok18
  · injection hs with hs; subst hs; exact inl_ok (cfg := cfgB) (cfg_ok rfl rfl rfl) (nosig rfl) (fn := Try.f70) (by kernel_rfl) (by kernel_rfl) (by kernel_rfl)
  · cases hs

theorem ok20 : SpecOK Try.prog elTT 20 s20 :=
  fS_ok (cfg := cfg20) (cfg_ok rfl rfl rfl) sig20_ok (fn := Try.f20) (by kernel_rfl) (by kernel_rfl) (by kernel_rfl) fun xs K hp hk => Eq.mpr (nf20 xs K) (⟨hp, br_intro (fun h0 => by simpa only [v20_0, h0, cond_true, cond_false] using hk) (fun h0 => br_intro (fun h1 => by simpa only [v20_0, h0, h1, cond_true, cond_false] using hk) (fun h1 => by simpa only [v20_0, h0, h1, cond_true, cond_false] using hk))⟩)

theorem okq20 : SpecOK Try.prog elTT 20 q20 :=
  spec_mono (fun args H K h => by
    unfold q20 at h
    simp only at h
    split at h
    · rename_i xs hxs
      unfold s20 fS
      simp only [hxs]
      exact ⟨h.1, h.2 _ rfl⟩
    · exact h.elim) ok20

theorem ok17 : SpecOK Try.prog elTT 17 s17 :=
  fS_ok (cfg := cfg17) (cfg_ok rfl rfl rfl) sigM_ok (fn := Try.f17) (by kernel_rfl) (by kernel_rfl) (by kernel_rfl) fun xs K hp hk => Eq.mpr (nf17 xs K) (by simpa only [v17_0, v17_1, v17_2, v17_3, v17_4, v17_5, v17_6, v17_7, v17_8, v17_9, v17_10, cond_true, cond_false] using hk)

theorem okq17 : SpecOK Try.prog elTT 17 q17 :=
  spec_mono (fun args H K h => by
    unfold q17 at h
    simp only at h
    split at h
    · rename_i xs hxs
      unfold s17 fS
      simp only [hxs]
      exact ⟨h.1, h.2 _ _ _ _ _ _ _ _ _ _ _ rfl rfl rfl rfl rfl rfl rfl rfl rfl rfl rfl⟩
    · exact h.elim) ok17

end Go.Rx
