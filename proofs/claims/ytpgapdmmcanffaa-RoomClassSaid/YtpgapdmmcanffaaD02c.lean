/- What the layout's functions tell, off their normal forms (by a program of this session's); their contracts. -/
import Derived.Test.YtpgapdmmcanffaaN02c
namespace Go.Rx
open Go.Proofs

def v14_0 (xs : List Int) : Int := (List.getD xs 0 0)

def v14_1 (xs : List Int) : Int := (List.getD xs 1 0)

def v14_2 (xs : List Int) : Int := (List.getD xs 2 0)

def v14_3 (xs : List Int) : Int := (List.getD xs 3 0)

def v14_4 (xs : List Int) : Int := (List.getD xs 4 0)

def v14_5 (xs : List Int) : Int := (List.getD xs 5 0)

def v14_6 (xs : List Int) : Int := (List.getD xs 6 0)

def v14_7 (xs : List Int) : Int := (List.getD xs 7 0)

def v14_8 (xs : List Int) : Int := (List.getD xs 8 0)

def v14_9 (xs : List Int) : Int := (List.getD xs 9 0)

def v14_10 (xs : List Int) : Int := (List.getD xs 10 0)

def p14 (xs : List Int) : Prop := True

def s14 : Spec := fS [23] p14 (fun xs => .agg [vi (v14_0 xs), vi (v14_1 xs), vi (v14_2 xs), vi (v14_3 xs), vi (v14_4 xs), vi (v14_5 xs), vi (v14_6 xs), vi (v14_7 xs), vi (v14_8 xs), vi (v14_9 xs), vi (v14_10 xs)])

def q14 : Spec where
  tr := fun args H K => match H, shA [23] args with
    | [], some xs => p14 xs ∧ ∀ (x0 : Int) (x1 : Int) (x2 : Int) (x3 : Int) (x4 : Int) (x5 : Int) (x6 : Int) (x7 : Int) (x8 : Int) (x9 : Int) (x10 : Int), x0 = v14_0 xs → x1 = v14_1 xs → x2 = v14_2 xs → x3 = v14_3 xs → x4 = v14_4 xs → x5 = v14_5 xs → x6 = v14_6 xs → x7 = v14_7 xs → x8 = v14_8 xs → x9 = v14_9 xs → x10 = v14_10 xs → K (.agg [vi x0, vi x1, vi x2, vi x3, vi x4, vi x5, vi x6, vi x7, vi x8, vi x9, vi x10]) []
    | _, _ => False

def v15_0 (xs : List Int) : Int := (List.getD xs 22 0)

def p15 (xs : List Int) : Prop := True

def s15 : Spec := fS [23] p15 (fun xs => vi (v15_0 xs))

def q15 : Spec where
  tr := fun args H K => match H, shA [23] args with
    | [], some xs => p15 xs ∧ ∀ (x0 : Int), x0 = v15_0 xs → K (vi x0) []
    | _, _ => False

def v18_0 (xs : List Int) : Int := ((List.getD xs 2 0 + 3) / 4)

def p18 (xs : List Int) : Prop := (((( (Int.NonNeg (List.getD xs 2 0 - 0))) ∧ ( (Int.NonNeg (1099511627776 - List.getD xs 2 0))))))

def s18 : Spec := fS [23] p18 (fun xs => vi (v18_0 xs))

def q18 : Spec where
  tr := fun args H K => match H, shA [23] args with
    | [], some xs => p18 xs ∧ ∀ (x0 : Int), x0 = v18_0 xs → K (vi x0) []
    | _, _ => False

def v38_0 (xs : List Int) : Int := (List.getD xs 21 0)

def p38 (xs : List Int) : Prop := True

def s38 : Spec := fS [23] p38 (fun xs => vi (v38_0 xs))

def q38 : Spec where
  tr := fun args H K => match H, shA [23] args with
    | [], some xs => p38 xs ∧ ∀ (x0 : Int), x0 = v38_0 xs → K (vi x0) []
    | _, _ => False

def v24_0 (xs : List Int) : Int := (bif (Decidable.decide (List.getD xs 23 0 < 0)) then (0) else (bif (Decidable.decide (List.getD xs 23 0 ≥ List.getD xs 2 0)) then (0) else (Go.IntKind.wrap Go.IntKind.i64 (List.getD xs 12 0 + List.getD xs 23 0))))

def p24 (xs : List Int) : Prop := True

def s24 : Spec := fS [23, 0] p24 (fun xs => vi (v24_0 xs))

def q24 : Spec where
  tr := fun args H K => match H, shA [23, 0] args with
    | [], some xs => p24 xs ∧ ∀ (x0 : Int), x0 = v24_0 xs → K (vi x0) []
    | _, _ => False

def v26_0 (xs : List Int) : Int := (bif (Decidable.decide (List.getD xs 23 0 < 0)) then (0) else (bif (Decidable.decide (List.getD xs 23 0 ≥ List.getD xs 2 0)) then (0) else (Go.IntKind.wrap Go.IntKind.i64 (List.getD xs 13 0 + List.getD xs 23 0))))

def p26 (xs : List Int) : Prop := True

def s26 : Spec := fS [23, 0] p26 (fun xs => vi (v26_0 xs))

def q26 : Spec where
  tr := fun args H K => match H, shA [23, 0] args with
    | [], some xs => p26 xs ∧ ∀ (x0 : Int), x0 = v26_0 xs → K (vi x0) []
    | _, _ => False

def v28_0 (xs : List Int) : Int := (bif (Decidable.decide (List.getD xs 23 0 < 0)) then (0) else (bif (Decidable.decide (List.getD xs 23 0 ≥ List.getD xs 2 0)) then (0) else (Go.IntKind.wrap Go.IntKind.i64 (List.getD xs 14 0 + List.getD xs 23 0))))

def p28 (xs : List Int) : Prop := True

def s28 : Spec := fS [23, 0] p28 (fun xs => vi (v28_0 xs))

def q28 : Spec where
  tr := fun args H K => match H, shA [23, 0] args with
    | [], some xs => p28 xs ∧ ∀ (x0 : Int), x0 = v28_0 xs → K (vi x0) []
    | _, _ => False

def v30_0 (xs : List Int) : Int := (bif (Decidable.decide (List.getD xs 23 0 < 0)) then (0) else (bif (Decidable.decide (List.getD xs 23 0 ≥ List.getD xs 2 0)) then (0) else (Go.IntKind.wrap Go.IntKind.i64 (List.getD xs 15 0 + List.getD xs 23 0))))

def p30 (xs : List Int) : Prop := True

def s30 : Spec := fS [23, 0] p30 (fun xs => vi (v30_0 xs))

def q30 : Spec where
  tr := fun args H K => match H, shA [23, 0] args with
    | [], some xs => p30 xs ∧ ∀ (x0 : Int), x0 = v30_0 xs → K (vi x0) []
    | _, _ => False

def v32_0 (xs : List Int) : Int := (bif (Decidable.decide (List.getD xs 23 0 < 0)) then (0) else (bif (Decidable.decide (List.getD xs 23 0 ≥ List.getD xs 2 0)) then (0) else (Go.IntKind.wrap Go.IntKind.i64 (List.getD xs 16 0 + List.getD xs 23 0))))

def p32 (xs : List Int) : Prop := True

def s32 : Spec := fS [23, 0] p32 (fun xs => vi (v32_0 xs))

def q32 : Spec where
  tr := fun args H K => match H, shA [23, 0] args with
    | [], some xs => p32 xs ∧ ∀ (x0 : Int), x0 = v32_0 xs → K (vi x0) []
    | _, _ => False

def v34_0 (xs : List Int) : Int := (bif (Decidable.decide (List.getD xs 23 0 < 0)) then (0) else (bif (Decidable.decide (List.getD xs 23 0 ≥ List.getD xs 2 0)) then (0) else (Go.IntKind.wrap Go.IntKind.i64 (List.getD xs 21 0 + Go.IntKind.wrap Go.IntKind.i64 (List.getD xs 23 0 * 32)))))

def p34 (xs : List Int) : Prop := True

def s34 : Spec := fS [23, 0] p34 (fun xs => vi (v34_0 xs))

def q34 : Spec where
  tr := fun args H K => match H, shA [23, 0] args with
    | [], some xs => p34 xs ∧ ∀ (x0 : Int), x0 = v34_0 xs → K (vi x0) []
    | _, _ => False

def v37_0 (xs : List Int) : Int := (bif (Decidable.decide (List.getD xs 23 0 ≥ List.getD xs 21 0)) then (bif (!Decidable.decide (List.getD xs 23 0 < List.getD xs 22 0)) then (0) else (Go.IntKind.wrap Go.IntKind.i64 (Int.tdiv (Go.IntKind.wrap Go.IntKind.i64 (List.getD xs 23 0 - List.getD xs 21 0)) 32))) else (0))

def v37_1 (xs : List Int) : Int := (bif (Decidable.decide (List.getD xs 23 0 ≥ List.getD xs 21 0)) then (bif (!Decidable.decide (List.getD xs 23 0 < List.getD xs 22 0)) then (0) else (Int.tmod (Go.IntKind.wrap Go.IntKind.i64 (List.getD xs 23 0 - List.getD xs 21 0)) 32)) else (0))

def v37_2 (xs : List Int) : Bool := (bif (Decidable.decide (List.getD xs 23 0 ≥ List.getD xs 21 0)) then (bif (!Decidable.decide (List.getD xs 23 0 < List.getD xs 22 0)) then (Bool.false) else (Bool.true)) else (Bool.false))

def p37 (xs : List Int) : Prop := True

def s37 : Spec := fS [23, 0] p37 (fun xs => .tup [vi (v37_0 xs), vi (v37_1 xs), vb (v37_2 xs)])

def q37 : Spec where
  tr := fun args H K => match H, shA [23, 0] args with
    | [], some xs => p37 xs ∧ ∀ (x0 : Int) (x1 : Int) (x2 : Bool), x0 = v37_0 xs → x1 = v37_1 xs → x2 = v37_2 xs → K (.tup [vi x0, vi x1, vb x2]) []
    | _, _ => False

def v39_0 (xs : List Int) : Int := (bif (Decidable.decide (List.getD xs 23 0 ≥ List.getD xs 21 0)) then (bif (!Decidable.decide (List.getD xs 23 0 < List.getD xs 22 0)) then (0) else (Go.IntKind.wrap Go.IntKind.i64 (Go.IntKind.wrap Go.IntKind.i64 (List.getD xs 20 0 + List.getD xs 23 0) - List.getD xs 21 0))) else (0))

def p39 (xs : List Int) : Prop := True

def s39 : Spec := fS [23, 0] p39 (fun xs => vi (v39_0 xs))

def q39 : Spec where
  tr := fun args H K => match H, shA [23, 0] args with
    | [], some xs => p39 xs ∧ ∀ (x0 : Int), x0 = v39_0 xs → K (vi x0) []
    | _, _ => False

def v45_0 (xs : List Int) : Int := (bif (List.getD xs 2 0 == 0) then (0) else (bif (Decidable.decide (List.getD xs 23 0 < 0)) then (0) else (bif (Decidable.decide (List.getD xs 23 0 ≥ 5)) then (0) else (Go.IntKind.wrap Go.IntKind.i64 (List.getD xs 19 0 + Go.IntKind.wrap Go.IntKind.i64 (List.getD xs 23 0 * Go.IntKind.wrap Go.IntKind.i64 (List.getD xs 9 0 + 1)))))))

def p45 (xs : List Int) : Prop := True

def s45 : Spec := fS [23, 0] p45 (fun xs => vi (v45_0 xs))

def q45 : Spec where
  tr := fun args H K => match H, shA [23, 0] args with
    | [], some xs => p45 xs ∧ ∀ (x0 : Int), x0 = v45_0 xs → K (vi x0) []
    | _, _ => False

def v22_0 (xs : List Int) : Int := (bif (List.getD xs 2 0 == 0) then (0) else (bif (Decidable.decide (List.getD xs 23 0 < 0)) then (0) else (bif (Decidable.decide (List.getD xs 23 0 ≥ 5)) then (0) else (bif (Decidable.decide (List.getD xs 24 0 < 1)) then (0) else (bif (Decidable.decide (List.getD xs 24 0 > 32 / 2 ^ Min.min (Int.toNat (List.getD xs 23 0)) (Go.IntKind.bits Go.IntKind.i64))) then (0) else (Go.IntKind.wrap Go.IntKind.i64 (Go.IntKind.wrap Go.IntKind.i64 (Go.IntKind.wrap Go.IntKind.i64 (List.getD xs 17 0 + Go.IntKind.wrap Go.IntKind.i64 (64 - Go.IntKind.wrap Go.IntKind.i64 (2 * (32 / 2 ^ Min.min (Int.toNat (List.getD xs 23 0)) (Go.IntKind.bits Go.IntKind.i64))))) + List.getD xs 24 0) - 1)))))))

def p22 (xs : List Int) : Prop := (((List.getD xs 2 0 == 0) = false → (((Decidable.decide (List.getD xs 23 0 < 0)) = false → (((Decidable.decide (List.getD xs 23 0 ≥ 5)) = false → ((Decidable.decide (0 ≤ List.getD xs 23 0)) = true)))))))

def s22 : Spec := fS [23, 0, 0] p22 (fun xs => vi (v22_0 xs))

def q22 : Spec where
  tr := fun args H K => match H, shA [23, 0, 0] args with
    | [], some xs => p22 xs ∧ ∀ (x0 : Int), x0 = v22_0 xs → K (vi x0) []
    | _, _ => False

def v44_0 (xs : List Int) : Int := (bif (List.getD xs 2 0 == 0) then (0) else (bif (Decidable.decide (List.getD xs 24 0 < 0)) then (0) else (bif (Decidable.decide (List.getD xs 24 0 ≥ 5)) then (0) else (bif (Decidable.decide (List.getD xs 23 0 < 0)) then (0) else (bif (Decidable.decide (List.getD xs 23 0 ≥ List.getD xs 1 0)) then (0) else (Go.IntKind.wrap Go.IntKind.i64 (List.getD xs 18 0 + Go.IntKind.wrap Go.IntKind.i64 (Go.IntKind.wrap Go.IntKind.i64 (Go.IntKind.wrap Go.IntKind.i64 (5 * List.getD xs 23 0) + List.getD xs 24 0) * Go.IntKind.wrap Go.IntKind.i64 (List.getD xs 8 0 + 1)))))))))

def p44 (xs : List Int) : Prop := True

def s44 : Spec := fS [23, 0, 0] p44 (fun xs => vi (v44_0 xs))

def q44 : Spec where
  tr := fun args H K => match H, shA [23, 0, 0] args with
    | [], some xs => p44 xs ∧ ∀ (x0 : Int), x0 = v44_0 xs → K (vi x0) []
    | _, _ => False

def v69_0 (xs : List Int) : Int := (Go.IntKind.wrap Go.IntKind.i64 (List.getD xs 1 0 + Go.IntKind.wrap Go.IntKind.i64 (Int.tmod (Go.IntKind.wrap Go.IntKind.u64 (List.getD xs 0 0)) (Go.IntKind.wrap Go.IntKind.u64 (Go.IntKind.wrap Go.IntKind.i64 (Go.IntKind.wrap Go.IntKind.i64 (List.getD xs 2 0 - List.getD xs 1 0) + 1))))))

def p69 (xs : List Int) : Prop := ((!Go.IntKind.wrap Go.IntKind.u64 (Go.IntKind.wrap Go.IntKind.i64 (Go.IntKind.wrap Go.IntKind.i64 (List.getD xs 2 0 - List.getD xs 1 0) + 1)) == 0) = true)

def s69 : Spec := fS [0, 0, 0] p69 (fun xs => vi (v69_0 xs))

def q69 : Spec where
  tr := fun args H K => match H, shA [0, 0, 0] args with
    | [], some xs => p69 xs ∧ ∀ (x0 : Int), x0 = v69_0 xs → K (vi x0) []
    | _, _ => False



attribute [local irreducible] Loop ex exF contK roundK retK at_ bodyOf mkEnv mkA

theorem sigM_ok : ∀ g s, sigM g = some s → SpecOK Try.prog elTT g s := by
  intro g s hs
  unfold sigM at hs
  split at hs
  · injection hs with hs; subst hs; exact chunks_ok
  · injection hs with hs; subst hs; exact inl_ok (cfg := cfgB) (cfg_ok rfl rfl rfl) (nosig rfl) (fn := Try.f70) (by kernel_rfl) (by kernel_rfl) (by kernel_rfl)
  · injection hs with hs; subst hs; exact inl_ok (cfg := cfgB) (cfg_ok rfl rfl rfl) (nosig rfl) (fn := Try.f73) (by kernel_rfl) (by kernel_rfl) (by kernel_rfl)
  · injection hs with hs; subst hs; exact inl_ok (cfg := cfgB) (cfg_ok rfl rfl rfl) (nosig rfl) (fn := Try.f77) (by kernel_rfl) (by kernel_rfl) (by kernel_rfl)
  · injection hs with hs; subst hs; exact inl_ok (cfg := cfgB) (cfg_ok rfl rfl rfl) (nosig rfl) (fn := Try.f71) (by kernel_rfl) (by kernel_rfl) (by kernel_rfl)
  · injection hs with hs; subst hs; exact inl_ok (cfg := cfgB) (cfg_ok rfl rfl rfl) (nosig rfl) (fn := Try.f72) (by kernel_rfl) (by kernel_rfl) (by kernel_rfl)
  · injection hs with hs; subst hs; exact inl_ok (cfg := cfgB) (cfg_ok rfl rfl rfl) (nosig rfl) (fn := Try.f69) (by kernel_rfl) (by kernel_rfl) (by kernel_rfl)
  · cases hs

theorem ok14 : SpecOK Try.prog elTT 14 s14 :=
  fS_ok (cfg := cfgM) (cfg_ok rfl rfl rfl) sigM_ok (fn := Try.f14) (by kernel_rfl) (by kernel_rfl) (by kernel_rfl) fun xs K hp hk => Eq.mpr (nf14 xs K) (by simpa only [v14_0, v14_1, v14_2, v14_3, v14_4, v14_5, v14_6, v14_7, v14_8, v14_9, v14_10, cond_true, cond_false] using hk)

theorem okq14 : SpecOK Try.prog elTT 14 q14 :=
  spec_mono (fun args H K h => by
    unfold q14 at h
    simp only at h
    split at h
    · rename_i xs hxs
      unfold s14 fS
      simp only [hxs]
      exact ⟨h.1, h.2 _ _ _ _ _ _ _ _ _ _ _ rfl rfl rfl rfl rfl rfl rfl rfl rfl rfl rfl⟩
    · exact h.elim) ok14

theorem ok15 : SpecOK Try.prog elTT 15 s15 :=
  fS_ok (cfg := cfgM) (cfg_ok rfl rfl rfl) sigM_ok (fn := Try.f15) (by kernel_rfl) (by kernel_rfl) (by kernel_rfl) fun xs K hp hk => Eq.mpr (nf15 xs K) (by simpa only [v15_0, cond_true, cond_false] using hk)

theorem okq15 : SpecOK Try.prog elTT 15 q15 :=
  spec_mono (fun args H K h => by
    unfold q15 at h
    simp only at h
    split at h
    · rename_i xs hxs
      unfold s15 fS
      simp only [hxs]
      exact ⟨h.1, h.2 _ rfl⟩
    · exact h.elim) ok15

theorem ok18 : SpecOK Try.prog elTT 18 s18 :=
  fS_ok (cfg := cfgM) (cfg_ok rfl rfl rfl) sigM_ok (fn := Try.f18) (by kernel_rfl) (by kernel_rfl) (by kernel_rfl) fun xs K hp hk => Eq.mpr (nf18 xs K) (⟨hp, by simpa only [v18_0, cond_true, cond_false] using hk⟩)

theorem okq18 : SpecOK Try.prog elTT 18 q18 :=
  spec_mono (fun args H K h => by
    unfold q18 at h
    simp only at h
    split at h
    · rename_i xs hxs
      unfold s18 fS
      simp only [hxs]
      exact ⟨h.1, h.2 _ rfl⟩
    · exact h.elim) ok18

theorem ok38 : SpecOK Try.prog elTT 38 s38 :=
  fS_ok (cfg := cfgM) (cfg_ok rfl rfl rfl) sigM_ok (fn := Try.f38) (by kernel_rfl) (by kernel_rfl) (by kernel_rfl) fun xs K hp hk => Eq.mpr (nf38 xs K) (by simpa only [v38_0, cond_true, cond_false] using hk)

theorem okq38 : SpecOK Try.prog elTT 38 q38 :=
  spec_mono (fun args H K h => by
    unfold q38 at h
    simp only at h
    split at h
    · rename_i xs hxs
      unfold s38 fS
      simp only [hxs]
      exact ⟨h.1, h.2 _ rfl⟩
    · exact h.elim) ok38

theorem ok24 : SpecOK Try.prog elTT 24 s24 :=
  fS_ok (cfg := cfgM) (cfg_ok rfl rfl rfl) sigM_ok (fn := Try.f24) (by kernel_rfl) (by kernel_rfl) (by kernel_rfl) fun xs K hp hk => Eq.mpr (nf24 xs K) (br_intro (fun h0 => by simpa only [v24_0, h0, cond_true, cond_false] using hk) (fun h0 => br_intro (fun h1 => by simpa only [v24_0, h0, h1, cond_true, cond_false] using hk) (fun h1 => by simpa only [v24_0, h0, h1, cond_true, cond_false] using hk)))

theorem okq24 : SpecOK Try.prog elTT 24 q24 :=
  spec_mono (fun args H K h => by
    unfold q24 at h
    simp only at h
    split at h
    · rename_i xs hxs
      unfold s24 fS
      simp only [hxs]
      exact ⟨h.1, h.2 _ rfl⟩
    · exact h.elim) ok24

theorem ok26 : SpecOK Try.prog elTT 26 s26 :=
  fS_ok (cfg := cfgM) (cfg_ok rfl rfl rfl) sigM_ok (fn := Try.f26) (by kernel_rfl) (by kernel_rfl) (by kernel_rfl) fun xs K hp hk => Eq.mpr (nf26 xs K) (br_intro (fun h0 => by simpa only [v26_0, h0, cond_true, cond_false] using hk) (fun h0 => br_intro (fun h1 => by simpa only [v26_0, h0, h1, cond_true, cond_false] using hk) (fun h1 => by simpa only [v26_0, h0, h1, cond_true, cond_false] using hk)))

theorem okq26 : SpecOK Try.prog elTT 26 q26 :=
  spec_mono (fun args H K h => by
    unfold q26 at h
    simp only at h
    split at h
    · rename_i xs hxs
      unfold s26 fS
      simp only [hxs]
      exact ⟨h.1, h.2 _ rfl⟩
    · exact h.elim) ok26

theorem ok28 : SpecOK Try.prog elTT 28 s28 :=
  fS_ok (cfg := cfgM) (cfg_ok rfl rfl rfl) sigM_ok (fn := Try.f28) (by kernel_rfl) (by kernel_rfl) (by kernel_rfl) fun xs K hp hk => Eq.mpr (nf28 xs K) (br_intro (fun h0 => by simpa only [v28_0, h0, cond_true, cond_false] using hk) (fun h0 => br_intro (fun h1 => by simpa only [v28_0, h0, h1, cond_true, cond_false] using hk) (fun h1 => by simpa only [v28_0, h0, h1, cond_true, cond_false] using hk)))

theorem okq28 : SpecOK Try.prog elTT 28 q28 :=
  spec_mono (fun args H K h => by
    unfold q28 at h
    simp only at h
    split at h
    · rename_i xs hxs
      unfold s28 fS
      simp only [hxs]
      exact ⟨h.1, h.2 _ rfl⟩
    · exact h.elim) ok28

theorem ok30 : SpecOK Try.prog elTT 30 s30 :=
  fS_ok (cfg := cfgM) (cfg_ok rfl rfl rfl) sigM_ok (fn := Try.f30) (by kernel_rfl) (by kernel_rfl) (by kernel_rfl) fun xs K hp hk => Eq.mpr (nf30 xs K) (br_intro (fun h0 => by simpa only [v30_0, h0, cond_true, cond_false] using hk) (fun h0 => br_intro (fun h1 => by simpa only [v30_0, h0, h1, cond_true, cond_false] using hk) (fun h1 => by simpa only [v30_0, h0, h1, cond_true, cond_false] using hk)))

theorem okq30 : SpecOK Try.prog elTT 30 q30 :=
  spec_mono (fun args H K h => by
    unfold q30 at h
    simp only at h
    split at h
    · rename_i xs hxs
      unfold s30 fS
      simp only [hxs]
      exact ⟨h.1, h.2 _ rfl⟩
    · exact h.elim) ok30

theorem ok32 : SpecOK Try.prog elTT 32 s32 :=
  fS_ok (cfg := cfgM) (cfg_ok rfl rfl rfl) sigM_ok (fn := Try.f32) (by kernel_rfl) (by kernel_rfl) (by kernel_rfl) fun xs K hp hk => Eq.mpr (nf32 xs K) (br_intro (fun h0 => by simpa only [v32_0, h0, cond_true, cond_false] using hk) (fun h0 => br_intro (fun h1 => by simpa only [v32_0, h0, h1, cond_true, cond_false] using hk) (fun h1 => by simpa only [v32_0, h0, h1, cond_true, cond_false] using hk)))

theorem okq32 : SpecOK Try.prog elTT 32 q32 :=
  spec_mono (fun args H K h => by
    unfold q32 at h
    simp only at h
    split at h
    · rename_i xs hxs
      unfold s32 fS
      simp only [hxs]
      exact ⟨h.1, h.2 _ rfl⟩
    · exact h.elim) ok32

theorem ok34 : SpecOK Try.prog elTT 34 s34 :=
  fS_ok (cfg := cfgM) (cfg_ok rfl rfl rfl) sigM_ok (fn := Try.f34) (by kernel_rfl) (by kernel_rfl) (by kernel_rfl) fun xs K hp hk => Eq.mpr (nf34 xs K) (br_intro (fun h0 => by simpa only [v34_0, h0, cond_true, cond_false] using hk) (fun h0 => br_intro (fun h1 => by simpa only [v34_0, h0, h1, cond_true, cond_false] using hk) (fun h1 => by simpa only [v34_0, h0, h1, cond_true, cond_false] using hk)))

theorem okq34 : SpecOK Try.prog elTT 34 q34 :=
  spec_mono (fun args H K h => by
    unfold q34 at h
    simp only at h
    split at h
    · rename_i xs hxs
      unfold s34 fS
      simp only [hxs]
      exact ⟨h.1, h.2 _ rfl⟩
    · exact h.elim) ok34

theorem ok37 : SpecOK Try.prog elTT 37 s37 :=
  fS_ok (cfg := cfgM) (cfg_ok rfl rfl rfl) sigM_ok (fn := Try.f37) (by kernel_rfl) (by kernel_rfl) (by kernel_rfl) fun xs K hp hk => Eq.mpr (nf37 xs K) (br_intro (fun h0 => br_intro (fun h1 => by simpa only [v37_0, v37_1, v37_2, h0, h1, cond_true, cond_false] using hk) (fun h1 => by simpa only [v37_0, v37_1, v37_2, h0, h1, cond_true, cond_false] using hk)) (fun h0 => by simpa only [v37_0, v37_1, v37_2, h0, cond_true, cond_false] using hk))

theorem okq37 : SpecOK Try.prog elTT 37 q37 :=
  spec_mono (fun args H K h => by
    unfold q37 at h
    simp only at h
    split at h
    · rename_i xs hxs
      unfold s37 fS
      simp only [hxs]
      exact ⟨h.1, h.2 _ _ _ rfl rfl rfl⟩
    · exact h.elim) ok37

theorem ok39 : SpecOK Try.prog elTT 39 s39 :=
  fS_ok (cfg := cfgM) (cfg_ok rfl rfl rfl) sigM_ok (fn := Try.f39) (by kernel_rfl) (by kernel_rfl) (by kernel_rfl) fun xs K hp hk => Eq.mpr (nf39 xs K) (br_intro (fun h0 => br_intro (fun h1 => by simpa only [v39_0, h0, h1, cond_true, cond_false] using hk) (fun h1 => by simpa only [v39_0, h0, h1, cond_true, cond_false] using hk)) (fun h0 => by simpa only [v39_0, h0, cond_true, cond_false] using hk))

theorem okq39 : SpecOK Try.prog elTT 39 q39 :=
  spec_mono (fun args H K h => by
    unfold q39 at h
    simp only at h
    split at h
    · rename_i xs hxs
      unfold s39 fS
      simp only [hxs]
      exact ⟨h.1, h.2 _ rfl⟩
    · exact h.elim) ok39

theorem ok45 : SpecOK Try.prog elTT 45 s45 :=
  fS_ok (cfg := cfgM) (cfg_ok rfl rfl rfl) sigM_ok (fn := Try.f45) (by kernel_rfl) (by kernel_rfl) (by kernel_rfl) fun xs K hp hk => Eq.mpr (nf45 xs K) (br_intro (fun h0 => by simpa only [v45_0, h0, cond_true, cond_false] using hk) (fun h0 => br_intro (fun h1 => by simpa only [v45_0, h0, h1, cond_true, cond_false] using hk) (fun h1 => br_intro (fun h2 => by simpa only [v45_0, h0, h1, h2, cond_true, cond_false] using hk) (fun h2 => by simpa only [v45_0, h0, h1, h2, cond_true, cond_false] using hk))))

theorem okq45 : SpecOK Try.prog elTT 45 q45 :=
  spec_mono (fun args H K h => by
    unfold q45 at h
    simp only at h
    split at h
    · rename_i xs hxs
      unfold s45 fS
      simp only [hxs]
      exact ⟨h.1, h.2 _ rfl⟩
    · exact h.elim) ok45

theorem ok22 : SpecOK Try.prog elTT 22 s22 :=
  fS_ok (cfg := cfgM) (cfg_ok rfl rfl rfl) sigM_ok (fn := Try.f22) (by kernel_rfl) (by kernel_rfl) (by kernel_rfl) fun xs K hp hk => Eq.mpr (nf22 xs K) (br_intro (fun h0 => by simpa only [v22_0, h0, cond_true, cond_false] using hk) (fun h0 => br_intro (fun h1 => by simpa only [v22_0, h0, h1, cond_true, cond_false] using hk) (fun h1 => br_intro (fun h2 => by simpa only [v22_0, h0, h1, h2, cond_true, cond_false] using hk) (fun h2 => Req_intro (((hp h0) h1) h2) (br_intro (fun h3 => by simpa only [v22_0, h0, h1, h2, h3, cond_true, cond_false] using hk) (fun h3 => br_intro (fun h4 => by simpa only [v22_0, h0, h1, h2, h3, h4, cond_true, cond_false] using hk) (fun h4 => by simpa only [v22_0, h0, h1, h2, h3, h4, cond_true, cond_false] using hk)))))))

theorem okq22 : SpecOK Try.prog elTT 22 q22 :=
  spec_mono (fun args H K h => by
    unfold q22 at h
    simp only at h
    split at h
    · rename_i xs hxs
      unfold s22 fS
      simp only [hxs]
      exact ⟨h.1, h.2 _ rfl⟩
    · exact h.elim) ok22

theorem ok44 : SpecOK Try.prog elTT 44 s44 :=
  fS_ok (cfg := cfgM) (cfg_ok rfl rfl rfl) sigM_ok (fn := Try.f44) (by kernel_rfl) (by kernel_rfl) (by kernel_rfl) fun xs K hp hk => Eq.mpr (nf44 xs K) (br_intro (fun h0 => by simpa only [v44_0, h0, cond_true, cond_false] using hk) (fun h0 => br_intro (fun h1 => by simpa only [v44_0, h0, h1, cond_true, cond_false] using hk) (fun h1 => br_intro (fun h2 => by simpa only [v44_0, h0, h1, h2, cond_true, cond_false] using hk) (fun h2 => br_intro (fun h3 => by simpa only [v44_0, h0, h1, h2, h3, cond_true, cond_false] using hk) (fun h3 => br_intro (fun h4 => by simpa only [v44_0, h0, h1, h2, h3, h4, cond_true, cond_false] using hk) (fun h4 => by simpa only [v44_0, h0, h1, h2, h3, h4, cond_true, cond_false] using hk))))))

theorem okq44 : SpecOK Try.prog elTT 44 q44 :=
  spec_mono (fun args H K h => by
    unfold q44 at h
    simp only at h
    split at h
    · rename_i xs hxs
      unfold s44 fS
      simp only [hxs]
      exact ⟨h.1, h.2 _ rfl⟩
    · exact h.elim) ok44

theorem ok69 : SpecOK Try.prog elTT 69 s69 :=
  fS_ok (cfg := cfgM) (cfg_ok rfl rfl rfl) sigM_ok (fn := Try.f69) (by kernel_rfl) (by kernel_rfl) (by kernel_rfl) fun xs K hp hk => Eq.mpr (nf69 xs K) (Req_intro hp (by simpa only [v69_0, cond_true, cond_false] using hk))

theorem okq69 : SpecOK Try.prog elTT 69 q69 :=
  spec_mono (fun args H K h => by
    unfold q69 at h
    simp only at h
    split at h
    · rename_i xs hxs
      unfold s69 fS
      simp only [hxs]
      exact ⟨h.1, h.2 _ rfl⟩
    · exact h.elim) ok69

end Go.Rx
