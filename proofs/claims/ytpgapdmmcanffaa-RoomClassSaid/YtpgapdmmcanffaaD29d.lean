/- What the functions tell, off their normal forms (by a program of this session's); their contracts. -/
import Derived.Test.YtpgapdmmcanffaaN29d
namespace Go.Rx
open Go.Proofs

def v56_0 (xs : List Int) : Bool := (bif (Go.Rx.v50_1 [List.getD xs 30 0, List.getD xs 31 0] != 0) then (Bool.false) else (bif (Decidable.decide (Go.Rx.v50_0 [List.getD xs 30 0, List.getD xs 31 0] > Go.Rx.v14_2 [List.getD xs 0 0, List.getD xs 1 0, List.getD xs 2 0, List.getD xs 3 0, List.getD xs 4 0, List.getD xs 5 0, List.getD xs 6 0, List.getD xs 7 0, List.getD xs 8 0, List.getD xs 9 0, List.getD xs 10 0, List.getD xs 11 0, List.getD xs 12 0, List.getD xs 13 0, List.getD xs 14 0, List.getD xs 15 0, List.getD xs 16 0, List.getD xs 17 0, List.getD xs 18 0, List.getD xs 19 0, List.getD xs 20 0, List.getD xs 21 0, List.getD xs 22 0])) then (Bool.true) else (Decidable.decide (Go.Rx.v54_0 [List.getD xs 0 0, List.getD xs 1 0, List.getD xs 2 0, List.getD xs 3 0, List.getD xs 4 0, List.getD xs 5 0, List.getD xs 6 0, List.getD xs 7 0, List.getD xs 8 0, List.getD xs 9 0, List.getD xs 10 0, List.getD xs 11 0, List.getD xs 12 0, List.getD xs 13 0, List.getD xs 14 0, List.getD xs 15 0, List.getD xs 16 0, List.getD xs 17 0, List.getD xs 18 0, List.getD xs 19 0, List.getD xs 20 0, List.getD xs 21 0, List.getD xs 22 0, List.getD xs 23 0, List.getD xs 24 0, List.getD xs 25 0, List.getD xs 26 0, List.getD xs 27 0, List.getD xs 28 0, List.getD xs 29 0] ≤ Go.IntKind.wrap Go.IntKind.i64 (Go.IntKind.wrap Go.IntKind.i64 (List.getD xs 29 0 + 1) * Go.IntKind.wrap Go.IntKind.i64 (Go.Rx.v50_0 [List.getD xs 30 0, List.getD xs 31 0] - 1))))))

def p56 (xs : List Int) : Prop := True

def s56 : Spec := fS [23, 7, 0, 0] p56 (fun xs => vb (v56_0 xs))

def q56 : Spec where
  tr := fun args H K => match H, shA [23, 7, 0, 0] args with
    | [], some xs => p56 xs ∧ ∀ (x0 : Bool), x0 = v56_0 xs → K (vb x0) []
    | _, _ => False

def v57_0 (xs : List Int) : Bool := (bif (Go.Rx.v51_1 [List.getD xs 18 0, List.getD xs 19 0] != 0) then (Bool.false) else (bif (Decidable.decide (Go.Rx.v51_0 [List.getD xs 18 0, List.getD xs 19 0] > List.getD xs 2 0)) then (Bool.true) else (Decidable.decide (Go.Rx.v55_0 [List.getD xs 0 0, List.getD xs 1 0, List.getD xs 2 0, List.getD xs 3 0, List.getD xs 4 0, List.getD xs 5 0, List.getD xs 6 0, List.getD xs 7 0, List.getD xs 8 0, List.getD xs 9 0, List.getD xs 10 0, List.getD xs 11 0, List.getD xs 12 0, List.getD xs 13 0, List.getD xs 14 0, List.getD xs 15 0, List.getD xs 16 0, List.getD xs 17 0] ≤ Go.IntKind.wrap Go.IntKind.i64 (Go.IntKind.wrap Go.IntKind.i64 (List.getD xs 17 0 + 1) * Go.IntKind.wrap Go.IntKind.i64 (Go.Rx.v51_0 [List.getD xs 18 0, List.getD xs 19 0] - 1))))))

def p57 (xs : List Int) : Prop := True

def s57 : Spec := fS [11, 7, 0, 0] p57 (fun xs => vb (v57_0 xs))

def q57 : Spec where
  tr := fun args H K => match H, shA [11, 7, 0, 0] args with
    | [], some xs => p57 xs ∧ ∀ (x0 : Bool), x0 = v57_0 xs → K (vb x0) []
    | _, _ => False



attribute [local irreducible] Loop ex exF contK roundK retK at_ bodyOf mkEnv mkA



theorem ok56 : SpecOK Try.prog elTT 56 s56 :=
  fS_ok (cfg := cfgA 56 sig29d noU9) (cfg_ok rfl rfl rfl) sig29d_ok (fn := Try.f56) (by kernel_rfl) (by kernel_rfl) (by kernel_rfl) fun xs K hp hk => Eq.mpr (nf56 xs K) (⟨trivial, br_intro (fun h0 => by simpa only [v56_0, h0, cond_true, cond_false] using hk) (fun h0 => ⟨trivial, br_intro (fun h1 => by simpa only [v56_0, h0, h1, cond_true, cond_false] using hk) (fun h1 => ⟨trivial, by simpa only [v56_0, h0, h1, cond_true, cond_false] using hk⟩)⟩)⟩)

theorem okq56 : SpecOK Try.prog elTT 56 q56 :=
  spec_mono (fun args H K h => by
    unfold q56 at h
    simp only at h
    split at h
    · rename_i xs hxs
      unfold s56 fS
      simp only [hxs]
      exact ⟨h.1, h.2 _ rfl⟩
    · exact h.elim) ok56

theorem ok57 : SpecOK Try.prog elTT 57 s57 :=
  fS_ok (cfg := cfgA 57 sig29d noU9) (cfg_ok rfl rfl rfl) sig29d_ok (fn := Try.f57) (by kernel_rfl) (by kernel_rfl) (by kernel_rfl) fun xs K hp hk => Eq.mpr (nf57 xs K) (⟨trivial, br_intro (fun h0 => by simpa only [v57_0, h0, cond_true, cond_false] using hk) (fun h0 => br_intro (fun h1 => by simpa only [v57_0, h0, h1, cond_true, cond_false] using hk) (fun h1 => ⟨trivial, by simpa only [v57_0, h0, h1, cond_true, cond_false] using hk⟩))⟩)

theorem okq57 : SpecOK Try.prog elTT 57 q57 :=
  spec_mono (fun args H K h => by
    unfold q57 at h
    simp only at h
    split at h
    · rename_i xs hxs
      unfold s57 fS
      simp only [hxs]
      exact ⟨h.1, h.2 _ rfl⟩
    · exact h.elim) ok57

end Go.Rx
