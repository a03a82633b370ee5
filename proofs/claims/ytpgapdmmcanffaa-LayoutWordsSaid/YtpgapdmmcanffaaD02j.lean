/- What Lock and Head tell, off their normal forms (by a program of this session's); their contracts. -/
import Derived.Test.YtpgapdmmcanffaaN02j
import Derived.Test.YtpgapdmmcanffaaN02g
namespace Go.Rx
open Go.Proofs

def v43_0 (xs : List Int) : Int := (bif (Decidable.decide (List.getD xs 23 0 < 0)) then (0) else (bif (Decidable.decide (List.getD xs 23 0 ≥ List.getD xs 22 0)) then (0) else (Go.IntKind.wrap Go.IntKind.i64 (3 + Int.tmod (List.getD xs 23 0) (List.getD xs 3 0)))))

def p43 (xs : List Int) : Prop := (((Decidable.decide (List.getD xs 23 0 < 0)) = false → (((Decidable.decide (List.getD xs 23 0 ≥ List.getD xs 22 0)) = false → ((!List.getD xs 3 0 == 0) = true)))))

def s43 : Spec := fS [23, 0] p43 (fun xs => vi (v43_0 xs))

def q43 : Spec where
  tr := fun args H K => match H, shA [23, 0] args with
    | [], some xs => p43 xs ∧ ∀ (x0 : Int), x0 = v43_0 xs → K (vi x0) []
    | _, _ => False

def v23_0 (xs : List Int) : Int := (bif (Decidable.decide (List.getD xs 11 0 < 0)) then (0) else (bif (Decidable.decide (List.getD xs 11 0 > 4)) then (0) else (bif (Decidable.decide (0 < List.getD xs 11 0)) then (bif (Decidable.decide (Go.IntKind.wrap Go.IntKind.i64 (0 + 1) < List.getD xs 11 0)) then (bif (Decidable.decide (Go.IntKind.wrap Go.IntKind.i64 (Go.IntKind.wrap Go.IntKind.i64 (0 + 1) + 1) < List.getD xs 11 0)) then (bif (Decidable.decide (Go.IntKind.wrap Go.IntKind.i64 (Go.IntKind.wrap Go.IntKind.i64 (Go.IntKind.wrap Go.IntKind.i64 (0 + 1) + 1) + 1) < List.getD xs 11 0)) then (bif (Decidable.decide (Go.IntKind.wrap Go.IntKind.i64 (Go.IntKind.wrap Go.IntKind.i64 (Go.IntKind.wrap Go.IntKind.i64 (Go.IntKind.wrap Go.IntKind.i64 (0 + 1) + 1) + 1) + 1) < List.getD xs 11 0)) then (bif (Decidable.decide (List.getD xs 12 0 ≥ 1)) then (bif (!Decidable.decide (List.getD xs 12 0 ≤ Go.IntKind.wrap Go.IntKind.i64 (Int.tdiv (Go.IntKind.wrap Go.IntKind.i64 (Int.tdiv (Go.IntKind.wrap Go.IntKind.i64 (Int.tdiv (Go.IntKind.wrap Go.IntKind.i64 (Int.tdiv (Go.IntKind.wrap Go.IntKind.i64 (Int.tdiv 32 2)) 2)) 2)) 2)) 2))) then (0) else (Go.IntKind.wrap Go.IntKind.i64 (Go.IntKind.wrap Go.IntKind.i64 (Go.IntKind.wrap Go.IntKind.i64 (Go.IntKind.wrap Go.IntKind.i64 (Go.IntKind.wrap Go.IntKind.i64 (Go.IntKind.wrap Go.IntKind.i64 (3 + List.getD xs 3 0) + Go.IntKind.wrap Go.IntKind.i64 (Int.tdiv (Go.IntKind.wrap Go.IntKind.i64 (List.getD xs 2 0 + 3)) 4)) + Go.IntKind.wrap Go.IntKind.i64 (5 * List.getD xs 2 0)) + Go.IntKind.wrap Go.IntKind.i64 (Go.IntKind.wrap Go.IntKind.i64 (Go.IntKind.wrap Go.IntKind.i64 (Go.IntKind.wrap Go.IntKind.i64 (Go.IntKind.wrap Go.IntKind.i64 (0 + 32) + Go.IntKind.wrap Go.IntKind.i64 (Int.tdiv 32 2)) + Go.IntKind.wrap Go.IntKind.i64 (Int.tdiv (Go.IntKind.wrap Go.IntKind.i64 (Int.tdiv 32 2)) 2)) + Go.IntKind.wrap Go.IntKind.i64 (Int.tdiv (Go.IntKind.wrap Go.IntKind.i64 (Int.tdiv (Go.IntKind.wrap Go.IntKind.i64 (Int.tdiv 32 2)) 2)) 2)) + Go.IntKind.wrap Go.IntKind.i64 (Int.tdiv (Go.IntKind.wrap Go.IntKind.i64 (Int.tdiv (Go.IntKind.wrap Go.IntKind.i64 (Int.tdiv (Go.IntKind.wrap Go.IntKind.i64 (Int.tdiv 32 2)) 2)) 2)) 2))) + List.getD xs 12 0) - 1))) else (0)) else (bif (Decidable.decide (List.getD xs 12 0 ≥ 1)) then (bif (!Decidable.decide (List.getD xs 12 0 ≤ Go.IntKind.wrap Go.IntKind.i64 (Int.tdiv (Go.IntKind.wrap Go.IntKind.i64 (Int.tdiv (Go.IntKind.wrap Go.IntKind.i64 (Int.tdiv (Go.IntKind.wrap Go.IntKind.i64 (Int.tdiv 32 2)) 2)) 2)) 2))) then (0) else (Go.IntKind.wrap Go.IntKind.i64 (Go.IntKind.wrap Go.IntKind.i64 (Go.IntKind.wrap Go.IntKind.i64 (Go.IntKind.wrap Go.IntKind.i64 (Go.IntKind.wrap Go.IntKind.i64 (Go.IntKind.wrap Go.IntKind.i64 (3 + List.getD xs 3 0) + Go.IntKind.wrap Go.IntKind.i64 (Int.tdiv (Go.IntKind.wrap Go.IntKind.i64 (List.getD xs 2 0 + 3)) 4)) + Go.IntKind.wrap Go.IntKind.i64 (5 * List.getD xs 2 0)) + Go.IntKind.wrap Go.IntKind.i64 (Go.IntKind.wrap Go.IntKind.i64 (Go.IntKind.wrap Go.IntKind.i64 (Go.IntKind.wrap Go.IntKind.i64 (0 + 32) + Go.IntKind.wrap Go.IntKind.i64 (Int.tdiv 32 2)) + Go.IntKind.wrap Go.IntKind.i64 (Int.tdiv (Go.IntKind.wrap Go.IntKind.i64 (Int.tdiv 32 2)) 2)) + Go.IntKind.wrap Go.IntKind.i64 (Int.tdiv (Go.IntKind.wrap Go.IntKind.i64 (Int.tdiv (Go.IntKind.wrap Go.IntKind.i64 (Int.tdiv 32 2)) 2)) 2))) + List.getD xs 12 0) - 1))) else (0))) else (bif (Decidable.decide (List.getD xs 12 0 ≥ 1)) then (bif (!Decidable.decide (List.getD xs 12 0 ≤ Go.IntKind.wrap Go.IntKind.i64 (Int.tdiv (Go.IntKind.wrap Go.IntKind.i64 (Int.tdiv (Go.IntKind.wrap Go.IntKind.i64 (Int.tdiv 32 2)) 2)) 2))) then (0) else (Go.IntKind.wrap Go.IntKind.i64 (Go.IntKind.wrap Go.IntKind.i64 (Go.IntKind.wrap Go.IntKind.i64 (Go.IntKind.wrap Go.IntKind.i64 (Go.IntKind.wrap Go.IntKind.i64 (Go.IntKind.wrap Go.IntKind.i64 (3 + List.getD xs 3 0) + Go.IntKind.wrap Go.IntKind.i64 (Int.tdiv (Go.IntKind.wrap Go.IntKind.i64 (List.getD xs 2 0 + 3)) 4)) + Go.IntKind.wrap Go.IntKind.i64 (5 * List.getD xs 2 0)) + Go.IntKind.wrap Go.IntKind.i64 (Go.IntKind.wrap Go.IntKind.i64 (Go.IntKind.wrap Go.IntKind.i64 (0 + 32) + Go.IntKind.wrap Go.IntKind.i64 (Int.tdiv 32 2)) + Go.IntKind.wrap Go.IntKind.i64 (Int.tdiv (Go.IntKind.wrap Go.IntKind.i64 (Int.tdiv 32 2)) 2))) + List.getD xs 12 0) - 1))) else (0))) else (bif (Decidable.decide (List.getD xs 12 0 ≥ 1)) then (bif (!Decidable.decide (List.getD xs 12 0 ≤ Go.IntKind.wrap Go.IntKind.i64 (Int.tdiv (Go.IntKind.wrap Go.IntKind.i64 (Int.tdiv 32 2)) 2))) then (0) else (Go.IntKind.wrap Go.IntKind.i64 (Go.IntKind.wrap Go.IntKind.i64 (Go.IntKind.wrap Go.IntKind.i64 (Go.IntKind.wrap Go.IntKind.i64 (Go.IntKind.wrap Go.IntKind.i64 (Go.IntKind.wrap Go.IntKind.i64 (3 + List.getD xs 3 0) + Go.IntKind.wrap Go.IntKind.i64 (Int.tdiv (Go.IntKind.wrap Go.IntKind.i64 (List.getD xs 2 0 + 3)) 4)) + Go.IntKind.wrap Go.IntKind.i64 (5 * List.getD xs 2 0)) + Go.IntKind.wrap Go.IntKind.i64 (Go.IntKind.wrap Go.IntKind.i64 (0 + 32) + Go.IntKind.wrap Go.IntKind.i64 (Int.tdiv 32 2))) + List.getD xs 12 0) - 1))) else (0))) else (bif (Decidable.decide (List.getD xs 12 0 ≥ 1)) then (bif (!Decidable.decide (List.getD xs 12 0 ≤ Go.IntKind.wrap Go.IntKind.i64 (Int.tdiv 32 2))) then (0) else (Go.IntKind.wrap Go.IntKind.i64 (Go.IntKind.wrap Go.IntKind.i64 (Go.IntKind.wrap Go.IntKind.i64 (Go.IntKind.wrap Go.IntKind.i64 (Go.IntKind.wrap Go.IntKind.i64 (Go.IntKind.wrap Go.IntKind.i64 (3 + List.getD xs 3 0) + Go.IntKind.wrap Go.IntKind.i64 (Int.tdiv (Go.IntKind.wrap Go.IntKind.i64 (List.getD xs 2 0 + 3)) 4)) + Go.IntKind.wrap Go.IntKind.i64 (5 * List.getD xs 2 0)) + Go.IntKind.wrap Go.IntKind.i64 (0 + 32)) + List.getD xs 12 0) - 1))) else (0))) else (bif (Decidable.decide (List.getD xs 12 0 ≥ 1)) then (bif (!Decidable.decide (List.getD xs 12 0 ≤ 32)) then (0) else (Go.IntKind.wrap Go.IntKind.i64 (Go.IntKind.wrap Go.IntKind.i64 (Go.IntKind.wrap Go.IntKind.i64 (Go.IntKind.wrap Go.IntKind.i64 (Go.IntKind.wrap Go.IntKind.i64 (Go.IntKind.wrap Go.IntKind.i64 (3 + List.getD xs 3 0) + Go.IntKind.wrap Go.IntKind.i64 (Int.tdiv (Go.IntKind.wrap Go.IntKind.i64 (List.getD xs 2 0 + 3)) 4)) + Go.IntKind.wrap Go.IntKind.i64 (5 * List.getD xs 2 0)) + 0) + List.getD xs 12 0) - 1))) else (0)))))

def p23 (xs : List Int) : Prop := (((Decidable.decide (List.getD xs 11 0 < 0)) = false → (((Decidable.decide (List.getD xs 11 0 > 4)) = false → (((Decidable.decide (0 < List.getD xs 11 0)) = true → (((Decidable.decide (Go.IntKind.wrap Go.IntKind.i64 (0 + 1) < List.getD xs 11 0)) = true → (((Decidable.decide (Go.IntKind.wrap Go.IntKind.i64 (Go.IntKind.wrap Go.IntKind.i64 (0 + 1) + 1) < List.getD xs 11 0)) = true → (((Decidable.decide (Go.IntKind.wrap Go.IntKind.i64 (Go.IntKind.wrap Go.IntKind.i64 (Go.IntKind.wrap Go.IntKind.i64 (0 + 1) + 1) + 1) < List.getD xs 11 0)) = true → (((Decidable.decide (Go.IntKind.wrap Go.IntKind.i64 (Go.IntKind.wrap Go.IntKind.i64 (Go.IntKind.wrap Go.IntKind.i64 (Go.IntKind.wrap Go.IntKind.i64 (0 + 1) + 1) + 1) + 1) < List.getD xs 11 0)) = true → (((Decidable.decide (Go.IntKind.wrap Go.IntKind.i64 (Go.IntKind.wrap Go.IntKind.i64 (Go.IntKind.wrap Go.IntKind.i64 (Go.IntKind.wrap Go.IntKind.i64 (Go.IntKind.wrap Go.IntKind.i64 (0 + 1) + 1) + 1) + 1) + 1) < List.getD xs 11 0)) = true → False))))))))))))))))

def s23 : Spec := fS [11, 0, 0] p23 (fun xs => vi (v23_0 xs))

def q23 : Spec where
  tr := fun args H K => match H, shA [11, 0, 0] args with
    | [], some xs => p23 xs ∧ ∀ (x0 : Int), x0 = v23_0 xs → K (vi x0) []
    | _, _ => False



attribute [local irreducible] Loop ex exF contK roundK retK at_ bodyOf mkEnv mkA

theorem sig43_ok : ∀ g s, sig43 g = some s → SpecOK Try.prog elTT g s := by
  intro g s hs
  unfold sig43 at hs
  split at hs
  · injection hs with hs; subst hs; exact inl_ok (cfg := cfgB) (cfg_ok rfl rfl rfl) (nosig rfl) (fn := Try.f15) (by kernel_rfl) (by kernel_rfl) (by kernel_rfl)
  · cases hs


theorem ok43 : SpecOK Try.prog elTT 43 s43 :=
  fS_ok (cfg := cfg43) (cfg_ok rfl rfl rfl) sig43_ok (fn := Try.f43) (by kernel_rfl) (by kernel_rfl) (by kernel_rfl) fun xs K hp hk => Eq.mpr (nf43 xs K) (br_intro (fun h0 => by simpa only [v43_0, h0, cond_true, cond_false] using hk) (fun h0 => br_intro (fun h1 => by simpa only [v43_0, h0, h1, cond_true, cond_false] using hk) (fun h1 => Req_intro ((hp h0) h1) (by simpa only [v43_0, h0, h1, cond_true, cond_false] using hk))))

theorem okq43 : SpecOK Try.prog elTT 43 q43 :=
  spec_mono (fun args H K h => by
    unfold q43 at h
    simp only at h
    split at h
    · rename_i xs hxs
      unfold s43 fS
      simp only [hxs]
      exact ⟨h.1, h.2 _ rfl⟩
    · exact h.elim) ok43

theorem ok23 : SpecOK Try.prog elTT 23 s23 :=
  fS_ok (cfg := cfg23) (cfg_ok rfl rfl rfl) sigR_ok (fn := Try.f23) (by kernel_rfl) (by kernel_rfl) (by kernel_rfl) fun xs K hp hk => Eq.mpr (nf23 xs K) (br_intro (fun h0 => by simpa only [v23_0, h0, cond_true, cond_false] using hk) (fun h0 => br_intro (fun h1 => by simpa only [v23_0, h0, h1, cond_true, cond_false] using hk) (fun h1 => br_intro (fun h2 => br_intro (fun h3 => br_intro (fun h4 => br_intro (fun h5 => br_intro (fun h6 => br_intro (fun h7 => ((((((((hp h0) h1) h2) h3) h4) h5) h6) h7).elim) (fun h7 => br_intro (fun h8 => br_true h2 (br_true h3 (br_true h4 (br_true h5 (br_true h6 (br_false h7 (br_intro (fun h9 => by simpa only [v23_0, h0, h1, h2, h3, h4, h5, h6, h7, h8, h9, cond_true, cond_false] using hk) (fun h9 => by simpa only [v23_0, h0, h1, h2, h3, h4, h5, h6, h7, h8, h9, cond_true, cond_false] using hk)))))))) (fun h8 => by simpa only [v23_0, h0, h1, h2, h3, h4, h5, h6, h7, h8, cond_true, cond_false] using hk))) (fun h6 => br_intro (fun h7 => br_true h2 (br_true h3 (br_true h4 (br_true h5 (br_false h6 (br_intro (fun h8 => by simpa only [v23_0, h0, h1, h2, h3, h4, h5, h6, h7, h8, cond_true, cond_false] using hk) (fun h8 => by simpa only [v23_0, h0, h1, h2, h3, h4, h5, h6, h7, h8, cond_true, cond_false] using hk))))))) (fun h7 => by simpa only [v23_0, h0, h1, h2, h3, h4, h5, h6, h7, cond_true, cond_false] using hk))) (fun h5 => br_intro (fun h6 => br_true h2 (br_true h3 (br_true h4 (br_false h5 (br_intro (fun h7 => by simpa only [v23_0, h0, h1, h2, h3, h4, h5, h6, h7, cond_true, cond_false] using hk) (fun h7 => by simpa only [v23_0, h0, h1, h2, h3, h4, h5, h6, h7, cond_true, cond_false] using hk)))))) (fun h6 => by simpa only [v23_0, h0, h1, h2, h3, h4, h5, h6, cond_true, cond_false] using hk))) (fun h4 => br_intro (fun h5 => br_true h2 (br_true h3 (br_false h4 (br_intro (fun h6 => by simpa only [v23_0, h0, h1, h2, h3, h4, h5, h6, cond_true, cond_false] using hk) (fun h6 => by simpa only [v23_0, h0, h1, h2, h3, h4, h5, h6, cond_true, cond_false] using hk))))) (fun h5 => by simpa only [v23_0, h0, h1, h2, h3, h4, h5, cond_true, cond_false] using hk))) (fun h3 => br_intro (fun h4 => br_true h2 (br_false h3 (br_intro (fun h5 => by simpa only [v23_0, h0, h1, h2, h3, h4, h5, cond_true, cond_false] using hk) (fun h5 => by simpa only [v23_0, h0, h1, h2, h3, h4, h5, cond_true, cond_false] using hk)))) (fun h4 => by simpa only [v23_0, h0, h1, h2, h3, h4, cond_true, cond_false] using hk))) (fun h2 => br_intro (fun h3 => br_false h2 (br_intro (fun h4 => by simpa only [v23_0, h0, h1, h2, h3, h4, cond_true, cond_false] using hk) (fun h4 => by simpa only [v23_0, h0, h1, h2, h3, h4, cond_true, cond_false] using hk))) (fun h3 => by simpa only [v23_0, h0, h1, h2, h3, cond_true, cond_false] using hk)))))

theorem okq23 : SpecOK Try.prog elTT 23 q23 :=
  spec_mono (fun args H K h => by
    unfold q23 at h
    simp only at h
    split at h
    · rename_i xs hxs
      unfold s23 fS
      simp only [hxs]
      exact ⟨h.1, h.2 _ rfl⟩
    · exact h.elim) ok23

end Go.Rx
