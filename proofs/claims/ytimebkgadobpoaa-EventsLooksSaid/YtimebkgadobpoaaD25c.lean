import Derived.Test.YtimebkgadobpoaaN25c
import Derived.Test.YtimebkgadobpoaaL25
namespace Go.Rx
open Go.Proofs
attribute [local irreducible] Loop ex exF contK roundK retK at_ bodyOf mkEnv

theorem sig12_ok : ∀ g s, sig12 g = some s → SpecOK Try.prog elTT g s := by
  intro g s hs
  unfold sig12 at hs
  split at hs
  · injection hs with hs; subst hs; exact ahead_ok
  · injection hs with hs; subst hs; exact refAhead_ok
  · injection hs with hs; subst hs; exact alone_ok
  · injection hs with hs; subst hs; exact one_ok
  · injection hs with hs; subst hs; exact places_ok
  · cases hs

theorem pending_ok : SpecOK Try.prog elTT 14 (rowsS fun t l => posM (pendM t) l) := by
  refine spec_of_exF (cfg := cfg14) (cfg_ok rfl rfl rfl) sig12_ok (fn := Try.f14) (by kernel_rfl) (by kernel_rfl) (by kernel_rfl) ?_
  intro args H K h
  obtain ⟨t, l, rfl, rfl, hl, hk⟩ := rowsS_elim h
  exact Eq.mpr (nf14 t l K) ⟨hl, hk⟩

theorem of_ok : SpecOK Try.prog elTT 20 (rowsS fun t l => posM (ofM t) l) := by
  refine spec_of_exF (cfg := cfg14) (cfg_ok rfl rfl rfl) sig12_ok (fn := Try.f20) (by kernel_rfl) (by kernel_rfl) (by kernel_rfl) ?_
  intro args H K h
  obtain ⟨t, l, rfl, rfl, hl, hk⟩ := rowsS_elim h
  exact Eq.mpr (nf20 t l K) ⟨hl, hk⟩

theorem wrap_pred {k : Nat} (h : k ≤ 4611686018427387904) : IntKind.i64.wrap ((k : Int) + 1 - 1) = (k : Int) := by rw [wrap_id (by omega) (by omega)]; omega
theorem wrap_pred' {i : Nat} (h0 : 0 < i) (h : i ≤ 4611686018427387904) : IntKind.i64.wrap ((i : Int) - 1) = ((i - 1 : Nat) : Int) := by rw [wrap_id (by omega) (by omega)]; omega

theorem right_ok : SpecOK Try.prog elTT 12 (rowBS rightB) := by
  refine spec_of_exF (cfg := cfg12) (cfg_ok rfl rfl rfl) sig12_ok (fn := Try.f12) (by kernel_rfl) (by kernel_rfl) (by kernel_rfl) ?_
  intro args H K h
  obtain ⟨w, l, rfl, rfl, hl, hk⟩ := rowBS_elim h
  refine Eq.mpr (nf12 w l K) ?_
  refine loop_ind (σ := Nat × (Int → Option Int) × Nat) (fun s => mkEnv [(0, vi w), (1, .row 0), (5, .mp 1), (13, .row 0), (14, vi (l.length : Int)), (15, vi s.1)]) (fun s => [.row 3 l true, .map s.2.1 s.2.2])
    (fun s => s.1 ≤ l.length ∧ (∀ j, j < s.1 → okAt w l j = true) ∧ s.2.2 ≤ s.1 ∧ lastOK l s.1 s.2.1) (fun s => l.length - s.1) ?_ (0, (fun _ => none), 0) ⟨Nat.zero_le _, fun j hj => by omega, Nat.le_refl _, lastOK_zero l⟩
  rintro ⟨i, m, n⟩ ⟨hi, hall, hn, hm⟩ J hJ
  simp only at hi hall hn hm hJ ⊢
  refine Eq.mpr (nf12r w l m n i K J) (br_intro (fun h1 => ?_) (fun h1 => ?_))
  · have h1 : i < l.length := by simpa using h1
    simp only [offs_nat, inR_nat h1, Req_true, Int.toNat_natCast, wrap_succ (show i ≤ 4611686018427387904 by omega)]
    have bad : ¬ okAt w l i = true → K (vb false) [.row 3 l true] := fun h => by rw [rightB_false h1 h] at hk; exact hk
    have good : okAt w l i = true → J (mkEnv [(0, vi w), (1, .row 0), (5, .mp 1), (13, .row 0), (14, vi (l.length : Int)), (15, vi ((i + 1 : Nat) : Int))]) [.row 3 l true, .map (mapSet m (l.getD i dEv).Worker ((i + 1 : Nat) : Int)) (n + 1)] := fun h =>
      hJ (i + 1, mapSet m (l.getD i dEv).Worker ((i + 1 : Nat) : Int), n + 1) ⟨h1, fun j hj => by
        by_cases e : j = i
        · subst e; exact h
        · exact hall j (by omega), by show n + 1 ≤ i + 1; omega, by
            have := lastOK_succ hm
            rw [show ((i : Int) + 1) = ((i + 1 : Nat) : Int) by omega] at this
            exact this⟩ (by omega)
    have tail : oneM w (l.getD i dEv) = true → (i = 0 ∨ (l.getD (i - 1) dEv).Begin < (l.getD i dEv).Begin) →
        br (decide ((m (l.getD i dEv).Worker).getD 0 > 0)) (Req (inR (IntKind.i64.wrap ((m (l.getD i dEv).Worker).getD 0 - 1)) l.length) (Req (inR (offs (IntKind.i64.wrap ((m (l.getD i dEv).Worker).getD 0 - 1)) 0) l.length)
          (br (!aheadM (l.getD (offs (IntKind.i64.wrap ((m (l.getD i dEv).Worker).getD 0 - 1)) 0).toNat dEv) (l.getD i dEv)) (K (vb false) [.row 3 l true])
            (J (mkEnv [(0, vi w), (1, .row 0), (5, .mp 1), (13, .row 0), (14, vi (l.length : Int)), (15, vi ((i + 1 : Nat) : Int))]) [.row 3 l true, .map (mapSet m (l.getD i dEv).Worker ((i + 1 : Nat) : Int)) (n + 1)]))))
          (J (mkEnv [(0, vi w), (1, .row 0), (5, .mp 1), (13, .row 0), (14, vi (l.length : Int)), (15, vi ((i + 1 : Nat) : Int))]) [.row 3 l true, .map (mapSet m (l.getD i dEv).Worker ((i + 1 : Nat) : Int)) (n + 1)]) := by
      intro ho hb
      cases hq : m (l.getD i dEv).Worker with
      | none =>
        refine br_false (by simp) (good (okAt_of hm hall ho hb fun k hk => ?_))
        rw [hq] at hk; cases hk
      | some y =>
        obtain ⟨k, rfl, k1, k2, k3⟩ := (hm _).1 y hq
        simp only [Option.getD_some]
        refine br_true (decide_eq_true (by omega)) ?_
        rw [wrap_pred (by omega)]
        simp only [offs_nat, inR_nat (show k < l.length by omega), Req_true, Int.toNat_natCast]
        refine br_intro (fun ha => bad fun h => ?_) (fun ha => good (okAt_of hm hall ho hb fun k' hk' => ?_))
        · rw [(okAt_iff.1 h).2.2 k k1 k2] at ha
          cases ha
        · rw [hq] at hk'
          have : k' = k := by injection hk' with hk'; omega
          subst this
          simpa using ha
    refine br_intro (fun ho => bad fun h => ?_) (fun ho => br_intro (fun hp => ?_) (fun hp => ?_))
    · have ho : (!oneM w (l.getD i dEv)) = true := ho
      rw [(okAt_iff.1 h).1] at ho
      cases ho
    · have hp : 0 < i := by simpa using hp
      rw [wrap_pred' hp (by omega)]
      simp only [offs_nat, inR_nat (show i - 1 < l.length by omega), Req_true, Int.toNat_natCast]
      refine br_intro (fun hb => bad fun h => ?_) (fun hb => tail (by simpa using ho) (.inr ?_))
      · have hb := of_decide_eq_true hb
        rcases (okAt_iff.1 h).2.1 with e | e
        · omega
        · have hb : (l.getD (i - 1) dEv).Begin ≥ (l.getD i dEv).Begin := hb
          omega
      · have hb := of_decide_eq_false hb
        have hb : ¬ (l.getD (i - 1) dEv).Begin ≥ (l.getD i dEv).Begin := hb
        omega
    · have hp : i = 0 := by have := of_decide_eq_false hp; omega
      exact tail (by simpa using ho) (.inl hp)
  · have h1 : i = l.length := by simp at h1; omega
    subst h1
    have hr : rightB w l = true := rightB_iff.2 hall
    rw [hr] at hk
    refine loop_ind (σ := (Int → Bool) × Nat × Option (Int × Int) × Nat) (fun s => mkEnv [(0, vi w), (1, .row 0), (9, vi s.2.2.2), (62, .ptr 1 0)]) (fun s => [.row 3 l true, .iter m s.1 s.2.1 s.2.2.1])
      (fun s => s.2.2.2 + s.2.1 ≤ l.length ∧ s.2.2.2 + cntL w s.1 ≤ w.toNat) (fun s => s.2.1) ?_ (mapHas m, n, none, 0) ⟨by simpa using hn, by simpa using cntL_le w _⟩
    rintro ⟨left, n', cur, o⟩ ⟨g1, g2⟩ J' hJ'
    simp only at g1 g2 hJ' ⊢
    refine Eq.mpr (nf12s w l m left n' cur o K J') ⟨fun a y hl' ha hpos => ?_, fun hno => ?_⟩
    · have hpos : 0 < n' := of_decide_eq_true hpos
      obtain ⟨k, rfl, k1, k2, k3⟩ := (hm a).1 y ha
      rw [wrap_pred (by omega)]
      simp only [offs_nat, inR_nat k1, Req_true, Int.toNat_natCast]
      obtain ⟨f1, f2, f3, f4⟩ := oneM_facts (okAt_iff.1 (hall k k1)).1
      have hc := cntL_drop (w := w) (left := left) (a := a) (by rw [← k2]; exact f2) (by rw [← k2]; exact f3) hl'
      refine br_intro (fun hd => ?_) (fun hd => ?_)
      · rw [wrap_succ (show o ≤ 4611686018427387904 by omega)]
        exact hJ' (mapDrop left a, n' - 1, some (a, (k : Int) + 1), o + 1) ⟨by show o + 1 + (n' - 1) ≤ l.length; omega, by show o + 1 + cntL w (mapDrop left a) ≤ w.toNat; omega⟩ (by show n' - 1 < n'; omega)
      · exact hJ' (mapDrop left a, n' - 1, some (a, (k : Int) + 1), o) ⟨by show o + (n' - 1) ≤ l.length; omega, by show o + cntL w (mapDrop left a) ≤ w.toNat; omega⟩ (by show n' - 1 < n'; omega)
    · have : decide ((o : Int) ≤ if (0 : Int) > w then (0 : Int) else w) = true := by
        refine decide_eq_true ?_
        split <;> omega
      refine Eq.mp (congrArg (fun b => K (vb b) [.row 3 l true]) this.symm) hk

theorem refRight_ok : SpecOK Try.prog elTT 13 (rowBS rightB) := by
  refine spec_of_exF (cfg := cfg13) (cfg_ok rfl rfl rfl) sig12_ok (fn := Try.f13) (by kernel_rfl) (by kernel_rfl) (by kernel_rfl) ?_
  intro args H K h
  obtain ⟨w, l, rfl, rfl, hl, hk⟩ := rowBS_elim h
  refine Eq.mpr (nf13 w l K) ?_
  refine loop_ind (σ := Nat) (fun s => mkEnv [(0, vi w), (1, .row 0), (5, vi s)]) (fun s => [.row 3 l true]) (fun s => s ≤ l.length ∧ ∀ j, j < s → okAt w l j = true) (fun s => l.length - s) ?_ 0 ⟨Nat.zero_le _, fun j hj => by omega⟩
  rintro i ⟨hi, hall⟩ J hJ
  refine Eq.mpr (nf13r w l i K J) (br_intro (fun h1 => ?_) (fun h1 => ?_))
  · have h1 : i < l.length := by simpa using h1
    simp only [offs_nat, inR_nat h1, Req_true, Int.toNat_natCast]
    have bad : ¬ okAt w l i = true → K (vb false) [.row 3 l true] := fun h => by rw [rightB_false h1 h] at hk; exact hk
    have good : okAt w l i = true → J (mkEnv [(0, vi w), (1, .row 0), (5, vi ((i + 1 : Nat) : Int))]) [.row 3 l true] := fun h =>
      hJ (i + 1) ⟨h1, fun j hj => by
        by_cases e : j = i
        · subst e; exact h
        · exact hall j (by omega)⟩ (by omega)
    refine br_intro (fun ho => bad fun h => ?_) (fun ho => ?_)
    · have ho : (!oneM w (l.getD i dEv)) = true := ho
      rw [(okAt_iff.1 h).1] at ho
      cases ho
    have ho : oneM w (l.getD i dEv) = true := by
      have ho : (!oneM w (l.getD i dEv)) = false := ho
      simpa using ho
    have tail : (i = 0 ∨ (l.getD (i - 1) dEv).Begin < (l.getD i dEv).Begin) → Loop cfg13 (⟨66, 1⟩ : Cx) (at_ (bodyOf Try.f13) [1, 0, 1, 0, 0, 1, 0, 0, 1, 1, 0, 0]) (mkEnv [(0, vi w), (1, .row 0), (5, vi i), (6, vi 0)]) [.row 3 l true]
        (contK cfg13 (⟨66, 1⟩ : Cx) (at_ (bodyOf Try.f13) [1, 0, 1, 0, 0]) [1, 0, 0, 1, 1, 0] (roundK cfg13 (⟨66, 1⟩ : Cx) (at_ (bodyOf Try.f13) [1, 0, 1, 0, 0]) (contK cfg13 (⟨66, 1⟩ : Cx) (bodyOf Try.f13) [1, 0, 1, 0] (retK cfg13 Try.f13 1 K)) J)) := by
      intro hb
      refine loop_ind (σ := Nat) (fun k => mkEnv [(0, vi w), (1, .row 0), (5, vi i), (6, vi k)]) (fun _ => [.row 3 l true]) (fun k => k ≤ i ∧ ∀ j, j < k → (l.getD j dEv).Worker = (l.getD i dEv).Worker → aheadM (l.getD j dEv) (l.getD i dEv) = true) (fun k => i - k) ?_ 0 ⟨Nat.zero_le _, fun j hj => by omega⟩
      rintro k ⟨hk1, hk2⟩ J2 hJ2
      refine Eq.mpr (nf13i w l i k K J J2) (br_intro (fun h2 => ?_) (fun h2 => ?_))
      · have h2 : k < i := by simpa using h2
        simp only [offs_nat, inR_nat h1, inR_nat (show k < l.length by omega), Req_true, Int.toNat_natCast, wrap_succ (show k ≤ 4611686018427387904 by omega)]
        refine br_intro (fun he => br_intro (fun ha => bad fun h => ?_) (fun ha => ?_)) (fun he => ?_)
        · have he : ((l.getD k dEv).Worker == (l.getD i dEv).Worker) = true := he
          have ha : (!aheadM (l.getD k dEv) (l.getD i dEv)) = true := ha
          rw [(okAt_iff.1 h).2.2 k h2 (by simpa using he)] at ha
          cases ha
        · have ha : (!aheadM (l.getD k dEv) (l.getD i dEv)) = false := ha
          exact hJ2 (k + 1) ⟨h2, fun j hj hw => by
            by_cases e : j = k
            · subst e; simpa using ha
            · exact hk2 j (by omega) hw⟩ (by omega)
        · have he : ((l.getD k dEv).Worker == (l.getD i dEv).Worker) = false := he
          exact hJ2 (k + 1) ⟨h2, fun j hj hw => by
            by_cases e : j = k
            · subst e; rw [hw] at he; simp at he
            · exact hk2 j (by omega) hw⟩ (by omega)
      · have h2 : k = i := by simp at h2; omega
        subst h2
        rw [wrap_succ (show k ≤ 4611686018427387904 by omega)]
        exact good (okAt_iff.2 ⟨ho, hb, hk2⟩)
    refine br_intro (fun hp => ?_) (fun hp => ?_)
    · have hp : 0 < i := by simpa using hp
      rw [wrap_pred' hp (by omega)]
      simp only [offs_nat, inR_nat (show i - 1 < l.length by omega), Req_true, Int.toNat_natCast]
      refine br_intro (fun hb => bad fun h => ?_) (fun hb => tail (.inr ?_))
      · have hb := of_decide_eq_true hb
        rcases (okAt_iff.1 h).2.1 with e | e
        · omega
        · have hb : (l.getD (i - 1) dEv).Begin ≥ (l.getD i dEv).Begin := hb
          omega
      · have hb := of_decide_eq_false hb
        have hb : ¬ (l.getD (i - 1) dEv).Begin ≥ (l.getD i dEv).Begin := hb
        omega
    · have hp : i = 0 := by have := of_decide_eq_false hp; omega
      exact tail (.inl hp)
  · have h1 : i = l.length := by simp at h1; omega
    subst h1
    rw [rightB_iff.2 hall] at hk
    exact hk
end Go.Rx
