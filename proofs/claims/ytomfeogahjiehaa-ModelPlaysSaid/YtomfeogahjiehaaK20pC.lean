/- What the row's text of this claim stands on, part 3: the symbolic executor, contracts of the program's functions, plain facts. No condition. -/
import Derived.Test.YtomfeogahjiehaaK20pB
section
namespace Go.Rx
open Go.Proofs
def powI (al : Int) : Prop := al = 1 ∨ al = 2 ∨ al = 4 ∨ al = 8 ∨ al = 16 ∨ al = 32 ∨ al = 64 ∨ al = 128
instance (al : Int) : Decidable (powI al) := by unfold powI; infer_instance
def fitOK (n al : Int) : Prop := 0 ≤ n ∧ powI al
instance (n al : Int) : Decidable (fitOK n al) := by unfold fitOK; infer_instance
def clsOf (n : Int) : Int := if n ≤ 1 then 0 else if n ≤ 2 then 1 else if n ≤ 4 then 2 else if n ≤ 8 then 3 else if n ≤ 16 then 4 else -1
def szI (c : Int) : Int := if c = 0 then 1 else if c = 1 then 2 else if c = 2 then 4 else if c = 3 then 8 else if c = 4 then 16 else 0
theorem cOf3 (n : Int) : y22 n = some (clsOf n) := by
  have w1 : IntKind.wrap IntKind.i64 (0 + 1) = 1 := rfl
  have w2 : IntKind.wrap IntKind.i64 (1 + 1) = 2 := rfl
  have w3 : IntKind.wrap IntKind.i64 (2 + 1) = 3 := rfl
  have w4 : IntKind.wrap IntKind.i64 (3 + 1) = 4 := rfl
  unfold y22 clsOf
  simp only [w1, w2, w3, w4, ge_iff_le]
  by_cases h1 : n ≤ 1
  · simp [h1]
  by_cases h2 : n ≤ 2
  · simp [h1, h2]
  by_cases h3 : n ≤ 4
  · simp [h1, h2, h3]
  by_cases h4 : n ≤ 8
  · simp [h1, h2, h3, h4]
  by_cases h5 : n ≤ 16 <;> simp [h1, h2, h3, h4, h5]
theorem rSize3 {c : Int} (h : 0 ≤ c ∧ c < 5) : y0x c = some (szI c) := by
  have : c = 0 ∨ c = 1 ∨ c = 2 ∨ c = 3 ∨ c = 4 := by omega
  rcases this with rfl | rfl | rfl | rfl | rfl <;> exact loopO_of (n := 6) rfl
theorem rSizeN : y0x (-1) = some 0 := rfl
theorem cSize3 {c : Int} (h : 0 ≤ c ∧ c < 5) : y2v c = some (szI c) := by
  have : c = 0 ∨ c = 1 ∨ c = 2 ∨ c = 3 ∨ c = 4 := by omega
  rcases this with rfl | rfl | rfl | rfl | rfl <;> rfl
theorem rOf3 (n : Int) : y1z n = some (clsOf n) := by
  have step : ∀ c : Int, 0 ≤ c ∧ c < 5 → y3s n c = if n ≤ szI c then some (.inr c) else some (.inl (c + 1)) := by
    intro c h
    unfold y3s
    rw [decide_eq_true (show c < 5 by omega), cond_true, rSize3 h, Option.bind_some, wrap_id (by omega) (by omega)]
    by_cases hn : n ≤ szI c <;> simp [hn]
  have last : y3s n 5 = some (.inr (-1)) := rfl
  unfold y1z y66
  have e0 : szI 0 = 1 := rfl
  have e1 : szI 1 = 2 := rfl
  have e2 : szI 2 = 4 := rfl
  have e3 : szI 3 = 8 := rfl
  have e4 : szI 4 = 16 := rfl
  have s0 := step 0 (by omega)
  have s1 := step 1 (by omega)
  have s2 := step 2 (by omega)
  have s3 := step 3 (by omega)
  have s4 := step 4 (by omega)
  rw [e0] at s0; rw [e1] at s1; rw [e2] at s2; rw [e3] at s3; rw [e4] at s4
  unfold clsOf
  by_cases h1 : n ≤ 1
  · rw [if_pos h1] at s0 ⊢; exact loopO_end s0
  rw [if_neg h1] at s0 ⊢
  rw [loopO_go s0]
  by_cases h2 : n ≤ 2
  · rw [if_pos h2] at s1 ⊢; exact loopO_end s1
  rw [if_neg h2] at s1 ⊢
  rw [show (0 : Int) + 1 = 1 from rfl, loopO_go s1]
  by_cases h3 : n ≤ 4
  · rw [if_pos h3] at s2 ⊢; exact loopO_end s2
  rw [if_neg h3] at s2 ⊢
  rw [show (1 : Int) + 1 = 2 from rfl, loopO_go s2]
  by_cases h4 : n ≤ 8
  · rw [if_pos h4] at s3 ⊢; exact loopO_end s3
  rw [if_neg h4] at s3 ⊢
  rw [show (2 : Int) + 1 = 3 from rfl, loopO_go s3]
  by_cases h5 : n ≤ 16
  · rw [if_pos h5] at s4 ⊢; exact loopO_end s4
  rw [if_neg h5] at s4 ⊢
  rw [show (3 : Int) + 1 = 4 from rfl, loopO_go s4, show (4 : Int) + 1 = 5 from rfl]
  exact loopO_end last
theorem cPow (al : Int) : y2a al = some (decide (powI al)) := by
  unfold y2a
  by_cases h : powI al
  · rw [decide_eq_true h]
    rcases h with rfl | rfl | rfl | rfl | rfl | rfl | rfl | rfl <;> rfl
  · rw [decide_eq_false h]
    unfold powI at h
    have e : ∀ k : Int, al ≠ k → (k == al) = false := fun k hk => by simp; exact fun e => hk e.symm
    rw [e 1 (by omega), e 2 (by omega), e 4 (by omega), e 8 (by omega), e 16 (by omega), e 32 (by omega), e 64 (by omega), e 128 (by omega)]; rfl
theorem rPow (al : Int) : y29 al = some (decide (powI al)) := by
  unfold y29 y6z
  by_cases h : powI al
  · rw [decide_eq_true h]
    rcases h with rfl | rfl | rfl | rfl | rfl | rfl | rfl | rfl <;> exact loopO_of (n := 10) rfl
  · rw [decide_eq_false h]
    unfold powI at h
    have go : ∀ p q : Int, p ≤ 128 → p ≠ al → IntKind.wrap IntKind.i64 (p * 2) = q → y3z al p = some (.inl q) := by
      intro p q h1 h2 h3
      unfold y3z
      rw [decide_eq_true h1, cond_true, show (p == al) = false by simpa using h2, cond_false, h3]
    rw [loopO_go (go 1 2 (by omega) (by omega) rfl), loopO_go (go 2 4 (by omega) (by omega) rfl), loopO_go (go 4 8 (by omega) (by omega) rfl), loopO_go (go 8 16 (by omega) (by omega) rfl),
      loopO_go (go 16 32 (by omega) (by omega) rfl), loopO_go (go 32 64 (by omega) (by omega) rfl), loopO_go (go 64 128 (by omega) (by omega) rfl), loopO_go (go 128 256 (by omega) (by omega) rfl)]
    exact loopO_end rfl
theorem clsOf_le {n : Int} (h : n ≤ 16) : 0 ≤ clsOf n ∧ clsOf n < 5 := by
  unfold clsOf
  (repeat' split) <;> omega
theorem sz_cls {n : Int} (h : n ≤ 16) : n ≤ szI (clsOf n) ∧ 1 ≤ szI (clsOf n) ∧ szI (clsOf n) ≤ 16 := by
  unfold clsOf
  split
  · rw [show szI 0 = 1 from rfl]; omega
  split
  · rw [show szI 1 = 2 from rfl]; omega
  split
  · rw [show szI 2 = 4 from rfl]; omega
  split
  · rw [show szI 3 = 8 from rfl]; omega
  · rw [show szI 4 = 16 from rfl]; omega
def roundI (n al : Int) : Int := if fitOK n al then (if n ≤ 16 ∧ al ≤ 16 then szI (clsOf (max n al)) else ((max n 1 - 1) / 32 + 1) * 32) else 0
theorem imax (x y : Int) : (if y > x then y else x) = max x y := by rw [Int.max_def]; split <;> split <;> omega
theorem pages_eq' {n : Int} (h : 1 ≤ n ∧ n ≤ 9223372036854775807) : IntKind.wrap IntKind.i64 (IntKind.wrap IntKind.i64 (Int.tdiv (IntKind.wrap IntKind.i64 (n - 1)) 32) + 1) = (n - 1) / 32 + 1 := by
  rw [wrap_id (x := n - 1) (by omega) (by omega), Int.tdiv_eq_ediv_of_nonneg (by omega), wrap_id (x := (n - 1) / 32) (by omega) (by omega), wrap_id (by omega) (by omega)]
theorem cFit_eq (n al : Int) (hn : n ≤ 9223372036854775807) : y16 n al = some (if fitOK n al then (if n ≤ 16 ∧ al ≤ 16 then (clsOf (max n al), 0, 0, 0) else (-1, (max n 1 - 1) / 32 + 1, max 1 (IntKind.wrap IntKind.i64 (Int.tdiv al 32)), 0)) else (0, 0, 0, 2)) := by
  unfold y16
  rw [cPow, Option.bind_some]
  by_cases h0 : n < 0
  · rw [decide_eq_true h0, cond_true, if_neg (by unfold fitOK; omega)]
  rw [decide_eq_false h0, cond_false]
  by_cases hp : powI al
  · rw [decide_eq_true hp, if_pos (show fitOK n al from ⟨by omega, hp⟩), imax n al]
    by_cases hx : max n al ≤ 16
    · rw [decide_eq_true hx, if_pos (show n ≤ 16 ∧ al ≤ 16 by omega), cOf3]; rfl
    · rw [decide_eq_false hx, if_neg (show ¬ (n ≤ 16 ∧ al ≤ 16) by omega), show (if (1 : Int) > n then (1 : Int) else n) = max n 1 from imax n 1, imax 1]
      unfold y30
      rw [decide_eq_false (by omega), pages_eq' (by omega)]; rfl
  · rw [decide_eq_false hp, if_neg (show ¬ fitOK n al from fun h => hp h.2)]; rfl
theorem clsOf_mono {a b : Int} (h : a ≤ b) (hb : b ≤ 16) : clsOf a ≤ clsOf b := by
  unfold clsOf
  (repeat' split) <;> omega
theorem rFit_eq (n al : Int) (hn : n ≤ 9223372036854775807) : y1f n al = some (if fitOK n al then (if n ≤ 16 ∧ al ≤ 16 then (clsOf (max n al), 0, 0, 0) else (-1, (max n 1 - 1) / 32 + 1, max 1 (IntKind.wrap IntKind.i64 (Int.tdiv al 32)), 0)) else (0, 0, 0, 2)) := by
  unfold y1f
  rw [rPow, Option.bind_some]
  have hpg : y1w (max n 1) = some ((max n 1 - 1) / 32 + 1) := by
    unfold y1w
    rw [decide_eq_false (by omega), pages_eq' (by omega)]; rfl
  by_cases h0 : n < 0
  · rw [decide_eq_true h0, cond_true, if_neg (by unfold fitOK; omega)]
  rw [decide_eq_false h0, cond_false]
  by_cases hp : powI al
  · rw [decide_eq_true hp, if_pos (show fitOK n al from ⟨by omega, hp⟩)]
    rw [show (if (1 : Int) > n then (1 : Int) else n) = max n 1 from imax n 1, imax 1]
    by_cases h1 : n ≤ 16
    · by_cases h2 : al ≤ 16
      · rw [decide_eq_true h1, decide_eq_true h2, if_pos ⟨h1, h2⟩, rOf3, rOf3, Option.bind_some, Option.bind_some, imax]
        have : max (clsOf n) (clsOf al) = clsOf (max n al) := by
          rcases Int.le_total n al with h | h
          · rw [Int.max_eq_right h, Int.max_eq_right (clsOf_mono h h2)]
          · rw [Int.max_eq_left h, Int.max_eq_left (clsOf_mono h h1)]
        rw [this]; rfl
      · rw [decide_eq_true h1, decide_eq_false h2, if_neg (fun h => h2 h.2), hpg]; rfl
    · rw [decide_eq_false h1, if_neg (fun h => h1 h.1), hpg]; rfl
  · rw [decide_eq_false hp, if_neg (show ¬ fitOK n al from fun h => hp h.2)]; rfl
theorem cRound_eq (n al : Int) (hn : n ≤ 1048576) : y21 n al = some (roundI n al, if fitOK n al then 0 else 2) := by
  unfold y21 roundI
  rw [cFit_eq _ _ (by omega), Option.bind_some]
  by_cases h : fitOK n al
  · rw [if_pos h, if_pos h, if_pos h]
    by_cases h1 : n ≤ 16 ∧ al ≤ 16
    · have hc := clsOf_le (n := max n al) (by omega)
      rw [if_pos h1, if_pos h1]
      simp only [bne_self_eq_false, cond_false]
      rw [show (clsOf (max n al) != -1) = true by simp; omega, cond_true, cSize3 hc]; rfl
    · rw [if_neg h1, if_neg h1]
      simp only [bne_self_eq_false, cond_false]
      have := h.1
      rw [wrap_id (by omega) (by omega)]
  · rw [if_neg h, if_neg h, if_neg h]; rfl
theorem rRound_eq (n al : Int) (hn : n ≤ 1048576) : y28 n al = some (roundI n al, if fitOK n al then 0 else 2) := by
  unfold y28 roundI
  rw [rFit_eq _ _ (by omega), Option.bind_some]
  by_cases h : fitOK n al
  · rw [if_pos h, if_pos h, if_pos h]
    by_cases h1 : n ≤ 16 ∧ al ≤ 16
    · have hc := clsOf_le (n := max n al) (by omega)
      have hs := sz_cls (n := max n al) (by omega)
      rw [if_pos h1, if_pos h1]
      simp only [bne_self_eq_false, cond_false]
      rw [rSize3 hc, Option.bind_some, show IntKind.wrap IntKind.i64 (32 * 0) = 0 from rfl, Int.add_zero, wrap_id (by omega) (by omega)]
    · rw [if_neg h1, if_neg h1]
      simp only [bne_self_eq_false, cond_false]
      have := h.1
      rw [rSizeN, Option.bind_some, wrap_id (x := 32 * _) (by omega) (by omega), Int.zero_add, wrap_id (by omega) (by omega), Int.mul_comm]
  · rw [if_neg h, if_neg h, if_neg h]; rfl
theorem roundI_le {n al : Int} (h : fitOK n al) (hn : n ≤ 1048576) : n ≤ roundI n al ∧ 1 ≤ roundI n al ∧ roundI n al ≤ 1048640 := by
  unfold roundI
  have := h.1
  rw [if_pos h]
  split
  · have hs := sz_cls (n := max n al) (by omega)
    omega
  · omega
def rndI (n al : Int) : Int := if n > 1048576 then 0 else roundI n al
def alI (c : yb) : Int := if c.Kind = 5 then c.Align else 1
def sized (c : yb) : Prop := c.Kind = 1 ∨ c.Kind = 3 ∨ c.Kind = 4 ∨ c.Kind = 5
instance (c : yb) : Decidable (sized c) := by unfold sized; infer_instance
def askP (c : yb) : Prop := (1 ≤ c.Kind ∧ c.Kind ≤ 12) ∧ (sized c → fitOK c.Size (alI c))
instance (c : yb) : Decidable (askP c) := by unfold askP; infer_instance
def askI (c : yb) : Int := if askP c then 0 else 2
theorem cal_eq (c : yb) : y1g c = some (alI c) := by
  unfold y1g alI
  by_cases h : c.Kind = 5
  · simp [h]
  · rw [show (c.Kind == 5) = false by simpa using h, if_neg h]; rfl
theorem ral_eq (c : yb) : y2b c = some (alI c) := by
  unfold y2b alI
  by_cases h : c.Kind = 5
  · simp [h]
  · rw [show (c.Kind == 5) = false by simpa using h, if_neg h]; rfl
theorem fit4 (n al : Int) : (if fitOK n al then (if n ≤ 16 ∧ al ≤ 16 then ((clsOf (max n al), 0, 0, 0) : Int × Int × Int × Int) else (-1, (max n 1 - 1) / 32 + 1, max 1 (IntKind.wrap IntKind.i64 (Int.tdiv al 32)), 0)) else (0, 0, 0, 2)).2.2.2 = if fitOK n al then 0 else 2 := by
  split
  · split <;> rfl
  · rfl
theorem cAsks_eq (c : yb) (hn : c.Size ≤ 9223372036854775807) : y1n c = some (askI c) := by
  unfold y1n askI
  have hs : ∀ h : sized c, (if fitOK c.Size (alI c) then (0 : Int) else 2) = if askP c then 0 else 2 := by
    intro h
    have hk : 1 ≤ c.Kind ∧ c.Kind ≤ 12 := by unfold sized at h; omega
    by_cases hf : fitOK c.Size (alI c)
    · rw [if_pos hf, if_pos ⟨hk, fun _ => hf⟩]
    · rw [if_neg hf, if_neg (fun h' => hf (h'.2 h))]
  have hb : (y1g c).bind (fun y => (y16 c.Size y).bind fun z => some (Prod.snd (Prod.snd (Prod.snd z)))) = some (if fitOK c.Size (alI c) then (0 : Int) else 2) := by
    rw [cal_eq, Option.bind_some, cFit_eq _ _ hn, Option.bind_some, fit4]
  rw [hb]
  by_cases h : sized c
  · rw [hs h]
    rcases h with h | h | h | h <;> simp [h]
  · unfold sized at h
    have e : ∀ k : Int, c.Kind ≠ k → (c.Kind == k) = false := fun k hk => by simpa using hk
    rw [e 1 (by omega), e 3 (by omega), e 4 (by omega), e 5 (by omega)]
    simp only [cond_false]
    by_cases hk : 1 ≤ c.Kind ∧ c.Kind ≤ 12
    · rw [if_pos ⟨hk, fun h' => absurd h' (by unfold sized; omega)⟩]
      have : c.Kind = 2 ∨ c.Kind = 6 ∨ c.Kind = 7 ∨ c.Kind = 8 ∨ c.Kind = 9 ∨ c.Kind = 10 ∨ c.Kind = 11 ∨ c.Kind = 12 := by omega
      rcases this with h | h | h | h | h | h | h | h <;> simp [h]
    · rw [if_neg (fun h' => hk h'.1), e 2 (by omega), e 6 (by omega), e 7 (by omega), e 8 (by omega), e 9 (by omega), e 10 (by omega), e 11 (by omega), e 12 (by omega)]; rfl
theorem rAsks_eq (c : yb) (hn : c.Size ≤ 9223372036854775807) : y1s c = some (askI c) := by
  unfold y1s askI
  have hsz : y2h c.Kind = some (decide (sized c)) := by
    unfold y2h sized
    by_cases h1 : c.Kind = 1
    · simp [h1]
    by_cases h2 : c.Kind = 3
    · simp [h2]
    by_cases h3 : c.Kind = 4
    · simp [h3]
    have e : ∀ k : Int, c.Kind ≠ k → (c.Kind == k) = false := fun k hk => by simpa using hk
    rw [e 1 h1, e 3 h2, e 4 h3]
    by_cases h4 : c.Kind = 5 <;> simp [h1, h2, h3, h4]
  by_cases h1 : c.Kind < 1
  · rw [decide_eq_true h1, if_neg (fun h => by have := h.1; omega)]; rfl
  by_cases h2 : c.Kind > 12
  · rw [decide_eq_false h1, decide_eq_true h2, if_neg (fun h => by have := h.1; omega)]; rfl
  rw [decide_eq_false h1, decide_eq_false h2, ral_eq, Option.bind_some, rFit_eq _ _ hn, Option.bind_some, fit4, hsz, Option.bind_some]
  simp only [cond_false]
  by_cases h : sized c
  · rw [decide_eq_true h, cond_true]
    by_cases hf : fitOK c.Size (alI c)
    · rw [if_pos hf, if_pos ⟨by omega, fun _ => hf⟩]; rfl
    · rw [if_neg hf, if_neg (fun h' => hf (h'.2 h))]; rfl
  · rw [decide_eq_false h, if_pos (show askP c from ⟨by omega, fun h' => absurd h' h⟩)]; rfl
def mn2 (x y : Int) : Int := if y < x then y else x
def mn7 (s : ya) : Int := mn2 (mn2 (mn2 (mn2 (mn2 (mn2 s.Blocks s.Asked) s.Words) s.Kept) s.Open) s.Mapped) s.Used
theorem mn2_ge {x y : Int} : (0 ≤ mn2 x y) ↔ 0 ≤ x ∧ 0 ≤ y := by unfold mn2; split <;> omega
theorem mn7_ge {s : ya} : 0 ≤ mn7 s ↔ ((((((0 ≤ s.Blocks ∧ 0 ≤ s.Asked) ∧ 0 ≤ s.Words) ∧ 0 ≤ s.Kept) ∧ 0 ≤ s.Open) ∧ 0 ≤ s.Mapped) ∧ 0 ≤ s.Used) := by
  unfold mn7; simp only [mn2_ge]
def statB (s : ya) : Prop := (s.Blocks ≤ 9223372036854775807 ∧ s.Asked ≤ 9223372036854775807) ∧ (s.Words ≤ 9223372036854775807 ∧ s.Kept ≤ 9223372036854775807) ∧ s.Open ≤ 9223372036854775807
theorem tR_form (s : ya) : y1r s = (bif decide (mn7 s < 0) then some false else bif decide ((if s.Kept > s.Words then s.Kept else s.Words) > 35184372088832) then some false else bif decide (s.Used > 1099511627776) then some false else
    bif decide (s.Asked > s.Words) then some false else bif decide (s.Blocks > s.Words) then some false else bif decide (s.Used > s.Mapped) then some false else
      some (IntKind.wrap IntKind.i64 (s.Words + s.Kept) == IntKind.wrap IntKind.i64 (IntKind.wrap IntKind.i64 (s.Used * 32) - s.Open))) := by
  unfold y1r mn7 mn2; rfl
theorem rR_form (s : ya) : y1x s = (bif decide (mn7 s < 0) then some false else bif decide (s.Asked > s.Words) then some false else bif decide (s.Blocks > s.Words) then some false else bif decide (s.Used > s.Mapped) then some false else
    bif decide (s.Used > 1099511627776) then some false else bif decide (s.Words > 35184372088832) then some false else bif decide (s.Kept > 35184372088832) then some false else
      some (s.Open == IntKind.wrap IntKind.i64 (IntKind.wrap IntKind.i64 (IntKind.wrap IntKind.i64 (32 * s.Used) - s.Words) - s.Kept))) := by
  unfold y1x mn7 mn2; rfl
theorem Right_eq (s : ya) (h : statB s) : ∃ b, y1r s = some b ∧ y1x s = some b := by
  obtain ⟨⟨h1, h2⟩, ⟨h3, h4⟩, h5⟩ := h
  rw [tR_form, rR_form]
  by_cases hn : mn7 s < 0
  · rw [decide_eq_true hn]; exact ⟨false, rfl, rfl⟩
  rw [decide_eq_false hn]
  obtain ⟨⟨⟨⟨⟨⟨p1, p2⟩, p3⟩, p4⟩, p5⟩, p6⟩, p7⟩ := mn7_ge.1 (by omega : 0 ≤ mn7 s)
  simp only [cond_false]
  by_cases a1 : s.Asked > s.Words
  · rw [decide_eq_true a1]
    refine ⟨false, ?_, rfl⟩
    cases decide ((if s.Kept > s.Words then s.Kept else s.Words) > 35184372088832) <;> cases decide (s.Used > 1099511627776) <;> rfl
  by_cases a2 : s.Blocks > s.Words
  · rw [decide_eq_true a2, decide_eq_false a1]
    refine ⟨false, ?_, rfl⟩
    cases decide ((if s.Kept > s.Words then s.Kept else s.Words) > 35184372088832) <;> cases decide (s.Used > 1099511627776) <;> rfl
  by_cases a3 : s.Used > s.Mapped
  · rw [decide_eq_true a3, decide_eq_false a1, decide_eq_false a2]
    refine ⟨false, ?_, rfl⟩
    cases decide ((if s.Kept > s.Words then s.Kept else s.Words) > 35184372088832) <;> cases decide (s.Used > 1099511627776) <;> rfl
  rw [decide_eq_false a1, decide_eq_false a2, decide_eq_false a3]
  simp only [cond_false]
  by_cases a4 : s.Used > 1099511627776
  · rw [decide_eq_true a4]
    refine ⟨false, ?_, rfl⟩
    cases decide ((if s.Kept > s.Words then s.Kept else s.Words) > 35184372088832) <;> rfl
  rw [decide_eq_false a4]
  simp only [cond_false]
  by_cases a5 : (if s.Kept > s.Words then s.Kept else s.Words) > 35184372088832
  · rw [decide_eq_true a5]
    refine ⟨false, rfl, ?_⟩
    by_cases a6 : s.Words > 35184372088832
    · rw [decide_eq_true a6]; rfl
    · rw [decide_eq_false a6]
      have : s.Kept > 35184372088832 := by split at a5 <;> omega
      rw [decide_eq_true this]; rfl
  rw [decide_eq_false a5]
  have b1 : ¬ s.Words > 35184372088832 := by split at a5 <;> omega
  have b2 : ¬ s.Kept > 35184372088832 := by split at a5 <;> omega
  rw [decide_eq_false b1, decide_eq_false b2]
  simp only [cond_false]
  rw [wrap_id (x := s.Words + s.Kept) (by omega) (by omega), wrap_id (x := s.Used * 32) (by omega) (by omega), wrap_id (x := s.Used * 32 - s.Open) (by omega) (by omega),
    wrap_id (x := 32 * s.Used) (by omega) (by omega), wrap_id (x := 32 * s.Used - s.Words) (by omega) (by omega), wrap_id (x := 32 * s.Used - s.Words - s.Kept) (by omega) (by omega)]
  refine ⟨_, rfl, ?_⟩
  congr 1
  rw [Bool.eq_iff_iff, beq_iff_eq, beq_iff_eq]
  constructor <;> intro h <;> omega
end Go.Rx
end

noncomputable section
namespace Go.Rx
open Go.Proofs
set_option maxRecDepth 100000
set_option maxHeartbeats 4000000
def y5o (m_ : Int → (List (List Int)) → Option (Int × Bool)) (args : List V) (H : Heap) (K : V → Heap → Prop) : Prop :=
  aC args fun a0 r => aC r fun a1 r => aN r <| aPtr 0 a0 <| aInt a1 fun k => aC H fun b0 r => aC r fun b1 r => aN r <| bRCells b0 fun c0 => aC c0 fun d0_0 r => aRow 1 d0_0 <| aN r <| bRow 70 true b1 fun (ye : List (List Int)) => So (m_ k ye) fun x => K (.tup [vi x.1, vb x.2]) [.rcells [.row 1], .row 70 ye true]
def y4p (m_ : Int → (List (List Int)) → Option (Int × Bool)) : Spec := ⟨y5o m_, (⟨true, fun i => false, fun i => Nat.beq i 0⟩ : RO)⟩
def y6w (m_ : Int → yh → (List (List Int)) → Option (Bool × (List (List Int)))) (args : List V) (H : Heap) (K : V → Heap → Prop) : Prop :=
  aC args fun a0 r => aC r fun a1 r => aC r fun a2 r => aN r <| aPtr 0 a0 <| aInt a1 fun k => aAgg a2 fun c2 => y36 c2 fun v => aC H fun b0 r => aC r fun b1 r => aN r <| bCells b0 fun U c0 => aC c0 fun d0_0 r => aRow 1 d0_0 <| aN r <| bRow 70 false b1 fun (ye : List (List Int)) => So (m_ k v ye) fun x => K (vb x.1) [.cells U [.row 2], .dead, .row 70 x.2 false]
def y63 (m_ : Int → yh → (List (List Int)) → Option (Bool × (List (List Int)))) : Spec := ⟨y6w m_, (⟨true, fun i => Nat.beq i 1, fun _ => false⟩ : RO)⟩
def y7b (m_ : Int → (List (List Int)) → Option (yh × Bool)) (args : List V) (H : Heap) (K : V → Heap → Prop) : Prop :=
  aC args fun a0 r => aC r fun a1 r => aN r <| aPtr 0 a0 <| aInt a1 fun k => aC H fun b0 r => aC r fun b1 r => aN r <| bRCells b0 fun c0 => aC c0 fun d0_0 r => aRow 1 d0_0 <| aN r <| bRow 70 true b1 fun (ye : List (List Int)) => So (m_ k ye) fun x => K (.tup [.agg (y1h x.1), vb x.2]) [.rcells [.row 1], .row 70 ye true]
def y4i (m_ : Int → (List (List Int)) → Option (yh × Bool)) : Spec := ⟨y7b m_, (⟨true, fun i => false, fun i => Nat.beq i 0⟩ : RO)⟩
def y5x (m_ : Int → (List (List Int)) → Option (Bool × (List (List Int)))) (args : List V) (H : Heap) (K : V → Heap → Prop) : Prop :=
  aC args fun a0 r => aC r fun a1 r => aN r <| aPtr 0 a0 <| aInt a1 fun k => aC H fun b0 r => aC r fun b1 r => aN r <| bCells b0 fun U c0 => aC c0 fun d0_0 r => aRow 1 d0_0 <| aN r <| bRow 70 false b1 fun (ye : List (List Int)) => So (m_ k ye) fun x => K (vb x.1) [.cells U [.row 2], .dead, .row 70 x.2 false]
def y7i (m_ : Int → (List (List Int)) → Option (Bool × (List (List Int)))) : Spec := ⟨y5x m_, (⟨true, fun i => Nat.beq i 1, fun _ => false⟩ : RO)⟩
def y71 (m_ : (List (List Int)) → Option Int) (args : List V) (H : Heap) (K : V → Heap → Prop) : Prop :=
  aC args fun a0 r => aN r <| aPtr 0 a0 <| aC H fun b0 r => aC r fun b1 r => aN r <| bRCells b0 fun c0 => aC c0 fun d0_0 r => aRow 1 d0_0 <| aN r <| bRow 70 true b1 fun (ye : List (List Int)) => So (m_ ye) fun x => K (vi x) [.rcells [.row 1], .row 70 ye true]
def y3j (m_ : (List (List Int)) → Option Int) : Spec := ⟨y71 m_, (⟨true, fun i => false, fun i => Nat.beq i 0⟩ : RO)⟩
def y72 (m_ : Int → (List (List Int)) → Option (Int × yh × Bool)) (args : List V) (H : Heap) (K : V → Heap → Prop) : Prop :=
  aC args fun a0 r => aC r fun a1 r => aN r <| aPtr 0 a0 <| aInt a1 fun iv => aC H fun b0 r => aC r fun b1 r => aN r <| bRCells b0 fun c0 => aC c0 fun d0_0 r => aRow 1 d0_0 <| aN r <| bRow 70 true b1 fun (ye : List (List Int)) => So (m_ iv ye) fun x => K (.tup [vi x.1, .agg (y1h x.2.1), vb x.2.2]) [.rcells [.row 1], .row 70 ye true]
def y5q (m_ : Int → (List (List Int)) → Option (Int × yh × Bool)) : Spec := ⟨y72 m_, (⟨true, fun i => false, fun i => Nat.beq i 0⟩ : RO)⟩
def y2m  : Cfg := { cfgB with
  sigs := sigN,
  keep := fun r => match r with | 2 => some [(0, none), (1, none), (6, none), (7, none)] | _ => none,
  plan := fun r => match r with | 1 => some (List.range 7, 0) | 7 => some (List.range 22, 0) | _ => none }
def wk_sorted_Map_model_block_Put : List WK := [⟨false, 0, [], 0, 70, false⟩]
def y8y (y15 : Int → (List (List Int)) → Option (Int × Bool)) : Cfg := { cfgB with
  sigs := (sigC 99 (y4p y15) sigN),
  plan := fun r => match r with | 5 => some (List.range 9, 19791209299984) | 8 => some (List.range 14, 30786325577744) | 9 => some (List.range 10, 21990232555536) | _ => none }
def y9p (y15 : Int → (List (List Int)) → Option (Int × Bool)) : Cfg := { cfgB with
  sigs := (sigC 99 (y4p y15) sigN) }
def wk_sorted_Map_model_block_Cut : List WK := [⟨false, 0, [], 0, 70, false⟩]
def ybk (y15 : Int → (List (List Int)) → Option (Int × Bool)) : Cfg := { cfgB with
  sigs := (sigC 99 (y4p y15) sigN),
  plan := fun r => match r with | 6 => some (List.range 18, 39582418599937) | _ => none }
def y9v  : Cfg := { cfgB with
  sigs := sigN }
def y8x (yu : (List (List Int)) → Option Int) : Cfg := { cfgB with
  sigs := (sigC 55 (y3j yu) sigN),
  plan := fun r => match r with | 3 => some (List.range 4, 80) | 4 => some (List.range 19, 80) | _ => none,
  flag := fun d => Nat.beq d 5 }
theorem yed (k : Int) (ye : List (List Int)) (low high : Int) (K : V → Heap → Prop) (J1 : Env → Heap → Prop) : (ex y2m (⟨56, 2⟩ : Cx) (at_ (bodyOf Try.f99) [1, 1, 0, 0, 0]) (mkEnv [(0, .ptr 0 0), (1, vi k), (6, vi low), (7, vi high)]) [.rcells [.row 1], .row 70 ye true] (roundK y2m (⟨56, 2⟩ : Cx) (at_ (bodyOf Try.f99) [1, 1, 0, 0, 0]) (contK y2m (⟨56, 2⟩ : Cx) (bodyOf Try.f99) [1, 1, 0, 0] (retK y2m Try.f99 2 K)) J1)) = (
    br (decide (low < high)) (Req (inR (IntKind.i64.wrap (low + IntKind.i64.wrap (Int.tdiv (IntKind.i64.wrap (high - low)) 2))) ye.length) (Req (inR (offs (IntKind.i64.wrap (low + IntKind.i64.wrap (Int.tdiv (IntKind.i64.wrap (high - low)) 2))) 0) ye.length) (br (decide (List.getD (ye.getD (Int.toNat (offs (IntKind.i64.wrap (low + IntKind.i64.wrap (Int.tdiv (IntKind.i64.wrap (high - low)) (2 : Int)))) (0 : Nat))) (List.replicate (3 : Nat) (0 : Int))) (0 : Nat) (0 : Int) < k)) (J1 (mkEnv [(0, .ptr 0 0), (1, vi k), (6, vi (IntKind.i64.wrap (IntKind.i64.wrap (low + IntKind.i64.wrap (Int.tdiv (IntKind.i64.wrap (high - low)) 2)) + 1))), (7, vi high)]) [.rcells [.row 1], .row 70 ye true]) (J1 (mkEnv [(0, .ptr 0 0), (1, vi k), (6, vi low), (7, vi (IntKind.i64.wrap (low + IntKind.i64.wrap (Int.tdiv (IntKind.i64.wrap (high - low)) 2))))]) [.rcells [.row 1], .row 70 ye true])))) (br (decide (low < (↑ye.length : Int))) (Req (inR low ye.length) (Req (inR (offs low 0) ye.length) (K (.tup [vi low, vb (List.getD (ye.getD (Int.toNat (offs low (0 : Nat))) (List.replicate (3 : Nat) (0 : Int))) (0 : Nat) (0 : Int) == k)]) [.rcells [.row 1], .row 70 ye true]))) (K (.tup [vi low, vb false]) [.rcells [.row 1], .row 70 ye true]))) := by kernel_rfl
theorem yec (k : Int) (ye : List (List Int)) (K : V → Heap → Prop) : (exF y2m Try.f99 [.ptr 0 0, vi k] [.rcells [.row 1], .row 70 ye true] K) = (
    Loop y2m (⟨56, 2⟩ : Cx) (at_ (bodyOf Try.f99) [1, 1, 0, 0, 0]) (mkEnv [(0, .ptr 0 0), (1, vi k), (6, vi 0), (7, vi (↑ye.length : Int))]) [.rcells [.row 1], .row 70 ye true] (contK y2m (⟨56, 2⟩ : Cx) (bodyOf Try.f99) [1, 1, 0, 0] (retK y2m Try.f99 2 K))) := by kernel_rfl
theorem yg3 (y15 : Int → (List (List Int)) → Option (Int × Bool)) (k : Int) (v : yh) (ye : List (List Int)) (U : TypeId) (K : V → Heap → Prop) : (exFW (y8y y15) [] wk_sorted_Map_model_block_Put Try.f74 [.ptr 0 0, vi k, .agg (y1h v)] [.cells U [.row 1], .row 70 ye false] K) = (
    So (y15 k ye) (fun (y0 : Int × Bool) => (br y0.2 (Req (inR y0.1 ye.length) (Req (inR (offs y0.1 0) ye.length) (K (vb false) [.cells U [.row 2], .dead, .row 70 (List.set ye (Int.toNat (offs y0.1 (0 : Nat))) [List.getD (ye.getD (Int.toNat (offs y0.1 (0 : Nat))) (List.replicate (3 : Nat) (0 : Int))) (0 : Nat) (0 : Int), v.asked, v.words] : List (List Int)) false]))) (Req (decide (ye.length + 1 ≤ 1048576)) (Req (decide (0 ≤ IntKind.i64.wrap (y0.1 + 1) ∧ IntKind.i64.wrap (y0.1 + 1) ≤ (↑(List.length (ye ++ [[0, 0, 0]])) : Int))) (Req (decide (0 ≤ y0.1 ∧ y0.1 ≤ (↑(List.length (ye ++ [[0, 0, 0]])) : Int))) (Req (decide (Int.toNat y0.1 + (List.length (ye ++ [[0, 0, 0]]) - Int.toNat y0.1) ≤ List.length (ye ++ [[0, 0, 0]]))) (Req (decide (Int.toNat (IntKind.i64.wrap (y0.1 + 1)) + (List.length (ye ++ [[0, 0, 0]]) - Int.toNat (IntKind.i64.wrap (y0.1 + 1))) ≤ List.length (ye ++ [[0, 0, 0]]))) (Req (inR y0.1 (List.length (List.take (Int.toNat (IntKind.i64.wrap (y0.1 + 1))) (ye ++ [[0, 0, 0]]) ++ (List.take (Min.min (List.length (ye ++ [[0, 0, 0]]) - Int.toNat (IntKind.i64.wrap (y0.1 + 1))) (List.length (List.take (List.length (ye ++ [[0, 0, 0]]) - Int.toNat y0.1) (List.drop (Int.toNat y0.1) (ye ++ [[0, 0, 0]]))))) (List.take (List.length (ye ++ [[0, 0, 0]]) - Int.toNat y0.1) (List.drop (Int.toNat y0.1) (ye ++ [[0, 0, 0]]))) ++ List.drop (Int.toNat (IntKind.i64.wrap (y0.1 + 1)) + Min.min (List.length (ye ++ [[0, 0, 0]]) - Int.toNat (IntKind.i64.wrap (y0.1 + 1))) (List.length (List.take (List.length (ye ++ [[0, 0, 0]]) - Int.toNat y0.1) (List.drop (Int.toNat y0.1) (ye ++ [[0, 0, 0]]))))) (ye ++ [[0, 0, 0]]))))) (Req (inR (offs y0.1 0) (List.length (List.take (Int.toNat (IntKind.i64.wrap (y0.1 + 1))) (ye ++ [[0, 0, 0]]) ++ (List.take (Min.min (List.length (ye ++ [[0, 0, 0]]) - Int.toNat (IntKind.i64.wrap (y0.1 + 1))) (List.length (List.take (List.length (ye ++ [[0, 0, 0]]) - Int.toNat y0.1) (List.drop (Int.toNat y0.1) (ye ++ [[0, 0, 0]]))))) (List.take (List.length (ye ++ [[0, 0, 0]]) - Int.toNat y0.1) (List.drop (Int.toNat y0.1) (ye ++ [[0, 0, 0]]))) ++ List.drop (Int.toNat (IntKind.i64.wrap (y0.1 + 1)) + Min.min (List.length (ye ++ [[0, 0, 0]]) - Int.toNat (IntKind.i64.wrap (y0.1 + 1))) (List.length (List.take (List.length (ye ++ [[0, 0, 0]]) - Int.toNat y0.1) (List.drop (Int.toNat y0.1) (ye ++ [[0, 0, 0]]))))) (ye ++ [[0, 0, 0]]))))) (K (vb true) [.cells U [.row 2], .dead, .row 70 (List.set (List.take (Int.toNat (IntKind.i64.wrap (y0.1 + 1))) (ye ++ [[0, 0, 0]]) ++ (List.take (Min.min (List.length (ye ++ [[0, 0, 0]]) - Int.toNat (IntKind.i64.wrap (y0.1 + 1))) (List.length (List.take (List.length (ye ++ [[0, 0, 0]]) - Int.toNat y0.1) (List.drop (Int.toNat y0.1) (ye ++ [[0, 0, 0]]))))) (List.take (List.length (ye ++ [[0, 0, 0]]) - Int.toNat y0.1) (List.drop (Int.toNat y0.1) (ye ++ [[0, 0, 0]]))) ++ List.drop (Int.toNat (IntKind.i64.wrap (y0.1 + 1)) + Min.min (List.length (ye ++ [[0, 0, 0]]) - Int.toNat (IntKind.i64.wrap (y0.1 + 1))) (List.length (List.take (List.length (ye ++ [[0, 0, 0]]) - Int.toNat y0.1) (List.drop (Int.toNat y0.1) (ye ++ [[0, 0, 0]]))))) (ye ++ [[0, 0, 0]]))) (offs y0.1 0).toNat [k, v.asked, v.words] : List (List Int)) false]))))))))))) := by kernel_rfl
theorem yge (y15 : Int → (List (List Int)) → Option (Int × Bool)) (k : Int) (ye : List (List Int)) (K : V → Heap → Prop) : (exF (y9p y15) Try.f75 [.ptr 0 0, vi k] [.rcells [.row 1], .row 70 ye true] K) = (
    So (y15 k ye) (fun (y0 : Int × Bool) => (br (!y0.2) (K (.tup [.agg [vi 0, vi 0], vb false]) [.rcells [.row 1], .row 70 ye true]) (Req (inR y0.1 ye.length) (Req (inR (offs y0.1 0) ye.length) (K (.tup [.agg [vi (List.getD (ye.getD (Int.toNat (offs y0.1 (0 : Nat))) (List.replicate (3 : Nat) (0 : Int))) (1 : Nat) (0 : Int)), vi (List.getD (ye.getD (Int.toNat (offs y0.1 (0 : Nat))) (List.replicate (3 : Nat) (0 : Int))) (2 : Nat) (0 : Int))], vb true]) [.rcells [.row 1], .row 70 ye true])))))) := by kernel_rfl
theorem ydv (y15 : Int → (List (List Int)) → Option (Int × Bool)) (k : Int) (ye : List (List Int)) (U : TypeId) (K : V → Heap → Prop) : (exFW (ybk y15) [] wk_sorted_Map_model_block_Cut Try.f78 [.ptr 0 0, vi k] [.cells U [.row 1], .row 70 ye false] K) = (
    So (y15 k ye) (fun (y0 : Int × Bool) => (br (!y0.2) (K (vb false) [.cells U [.row 2], .dead, .row 70 ye false]) (Req (decide (0 ≤ y0.1 ∧ y0.1 ≤ (↑ye.length : Int))) (Req (decide (0 ≤ IntKind.i64.wrap (y0.1 + 1) ∧ IntKind.i64.wrap (y0.1 + 1) ≤ (↑ye.length : Int))) (Req (decide (Int.toNat y0.1 ≤ ye.length)) (Req (decide (Int.toNat (IntKind.i64.wrap (y0.1 + 1)) + (ye.length - Int.toNat (IntKind.i64.wrap (y0.1 + 1))) ≤ ye.length)) (Req (decide (List.length (List.take (Int.toNat y0.1) ye) + List.length (List.take (ye.length - Int.toNat (IntKind.i64.wrap (y0.1 + 1))) (List.drop (Int.toNat (IntKind.i64.wrap (y0.1 + 1))) ye)) ≤ 1048576)) (K (vb true) [.cells U [.row 2], .dead, .row 70 (List.take (Int.toNat y0.1) ye ++ List.take (ye.length - Int.toNat (IntKind.i64.wrap (y0.1 + 1))) (List.drop (Int.toNat (IntKind.i64.wrap (y0.1 + 1))) ye) : List (List Int)) false]))))))))) := by kernel_rfl
theorem yf1 (ye : List (List Int)) (K : V → Heap → Prop) : (exF y9v Try.f55 [.ptr 0 0] [.rcells [.row 1], .row 70 ye true] K) = (
    K (vi (↑ye.length : Int)) [.rcells [.row 1], .row 70 ye true]) := by kernel_rfl
theorem yf9 (yu : (List (List Int)) → Option Int) (iv : Int) (ye : List (List Int)) (K : V → Heap → Prop) : (exF (y8x yu) Try.f56 [.ptr 0 0, vi iv] [.rcells [.row 1], .row 70 ye true] K) = (
    br (decide (iv < 0)) (K (.tup [vi 0, .agg [vi 0, vi 0], vb false]) [.rcells [.row 1], .row 70 ye true]) (So (yu ye) (fun (y0 : Int) => (br (decide (iv ≥ y0)) (K (.tup [vi 0, .agg [vi 0, vi 0], vb false]) [.rcells [.row 1], .row 70 ye true]) (Req (inR iv ye.length) (Req (inR (offs iv 0) ye.length) (Req (inR iv ye.length) (Req (inR (offs iv 0) ye.length) (K (.tup [vi (List.getD (ye.getD (Int.toNat (offs iv (0 : Nat))) (List.replicate (3 : Nat) (0 : Int))) (0 : Nat) (0 : Int)), .agg [vi (List.getD (ye.getD (Int.toNat (offs iv (0 : Nat))) (List.replicate (3 : Nat) (0 : Int))) (1 : Nat) (0 : Int)), vi (List.getD (ye.getD (Int.toNat (offs iv (0 : Nat))) (List.replicate (3 : Nat) (0 : Int))) (2 : Nat) (0 : Int))], vb true]) [.rcells [.row 1], .row 70 ye true]))))))))) := by kernel_rfl
def y3n (k : Int) (ye : List (List Int)) (low high : Int) : Option ((Int × Int) ⊕ (Int × Bool)) :=
  (bif (decide (low < high)) then (bif (inR (IntKind.i64.wrap (low + IntKind.i64.wrap (Int.tdiv (IntKind.i64.wrap (high - low)) 2))) ye.length) then (bif (inR (offs (IntKind.i64.wrap (low + IntKind.i64.wrap (Int.tdiv (IntKind.i64.wrap (high - low)) 2))) 0) ye.length) then (bif (decide (List.getD (ye.getD (Int.toNat (offs (IntKind.i64.wrap (low + IntKind.i64.wrap (Int.tdiv (IntKind.i64.wrap (high - low)) (2 : Int)))) (0 : Nat))) (List.replicate (3 : Nat) (0 : Int))) (0 : Nat) (0 : Int) < k)) then some (.inl ((IntKind.i64.wrap (IntKind.i64.wrap (low + IntKind.i64.wrap (Int.tdiv (IntKind.i64.wrap (high - low)) 2)) + 1)), high)) else some (.inl (low, (IntKind.i64.wrap (low + IntKind.i64.wrap (Int.tdiv (IntKind.i64.wrap (high - low)) 2)))))) else none) else none) else (bif (decide (low < (↑ye.length : Int))) then (bif (inR low ye.length) then (bif (inR (offs low 0) ye.length) then some (.inr (low, (List.getD (ye.getD (Int.toNat (offs low (0 : Nat))) (List.replicate (3 : Nat) (0 : Int))) (0 : Nat) (0 : Int) == k))) else none) else none) else some (.inr (low, false))))
def y76 (k : Int) (ye : List (List Int)) (s : Int × Int) : Option (Int × Bool) :=
  loopO (fun s => y3n k ye s.1 s.2) s
def y15 (k : Int) (ye : List (List Int)) : Option (Int × Bool) :=
  (y76 k ye (0, (↑ye.length : Int)))
def y07 (k : Int) (v : yh) (ye : List (List Int)) : Option (Bool × (List (List Int))) :=
  ((y15 k ye).bind fun y0 => (bif y0.2 then (bif (inR y0.1 ye.length) then (bif (inR (offs y0.1 0) ye.length) then some (false, (List.set ye (Int.toNat (offs y0.1 (0 : Nat))) [List.getD (ye.getD (Int.toNat (offs y0.1 (0 : Nat))) (List.replicate (3 : Nat) (0 : Int))) (0 : Nat) (0 : Int), v.asked, v.words])) else none) else none) else (bif (decide (ye.length + 1 ≤ 1048576)) then (bif (decide (0 ≤ IntKind.i64.wrap (y0.1 + 1) ∧ IntKind.i64.wrap (y0.1 + 1) ≤ (↑(List.length (ye ++ [[0, 0, 0]])) : Int))) then (bif (decide (0 ≤ y0.1 ∧ y0.1 ≤ (↑(List.length (ye ++ [[0, 0, 0]])) : Int))) then (bif (decide (Int.toNat y0.1 + (List.length (ye ++ [[0, 0, 0]]) - Int.toNat y0.1) ≤ List.length (ye ++ [[0, 0, 0]]))) then (bif (decide (Int.toNat (IntKind.i64.wrap (y0.1 + 1)) + (List.length (ye ++ [[0, 0, 0]]) - Int.toNat (IntKind.i64.wrap (y0.1 + 1))) ≤ List.length (ye ++ [[0, 0, 0]]))) then (bif (inR y0.1 (List.length (List.take (Int.toNat (IntKind.i64.wrap (y0.1 + 1))) (ye ++ [[0, 0, 0]]) ++ (List.take (Min.min (List.length (ye ++ [[0, 0, 0]]) - Int.toNat (IntKind.i64.wrap (y0.1 + 1))) (List.length (List.take (List.length (ye ++ [[0, 0, 0]]) - Int.toNat y0.1) (List.drop (Int.toNat y0.1) (ye ++ [[0, 0, 0]]))))) (List.take (List.length (ye ++ [[0, 0, 0]]) - Int.toNat y0.1) (List.drop (Int.toNat y0.1) (ye ++ [[0, 0, 0]]))) ++ List.drop (Int.toNat (IntKind.i64.wrap (y0.1 + 1)) + Min.min (List.length (ye ++ [[0, 0, 0]]) - Int.toNat (IntKind.i64.wrap (y0.1 + 1))) (List.length (List.take (List.length (ye ++ [[0, 0, 0]]) - Int.toNat y0.1) (List.drop (Int.toNat y0.1) (ye ++ [[0, 0, 0]]))))) (ye ++ [[0, 0, 0]]))))) then (bif (inR (offs y0.1 0) (List.length (List.take (Int.toNat (IntKind.i64.wrap (y0.1 + 1))) (ye ++ [[0, 0, 0]]) ++ (List.take (Min.min (List.length (ye ++ [[0, 0, 0]]) - Int.toNat (IntKind.i64.wrap (y0.1 + 1))) (List.length (List.take (List.length (ye ++ [[0, 0, 0]]) - Int.toNat y0.1) (List.drop (Int.toNat y0.1) (ye ++ [[0, 0, 0]]))))) (List.take (List.length (ye ++ [[0, 0, 0]]) - Int.toNat y0.1) (List.drop (Int.toNat y0.1) (ye ++ [[0, 0, 0]]))) ++ List.drop (Int.toNat (IntKind.i64.wrap (y0.1 + 1)) + Min.min (List.length (ye ++ [[0, 0, 0]]) - Int.toNat (IntKind.i64.wrap (y0.1 + 1))) (List.length (List.take (List.length (ye ++ [[0, 0, 0]]) - Int.toNat y0.1) (List.drop (Int.toNat y0.1) (ye ++ [[0, 0, 0]]))))) (ye ++ [[0, 0, 0]]))))) then some (true, (List.set (List.take (Int.toNat (IntKind.i64.wrap (y0.1 + 1))) (ye ++ [[0, 0, 0]]) ++ (List.take (Min.min (List.length (ye ++ [[0, 0, 0]]) - Int.toNat (IntKind.i64.wrap (y0.1 + 1))) (List.length (List.take (List.length (ye ++ [[0, 0, 0]]) - Int.toNat y0.1) (List.drop (Int.toNat y0.1) (ye ++ [[0, 0, 0]]))))) (List.take (List.length (ye ++ [[0, 0, 0]]) - Int.toNat y0.1) (List.drop (Int.toNat y0.1) (ye ++ [[0, 0, 0]]))) ++ List.drop (Int.toNat (IntKind.i64.wrap (y0.1 + 1)) + Min.min (List.length (ye ++ [[0, 0, 0]]) - Int.toNat (IntKind.i64.wrap (y0.1 + 1))) (List.length (List.take (List.length (ye ++ [[0, 0, 0]]) - Int.toNat y0.1) (List.drop (Int.toNat y0.1) (ye ++ [[0, 0, 0]]))))) (ye ++ [[0, 0, 0]]))) (offs y0.1 0).toNat [k, v.asked, v.words])) else none) else none) else none) else none) else none) else none) else none)))
def y0h (k : Int) (ye : List (List Int)) : Option (yh × Bool) :=
  ((y15 k ye).bind fun y0 => (bif (!y0.2) then some ((yh.mk 0 0), false) else (bif (inR y0.1 ye.length) then (bif (inR (offs y0.1 0) ye.length) then some ((yh.mk (List.getD (ye.getD (Int.toNat (offs y0.1 (0 : Nat))) (List.replicate (3 : Nat) (0 : Int))) (1 : Nat) (0 : Int)) (List.getD (ye.getD (Int.toNat (offs y0.1 (0 : Nat))) (List.replicate (3 : Nat) (0 : Int))) (2 : Nat) (0 : Int))), true) else none) else none)))
def y0m (k : Int) (ye : List (List Int)) : Option (Bool × (List (List Int))) :=
  ((y15 k ye).bind fun y0 => (bif (!y0.2) then some (false, ye) else (bif (decide (0 ≤ y0.1 ∧ y0.1 ≤ (↑ye.length : Int))) then (bif (decide (0 ≤ IntKind.i64.wrap (y0.1 + 1) ∧ IntKind.i64.wrap (y0.1 + 1) ≤ (↑ye.length : Int))) then (bif (decide (Int.toNat y0.1 ≤ ye.length)) then (bif (decide (Int.toNat (IntKind.i64.wrap (y0.1 + 1)) + (ye.length - Int.toNat (IntKind.i64.wrap (y0.1 + 1))) ≤ ye.length)) then (bif (decide (List.length (List.take (Int.toNat y0.1) ye) + List.length (List.take (ye.length - Int.toNat (IntKind.i64.wrap (y0.1 + 1))) (List.drop (Int.toNat (IntKind.i64.wrap (y0.1 + 1))) ye)) ≤ 1048576)) then some (true, (List.take (Int.toNat y0.1) ye ++ List.take (ye.length - Int.toNat (IntKind.i64.wrap (y0.1 + 1))) (List.drop (Int.toNat (IntKind.i64.wrap (y0.1 + 1))) ye))) else none) else none) else none) else none) else none)))
def yu (ye : List (List Int)) : Option Int :=
  some (↑ye.length : Int)
def y0y (iv : Int) (ye : List (List Int)) : Option (Int × yh × Bool) :=
  (bif (decide (iv < 0)) then some (0, (yh.mk 0 0), false) else ((yu ye).bind fun y0 => (bif (decide (iv ≥ y0)) then some (0, (yh.mk 0 0), false) else (bif (inR iv ye.length) then (bif (inR (offs iv 0) ye.length) then (bif (inR iv ye.length) then (bif (inR (offs iv 0) ye.length) then some ((List.getD (ye.getD (Int.toNat (offs iv (0 : Nat))) (List.replicate (3 : Nat) (0 : Int))) (0 : Nat) (0 : Int)), (yh.mk (List.getD (ye.getD (Int.toNat (offs iv (0 : Nat))) (List.replicate (3 : Nat) (0 : Int))) (1 : Nat) (0 : Int)) (List.getD (ye.getD (Int.toNat (offs iv (0 : Nat))) (List.replicate (3 : Nat) (0 : Int))) (2 : Nat) (0 : Int))), true) else none) else none) else none) else none))))
attribute [local irreducible] Loop ex exF contK roundK retK at_ bodyOf mkEnv exFW retW
theorem lpok_sorted_Map_model_block_place_L1 (k : Int) (ye : List (List Int)) (low high : Int) (K : V → Heap → Prop) : So (y76 k ye (low, high)) (fun (x : Int × Bool) => K (.tup [vi x.1, vb x.2]) [.rcells [.row 1], .row 70 ye true]) → Loop y2m (⟨56, 2⟩ : Cx) (at_ (bodyOf Try.f99) [1, 1, 0, 0, 0]) (mkEnv [(0, .ptr 0 0), (1, vi k), (6, vi low), (7, vi high)]) [.rcells [.row 1], .row 70 ye true] (contK y2m (⟨56, 2⟩ : Cx) (bodyOf Try.f99) [1, 1, 0, 0] (retK y2m Try.f99 2 K)) := by
  refine loopK_So (fun (s_ : Int × Int) => (mkEnv [(0, .ptr 0 0), (1, vi k), (6, vi s_.1), (7, vi s_.2)])) (fun (s_ : Int × Int) => [.rcells [.row 1], .row 70 ye true]) (fun (x : Int × Bool) => K (.tup [vi x.1, vb x.2]) [.rcells [.row 1], .row 70 ye true]) ?_ (low, high)
  intro s_ J1 h
  clear low
  clear high
  obtain ⟨low, high⟩ := s_
  refine Eq.mpr (yed k ye low high K J1) ?_
  have h : So (y3n k ye low high) _ := h
  unfold y3n at h
  revert h
  exact br_So (req_So (req_So (br_So (fun h => h) (fun h => h)))) (br_So (req_So (req_So (fun h => h))) (fun h => h))
theorem y6k : SpecOK Try.prog elTT 99 (y4p y15) := by
  refine spec_of_exF (cfg := y2m) (yo rfl rfl rfl) yp (fn := Try.f99) (by kernel_rfl) (by kernel_rfl) (by kernel_rfl) ?_
  intro args H K h
  change y5o y15 args H K at h
  unfold y5o at h
  repeat first | (obtain ⟨_, h⟩ := h) | replace h := Des.el h
  subst_vars
  refine Eq.mpr (yec _ _ K) ?_
  unfold y15 at h
  revert h
  exact lpok_sorted_Map_model_block_place_L1 _ _ _ _ K
theorem y8g : SpecOK Try.prog elTT 74 (y63 y07) := by
  refine spec_of_exFW (cfg := (y8y y15)) (yo rfl rfl rfl) (yi y6k yp) (pre := []) (wk := wk_sorted_Map_model_block_Put) (fn := Try.f74) (by kernel_rfl) (by kernel_rfl) (by kernel_rfl) ?_
  intro args H K h
  change y6w y07 args H K at h
  unfold y6w at h
  repeat first | (obtain ⟨_, h⟩ := h) | replace h := Des.el h
  subst_vars
  refine Eq.mpr (yg3 y15 _ _ _ _ K) ?_
  unfold y07 at h
  revert h
  exact bind_So fun y0 => br_So (req_So (req_So (fun h => h))) (req_So (req_So (req_So (req_So (req_So (req_So (req_So (fun h => h))))))))
theorem y4s : SpecOK Try.prog elTT 75 (y4i y0h) := by
  refine spec_of_exF (cfg := (y9p y15)) (yo rfl rfl rfl) (yi y6k yp) (fn := Try.f75) (by kernel_rfl) (by kernel_rfl) (by kernel_rfl) ?_
  intro args H K h
  change y7b y0h args H K at h
  unfold y7b at h
  repeat first | (obtain ⟨_, h⟩ := h) | replace h := Des.el h
  subst_vars
  refine Eq.mpr (yge y15 _ _ K) ?_
  unfold y0h at h
  revert h
  exact bind_So fun y0 => br_So (fun h => h) (req_So (req_So (fun h => h)))
theorem ybv : SpecOK Try.prog elTT 78 (y7i y0m) := by
  refine spec_of_exFW (cfg := (ybk y15)) (yo rfl rfl rfl) (yi y6k yp) (pre := []) (wk := wk_sorted_Map_model_block_Cut) (fn := Try.f78) (by kernel_rfl) (by kernel_rfl) (by kernel_rfl) ?_
  intro args H K h
  change y5x y0m args H K at h
  unfold y5x at h
  repeat first | (obtain ⟨_, h⟩ := h) | replace h := Des.el h
  subst_vars
  refine Eq.mpr (ydv y15 _ _ _ K) ?_
  unfold y0m at h
  revert h
  exact bind_So fun y0 => br_So (fun h => h) (req_So (req_So (req_So (req_So (req_So (fun h => h))))))
theorem y3r : SpecOK Try.prog elTT 55 (y3j yu) := by
  refine spec_of_exF (cfg := y9v) (yo rfl rfl rfl) yp (fn := Try.f55) (by kernel_rfl) (by kernel_rfl) (by kernel_rfl) ?_
  intro args H K h
  change y71 yu args H K at h
  unfold y71 at h
  repeat first | (obtain ⟨_, h⟩ := h) | replace h := Des.el h
  subst_vars
  refine Eq.mpr (yf1 _ K) ?_
  unfold yu at h
  revert h
  exact fun h => h
theorem y9t : SpecOK Try.prog elTT 56 (y5q y0y) := by
  refine spec_of_exF (cfg := (y8x yu)) (yo rfl rfl rfl) (yi y3r yp) (fn := Try.f56) (by kernel_rfl) (by kernel_rfl) (by kernel_rfl) ?_
  intro args H K h
  change y72 y0y args H K at h
  unfold y72 at h
  repeat first | (obtain ⟨_, h⟩ := h) | replace h := Des.el h
  subst_vars
  refine Eq.mpr (yf9 yu _ _ K) ?_
  unfold y0y at h
  revert h
  exact br_So (fun h => h) (bind_So fun y0 => br_So (fun h => h) (req_So (req_So (req_So (req_So (fun h => h))))))
end Go.Rx
end

section
namespace Go.Rx
open Go.Proofs
set_option maxRecDepth 100000
set_option maxHeartbeats 4000000
abbrev Y8 := Int → yh → (List Pr) → Option (Bool × (List Pr))
def y64 (m_ : Y8) (args : List V) (H : Heap) (K : V → Heap → Prop) : Prop :=
  aC args fun a0 r => aC r fun a1 r => aC r fun a2 r => aN r <| aInt a0 fun a => aAgg a1 fun c1 => y36 c1 fun b => aPtr 0 a2 <| aC H fun b0 r => aC r fun b1 r => aN r <| bCells b0 fun U c0 => aC c0 fun d0_0 r => aRow 1 d0_0 <| aN r <| bRow 2 false b1 fun (l2 : List Pr) => So (m_ a b l2) fun x => K (vb (x.1)) [.cells U [.row 2], .dead, .row 2 (x.2) false]
def y4a (m_ : Y8) : Spec := ⟨y64 m_, (⟨true, fun i => Nat.beq i 1, fun _ => false⟩ : RO)⟩
abbrev Y16 := Int → yh → yh → Option (Bool × yh)
def y6d (m_ : Y16) (args : List V) (H : Heap) (K : V → Heap → Prop) : Prop :=
  aC args fun a0 r => aC r fun a1 r => aC r fun a2 r => aN r <| aInt a0 fun v_ => aAgg a1 fun c1 => y36 c1 fun b => aPtr 0 a2 <| aC H fun b0 r => aN r <| bCells b0 fun U c0 => y36 c0 fun all => So (m_ v_ b all) fun x => K (vb (x.1)) [.cells U (y1h (x.2))]
def y62 (m_ : Y16) : Spec := ⟨y6d m_, (true : Bool)⟩
def wk_model_Model_Live_1 : List WK := [⟨false, 0, [], 0, 2, false⟩]
noncomputable def yah  : Cfg := { cfgB with
  sigs := sigN }
noncomputable def yc2  : Cfg := { cfgB with
  sigs := sigN }
theorem yfi (a : Int) (b : yh) (l2 : List Pr) (U : TypeId) (K : V → Heap → Prop) : (exFW yah [] wk_model_Model_Live_1 Try.f52 [vi a, .agg (y1h b), .ptr 0 0] [.cells U [.row 1], .row 2 l2 false] K) = (
    Req (Decidable.decide (List.length l2 + 1 ≤ 1048576)) (K (vb (Bool.true)) [.cells U [.row 2], .dead, .row 2 (l2 ++ [Pr.mk a (yh.asked b)] : List (Pr)) Bool.false])) := by
  kernel_rfl
theorem ydu (v_ : Int) (b : yh) (all : yh) (U : TypeId) (K : V → Heap → Prop) : (exF yc2 Try.f79 [vi v_, .agg (y1h b), .ptr 0 0] [.cells U (y1h all)] K) = (
    K (vb (Bool.true)) [.cells U [vi (IntKind.wrap IntKind.i64 (yh.asked all + yh.asked b)), vi (IntKind.wrap IntKind.i64 (yh.words all + yh.words b))]]) := by
  kernel_rfl
noncomputable def y0s (a : Int) (b : yh) (l2 : List Pr) : Option (Bool × (List Pr)) :=
  (bif (Decidable.decide (List.length l2 + 1 ≤ 1048576)) then some (((Bool.true), (l2 ++ [Pr.mk a (yh.asked b)]))) else none)
noncomputable def y14 (v_ : Int) (b : yh) (all : yh) : Option (Bool × yh) :=
  some (((Bool.true), ((yh.mk (IntKind.wrap IntKind.i64 (yh.asked all + yh.asked b)) (IntKind.wrap IntKind.i64 (yh.words all + yh.words b))))))
attribute [local irreducible] Loop ex exF contK roundK retK at_ bodyOf mkEnv exFW retW
theorem y8a : SpecOK Try.prog elTT 52 (y4a y0s) := by
  refine spec_of_exFW (cfg := yah) (yo rfl rfl rfl) yp (pre := []) (wk := wk_model_Model_Live_1) (fn := Try.f52) (by kernel_rfl) (by kernel_rfl) (by kernel_rfl) ?_
  intro args H K h
  change y64 y0s args H K at h
  unfold y64 at h
  repeat first | (obtain ⟨_, h⟩ := h) | replace h := Des.el h
  subst_vars
  refine Eq.mpr (yfi _ _ _ _ K) ?_
  unfold y0s at h
  revert h
  exact req_So (fun h => h)
theorem ya8 : SpecOK Try.prog elTT 79 (y62 y14) := by
  refine spec_of_exF (cfg := yc2) (yo rfl rfl rfl) yp (fn := Try.f79) (by kernel_rfl) (by kernel_rfl) (by kernel_rfl) ?_
  intro args H K h
  change y6d y14 args H K at h
  unfold y6d at h
  repeat first | (obtain ⟨_, h⟩ := h) | replace h := Des.el h
  subst_vars
  refine Eq.mpr (ydu _ _ _ _ K) ?_
  unfold y14 at h
  revert h
  exact fun h => h
end Go.Rx
end

section
namespace Go.Rx
open Go.Proofs
set_option maxRecDepth 100000
set_option maxHeartbeats 4000000
def y4r (m_ : (List (List Int)) → (List Pr) → Option ((List Pr))) (args : List V) (H : Heap) (K : V → Heap → Prop) : Prop :=
  aC args fun a0 r => aC r fun a1 r => aN r <| aPtr 0 a0 <| aFn 52 a1 fun fc1 => aC fc1 fun fp1_0 r => aPtr 1 fp1_0 <| aN r <| aC H fun b0 r => aC r fun b1 r => aC r fun b2 r => aC r fun b3 r => aN r <| bRCells b0 fun c0 => aC c0 fun d0_0 r => aRow 2 d0_0 <| aN r <| bCells b1 fun U c1 => aC c1 fun d1_0 r => aRow 3 d1_0 <| aN r <| bRow 70 true b2 fun (ye : List (List Int)) => bRow 2 false b3 fun (l2 : List Pr) => So (m_ ye l2) fun x => K (.tup []) [.rcells [.row 2], .cells U [.row 4], .row 70 ye true, .dead, .row 2 (x) false]
def y49 (m_ : (List (List Int)) → (List Pr) → Option ((List Pr))) : Spec := ⟨y4r m_, (⟨true, fun i => Nat.beq i 3, fun i => Nat.beq i 0⟩ : RO)⟩
def y68 (m_ : yh → (List (List Int)) → Option (yh)) (args : List V) (H : Heap) (K : V → Heap → Prop) : Prop :=
  aC args fun a0 r => aC r fun a1 r => aN r <| aPtr 0 a0 <| aFn 79 a1 fun fc1 => aC fc1 fun fp1_0 r => aPtr 1 fp1_0 <| aN r <| aC H fun b0 r => aC r fun b1 r => aC r fun b2 r => aN r <| bRCells b0 fun c0 => aC c0 fun d0_0 r => aRow 2 d0_0 <| aN r <| bCells b1 fun U c1 => y36 c1 fun all => bRow 70 true b2 fun (ye : List (List Int)) => So (m_ all ye) fun x => K (.tup []) [.rcells [.row 2], .cells U (y1h (x)), .row 70 ye true]
def y4e (m_ : yh → (List (List Int)) → Option (yh)) : Spec := ⟨y68 m_, (⟨true, fun i => false, fun i => Nat.beq i 0⟩ : RO)⟩
def wk_sorted_Each_model_block_1 : List WK := [⟨false, 1, [], 0, 2, false⟩]
def pre_sorted_Each_model_block_1 : List WK := [⟨false, 1, [], 0, 2, false⟩]
noncomputable def y2l (yu : (List (List Int)) → Option (Int)) (y0s : Y8) : Cfg := { cfgB with
  sigs := (sigC 55 (y3j yu) (sigC 52 (y4a y0s) sigN)),
  keep := fun r => match r with | 1 => some [(0, none), (1, none), (6, none), (7, none)] | _ => none,
  plan := fun r => match r with | 3 => some (List.range 19, 2) | _ => none }
noncomputable def y2t (yu : (List (List Int)) → Option (Int)) (y14 : Y16) : Cfg := { cfgB with
  sigs := (sigC 55 (y3j yu) (sigC 79 (y62 y14) sigN)),
  keep := fun r => match r with | 1 => some [(0, none), (1, none), (6, none), (7, none)] | _ => none,
  plan := fun r => match r with | 3 => some (List.range 19, 2) | _ => none }
theorem ycp (yu : (List (List Int)) → Option (Int)) (y0s : Y8) (ye : List (List Int)) (l2 : List Pr) (U : TypeId) (t6 : Int) (t7 : Int) (w : List Go.Rx.Pr) (K : V → Heap → Prop) (J1 : Env → Heap → Prop) : (ex (y2l yu y0s) (⟨30, 4⟩ : Cx) (at_ (bodyOf Try.f51) [1, 0, 0]) (mkEnv [(0, .ptr 0 0), (1, .fn 52 [.ptr 1 0]), (6, vi (t6)), (7, vi (t7))]) [.rcells [.row 2], .cells U [.row 4], .row 70 (ye : List (List Int)) Bool.true, .dead, .row 2 (w : List (Go.Rx.Pr)) Bool.false] (roundK (y2l yu y0s) (⟨30, 4⟩ : Cx) (at_ (bodyOf Try.f51) [1, 0, 0]) (contK (y2l yu y0s) (⟨30, 4⟩ : Cx) (bodyOf Try.f51) [1, 0] (retW (y2l yu y0s) wk_sorted_Each_model_block_1 Try.f51 4 K)) J1)) = (
    br (Decidable.decide (t7 < t6)) (Req (inR t7 (List.length ye)) (Req (inR (offs t7 0) (List.length ye)) (Req (inR t7 (List.length ye)) (Req (inR (offs t7 0) (List.length ye)) (So (y0s (List.getD (List.getD ye (Int.toNat (offs t7 (0 : Nat))) (List.replicate (3 : Nat) (0 : Int))) (0 : Nat) (0 : Int)) (yh.mk (List.getD (List.getD ye (Int.toNat (offs t7 (0 : Nat))) (List.replicate (3 : Nat) (0 : Int))) (1 : Nat) (0 : Int)) (List.getD (List.getD ye (Int.toNat (offs t7 (0 : Nat))) (List.replicate (3 : Nat) (0 : Int))) (2 : Nat) (0 : Int))) w) (fun (y0 : Bool × List Pr) => (br (!Prod.fst y0) (K (.tup []) [.rcells [.row 2], .cells U [.row 4], .row 70 (ye : List (List Int)) Bool.true, .dead, .row 2 (Prod.snd y0 : List (Pr)) Bool.false]) (J1 (mkEnv [(0, .ptr 0 0), (1, .fn 52 [.ptr 1 0]), (6, vi (t6)), (7, vi (IntKind.wrap IntKind.i64 (t7 + 1)))]) [.rcells [.row 2], .cells U [.row 4], .row 70 (ye : List (List Int)) Bool.true, .dead, .row 2 (Prod.snd y0 : List (Pr)) Bool.false])))))))) (K (.tup []) [.rcells [.row 2], .cells U [.row 4], .row 70 (ye : List (List Int)) Bool.true, .dead, .row 2 (w : List (Pr)) Bool.false])) := by
  kernel_rfl
theorem yca (yu : (List (List Int)) → Option (Int)) (y0s : Y8) (ye : List (List Int)) (l2 : List Pr) (U : TypeId) (K : V → Heap → Prop) : (exFW (y2l yu y0s) pre_sorted_Each_model_block_1 wk_sorted_Each_model_block_1 Try.f51 [.ptr 0 0, .fn 52 [.ptr 1 0]] [.rcells [.row 2], .cells U [.row 3], .row 70 ye true, .row 2 l2 false] K) = (
    So (yu ye) (fun (y0 : Int) => (Loop (y2l yu y0s) (⟨30, 4⟩ : Cx) (at_ (bodyOf Try.f51) [1, 0, 0]) (mkEnv [(0, .ptr 0 0), (1, .fn 52 [.ptr 1 0]), (6, vi (y0)), (7, vi (0))]) [.rcells [.row 2], .cells U [.row 4], .row 70 (ye : List (List Int)) Bool.true, .dead, .row 2 (l2 : List (Pr)) Bool.false] (contK (y2l yu y0s) (⟨30, 4⟩ : Cx) (bodyOf Try.f51) [1, 0] (retW (y2l yu y0s) wk_sorted_Each_model_block_1 Try.f51 4 K))))) := by
  kernel_rfl
theorem yel (yu : (List (List Int)) → Option (Int)) (y14 : Y16) (all : yh) (ye : List (List Int)) (U : TypeId) (t6 : Int) (t7 : Int) (all2 : yh) (K : V → Heap → Prop) (J1 : Env → Heap → Prop) : (ex (y2t yu y14) (⟨30, 3⟩ : Cx) (at_ (bodyOf Try.f51) [1, 0, 0]) (mkEnv [(0, .ptr 0 0), (1, .fn 79 [.ptr 1 0]), (6, vi (t6)), (7, vi (t7))]) [.rcells [.row 2], .cells U (y1h all2), .row 70 (ye : List (List Int)) Bool.true] (roundK (y2t yu y14) (⟨30, 3⟩ : Cx) (at_ (bodyOf Try.f51) [1, 0, 0]) (contK (y2t yu y14) (⟨30, 3⟩ : Cx) (bodyOf Try.f51) [1, 0] (retK (y2t yu y14) Try.f51 3 K)) J1)) = (
    br (Decidable.decide (t7 < t6)) (Req (inR t7 (List.length ye)) (Req (inR (offs t7 0) (List.length ye)) (Req (inR t7 (List.length ye)) (Req (inR (offs t7 0) (List.length ye)) (So (y14 (List.getD (List.getD ye (Int.toNat (offs t7 (0 : Nat))) (List.replicate (3 : Nat) (0 : Int))) (0 : Nat) (0 : Int)) (yh.mk (List.getD (List.getD ye (Int.toNat (offs t7 (0 : Nat))) (List.replicate (3 : Nat) (0 : Int))) (1 : Nat) (0 : Int)) (List.getD (List.getD ye (Int.toNat (offs t7 (0 : Nat))) (List.replicate (3 : Nat) (0 : Int))) (2 : Nat) (0 : Int))) all2) (fun (y0 : Bool × yh) => (br (!Prod.fst y0) (K (.tup []) [.rcells [.row 2], .cells U (y1h (Prod.snd y0)), .row 70 (ye : List (List Int)) Bool.true]) (J1 (mkEnv [(0, .ptr 0 0), (1, .fn 79 [.ptr 1 0]), (6, vi (t6)), (7, vi (IntKind.wrap IntKind.i64 (t7 + 1)))]) [.rcells [.row 2], .cells U (y1h (Prod.snd y0)), .row 70 (ye : List (List Int)) Bool.true])))))))) (K (.tup []) [.rcells [.row 2], .cells U (y1h all2), .row 70 (ye : List (List Int)) Bool.true])) := by
  kernel_rfl
theorem ygh (yu : (List (List Int)) → Option (Int)) (y14 : Y16) (all : yh) (ye : List (List Int)) (U : TypeId) (K : V → Heap → Prop) : (exF (y2t yu y14) Try.f51 [.ptr 0 0, .fn 79 [.ptr 1 0]] [.rcells [.row 2], .cells U (y1h all), .row 70 ye true] K) = (
    So (yu ye) (fun (y0 : Int) => (Loop (y2t yu y14) (⟨30, 3⟩ : Cx) (at_ (bodyOf Try.f51) [1, 0, 0]) (mkEnv [(0, .ptr 0 0), (1, .fn 79 [.ptr 1 0]), (6, vi (y0)), (7, vi (0))]) [.rcells [.row 2], .cells U (y1h all), .row 70 (ye : List (List Int)) Bool.true] (contK (y2t yu y14) (⟨30, 3⟩ : Cx) (bodyOf Try.f51) [1, 0] (retK (y2t yu y14) Try.f51 3 K))))) := by
  kernel_rfl
noncomputable def y3a (ye : List (List Int)) (t6 : Int) (t7 : Int) (w : List Go.Rx.Pr) : Option ((Int × (List Go.Rx.Pr)) ⊕ ((List Pr))) :=
  (bif (Decidable.decide (t7 < t6)) then (bif (inR t7 (List.length ye)) then (bif (inR (offs t7 0) (List.length ye)) then (bif (inR t7 (List.length ye)) then (bif (inR (offs t7 0) (List.length ye)) then ((y0s (List.getD (List.getD ye (Int.toNat (offs t7 (0 : Nat))) (List.replicate (3 : Nat) (0 : Int))) (0 : Nat) (0 : Int)) (yh.mk (List.getD (List.getD ye (Int.toNat (offs t7 (0 : Nat))) (List.replicate (3 : Nat) (0 : Int))) (1 : Nat) (0 : Int)) (List.getD (List.getD ye (Int.toNat (offs t7 (0 : Nat))) (List.replicate (3 : Nat) (0 : Int))) (2 : Nat) (0 : Int))) w).bind fun y0 => (bif (!Prod.fst y0) then some (.inr ((Prod.snd y0))) else some (.inl ((IntKind.wrap IntKind.i64 (t7 + 1)), (Prod.snd y0))))) else none) else none) else none) else none) else some (.inr ((w))))
noncomputable def y6y (ye : List (List Int)) (t6 : Int) (s : Int × (List Go.Rx.Pr)) : Option ((List Pr)) :=
  loopO (fun s => y3a ye t6 s.1 s.2) s
noncomputable def y1b (ye : List (List Int)) (l2 : List Pr) : Option ((List Pr)) :=
  ((yu ye).bind fun y0 => (y6y ye (y0) ((0), (l2))))
noncomputable def y3e (ye : List (List Int)) (t6 : Int) (t7 : Int) (all2 : yh) : Option ((Int × yh) ⊕ (yh)) :=
  (bif (Decidable.decide (t7 < t6)) then (bif (inR t7 (List.length ye)) then (bif (inR (offs t7 0) (List.length ye)) then (bif (inR t7 (List.length ye)) then (bif (inR (offs t7 0) (List.length ye)) then ((y14 (List.getD (List.getD ye (Int.toNat (offs t7 (0 : Nat))) (List.replicate (3 : Nat) (0 : Int))) (0 : Nat) (0 : Int)) (yh.mk (List.getD (List.getD ye (Int.toNat (offs t7 (0 : Nat))) (List.replicate (3 : Nat) (0 : Int))) (1 : Nat) (0 : Int)) (List.getD (List.getD ye (Int.toNat (offs t7 (0 : Nat))) (List.replicate (3 : Nat) (0 : Int))) (2 : Nat) (0 : Int))) all2).bind fun y0 => (bif (!Prod.fst y0) then some (.inr (((Prod.snd y0)))) else some (.inl ((IntKind.wrap IntKind.i64 (t7 + 1)), (Prod.snd y0))))) else none) else none) else none) else none) else some (.inr ((all2))))
noncomputable def y88 (ye : List (List Int)) (t6 : Int) (s : Int × yh) : Option (yh) :=
  loopO (fun s => y3e ye t6 s.1 s.2) s
noncomputable def y19 (all : yh) (ye : List (List Int)) : Option (yh) :=
  ((yu ye).bind fun y0 => (y88 ye (y0) ((0), (all))))
attribute [local irreducible] Loop ex exF contK roundK retK at_ bodyOf mkEnv exFW retW
theorem lpok_sorted_Each_model_block_1_L1 (ye : List (List Int)) (l2 : List Pr) (U : TypeId) (t6 : Int) (t7 : Int) (w : List Go.Rx.Pr) (K : V → Heap → Prop) : So (y6y (ye) (t6) (t7, w)) (fun (x : (List Pr)) => K (.tup []) [.rcells [.row 2], .cells U [.row 4], .row 70 ye true, .dead, .row 2 (x) false]) → Loop (y2l yu y0s) (⟨30, 4⟩ : Cx) (at_ (bodyOf Try.f51) [1, 0, 0]) (mkEnv [(0, .ptr 0 0), (1, .fn 52 [.ptr 1 0]), (6, vi (t6)), (7, vi (t7))]) [.rcells [.row 2], .cells U [.row 4], .row 70 (ye : List (List Int)) Bool.true, .dead, .row 2 (w : List (Pr)) Bool.false] (contK (y2l yu y0s) (⟨30, 4⟩ : Cx) (bodyOf Try.f51) [1, 0] (retW (y2l yu y0s) wk_sorted_Each_model_block_1 Try.f51 4 K)) := by
  refine loopK_So (fun (s_ : Int × (List Pr)) => (mkEnv [(0, .ptr 0 0), (1, .fn 52 [.ptr 1 0]), (6, vi (t6)), (7, vi ((s_.1)))])) (fun (s_ : Int × (List Pr)) => [.rcells [.row 2], .cells U [.row 4], .row 70 (ye : List (List Int)) Bool.true, .dead, .row 2 ((s_.2) : List (Pr)) Bool.false]) (fun (x : (List Pr)) => K (.tup []) [.rcells [.row 2], .cells U [.row 4], .row 70 ye true, .dead, .row 2 (x) false]) ?_ (t7, w)
  intro s_ J1 h
  clear t7
  clear w
  obtain ⟨t7, w⟩ := s_
  refine Eq.mpr (ycp yu y0s ye l2 U t6 t7 w K J1) ?_
  have h : So (y3a (ye) (t6) t7 w) _ := h
  unfold y3a at h
  revert h
  exact br_So (req_So (req_So (req_So (req_So (bind_So fun y0 => br_So (fun h => h) (fun h => h)))))) (fun h => h)
theorem y6g : SpecOK Try.prog elTT 51 (y49 y1b) := by
  refine spec_of_exFW (cfg := (y2l yu y0s)) (yo rfl rfl rfl) (yi y3r (yi y8a yp)) (pre := pre_sorted_Each_model_block_1) (wk := wk_sorted_Each_model_block_1) (fn := Try.f51) (by kernel_rfl) (by kernel_rfl) (by kernel_rfl) ?_
  intro args H K h
  change y4r y1b args H K at h
  unfold y4r at h
  repeat first | (obtain ⟨_, h⟩ := h) | replace h := Des.el h
  subst_vars
  refine Eq.mpr (yca yu y0s _ _ _ K) ?_
  unfold y1b at h
  revert h
  exact bind_So fun y0 => lpok_sorted_Each_model_block_1_L1 _ (by first | assumption | exact default) _ _ _ _ K
theorem lpok_sorted_Each_model_block_2_L1 (all : yh) (ye : List (List Int)) (U : TypeId) (t6 : Int) (t7 : Int) (all2 : yh) (K : V → Heap → Prop) : So (y88 (ye) (t6) (t7, all2)) (fun (x : yh) => K (.tup []) [.rcells [.row 2], .cells U (y1h (x)), .row 70 ye true]) → Loop (y2t yu y14) (⟨30, 3⟩ : Cx) (at_ (bodyOf Try.f51) [1, 0, 0]) (mkEnv [(0, .ptr 0 0), (1, .fn 79 [.ptr 1 0]), (6, vi (t6)), (7, vi (t7))]) [.rcells [.row 2], .cells U (y1h all2), .row 70 (ye : List (List Int)) Bool.true] (contK (y2t yu y14) (⟨30, 3⟩ : Cx) (bodyOf Try.f51) [1, 0] (retK (y2t yu y14) Try.f51 3 K)) := by
  refine loopK_So (fun (s_ : Int × yh) => (mkEnv [(0, .ptr 0 0), (1, .fn 79 [.ptr 1 0]), (6, vi (t6)), (7, vi ((s_.1)))])) (fun (s_ : Int × yh) => [.rcells [.row 2], .cells U (y1h (s_.2)), .row 70 (ye : List (List Int)) Bool.true]) (fun (x : yh) => K (.tup []) [.rcells [.row 2], .cells U (y1h (x)), .row 70 ye true]) ?_ (t7, all2)
  intro s_ J1 h
  clear t7
  clear all2
  obtain ⟨t7, all2⟩ := s_
  refine Eq.mpr (yel yu y14 all ye U t6 t7 all2 K J1) ?_
  have h : So (y3e (ye) (t6) t7 all2) _ := h
  unfold y3e at h
  revert h
  exact br_So (req_So (req_So (req_So (req_So (bind_So fun y0 => br_So (fun h => h) (fun h => h)))))) (fun h => h)
theorem y83 : SpecOK Try.prog elTT 51 (y4e y19) := by
  refine spec_of_exF (cfg := (y2t yu y14)) (yo rfl rfl rfl) (yi y3r (yi ya8 yp)) (fn := Try.f51) (by kernel_rfl) (by kernel_rfl) (by kernel_rfl) ?_
  intro args H K h
  change y68 y19 args H K at h
  unfold y68 at h
  repeat first | (obtain ⟨_, h⟩ := h) | replace h := Des.el h
  subst_vars
  refine Eq.mpr (ygh yu y14 _ _ _ K) ?_
  unfold y19 at h
  revert h
  exact bind_So fun y0 => lpok_sorted_Each_model_block_2_L1 (by first | assumption | exact default) _ _ _ _ _ K
end Go.Rx
end

section
namespace Go.Rx
open Go.Proofs
set_option maxRecDepth 100000
set_option maxHeartbeats 4000000
theorem ye2 {cs : List V} {k : yd → List V → Prop} (h : y1e (List.take 23 cs) fun x => aRest (List.drop 23 cs) fun r => k x r) : ∃ x r, cs = yk x ++ r ∧ k x r := by
  obtain ⟨x, e, h⟩ := y99 h
  exact ⟨x, _, by rw [← e, List.take_append_drop], h⟩
instance (cs : List V) (k : yd → List V → Prop) : Des (y1e (List.take 23 cs) fun x => aRest (List.drop 23 cs) fun r => k x r) (∃ x r, cs = yk x ++ r ∧ k x r) := ⟨ye2⟩
abbrev Y14 := yc → Option (Bool × Int × yd × (List Int) × (List (List Int)))
def y51 (m_ : Y14) (args : List V) (H : Heap) (K : V → Heap → Prop) : Prop :=
  aC args fun a0 r => aN r <| aAgg a0 fun c0 => y32 c0 fun c => aN H <| So (m_ c) fun x => br (x.1) (K (.tup [.ptr 0 0, vi (x.2.1)]) [.cells 0 (yk (x.2.2.1) ++ [.ptr 1 0, .row 2]), .cells 0 [.row 3], .row 0 (x.2.2.2.1) false, .row 70 (x.2.2.2.2) false]) (K (.tup [.ext (.pointer none), vi (x.2.1)]) [])
def y9x (m_ : Y14) : Spec := ⟨y51 m_, (true : Bool)⟩
abbrev Y3 := Int → Int → Option (Int)
def y5m (m_ : Y3) (args : List V) (H : Heap) (K : V → Heap → Prop) : Prop :=
  aC args fun a0 r => aC r fun a1 r => aN r <| aInt a0 fun size => aInt a1 fun align => aN H <| So (m_ size align) fun x => K (vi (x)) []
def y5s (m_ : Y3) : Spec := ⟨y5m m_, (true : Bool)⟩
abbrev Y11 := T_api_Reply → Option (Bool)
def y6m (m_ : Y11) (args : List V) (H : Heap) (K : V → Heap → Prop) : Prop :=
  aC args fun a0 r => aN r <| aAgg a0 fun c0 => y1q c0 fun rv => aN H <| So (m_ rv) fun x => K (vb (x)) []
def y3y (m_ : Y11) : Spec := ⟨y6m m_, (true : Bool)⟩
def y6b (m_ : Int → yd → (List Int) → (List (List Int)) → Option (Int)) (args : List V) (H : Heap) (K : V → Heap → Prop) : Prop :=
  aC args fun a0 r => aC r fun a1 r => aN r <| aPtr 0 a0 <| aInt a1 fun a => aC H fun b0 r => aC r fun b1 r => aC r fun b2 r => aC r fun b3 r => aN r <| bRCells b0 fun c0 => y1e (List.take 23 c0) fun m_lv => aRest (List.drop 23 c0) fun r => aC r fun d0_23 r => aPtr 1 d0_23 <| aC r fun d0_24 r => aRow 2 d0_24 <| aN r <| bRCells b1 fun c1 => aC c1 fun d1_0 r => aRow 3 d1_0 <| aN r <| bRow 0 true b2 fun (yg : List Int) => bRow 70 true b3 fun (yf : List (List Int)) => So (m_ a m_lv yg yf) fun x => K (vi (x)) [.rcells (yk m_lv ++ [.ptr 1 0, .row 2]), .rcells [.row 3], .row 0 yg true, .row 70 yf true]
def y4l (m_ : Int → yd → (List Int) → (List (List Int)) → Option (Int)) : Spec := ⟨y6b m_, (⟨true, fun i => false, fun i => Nat.beq i 0 || Nat.beq i 1⟩ : RO)⟩
def y58 (m_ : Y1) (args : List V) (H : Heap) (K : V → Heap → Prop) : Prop :=
  aC args fun a0 r => aC r fun a1 r => aN r <| aNilP a0 <| aInt a1 fun a => aN H <| So (m_ a) fun x => K (vi (x)) []
def y46 (m_ : Y1) : Spec := ⟨y58 m_, (true : Bool)⟩
def y4q (m_ : yd → (List Int) → (List (List Int)) → Option ((List Pr))) (args : List V) (H : Heap) (K : V → Heap → Prop) : Prop :=
  aC args fun a0 r => aN r <| aPtr 0 a0 <| aC H fun b0 r => aC r fun b1 r => aC r fun b2 r => aC r fun b3 r => aN r <| bRCells b0 fun c0 => y1e (List.take 23 c0) fun m_lv => aRest (List.drop 23 c0) fun r => aC r fun d0_23 r => aPtr 1 d0_23 <| aC r fun d0_24 r => aRow 2 d0_24 <| aN r <| bRCells b1 fun c1 => aC c1 fun d1_0 r => aRow 3 d1_0 <| aN r <| bRow 0 true b2 fun (yg : List Int) => bRow 70 true b3 fun (yf : List (List Int)) => So (m_ m_lv yg yf) fun x => K (.row 4) [.rcells (yk m_lv ++ [.ptr 1 0, .row 2]), .rcells [.row 3], .row 0 yg true, .row 70 yf true, .row 2 (x) false]
def yaa (m_ : yd → (List Int) → (List (List Int)) → Option ((List Pr))) : Spec := ⟨y4q m_, (⟨true, fun i => false, fun i => Nat.beq i 0 || Nat.beq i 1⟩ : RO)⟩
def y6s (m_ : Option ((List Pr))) (args : List V) (H : Heap) (K : V → Heap → Prop) : Prop :=
  aC args fun a0 r => aN r <| aNilP a0 <| aN H <| So (m_ ) fun x => K (.row 0) [.row 2 (x) false]
def yak (m_ : Option ((List Pr))) : Spec := ⟨y6s m_, (true : Bool)⟩
def y4u (m_ : Int → yd → (List Int) → (List (List Int)) → Option (Int × Int × Bool)) (args : List V) (H : Heap) (K : V → Heap → Prop) : Prop :=
  aC args fun a0 r => aC r fun a1 r => aN r <| aPtr 0 a0 <| aInt a1 fun a => aC H fun b0 r => aC r fun b1 r => aC r fun b2 r => aC r fun b3 r => aN r <| bRCells b0 fun c0 => y1e (List.take 23 c0) fun m_lv => aRest (List.drop 23 c0) fun r => aC r fun d0_23 r => aPtr 1 d0_23 <| aC r fun d0_24 r => aRow 2 d0_24 <| aN r <| bRCells b1 fun c1 => aC c1 fun d1_0 r => aRow 3 d1_0 <| aN r <| bRow 0 true b2 fun (yg : List Int) => bRow 70 true b3 fun (yf : List (List Int)) => So (m_ a m_lv yg yf) fun x => K (.tup [vi (x.1), vi (x.2.1), vb (x.2.2)]) [.rcells (yk m_lv ++ [.ptr 1 0, .row 2]), .rcells [.row 3], .row 0 yg true, .row 70 yf true]
def y3v (m_ : Int → yd → (List Int) → (List (List Int)) → Option (Int × Int × Bool)) : Spec := ⟨y4u m_, (⟨true, fun i => false, fun i => Nat.beq i 0 || Nat.beq i 1⟩ : RO)⟩
abbrev Y7 := Int → Option (Int × Int × Bool)
def y7w (m_ : Y7) (args : List V) (H : Heap) (K : V → Heap → Prop) : Prop :=
  aC args fun a0 r => aC r fun a1 r => aN r <| aNilP a0 <| aInt a1 fun a => aN H <| So (m_ a) fun x => K (.tup [vi (x.1), vi (x.2.1), vb (x.2.2)]) []
def y40 (m_ : Y7) : Spec := ⟨y7w m_, (true : Bool)⟩
def y53 (m_ : yb → T_api_Reply → yd → (List Int) → (List (List Int)) → Option (Bool)) (args : List V) (H : Heap) (K : V → Heap → Prop) : Prop :=
  aC args fun a0 r => aC r fun a1 r => aC r fun a2 r => aN r <| aPtr 0 a0 <| aAgg a1 fun c1 => y1o c1 fun c => aAgg a2 fun c2 => y1q c2 fun rv => aC H fun b0 r => aC r fun b1 r => aC r fun b2 r => aC r fun b3 r => aN r <| bRCells b0 fun c0 => y1e (List.take 23 c0) fun m_lv => aRest (List.drop 23 c0) fun r => aC r fun d0_23 r => aPtr 1 d0_23 <| aC r fun d0_24 r => aRow 2 d0_24 <| aN r <| bRCells b1 fun c1 => aC c1 fun d1_0 r => aRow 3 d1_0 <| aN r <| bRow 0 true b2 fun (yg : List Int) => bRow 70 true b3 fun (yf : List (List Int)) => So (m_ c rv m_lv yg yf) fun x => K (vb (x)) [.rcells (yk m_lv ++ [.ptr 1 0, .row 2]), .rcells [.row 3], .row 0 yg true, .row 70 yf true]
def yan (m_ : yb → T_api_Reply → yd → (List Int) → (List (List Int)) → Option (Bool)) : Spec := ⟨y53 m_, (⟨true, fun i => false, fun i => Nat.beq i 0 || Nat.beq i 1⟩ : RO)⟩
def y7a (m_ : yb → T_api_Reply → yd → (List Int) → (List (List Int)) → Option (Bool × (List (List Int)) × (List Int))) (args : List V) (H : Heap) (K : V → Heap → Prop) : Prop :=
  aC args fun a0 r => aC r fun a1 r => aC r fun a2 r => aN r <| aPtr 0 a0 <| aAgg a1 fun c1 => y1o c1 fun c => aAgg a2 fun c2 => y1q c2 fun rv => aC H fun b0 r => aC r fun b1 r => aC r fun b2 r => aC r fun b3 r => aN r <| bRCells b0 fun c0 => y1e (List.take 23 c0) fun m_lv => aRest (List.drop 23 c0) fun r => aC r fun d0_23 r => aPtr 1 d0_23 <| aC r fun d0_24 r => aRow 2 d0_24 <| aN r <| bCells b1 fun U c1 => aC c1 fun d1_0 r => aRow 3 d1_0 <| aN r <| bRow 0 false b2 fun (yg : List Int) => bRow 70 false b3 fun (yf : List (List Int)) => So (m_ c rv m_lv yg yf) fun x => K (vb (x.1)) [.rcells (yk m_lv ++ [.ptr 1 0, .row 2]), .cells U [.row 4], .row 0 (x.2.2) false, .dead, .row 70 (x.2.1) false]
def y44 (m_ : yb → T_api_Reply → yd → (List Int) → (List (List Int)) → Option (Bool × (List (List Int)) × (List Int))) : Spec := ⟨y7a m_, (⟨true, fun i => Nat.beq i 2 || Nat.beq i 3, fun i => Nat.beq i 0⟩ : RO)⟩
def y5l (m_ : yb → T_api_Reply → yd → (List Int) → (List (List Int)) → Option (Bool × (List (List Int)) × (List Int))) (args : List V) (H : Heap) (K : V → Heap → Prop) : Prop :=
  aC args fun a0 r => aC r fun a1 r => aC r fun a2 r => aN r <| aPtr 0 a0 <| aAgg a1 fun c1 => y1o c1 fun c => aAgg a2 fun c2 => y1q c2 fun rv => aC H fun b0 r => aC r fun b1 r => aC r fun b2 r => aC r fun b3 r => aN r <| bRCells b0 fun c0 => y1e (List.take 23 c0) fun m_lv => aRest (List.drop 23 c0) fun r => aC r fun d0_23 r => aPtr 1 d0_23 <| aC r fun d0_24 r => aRow 2 d0_24 <| aN r <| bCells b1 fun U c1 => aC c1 fun d1_0 r => aRow 3 d1_0 <| aN r <| bRow 0 false b2 fun (yg : List Int) => bRow 70 false b3 fun (yf : List (List Int)) => So (m_ c rv m_lv yg yf) fun x => K (vb (x.1)) [.rcells (yk m_lv ++ [.ptr 1 0, .row 2]), .cells U [.row 4], .row 0 (x.2.2) false, .dead, .row 70 (x.2.1) false]
def y6n (m_ : yb → T_api_Reply → yd → (List Int) → (List (List Int)) → Option (Bool × (List (List Int)) × (List Int))) : Spec := ⟨y5l m_, (⟨true, fun i => Nat.beq i 2 || Nat.beq i 3, fun i => Nat.beq i 0⟩ : RO)⟩
def y6r (m_ : yb → T_api_Reply → yd → (List Int) → (List (List Int)) → Option (Bool × (List (List Int)))) (args : List V) (H : Heap) (K : V → Heap → Prop) : Prop :=
  aC args fun a0 r => aC r fun a1 r => aC r fun a2 r => aN r <| aPtr 0 a0 <| aAgg a1 fun c1 => y1o c1 fun c => aAgg a2 fun c2 => y1q c2 fun rv => aC H fun b0 r => aC r fun b1 r => aC r fun b2 r => aC r fun b3 r => aN r <| bRCells b0 fun c0 => y1e (List.take 23 c0) fun m_lv => aRest (List.drop 23 c0) fun r => aC r fun d0_23 r => aPtr 1 d0_23 <| aC r fun d0_24 r => aRow 2 d0_24 <| aN r <| bCells b1 fun U c1 => aC c1 fun d1_0 r => aRow 3 d1_0 <| aN r <| bRow 0 true b2 fun (yg : List Int) => bRow 70 false b3 fun (yf : List (List Int)) => So (m_ c rv m_lv yg yf) fun x => K (vb (x.1)) [.rcells (yk m_lv ++ [.ptr 1 0, .row 2]), .cells U [.row 4], .row 0 yg true, .dead, .row 70 (x.2) false]
def y5r (m_ : yb → T_api_Reply → yd → (List Int) → (List (List Int)) → Option (Bool × (List (List Int)))) : Spec := ⟨y6r m_, (⟨true, fun i => Nat.beq i 3, fun i => Nat.beq i 0⟩ : RO)⟩
def y56 (m_ : yb → T_api_Reply → yd → (List Int) → (List (List Int)) → Option (Bool)) (args : List V) (H : Heap) (K : V → Heap → Prop) : Prop :=
  aC args fun a0 r => aC r fun a1 r => aC r fun a2 r => aN r <| aPtr 0 a0 <| aAgg a1 fun c1 => y1o c1 fun c => aAgg a2 fun c2 => y1q c2 fun rv => aC H fun b0 r => aC r fun b1 r => aC r fun b2 r => aC r fun b3 r => aN r <| bRCells b0 fun c0 => y1e (List.take 23 c0) fun m_lv => aRest (List.drop 23 c0) fun r => aC r fun d0_23 r => aPtr 1 d0_23 <| aC r fun d0_24 r => aRow 2 d0_24 <| aN r <| bRCells b1 fun c1 => aC c1 fun d1_0 r => aRow 3 d1_0 <| aN r <| bRow 0 true b2 fun (yg : List Int) => bRow 70 true b3 fun (yf : List (List Int)) => So (m_ c rv m_lv yg yf) fun x => K (vb (x)) [.rcells (yk m_lv ++ [.ptr 1 0, .row 2]), .rcells [.row 3], .row 0 yg true, .row 70 yf true]
def y7q (m_ : yb → T_api_Reply → yd → (List Int) → (List (List Int)) → Option (Bool)) : Spec := ⟨y56 m_, (⟨true, fun i => false, fun i => Nat.beq i 0 || Nat.beq i 1⟩ : RO)⟩
def y7o (m_ : T_api_Reply → yd → (List Int) → (List (List Int)) → Option (Bool)) (args : List V) (H : Heap) (K : V → Heap → Prop) : Prop :=
  aC args fun a0 r => aC r fun a1 r => aN r <| aPtr 0 a0 <| aAgg a1 fun c1 => y1q c1 fun rv => aC H fun b0 r => aC r fun b1 r => aC r fun b2 r => aC r fun b3 r => aN r <| bRCells b0 fun c0 => y1e (List.take 23 c0) fun m_lv => aRest (List.drop 23 c0) fun r => aC r fun d0_23 r => aPtr 1 d0_23 <| aC r fun d0_24 r => aRow 2 d0_24 <| aN r <| bRCells b1 fun c1 => aC c1 fun d1_0 r => aRow 3 d1_0 <| aN r <| bRow 0 true b2 fun (yg : List Int) => bRow 70 true b3 fun (yf : List (List Int)) => So (m_ rv m_lv yg yf) fun x => K (vb (x)) [.rcells (yk m_lv ++ [.ptr 1 0, .row 2]), .rcells [.row 3], .row 0 yg true, .row 70 yf true]
def y5k (m_ : T_api_Reply → yd → (List Int) → (List (List Int)) → Option (Bool)) : Spec := ⟨y7o m_, (⟨true, fun i => false, fun i => Nat.beq i 0 || Nat.beq i 1⟩ : RO)⟩
def y7x (m_ : yb → T_api_Reply → yd → (List Int) → (List (List Int)) → Option (Bool × (List Int))) (args : List V) (H : Heap) (K : V → Heap → Prop) : Prop :=
  aC args fun a0 r => aC r fun a1 r => aC r fun a2 r => aN r <| aPtr 0 a0 <| aAgg a1 fun c1 => y1o c1 fun c => aAgg a2 fun c2 => y1q c2 fun rv => aC H fun b0 r => aC r fun b1 r => aC r fun b2 r => aC r fun b3 r => aN r <| bRCells b0 fun c0 => y1e (List.take 23 c0) fun m_lv => aRest (List.drop 23 c0) fun r => aC r fun d0_23 r => aPtr 1 d0_23 <| aC r fun d0_24 r => aRow 2 d0_24 <| aN r <| bRCells b1 fun c1 => aC c1 fun d1_0 r => aRow 3 d1_0 <| aN r <| bRow 0 false b2 fun (yg : List Int) => bRow 70 true b3 fun (yf : List (List Int)) => So (m_ c rv m_lv yg yf) fun x => K (vb (x.1)) [.rcells (yk m_lv ++ [.ptr 1 0, .row 2]), .rcells [.row 3], .row 0 (x.2) false, .row 70 yf true]
def y79 (m_ : yb → T_api_Reply → yd → (List Int) → (List (List Int)) → Option (Bool × (List Int))) : Spec := ⟨y7x m_, (⟨true, fun i => Nat.beq i 2, fun i => Nat.beq i 0 || Nat.beq i 1⟩ : RO)⟩
def y7g (m_ : yb → T_api_Reply → yd → (List Int) → (List (List Int)) → Option (Bool × (List (List Int)) × (List Int))) (args : List V) (H : Heap) (K : V → Heap → Prop) : Prop :=
  aC args fun a0 r => aC r fun a1 r => aC r fun a2 r => aN r <| aPtr 0 a0 <| aAgg a1 fun c1 => y1o c1 fun c => aAgg a2 fun c2 => y1q c2 fun rv => aC H fun b0 r => aC r fun b1 r => aC r fun b2 r => aC r fun b3 r => aN r <| bRCells b0 fun c0 => y1e (List.take 23 c0) fun m_lv => aRest (List.drop 23 c0) fun r => aC r fun d0_23 r => aPtr 1 d0_23 <| aC r fun d0_24 r => aRow 2 d0_24 <| aN r <| bCells b1 fun U c1 => aC c1 fun d1_0 r => aRow 3 d1_0 <| aN r <| bRow 0 false b2 fun (yg : List Int) => bRow 70 false b3 fun (yf : List (List Int)) => So (m_ c rv m_lv yg yf) fun x => K (vb (x.1)) [.rcells (yk m_lv ++ [.ptr 1 0, .row 2]), .cells U [.row 4], .row 0 (x.2.2) false, .dead, .row 70 (x.2.1) false]
def y4x (m_ : yb → T_api_Reply → yd → (List Int) → (List (List Int)) → Option (Bool × (List (List Int)) × (List Int))) : Spec := ⟨y7g m_, (⟨true, fun i => Nat.beq i 2 || Nat.beq i 3, fun i => Nat.beq i 0⟩ : RO)⟩
abbrev Y12 := yb → T_api_Reply → Option (Bool)
def y6x (m_ : Y12) (args : List V) (H : Heap) (K : V → Heap → Prop) : Prop :=
  aC args fun a0 r => aC r fun a1 r => aC r fun a2 r => aN r <| aNilP a0 <| aAgg a1 fun c1 => y1o c1 fun c => aAgg a2 fun c2 => y1q c2 fun rv => aN H <| So (m_ c rv) fun x => K (vb (x)) []
def y5w (m_ : Y12) : Spec := ⟨y6x m_, (true : Bool)⟩
def wk_model_New : List WK := [⟨true, 0, [], 0, 0, true⟩, ⟨true, 0, [], 24, 0, false⟩, ⟨true, 0, [23], 0, 0, true⟩, ⟨true, 0, [23], 0, 70, false⟩]
noncomputable def ybs (y1d : Y21) (y0r : Y5) (ym : Y5) : Cfg := { cfgB with
  sigs := (sigC 31 (y77 y1d) (sigC 33 (inlS cfgB Try.f33) (sigC 24 (y4v y0r) (sigC 23 (y1u ym) sigN)))),
  plan := fun r => match r with | 4 => some ([0, 2, 4, 1, 3, 5, 6, 7, 8, 9, 10, 11], 0) | _ => none }
noncomputable def yaz (y21 : Y15) : Cfg := { cfgB with
  sigs := (sigC 100 (yb8 y21) sigN) }
noncomputable def yai  : Cfg := { cfgB with
  sigs := sigN }
noncomputable def ybe (ym : Y5) (yn : Y2) : Cfg := { cfgB with
  sigs := (sigC 54 (inlSR (⟨true, fun _ => false, fun i => Nat.beq i 0 || Nat.beq i 1⟩ : RO)  ({ cfgB with sigs := (sigC 86 (y2e yn) (sigC 23 (y1u ym) sigN)), plan := fun r => match r with | 4 => some (List.range 13, 0) | _ => none } : Cfg) Try.f54) sigN) }
noncomputable def y8f (ym : Y5) (yn : Y2) : Cfg := { cfgB with
  sigs := (sigC 54 (inlSR (⟨true, fun _ => false, fun i => Nat.beq i 0 || Nat.beq i 1⟩ : RO)  ({ cfgB with sigs := (sigC 86 (y2e yn) (sigC 23 (y1u ym) sigN)), plan := fun r => match r with | 4 => some (List.range 13, 0) | _ => none } : Cfg) Try.f54) sigN) }
noncomputable def y96 (y0s : Y8) (y1b : (List (List Int)) → (List Pr) → Option ((List Pr))) (y19 : yh → (List (List Int)) → Option (yh)) : Cfg := { cfgB with
  sigs := (sigC 52 (y4a y0s) (sigC 51 (altP 1 79 (y4e y19) (y49 y1b)) sigN)),
  nilrow := true }
noncomputable def ya9 (y0s : Y8) (y1b : (List (List Int)) → (List Pr) → Option ((List Pr))) (y19 : yh → (List (List Int)) → Option (yh)) : Cfg := { cfgB with
  sigs := (sigC 52 (y4a y0s) (sigC 51 (altP 1 79 (y4e y19) (y49 y1b)) sigN)),
  nilrow := true }
noncomputable def y2p (yu : (List (List Int)) → Option (Int)) (y0y : Int → (List (List Int)) → Option (Int × yh × Bool)) : Cfg := { cfgB with
  sigs := (sigC 55 (y3j yu) (sigC 56 (y5q y0y) sigN)),
  keep := fun r => match r with | 4 => some [(0, none), (1, none), (7, none)] | _ => none,
  plan := fun r => match r with | 9 => some (List.range 6, 0) | _ => none }
noncomputable def y9q (yu : (List (List Int)) → Option (Int)) (y0y : Int → (List (List Int)) → Option (Int × yh × Bool)) : Cfg := { cfgB with
  sigs := (sigC 55 (y3j yu) (sigC 56 (y5q y0y) sigN)),
  keep := fun r => match r with | 4 => some [(0, none), (1, none), (7, none)] | _ => none,
  plan := fun r => match r with | 9 => some (List.range 6, 0) | _ => none }
noncomputable def y1t (y04 : Y3) (ym : Y5) (yn : Y2) (y0r : Y5) (yw : Y7) (yq : Int → yd → (List Int) → (List (List Int)) → Option (Int × Int × Bool)) : Cfg := { cfgB with
  sigs := (sigC 77 (y5s y04) (sigC 54 (inlSR (⟨true, fun _ => false, fun i => Nat.beq i 0 || Nat.beq i 1⟩ : RO)  ({ cfgB with sigs := (sigC 86 (y2e yn) (sigC 23 (y1u ym) sigN)), plan := fun r => match r with | 4 => some (List.range 13, 0) | _ => none } : Cfg) Try.f54) (sigC 24 (y4v y0r) (sigC 21 (altNil (y3v yq) (y40 yw)) sigN)))),
  keep := fun r => match r with | 8 => some [(0, none), (5, none), (58, none), (59, none)] | _ => none,
  plan := fun r => match r with | 5 => some ([0, 1, 2, 3, 4, 5, 6, 7, 8, 9, 10, 11, 12, 13, 14, 15, 16, 17, 18, 19, 20, 21, 22, 23, 24, 25, 26, 27, 28, 29, 31, 32, 30, 33, 34, 35], 0) | _ => none }
def wk_model_Model_fresh : List WK := [⟨false, 1, [], 0, 70, false⟩]
noncomputable def y2w (y18 : yb → T_api_Reply → yd → (List Int) → (List (List Int)) → Option (Bool)) (y07 : Int → yh → (List (List Int)) → Option (Bool × (List (List Int)))) (ym : Y5) (yn : Y2) : Cfg := { cfgB with
  sigs := (sigC 73 (yan y18) (sigC 74 (y63 y07) (sigC 54 (inlSR (⟨true, fun _ => false, fun i => Nat.beq i 0 || Nat.beq i 1⟩ : RO)  ({ cfgB with sigs := (sigC 86 (y2e yn) (sigC 23 (y1u ym) sigN)), plan := fun r => match r with | 4 => some (List.range 13, 0) | _ => none } : Cfg) Try.f54) sigN))),
  keep := fun r => match r with | 8 => some [(0, none), (5, none), (34, none), (35, none)] | _ => none,
  plan := fun r => match r with | 5 => some (List.range 12, 2) | _ => none }
def wk_model_Model_again : List WK := [⟨false, 1, [], 0, 70, false⟩]
noncomputable def y1y (y0h : Int → (List (List Int)) → Option (yh × Bool)) (y05 : Y11) (y04 : Y3) (y07 : Int → yh → (List (List Int)) → Option (Bool × (List (List Int)))) (y0c : yb → T_api_Reply → yd → (List Int) → (List (List Int)) → Option (Bool × (List (List Int)) × (List Int))) (ym : Y5) (yn : Y2) (yx : Y1) (yr : Int → yd → (List Int) → (List (List Int)) → Option (Int)) (y0m : Int → (List (List Int)) → Option (Bool × (List (List Int)))) : Cfg := { cfgB with
  sigs := (sigC 75 (y4i y0h) (sigC 76 (y3y y05) (sigC 77 (y5s y04) (sigC 74 (y63 y07) (sigC 36 (y44 y0c) (sigC 54 (inlSR (⟨true, fun _ => false, fun i => Nat.beq i 0 || Nat.beq i 1⟩ : RO)  ({ cfgB with sigs := (sigC 86 (y2e yn) (sigC 23 (y1u ym) sigN)), plan := fun r => match r with | 4 => some (List.range 13, 0) | _ => none } : Cfg) Try.f54) (sigC 20 (altNil (y4l yr) (y46 yx)) (sigC 78 (y7i y0m) sigN)))))))),
  keep := fun r => match r with | 14 => some [(0, none), (4, none), (5, none), (68, none), (69, none)] | _ => none,
  plan := fun r => match r with | 4 => some ([0, 1, 3, 4, 2, 5, 6], 0) | 7 => some (List.range 12, 2) | 16 => some ([0, 1, 2, 3, 4, 6, 7, 8, 9, 10, 5, 11, 12, 13], 30786325577728) | 18 => some (List.range 7, 2) | _ => none,
  planT := fun r => match r with | 1 => some ((chainT [0, 1, 2, 3, 4, 5] (.alt (chainT [6, 7, 8, 9, 10, 11, 12] .fin) (chainT [10, 6, 7, 8, 9, 11, 12] .fin))), 272) | _ => none,
  flag := fun d => Nat.beq d 7 }
def wk_model_Model_free : List WK := [⟨false, 1, [], 0, 70, false⟩]
noncomputable def y9a (y0h : Int → (List (List Int)) → Option (yh × Bool)) (y05 : Y11) (y0m : Int → (List (List Int)) → Option (Bool × (List (List Int)))) : Cfg := { cfgB with
  sigs := (sigC 75 (y4i y0h) (sigC 76 (y3y y05) (sigC 78 (y7i y0m) sigN))),
  plan := fun r => match r with | 6 => some (List.range 7, 2) | _ => none,
  planT := fun r => match r with | 1 => some ((chainT [0, 1, 2, 3, 4, 5] (.alt (chainT [6, 7, 8, 9, 10, 11, 12] .fin) (chainT [10, 6, 7, 8, 9, 11, 12] .fin))), 272) | _ => none,
  flag := fun d => Nat.beq d 7 }
noncomputable def yau (y0h : Int → (List (List Int)) → Option (yh × Bool)) (y05 : Y11) : Cfg := { cfgB with
  sigs := (sigC 75 (y4i y0h) (sigC 76 (y3y y05) sigN)),
  planT := fun r => match r with | 1 => some ((chainT [0, 1, 2, 3, 4, 5] (.alt (chainT [6, 7, 8, 9, 10, 11, 12] .fin) (chainT [10, 6, 7, 8, 9, 11, 12] .fin))), 272) | _ => none,
  flag := fun d => Nat.beq d 7 }
noncomputable def ybr (y14 : Y16) (y1b : (List (List Int)) → (List Pr) → Option ((List Pr))) (y19 : yh → (List (List Int)) → Option (yh)) (y1r : Y20) (y17 : Y22) (yu : (List (List Int)) → Option (Int)) : Cfg := { cfgB with
  sigs := (sigC 79 (y62 y14) (sigC 51 (altP 1 79 (y4e y19) (y49 y1b)) (sigC 80 (y8k y1r) (sigC 40 (y4f y17) (sigC 55 (y3j yu) sigN))))),
  plan := fun r => match r with | 4 => some (List.range 20, 0) | 6 => some (List.range 23, 0) | _ => none }
noncomputable def y9j (yw : Y7) (yq : Int → yd → (List Int) → (List (List Int)) → Option (Int × Int × Bool)) (y05 : Y11) (yx : Y1) (yr : Int → yd → (List Int) → (List (List Int)) → Option (Int)) (ym : Y5) (yn : Y2) : Cfg := { cfgB with
  sigs := (sigC 21 (altNil (y3v yq) (y40 yw)) (sigC 76 (y3y y05) (sigC 20 (altNil (y4l yr) (y46 yx)) (sigC 54 (inlSR (⟨true, fun _ => false, fun i => Nat.beq i 0 || Nat.beq i 1⟩ : RO)  ({ cfgB with sigs := (sigC 86 (y2e yn) (sigC 23 (y1u ym) sigN)), plan := fun r => match r with | 4 => some (List.range 13, 0) | _ => none } : Cfg) Try.f54) sigN)))),
  plan := fun r => match r with | 5 => some (List.range 8, 0) | 8 => some ([0, 1, 2, 4, 5, 3, 6, 7], 17592186044416) | _ => none }
def wk_model_Model_Step : List WK := [⟨false, 1, [], 0, 70, false⟩]
noncomputable def ya3 (y1n : Y10) (y0c : yb → T_api_Reply → yd → (List Int) → (List (List Int)) → Option (Bool × (List (List Int)) × (List Int))) (y1l : yb → T_api_Reply → yd → (List Int) → (List (List Int)) → Option (Bool × (List (List Int)) × (List Int))) (y1i : yb → T_api_Reply → yd → (List Int) → (List (List Int)) → Option (Bool × (List (List Int)))) (y1k : yb → T_api_Reply → yd → (List Int) → (List (List Int)) → Option (Bool)) (y17 : Y22) (y1m : T_api_Reply → yd → (List Int) → (List (List Int)) → Option (Bool)) (y1j : yb → T_api_Reply → yd → (List Int) → (List (List Int)) → Option (Bool × (List Int))) : Cfg := { cfgB with
  sigs := (sigC 35 (y84 y1n) (sigC 36 (y44 y0c) (sigC 37 (y6n y1l) (sigC 38 (y5r y1i) (sigC 39 (y7q y1k) (sigC 40 (y4f y17) (sigC 41 (y5k y1m) (sigC 42 (y79 y1j) sigN)))))))),
  plan := fun r => match r with | 25 => some (List.range 22, 0) | _ => none }
noncomputable def ybx (y1n : Y10) (y0c : yb → T_api_Reply → yd → (List Int) → (List (List Int)) → Option (Bool × (List (List Int)) × (List Int))) (y1l : yb → T_api_Reply → yd → (List Int) → (List (List Int)) → Option (Bool × (List (List Int)) × (List Int))) (y1i : yb → T_api_Reply → yd → (List Int) → (List (List Int)) → Option (Bool × (List (List Int)))) (y1k : yb → T_api_Reply → yd → (List Int) → (List (List Int)) → Option (Bool)) (y17 : Y22) (y1m : T_api_Reply → yd → (List Int) → (List (List Int)) → Option (Bool)) (y1j : yb → T_api_Reply → yd → (List Int) → (List (List Int)) → Option (Bool × (List Int))) : Cfg := { cfgB with
  sigs := (sigC 35 (y84 y1n) (sigC 36 (y44 y0c) (sigC 37 (y6n y1l) (sigC 38 (y5r y1i) (sigC 39 (y7q y1k) (sigC 40 (y4f y17) (sigC 41 (y5k y1m) (sigC 42 (y79 y1j) sigN)))))))),
  plan := fun r => match r with | 25 => some (List.range 22, 0) | _ => none }
theorem yc9 (y1d : Y21) (y0r : Y5) (ym : Y5) (c : yc) (K : V → Heap → Prop) : (exFW (ybs y1d y0r ym) [] wk_model_New Try.f10 [.agg (yl c)] [] K) = (
    So (y1d c) (fun (y0 : yd × Int) => (br (Prod.snd y0 != 0) (K (.tup [.ext (Go.Value.pointer Option.none), vi (Prod.snd y0)]) []) (So (y0r (Prod.fst y0)) (fun (y1 : Int) => (So (ym (Prod.fst y0)) (fun (y2 : Int) => (Req (Decidable.decide (0 ≤ IntKind.wrap IntKind.i64 (y1 - y2) ∧ IntKind.wrap IntKind.i64 (y1 - y2) ≤ IntKind.wrap IntKind.i64 (y1 - y2) ∧ IntKind.wrap IntKind.i64 (y1 - y2) ≤ 1048576)) (K (.tup [.ptr 0 0, vi (0)]) [.cells 0 (yk (Prod.fst y0) ++ [.ptr 1 0, .row 2]), .cells 0 [.row 3], .row 0 (List.replicate (Int.toNat (IntKind.wrap IntKind.i64 (y1 - y2))) (0 : Int) : List (Int)) Bool.false, .row 70 ([] : List (List Int)) Bool.false]))))))))) := by
  kernel_rfl
theorem yf3 (y21 : Y15) (size : Int) (align : Int) (K : V → Heap → Prop) : (exF (yaz y21) Try.f77 [vi size, vi align] [] K) = (
    br (Decidable.decide (size > 1048576)) (K (vi (0)) []) (So (y21 size align) (fun (y0 : Int × Int) => (K (vi (Prod.fst y0)) [])))) := by
  kernel_rfl
theorem yer (rv : T_api_Reply) (K : V → Heap → Prop) : (exF yai Try.f76 [.agg (y0l rv)] [] K) = (
    K (vb (T_api_Reply.Err rv == 7 && (T_api_Reply.Addr rv == 0 && (T_api_Reply.Size rv == 0 && (T_api_Reply.Value rv == 0 && (ya.Blocks (T_api_Reply.Stats rv) == 0 && (ya.Asked (T_api_Reply.Stats rv) == 0 && (ya.Words (T_api_Reply.Stats rv) == 0 && (ya.Kept (T_api_Reply.Stats rv) == 0 && (ya.Open (T_api_Reply.Stats rv) == 0 && (ya.Mapped (T_api_Reply.Stats rv) == 0 && (ya.Used (T_api_Reply.Stats rv) == 0 && Bool.true)))))) && Bool.true)))))) []) := by
  kernel_rfl
theorem ydl (ym : Y5) (yn : Y2) (a : Int) (m_lv : yd) (yg : List Int) (yf : List (List Int)) (K : V → Heap → Prop) : (exF (ybe ym yn) Try.f20 [.ptr 0 0, vi a] [.rcells (yk m_lv ++ [.ptr 1 0, .row 2]), .rcells [.row 3], .row 0 yg true, .row 70 yf true] K) = (
    So (yn m_lv a) (fun (y0 : Int × Int × Bool) => (br (!Prod.snd (Prod.snd y0)) (K (vi (0)) [.rcells (yk m_lv ++ [.ptr 1 0, .row 2]), .rcells [.row 3], .row 0 (yg : List (Int)) Bool.true, .row 70 (yf : List (List Int)) Bool.true]) (So (ym m_lv) (fun (y1 : Int) => (Req (inR (IntKind.wrap IntKind.i64 (a - y1)) (List.length yg)) (Req (inR (offs (IntKind.wrap IntKind.i64 (a - y1)) 0) (List.length yg)) (K (vi (List.getD yg (Int.toNat (offs (IntKind.wrap IntKind.i64 (a - y1)) 0)) 0)) [.rcells (yk m_lv ++ [.ptr 1 0, .row 2]), .rcells [.row 3], .row 0 (yg : List (Int)) Bool.true, .row 70 (yf : List (List Int)) Bool.true])))))))) := by
  kernel_rfl
theorem yg4 (ym : Y5) (yn : Y2) (a : Int) (K : V → Heap → Prop) : (exF (y8f ym yn) Try.f20 [.ext (.pointer none), vi a] [] K) = (
    K (vi (0)) []) := by
  kernel_rfl
theorem ycy (y0s : Y8) (y1b : (List (List Int)) → (List Pr) → Option ((List Pr))) (y19 : yh → (List (List Int)) → Option (yh)) (m_lv : yd) (yg : List Int) (yf : List (List Int)) (K : V → Heap → Prop) : (exF (y96 y0s y1b y19) Try.f17 [.ptr 0 0] [.rcells (yk m_lv ++ [.ptr 1 0, .row 2]), .rcells [.row 3], .row 0 yg true, .row 70 yf true] K) = (
    So (y1b yf []) (fun (y0 : List Pr) => (K (.row 4) [.rcells (yk m_lv ++ [.ptr 1 0, .row 2]), .rcells [.row 3], .row 0 (yg : List (Int)) Bool.true, .row 70 (yf : List (List Int)) Bool.true, .row 2 (y0 : List (Pr)) Bool.false]))) := by
  kernel_rfl
theorem ydr (y0s : Y8) (y1b : (List (List Int)) → (List Pr) → Option ((List Pr))) (y19 : yh → (List (List Int)) → Option (yh)) (K : V → Heap → Prop) : (exF (ya9 y0s y1b y19) Try.f17 [.ext (.pointer none)] [] K) = (
    K (.row 0) [.row 2 ([] : List (Pr)) Bool.false]) := by
  kernel_rfl
theorem yda (yu : (List (List Int)) → Option (Int)) (y0y : Int → (List (List Int)) → Option (Int × yh × Bool)) (a : Int) (m_lv : yd) (yg : List Int) (yf : List (List Int)) (iv : Int) (K : V → Heap → Prop) (J1 : Env → Heap → Prop) : (ex (y2p yu y0y) (⟨46, 4⟩ : Cx) (at_ (bodyOf Try.f21) [1, 0, 1, 1, 1, 0, 0, 0]) (mkEnv [(0, .ptr 0 0), (1, vi (a)), (7, vi (iv))]) [.rcells (yk m_lv ++ [.ptr 1 0, .row 2]), .rcells [.row 3], .row 0 (yg : List (Int)) Bool.true, .row 70 (yf : List (List Int)) Bool.true] (roundK (y2p yu y0y) (⟨46, 4⟩ : Cx) (at_ (bodyOf Try.f21) [1, 0, 1, 1, 1, 0, 0, 0]) (contK (y2p yu y0y) (⟨46, 4⟩ : Cx) (bodyOf Try.f21) [1, 0, 1, 1, 1, 0, 0] (retK (y2p yu y0y) Try.f21 4 K)) J1)) = (
    So (yu yf) (fun (y0 : Int) => (br (Decidable.decide (iv < y0)) (So (y0y iv yf) (fun (y1 : Int × yh × Bool) => (br (Decidable.decide (Prod.fst y1 > a)) (K (.tup [vi (0), vi (0), vb (Bool.false)]) [.rcells (yk m_lv ++ [.ptr 1 0, .row 2]), .rcells [.row 3], .row 0 (yg : List (Int)) Bool.true, .row 70 (yf : List (List Int)) Bool.true]) (br (Decidable.decide (IntKind.wrap IntKind.i64 (a - Prod.fst y1) < yh.words (Prod.fst (Prod.snd y1)))) (K (.tup [vi (Prod.fst y1), vi (yh.words (Prod.fst (Prod.snd y1))), vb (Bool.true)]) [.rcells (yk m_lv ++ [.ptr 1 0, .row 2]), .rcells [.row 3], .row 0 (yg : List (Int)) Bool.true, .row 70 (yf : List (List Int)) Bool.true]) (J1 (mkEnv [(0, .ptr 0 0), (1, vi (a)), (7, vi (IntKind.wrap IntKind.i64 (iv + 1)))]) [.rcells (yk m_lv ++ [.ptr 1 0, .row 2]), .rcells [.row 3], .row 0 (yg : List (Int)) Bool.true, .row 70 (yf : List (List Int)) Bool.true]))))) (K (.tup [vi (0), vi (0), vb (Bool.false)]) [.rcells (yk m_lv ++ [.ptr 1 0, .row 2]), .rcells [.row 3], .row 0 (yg : List (Int)) Bool.true, .row 70 (yf : List (List Int)) Bool.true])))) := by
  kernel_rfl
theorem ydd (yu : (List (List Int)) → Option (Int)) (y0y : Int → (List (List Int)) → Option (Int × yh × Bool)) (a : Int) (m_lv : yd) (yg : List Int) (yf : List (List Int)) (K : V → Heap → Prop) : (exF (y2p yu y0y) Try.f21 [.ptr 0 0, vi a] [.rcells (yk m_lv ++ [.ptr 1 0, .row 2]), .rcells [.row 3], .row 0 yg true, .row 70 yf true] K) = (
    Loop (y2p yu y0y) (⟨46, 4⟩ : Cx) (at_ (bodyOf Try.f21) [1, 0, 1, 1, 1, 0, 0, 0]) (mkEnv [(0, .ptr 0 0), (1, vi (a)), (7, vi (0))]) [.rcells (yk m_lv ++ [.ptr 1 0, .row 2]), .rcells [.row 3], .row 0 (yg : List (Int)) Bool.true, .row 70 (yf : List (List Int)) Bool.true] (contK (y2p yu y0y) (⟨46, 4⟩ : Cx) (bodyOf Try.f21) [1, 0, 1, 1, 1, 0, 0] (retK (y2p yu y0y) Try.f21 4 K))) := by
  kernel_rfl
theorem yek (yu : (List (List Int)) → Option (Int)) (y0y : Int → (List (List Int)) → Option (Int × yh × Bool)) (a : Int) (K : V → Heap → Prop) : (exF (y9q yu y0y) Try.f21 [.ext (.pointer none), vi a] [] K) = (
    K (.tup [vi (0), vi (0), vb (Bool.false)]) []) := by
  kernel_rfl
theorem ygd (y04 : Y3) (ym : Y5) (yn : Y2) (y0r : Y5) (yw : Y7) (yq : Int → yd → (List Int) → (List (List Int)) → Option (Int × Int × Bool)) (c : yb) (rv : T_api_Reply) (m_lv : yd) (yg : List Int) (yf : List (List Int)) (t58 : Int) (t59 : Int) (K : V → Heap → Prop) (J1 : Env → Heap → Prop) : (ex (y1t y04 ym yn y0r yw yq) (⟨74, 4⟩ : Cx) (at_ (bodyOf Try.f73) [1, 1, 1, 1, 1, 0, 1, 0, 0]) (mkEnv [(0, .ptr 0 0), (5, .ptr 4 0), (58, vi (t58)), (59, vi (t59))]) [.rcells (yk m_lv ++ [.ptr 1 0, .row 2]), .rcells [.row 3], .row 0 (yg : List (Int)) Bool.true, .row 70 (yf : List (List Int)) Bool.true, .cells 46 (y0l rv)] (roundK (y1t y04 ym yn y0r yw yq) (⟨74, 4⟩ : Cx) (at_ (bodyOf Try.f73) [1, 1, 1, 1, 1, 0, 1, 0, 0]) (contK (y1t y04 ym yn y0r yw yq) (⟨74, 4⟩ : Cx) (bodyOf Try.f73) [1, 1, 1, 1, 1, 0, 1, 0] (retK (y1t y04 ym yn y0r yw yq) Try.f73 4 K)) J1)) = (
    br (Decidable.decide (t59 < t58)) (So (yq (IntKind.wrap IntKind.i64 (T_api_Reply.Addr rv + t59)) m_lv yg yf) (fun (y0 : Int × Int × Bool) => (br (Prod.snd (Prod.snd y0)) (K (vb (Bool.false)) [.rcells (yk m_lv ++ [.ptr 1 0, .row 2]), .rcells [.row 3], .row 0 (yg : List (Int)) Bool.true, .row 70 (yf : List (List Int)) Bool.true]) (J1 (mkEnv [(0, .ptr 0 0), (5, .ptr 4 0), (58, vi (t58)), (59, vi (IntKind.wrap IntKind.i64 (t59 + 1)))]) [.rcells (yk m_lv ++ [.ptr 1 0, .row 2]), .rcells [.row 3], .row 0 (yg : List (Int)) Bool.true, .row 70 (yf : List (List Int)) Bool.true, .cells 46 (y0l rv)])))) (K (vb (Bool.true)) [.rcells (yk m_lv ++ [.ptr 1 0, .row 2]), .rcells [.row 3], .row 0 (yg : List (Int)) Bool.true, .row 70 (yf : List (List Int)) Bool.true])) := by
  kernel_rfl
theorem yco (y04 : Y3) (ym : Y5) (yn : Y2) (y0r : Y5) (yw : Y7) (yq : Int → yd → (List Int) → (List (List Int)) → Option (Int × Int × Bool)) (c : yb) (rv : T_api_Reply) (m_lv : yd) (yg : List Int) (yf : List (List Int)) (K : V → Heap → Prop) : (exF (y1t y04 ym yn y0r yw yq) Try.f73 [.ptr 0 0, .agg (y0u c), .agg (y0l rv)] [.rcells (yk m_lv ++ [.ptr 1 0, .row 2]), .rcells [.row 3], .row 0 yg true, .row 70 yf true] K) = (
    br (yb.Kind c == 5) (So (y04 (yb.Size c) (yb.Align c)) (fun (y0 : Int) => (br (!(T_api_Reply.Err rv == 0 && (T_api_Reply.Addr rv == T_api_Reply.Addr rv && (T_api_Reply.Size rv == y0 && (T_api_Reply.Value rv == 0 && (ya.Blocks (T_api_Reply.Stats rv) == 0 && (ya.Asked (T_api_Reply.Stats rv) == 0 && (ya.Words (T_api_Reply.Stats rv) == 0 && (ya.Kept (T_api_Reply.Stats rv) == 0 && (ya.Open (T_api_Reply.Stats rv) == 0 && (ya.Mapped (T_api_Reply.Stats rv) == 0 && (ya.Used (T_api_Reply.Stats rv) == 0 && Bool.true)))))) && Bool.true)))))) (K (vb (Bool.false)) [.rcells (yk m_lv ++ [.ptr 1 0, .row 2]), .rcells [.row 3], .row 0 (yg : List (Int)) Bool.true, .row 70 (yf : List (List Int)) Bool.true]) (br (y0 == 0) (K (vb (Bool.false)) [.rcells (yk m_lv ++ [.ptr 1 0, .row 2]), .rcells [.row 3], .row 0 (yg : List (Int)) Bool.true, .row 70 (yf : List (List Int)) Bool.true]) (Req (!yb.Align c == 0) (br (Int.tmod (T_api_Reply.Addr rv) (yb.Align c) != 0) (K (vb (Bool.false)) [.rcells (yk m_lv ++ [.ptr 1 0, .row 2]), .rcells [.row 3], .row 0 (yg : List (Int)) Bool.true, .row 70 (yf : List (List Int)) Bool.true]) (So (yn m_lv (T_api_Reply.Addr rv)) (fun (y1 : Int × Int × Bool) => (br (!Prod.snd (Prod.snd y1)) (K (vb (Bool.false)) [.rcells (yk m_lv ++ [.ptr 1 0, .row 2]), .rcells [.row 3], .row 0 (yg : List (Int)) Bool.true, .row 70 (yf : List (List Int)) Bool.true]) (So (ym m_lv) (fun (y2 : Int) => (Req (inR (IntKind.wrap IntKind.i64 (T_api_Reply.Addr rv - y2)) (List.length yg)) (So (y0r m_lv) (fun (y3 : Int) => (br (Decidable.decide (y0 > IntKind.wrap IntKind.i64 (y3 - T_api_Reply.Addr rv))) (K (vb (Bool.false)) [.rcells (yk m_lv ++ [.ptr 1 0, .row 2]), .rcells [.row 3], .row 0 (yg : List (Int)) Bool.true, .row 70 (yf : List (List Int)) Bool.true]) (Loop (y1t y04 ym yn y0r yw yq) (⟨74, 4⟩ : Cx) (at_ (bodyOf Try.f73) [1, 1, 1, 1, 1, 0, 1, 0, 0]) (mkEnv [(0, .ptr 0 0), (5, .ptr 4 0), (58, vi (y0)), (59, vi (0))]) [.rcells (yk m_lv ++ [.ptr 1 0, .row 2]), .rcells [.row 3], .row 0 (yg : List (Int)) Bool.true, .row 70 (yf : List (List Int)) Bool.true, .cells 46 (y0l rv)] (contK (y1t y04 ym yn y0r yw yq) (⟨74, 4⟩ : Cx) (bodyOf Try.f73) [1, 1, 1, 1, 1, 0, 1, 0] (retK (y1t y04 ym yn y0r yw yq) Try.f73 4 K)))))))))))))))))) (So (y04 (yb.Size c) 1) (fun (y4 : Int) => (br (!(T_api_Reply.Err rv == 0 && (T_api_Reply.Addr rv == T_api_Reply.Addr rv && (T_api_Reply.Size rv == y4 && (T_api_Reply.Value rv == 0 && (ya.Blocks (T_api_Reply.Stats rv) == 0 && (ya.Asked (T_api_Reply.Stats rv) == 0 && (ya.Words (T_api_Reply.Stats rv) == 0 && (ya.Kept (T_api_Reply.Stats rv) == 0 && (ya.Open (T_api_Reply.Stats rv) == 0 && (ya.Mapped (T_api_Reply.Stats rv) == 0 && (ya.Used (T_api_Reply.Stats rv) == 0 && Bool.true)))))) && Bool.true)))))) (K (vb (Bool.false)) [.rcells (yk m_lv ++ [.ptr 1 0, .row 2]), .rcells [.row 3], .row 0 (yg : List (Int)) Bool.true, .row 70 (yf : List (List Int)) Bool.true]) (br (y4 == 0) (K (vb (Bool.false)) [.rcells (yk m_lv ++ [.ptr 1 0, .row 2]), .rcells [.row 3], .row 0 (yg : List (Int)) Bool.true, .row 70 (yf : List (List Int)) Bool.true]) (br (Int.tmod (T_api_Reply.Addr rv) 1 != 0) (K (vb (Bool.false)) [.rcells (yk m_lv ++ [.ptr 1 0, .row 2]), .rcells [.row 3], .row 0 (yg : List (Int)) Bool.true, .row 70 (yf : List (List Int)) Bool.true]) (So (yn m_lv (T_api_Reply.Addr rv)) (fun (y5 : Int × Int × Bool) => (br (!Prod.snd (Prod.snd y5)) (K (vb (Bool.false)) [.rcells (yk m_lv ++ [.ptr 1 0, .row 2]), .rcells [.row 3], .row 0 (yg : List (Int)) Bool.true, .row 70 (yf : List (List Int)) Bool.true]) (So (ym m_lv) (fun (y6 : Int) => (Req (inR (IntKind.wrap IntKind.i64 (T_api_Reply.Addr rv - y6)) (List.length yg)) (So (y0r m_lv) (fun (y7 : Int) => (br (Decidable.decide (y4 > IntKind.wrap IntKind.i64 (y7 - T_api_Reply.Addr rv))) (K (vb (Bool.false)) [.rcells (yk m_lv ++ [.ptr 1 0, .row 2]), .rcells [.row 3], .row 0 (yg : List (Int)) Bool.true, .row 70 (yf : List (List Int)) Bool.true]) (Loop (y1t y04 ym yn y0r yw yq) (⟨74, 4⟩ : Cx) (at_ (bodyOf Try.f73) [1, 1, 1, 1, 1, 0, 1, 0, 0]) (mkEnv [(0, .ptr 0 0), (5, .ptr 4 0), (58, vi (y4)), (59, vi (0))]) [.rcells (yk m_lv ++ [.ptr 1 0, .row 2]), .rcells [.row 3], .row 0 (yg : List (Int)) Bool.true, .row 70 (yf : List (List Int)) Bool.true, .cells 46 (y0l rv)] (contK (y1t y04 ym yn y0r yw yq) (⟨74, 4⟩ : Cx) (bodyOf Try.f73) [1, 1, 1, 1, 1, 0, 1, 0] (retK (y1t y04 ym yn y0r yw yq) Try.f73 4 K)))))))))))))))))) := by
  kernel_rfl
theorem ycg (y18 : yb → T_api_Reply → yd → (List Int) → (List (List Int)) → Option (Bool)) (y07 : Int → yh → (List (List Int)) → Option (Bool × (List (List Int)))) (ym : Y5) (yn : Y2) (c : yb) (rv : T_api_Reply) (m_lv : yd) (yg : List Int) (yf : List (List Int)) (U : TypeId) (t35 : Int) (y0n : List Int) (w : List (List Int)) (K : V → Heap → Prop) (J1 : Env → Heap → Prop) : (ex (y2w y18 y07 ym yn) (⟨46, 4⟩ : Cx) (at_ (bodyOf Try.f36) [1, 1, 1, 0, 1, 0, 1, 0, 0]) (mkEnv [(0, .ptr 0 0), (5, .ptr 4 0), (34, vi (Go.Rx.T_api_Reply.Size rv)), (35, vi (t35))]) [.rcells (yk m_lv ++ [.ptr 1 0, .row 2]), .cells U [.row 5], .row 0 (y0n : List (Int)) Bool.false, .dead, .cells 46 (y0l rv), .row 70 (w : List (List Int)) Bool.false] (roundK (y2w y18 y07 ym yn) (⟨46, 4⟩ : Cx) (at_ (bodyOf Try.f36) [1, 1, 1, 0, 1, 0, 1, 0, 0]) (contK (y2w y18 y07 ym yn) (⟨46, 4⟩ : Cx) (bodyOf Try.f36) [1, 1, 1, 0, 1, 0, 1, 0] (retW (y2w y18 y07 ym yn) wk_model_Model_fresh Try.f36 4 K)) J1)) = (
    br (Decidable.decide (t35 < T_api_Reply.Size rv)) (So (yn m_lv (IntKind.wrap IntKind.i64 (T_api_Reply.Addr rv + t35))) (fun (y0 : Int × Int × Bool) => (br (!Prod.snd (Prod.snd y0)) (False) (So (ym m_lv) (fun (y1 : Int) => (Req (inR (IntKind.wrap IntKind.i64 (IntKind.wrap IntKind.i64 (T_api_Reply.Addr rv + t35) - y1)) (List.length y0n)) (Req (inR (offs (IntKind.wrap IntKind.i64 (IntKind.wrap IntKind.i64 (T_api_Reply.Addr rv + t35) - y1)) 0) (List.length y0n)) (J1 (mkEnv [(0, .ptr 0 0), (5, .ptr 4 0), (34, vi (T_api_Reply.Size rv)), (35, vi (IntKind.wrap IntKind.i64 (t35 + 1)))]) [.rcells (yk m_lv ++ [.ptr 1 0, .row 2]), .cells U [.row 5], .row 0 (List.set y0n (Int.toNat (offs (IntKind.wrap IntKind.i64 (IntKind.wrap IntKind.i64 (T_api_Reply.Addr rv + t35) - y1)) 0)) 0 : List (Int)) Bool.false, .dead, .cells 46 (y0l rv), .row 70 (w : List (List Int)) Bool.false])))))))) (K (vb (Bool.true)) [.rcells (yk m_lv ++ [.ptr 1 0, .row 2]), .cells U [.row 4], .row 0 (y0n : List (Int)) Bool.false, .dead, .row 70 (w : List (List Int)) Bool.false])) := by
  kernel_rfl
theorem yew (y18 : yb → T_api_Reply → yd → (List Int) → (List (List Int)) → Option (Bool)) (y07 : Int → yh → (List (List Int)) → Option (Bool × (List (List Int)))) (ym : Y5) (yn : Y2) (c : yb) (rv : T_api_Reply) (m_lv : yd) (yg : List Int) (yf : List (List Int)) (U : TypeId) (K : V → Heap → Prop) : (exFW (y2w y18 y07 ym yn) [] wk_model_Model_fresh Try.f36 [.ptr 0 0, .agg (y0u c), .agg (y0l rv)] [.rcells (yk m_lv ++ [.ptr 1 0, .row 2]), .cells U [.row 3], .row 0 yg false, .row 70 yf false] K) = (
    br (T_api_Reply.Err rv == 6 && (T_api_Reply.Addr rv == 0 && (T_api_Reply.Size rv == 0 && (T_api_Reply.Value rv == 0 && (ya.Blocks (T_api_Reply.Stats rv) == 0 && (ya.Asked (T_api_Reply.Stats rv) == 0 && (ya.Words (T_api_Reply.Stats rv) == 0 && (ya.Kept (T_api_Reply.Stats rv) == 0 && (ya.Open (T_api_Reply.Stats rv) == 0 && (ya.Mapped (T_api_Reply.Stats rv) == 0 && (ya.Used (T_api_Reply.Stats rv) == 0 && Bool.true)))))) && Bool.true))))) (K (vb (Bool.true)) [.rcells (yk m_lv ++ [.ptr 1 0, .row 2]), .cells U [.row 4], .row 0 (yg : List (Int)) Bool.false, .dead, .row 70 (yf : List (List Int)) Bool.false]) (So (y18 c rv m_lv yg yf) (fun (y0 : Bool) => (br (!y0) (K (vb (Bool.false)) [.rcells (yk m_lv ++ [.ptr 1 0, .row 2]), .cells U [.row 4], .row 0 (yg : List (Int)) Bool.false, .dead, .row 70 (yf : List (List Int)) Bool.false]) (So (y07 (T_api_Reply.Addr rv) (yh.mk (yb.Size c) (T_api_Reply.Size rv)) yf) (fun (y1 : Bool × List (List Int)) => (br (yb.Kind c == 3) (Loop (y2w y18 y07 ym yn) (⟨46, 4⟩ : Cx) (at_ (bodyOf Try.f36) [1, 1, 1, 0, 1, 0, 1, 0, 0]) (mkEnv [(0, .ptr 0 0), (5, .ptr 4 0), (34, vi (T_api_Reply.Size rv)), (35, vi (0))]) [.rcells (yk m_lv ++ [.ptr 1 0, .row 2]), .cells U [.row 5], .row 0 (yg : List (Int)) Bool.false, .dead, .cells 46 (y0l rv), .row 70 (Prod.snd y1 : List (List Int)) Bool.false] (contK (y2w y18 y07 ym yn) (⟨46, 4⟩ : Cx) (bodyOf Try.f36) [1, 1, 1, 0, 1, 0, 1, 0] (retW (y2w y18 y07 ym yn) wk_model_Model_fresh Try.f36 4 K))) (K (vb (Bool.true)) [.rcells (yk m_lv ++ [.ptr 1 0, .row 2]), .cells U [.row 4], .row 0 (yg : List (Int)) Bool.false, .dead, .row 70 (Prod.snd y1 : List (List Int)) Bool.false])))))))) := by
  kernel_rfl
theorem yfz (y0h : Int → (List (List Int)) → Option (yh × Bool)) (y05 : Y11) (y04 : Y3) (y07 : Int → yh → (List (List Int)) → Option (Bool × (List (List Int)))) (y0c : yb → T_api_Reply → yd → (List Int) → (List (List Int)) → Option (Bool × (List (List Int)) × (List Int))) (ym : Y5) (yn : Y2) (yx : Y1) (yr : Int → yd → (List Int) → (List (List Int)) → Option (Int)) (y0m : Int → (List (List Int)) → Option (Bool × (List (List Int)))) (c : yb) (rv : T_api_Reply) (m_lv : yd) (yg : List Int) (yf : List (List Int)) (U : TypeId) (t68 : Int) (t69 : Int) (y0n : List Int) (w : List (List Int)) (K : V → Heap → Prop) (J1 : Env → Heap → Prop) : (ex (y1y y0h y05 y04 y07 y0c ym yn yx yr y0m) (⟨93, 4⟩ : Cx) (at_ (bodyOf Try.f37) [1, 1, 1, 0, 1, 0, 0]) (mkEnv [(0, .ptr 0 0), (4, .ptr 4 0), (5, .ptr 5 0), (68, vi (t68)), (69, vi (t69))]) [.rcells (yk m_lv ++ [.ptr 1 0, .row 2]), .cells U [.row 6], .row 0 (y0n : List (Int)) Bool.false, .dead, .cells 42 (y0u c), .cells 46 (y0l rv), .row 70 (w : List (List Int)) Bool.false] (roundK (y1y y0h y05 y04 y07 y0c ym yn yx yr y0m) (⟨93, 4⟩ : Cx) (at_ (bodyOf Try.f37) [1, 1, 1, 0, 1, 0, 0]) (contK (y1y y0h y05 y04 y07 y0c ym yn yx yr y0m) (⟨93, 4⟩ : Cx) (bodyOf Try.f37) [1, 1, 1, 0, 1, 0] (retW (y1y y0h y05 y04 y07 y0c ym yn yx yr y0m) wk_model_Model_again Try.f37 4 K)) J1)) = (
    br (Decidable.decide (t69 < t68)) (So (yn m_lv (IntKind.wrap IntKind.i64 (T_api_Reply.Addr rv + t69))) (fun (y0 : Int × Int × Bool) => (br (!Prod.snd (Prod.snd y0)) (So (yr (IntKind.wrap IntKind.i64 (yb.Addr c + t69)) m_lv y0n w) (fun (y1 : Int) => (False))) (So (ym m_lv) (fun (y2 : Int) => (Req (inR (IntKind.wrap IntKind.i64 (IntKind.wrap IntKind.i64 (T_api_Reply.Addr rv + t69) - y2)) (List.length y0n)) (So (yr (IntKind.wrap IntKind.i64 (yb.Addr c + t69)) m_lv y0n w) (fun (y3 : Int) => (Req (inR (offs (IntKind.wrap IntKind.i64 (IntKind.wrap IntKind.i64 (T_api_Reply.Addr rv + t69) - y2)) 0) (List.length y0n)) (J1 (mkEnv [(0, .ptr 0 0), (4, .ptr 4 0), (5, .ptr 5 0), (68, vi (t68)), (69, vi (IntKind.wrap IntKind.i64 (t69 + 1)))]) [.rcells (yk m_lv ++ [.ptr 1 0, .row 2]), .cells U [.row 6], .row 0 (List.set y0n (Int.toNat (offs (IntKind.wrap IntKind.i64 (IntKind.wrap IntKind.i64 (T_api_Reply.Addr rv + t69) - y2)) 0)) y3 : List (Int)) Bool.false, .dead, .cells 42 (y0u c), .cells 46 (y0l rv), .row 70 (w : List (List Int)) Bool.false])))))))))) (So (y0m (yb.Addr c) w) (fun (y4 : Bool × List (List Int)) => (K (vb (Bool.true)) [.rcells (yk m_lv ++ [.ptr 1 0, .row 2]), .cells U [.row 4], .row 0 (y0n : List (Int)) Bool.false, .dead, .row 70 (Prod.snd y4 : List (List Int)) Bool.false])))) := by
  kernel_rfl
theorem yeu (y0h : Int → (List (List Int)) → Option (yh × Bool)) (y05 : Y11) (y04 : Y3) (y07 : Int → yh → (List (List Int)) → Option (Bool × (List (List Int)))) (y0c : yb → T_api_Reply → yd → (List Int) → (List (List Int)) → Option (Bool × (List (List Int)) × (List Int))) (ym : Y5) (yn : Y2) (yx : Y1) (yr : Int → yd → (List Int) → (List (List Int)) → Option (Int)) (y0m : Int → (List (List Int)) → Option (Bool × (List (List Int)))) (c : yb) (rv : T_api_Reply) (m_lv : yd) (yg : List Int) (yf : List (List Int)) (U : TypeId) (K : V → Heap → Prop) : (exFW (y1y y0h y05 y04 y07 y0c ym yn yx yr y0m) [] wk_model_Model_again Try.f37 [.ptr 0 0, .agg (y0u c), .agg (y0l rv)] [.rcells (yk m_lv ++ [.ptr 1 0, .row 2]), .cells U [.row 3], .row 0 yg false, .row 70 yf false] K) = (
    ((So (y0h (yb.Addr c) yf) (fun (y0 : yh × Bool) => (br (!Prod.snd y0) (So (y05 rv) (fun (y1 : Bool) => (K (vb (y1)) [.rcells (yk m_lv ++ [.ptr 1 0, .row 2]), .cells U [.row 4], .row 0 (yg : List (Int)) Bool.false, .dead, .row 70 (yf : List (List Int)) Bool.false]))) (So (y04 (yb.Size c) 1) (fun (y2 : Int) => (br (y2 == yh.words (Prod.fst y0)) (br (T_api_Reply.Err rv == 0 && (T_api_Reply.Addr rv == yb.Addr c && (T_api_Reply.Size rv == yh.words (Prod.fst y0) && (T_api_Reply.Value rv == 0 && (ya.Blocks (T_api_Reply.Stats rv) == 0 && (ya.Asked (T_api_Reply.Stats rv) == 0 && (ya.Words (T_api_Reply.Stats rv) == 0 && (ya.Kept (T_api_Reply.Stats rv) == 0 && (ya.Open (T_api_Reply.Stats rv) == 0 && (ya.Mapped (T_api_Reply.Stats rv) == 0 && (ya.Used (T_api_Reply.Stats rv) == 0 && Bool.true)))))) && Bool.true))))) (So (y07 (yb.Addr c) (yh.mk (yb.Size c) (yh.words (Prod.fst y0))) yf) (fun (y3 : Bool × List (List Int)) => (K (vb (T_api_Reply.Err rv == 0 && (T_api_Reply.Addr rv == yb.Addr c && (T_api_Reply.Size rv == yh.words (Prod.fst y0) && (T_api_Reply.Value rv == 0 && (ya.Blocks (T_api_Reply.Stats rv) == 0 && (ya.Asked (T_api_Reply.Stats rv) == 0 && (ya.Words (T_api_Reply.Stats rv) == 0 && (ya.Kept (T_api_Reply.Stats rv) == 0 && (ya.Open (T_api_Reply.Stats rv) == 0 && (ya.Mapped (T_api_Reply.Stats rv) == 0 && (ya.Used (T_api_Reply.Stats rv) == 0 && Bool.true)))))) && Bool.true)))))) [.rcells (yk m_lv ++ [.ptr 1 0, .row 2]), .cells U [.row 4], .row 0 (yg : List (Int)) Bool.false, .dead, .row 70 (Prod.snd y3 : List (List Int)) Bool.false]))) (K (vb (T_api_Reply.Err rv == 0 && (T_api_Reply.Addr rv == yb.Addr c && (T_api_Reply.Size rv == yh.words (Prod.fst y0) && (T_api_Reply.Value rv == 0 && (ya.Blocks (T_api_Reply.Stats rv) == 0 && (ya.Asked (T_api_Reply.Stats rv) == 0 && (ya.Words (T_api_Reply.Stats rv) == 0 && (ya.Kept (T_api_Reply.Stats rv) == 0 && (ya.Open (T_api_Reply.Stats rv) == 0 && (ya.Mapped (T_api_Reply.Stats rv) == 0 && (ya.Used (T_api_Reply.Stats rv) == 0 && Bool.true)))))) && Bool.true)))))) [.rcells (yk m_lv ++ [.ptr 1 0, .row 2]), .cells U [.row 4], .row 0 (yg : List (Int)) Bool.false, .dead, .row 70 (yf : List (List Int)) Bool.false])) (So (y0c c rv m_lv yg yf) (fun (y4 : Bool × List (List Int) × List Int) => (br (!Prod.fst y4) (K (vb (Bool.false)) [.rcells (yk m_lv ++ [.ptr 1 0, .row 2]), .cells U [.row 4], .row 0 (Prod.snd (Prod.snd y4) : List (Int)) Bool.false, .dead, .row 70 (Prod.fst (Prod.snd y4) : List (List Int)) Bool.false]) (br (T_api_Reply.Err rv != 0) (K (vb (Bool.true)) [.rcells (yk m_lv ++ [.ptr 1 0, .row 2]), .cells U [.row 4], .row 0 (Prod.snd (Prod.snd y4) : List (Int)) Bool.false, .dead, .row 70 (Prod.fst (Prod.snd y4) : List (List Int)) Bool.false]) (Loop (y1y y0h y05 y04 y07 y0c ym yn yx yr y0m) (⟨93, 4⟩ : Cx) (at_ (bodyOf Try.f37) [1, 1, 1, 0, 1, 0, 0]) (mkEnv [(0, .ptr 0 0), (4, .ptr 4 0), (5, .ptr 5 0), (68, vi (if yb.Size c < yh.asked (Prod.fst y0) then yb.Size c else yh.asked (Prod.fst y0))), (69, vi (0))]) [.rcells (yk m_lv ++ [.ptr 1 0, .row 2]), .cells U [.row 6], .row 0 (Prod.snd (Prod.snd y4) : List (Int)) Bool.false, .dead, .cells 42 (y0u c), .cells 46 (y0l rv), .row 70 (Prod.fst (Prod.snd y4) : List (List Int)) Bool.false] (contK (y1y y0h y05 y04 y07 y0c ym yn yx yr y0m) (⟨93, 4⟩ : Cx) (bodyOf Try.f37) [1, 1, 1, 0, 1, 0] (retW (y1y y0h y05 y04 y07 y0c ym yn yx yr y0m) wk_model_Model_again Try.f37 4 K))))))))))))) ∧ (So (y0h (yb.Addr c) yf) (fun (y5 : yh × Bool) => (br (!Prod.snd y5) (So (y05 rv) (fun (y6 : Bool) => (K (vb (y6)) [.rcells (yk m_lv ++ [.ptr 1 0, .row 2]), .cells U [.row 4], .row 0 (yg : List (Int)) Bool.false, .dead, .row 70 (yf : List (List Int)) Bool.false]))) (So (y04 (yb.Size c) 1) (fun (y7 : Int) => (br (y7 == yh.words (Prod.fst y5)) (br (T_api_Reply.Err rv == 0 && (T_api_Reply.Addr rv == yb.Addr c && (T_api_Reply.Size rv == yh.words (Prod.fst y5) && (T_api_Reply.Value rv == 0 && (ya.Blocks (T_api_Reply.Stats rv) == 0 && (ya.Asked (T_api_Reply.Stats rv) == 0 && (ya.Words (T_api_Reply.Stats rv) == 0 && (ya.Kept (T_api_Reply.Stats rv) == 0 && (ya.Open (T_api_Reply.Stats rv) == 0 && (ya.Mapped (T_api_Reply.Stats rv) == 0 && (ya.Used (T_api_Reply.Stats rv) == 0 && Bool.true)))))) && Bool.true))))) (So (y07 (yb.Addr c) (yh.mk (yb.Size c) (yh.words (Prod.fst y5))) yf) (fun (y8 : Bool × List (List Int)) => (K (vb (T_api_Reply.Err rv == 0 && (T_api_Reply.Addr rv == yb.Addr c && (T_api_Reply.Size rv == yh.words (Prod.fst y5) && (T_api_Reply.Value rv == 0 && (ya.Blocks (T_api_Reply.Stats rv) == 0 && (ya.Asked (T_api_Reply.Stats rv) == 0 && (ya.Words (T_api_Reply.Stats rv) == 0 && (ya.Kept (T_api_Reply.Stats rv) == 0 && (ya.Open (T_api_Reply.Stats rv) == 0 && (ya.Mapped (T_api_Reply.Stats rv) == 0 && (ya.Used (T_api_Reply.Stats rv) == 0 && Bool.true)))))) && Bool.true)))))) [.rcells (yk m_lv ++ [.ptr 1 0, .row 2]), .cells U [.row 4], .row 0 (yg : List (Int)) Bool.false, .dead, .row 70 (Prod.snd y8 : List (List Int)) Bool.false]))) (K (vb (T_api_Reply.Err rv == 0 && (T_api_Reply.Addr rv == yb.Addr c && (T_api_Reply.Size rv == yh.words (Prod.fst y5) && (T_api_Reply.Value rv == 0 && (ya.Blocks (T_api_Reply.Stats rv) == 0 && (ya.Asked (T_api_Reply.Stats rv) == 0 && (ya.Words (T_api_Reply.Stats rv) == 0 && (ya.Kept (T_api_Reply.Stats rv) == 0 && (ya.Open (T_api_Reply.Stats rv) == 0 && (ya.Mapped (T_api_Reply.Stats rv) == 0 && (ya.Used (T_api_Reply.Stats rv) == 0 && Bool.true)))))) && Bool.true)))))) [.rcells (yk m_lv ++ [.ptr 1 0, .row 2]), .cells U [.row 4], .row 0 (yg : List (Int)) Bool.false, .dead, .row 70 (yf : List (List Int)) Bool.false])) (So (y0c c rv m_lv yg yf) (fun (y9 : Bool × List (List Int) × List Int) => (br (!Prod.fst y9) (K (vb (Bool.false)) [.rcells (yk m_lv ++ [.ptr 1 0, .row 2]), .cells U [.row 4], .row 0 (Prod.snd (Prod.snd y9) : List (Int)) Bool.false, .dead, .row 70 (Prod.fst (Prod.snd y9) : List (List Int)) Bool.false]) (br (T_api_Reply.Err rv != 0) (K (vb (Bool.true)) [.rcells (yk m_lv ++ [.ptr 1 0, .row 2]), .cells U [.row 4], .row 0 (Prod.snd (Prod.snd y9) : List (Int)) Bool.false, .dead, .row 70 (Prod.fst (Prod.snd y9) : List (List Int)) Bool.false]) (Loop (y1y y0h y05 y04 y07 y0c ym yn yx yr y0m) (⟨93, 4⟩ : Cx) (at_ (bodyOf Try.f37) [1, 1, 1, 0, 1, 0, 0]) (mkEnv [(0, .ptr 0 0), (4, .ptr 4 0), (5, .ptr 5 0), (68, vi (if yb.Size c < yh.asked (Prod.fst y5) then yb.Size c else yh.asked (Prod.fst y5))), (69, vi (0))]) [.rcells (yk m_lv ++ [.ptr 1 0, .row 2]), .cells U [.row 6], .row 0 (Prod.snd (Prod.snd y9) : List (Int)) Bool.false, .dead, .cells 42 (y0u c), .cells 46 (y0l rv), .row 70 (Prod.fst (Prod.snd y9) : List (List Int)) Bool.false] (contK (y1y y0h y05 y04 y07 y0c ym yn yx yr y0m) (⟨93, 4⟩ : Cx) (bodyOf Try.f37) [1, 1, 1, 0, 1, 0] (retW (y1y y0h y05 y04 y07 y0c ym yn yx yr y0m) wk_model_Model_again Try.f37 4 K))))))))))))))) := by
  kernel_rfl
theorem ycn (y0h : Int → (List (List Int)) → Option (yh × Bool)) (y05 : Y11) (y0m : Int → (List (List Int)) → Option (Bool × (List (List Int)))) (c : yb) (rv : T_api_Reply) (m_lv : yd) (yg : List Int) (yf : List (List Int)) (U : TypeId) (K : V → Heap → Prop) : (exFW (y9a y0h y05 y0m) [] wk_model_Model_free Try.f38 [.ptr 0 0, .agg (y0u c), .agg (y0l rv)] [.rcells (yk m_lv ++ [.ptr 1 0, .row 2]), .cells U [.row 3], .row 0 yg true, .row 70 yf false] K) = (
    ((So (y0h (yb.Addr c) yf) (fun (y0 : yh × Bool) => (br (!Prod.snd y0) (br (yb.Addr c != 0) (So (y05 rv) (fun (y1 : Bool) => (K (vb (y1)) [.rcells (yk m_lv ++ [.ptr 1 0, .row 2]), .cells U [.row 4], .row 0 (yg : List (Int)) Bool.true, .dead, .row 70 (yf : List (List Int)) Bool.false]))) (br (!(T_api_Reply.Err rv == 0 && (T_api_Reply.Addr rv == 0 && (T_api_Reply.Size rv == 0 && (T_api_Reply.Value rv == 0 && (ya.Blocks (T_api_Reply.Stats rv) == 0 && (ya.Asked (T_api_Reply.Stats rv) == 0 && (ya.Words (T_api_Reply.Stats rv) == 0 && (ya.Kept (T_api_Reply.Stats rv) == 0 && (ya.Open (T_api_Reply.Stats rv) == 0 && (ya.Mapped (T_api_Reply.Stats rv) == 0 && (ya.Used (T_api_Reply.Stats rv) == 0 && Bool.true)))))) && Bool.true)))))) (K (vb (Bool.false)) [.rcells (yk m_lv ++ [.ptr 1 0, .row 2]), .cells U [.row 4], .row 0 (yg : List (Int)) Bool.true, .dead, .row 70 (yf : List (List Int)) Bool.false]) (So (y0m (yb.Addr c) yf) (fun (y2 : Bool × List (List Int)) => (K (vb (Bool.true)) [.rcells (yk m_lv ++ [.ptr 1 0, .row 2]), .cells U [.row 4], .row 0 (yg : List (Int)) Bool.true, .dead, .row 70 (Prod.snd y2 : List (List Int)) Bool.false]))))) (br (!(T_api_Reply.Err rv == 0 && (T_api_Reply.Addr rv == 0 && (T_api_Reply.Size rv == 0 && (T_api_Reply.Value rv == 0 && (ya.Blocks (T_api_Reply.Stats rv) == 0 && (ya.Asked (T_api_Reply.Stats rv) == 0 && (ya.Words (T_api_Reply.Stats rv) == 0 && (ya.Kept (T_api_Reply.Stats rv) == 0 && (ya.Open (T_api_Reply.Stats rv) == 0 && (ya.Mapped (T_api_Reply.Stats rv) == 0 && (ya.Used (T_api_Reply.Stats rv) == 0 && Bool.true)))))) && Bool.true)))))) (K (vb (Bool.false)) [.rcells (yk m_lv ++ [.ptr 1 0, .row 2]), .cells U [.row 4], .row 0 (yg : List (Int)) Bool.true, .dead, .row 70 (yf : List (List Int)) Bool.false]) (So (y0m (yb.Addr c) yf) (fun (y3 : Bool × List (List Int)) => (K (vb (Bool.true)) [.rcells (yk m_lv ++ [.ptr 1 0, .row 2]), .cells U [.row 4], .row 0 (yg : List (Int)) Bool.true, .dead, .row 70 (Prod.snd y3 : List (List Int)) Bool.false]))))))) ∧ (So (y0h (yb.Addr c) yf) (fun (y4 : yh × Bool) => (br (!Prod.snd y4) (br (yb.Addr c != 0) (So (y05 rv) (fun (y5 : Bool) => (K (vb (y5)) [.rcells (yk m_lv ++ [.ptr 1 0, .row 2]), .cells U [.row 4], .row 0 (yg : List (Int)) Bool.true, .dead, .row 70 (yf : List (List Int)) Bool.false]))) (br (!(T_api_Reply.Err rv == 0 && (T_api_Reply.Addr rv == 0 && (T_api_Reply.Size rv == 0 && (T_api_Reply.Value rv == 0 && (ya.Blocks (T_api_Reply.Stats rv) == 0 && (ya.Asked (T_api_Reply.Stats rv) == 0 && (ya.Words (T_api_Reply.Stats rv) == 0 && (ya.Kept (T_api_Reply.Stats rv) == 0 && (ya.Open (T_api_Reply.Stats rv) == 0 && (ya.Mapped (T_api_Reply.Stats rv) == 0 && (ya.Used (T_api_Reply.Stats rv) == 0 && Bool.true)))))) && Bool.true)))))) (K (vb (Bool.false)) [.rcells (yk m_lv ++ [.ptr 1 0, .row 2]), .cells U [.row 4], .row 0 (yg : List (Int)) Bool.true, .dead, .row 70 (yf : List (List Int)) Bool.false]) (So (y0m (yb.Addr c) yf) (fun (y6 : Bool × List (List Int)) => (K (vb (Bool.true)) [.rcells (yk m_lv ++ [.ptr 1 0, .row 2]), .cells U [.row 4], .row 0 (yg : List (Int)) Bool.true, .dead, .row 70 (Prod.snd y6 : List (List Int)) Bool.false]))))) (br (!(T_api_Reply.Err rv == 0 && (T_api_Reply.Addr rv == 0 && (T_api_Reply.Size rv == 0 && (T_api_Reply.Value rv == 0 && (ya.Blocks (T_api_Reply.Stats rv) == 0 && (ya.Asked (T_api_Reply.Stats rv) == 0 && (ya.Words (T_api_Reply.Stats rv) == 0 && (ya.Kept (T_api_Reply.Stats rv) == 0 && (ya.Open (T_api_Reply.Stats rv) == 0 && (ya.Mapped (T_api_Reply.Stats rv) == 0 && (ya.Used (T_api_Reply.Stats rv) == 0 && Bool.true)))))) && Bool.true)))))) (K (vb (Bool.false)) [.rcells (yk m_lv ++ [.ptr 1 0, .row 2]), .cells U [.row 4], .row 0 (yg : List (Int)) Bool.true, .dead, .row 70 (yf : List (List Int)) Bool.false]) (So (y0m (yb.Addr c) yf) (fun (y7 : Bool × List (List Int)) => (K (vb (Bool.true)) [.rcells (yk m_lv ++ [.ptr 1 0, .row 2]), .cells U [.row 4], .row 0 (yg : List (Int)) Bool.true, .dead, .row 70 (Prod.snd y7 : List (List Int)) Bool.false]))))))))) := by
  kernel_rfl
theorem ycs (y0h : Int → (List (List Int)) → Option (yh × Bool)) (y05 : Y11) (c : yb) (rv : T_api_Reply) (m_lv : yd) (yg : List Int) (yf : List (List Int)) (K : V → Heap → Prop) : (exF (yau y0h y05) Try.f39 [.ptr 0 0, .agg (y0u c), .agg (y0l rv)] [.rcells (yk m_lv ++ [.ptr 1 0, .row 2]), .rcells [.row 3], .row 0 yg true, .row 70 yf true] K) = (
    ((So (y0h (yb.Addr c) yf) (fun (y0 : yh × Bool) => (br (!Prod.snd y0) (So (y05 rv) (fun (y1 : Bool) => (K (vb (y1)) [.rcells (yk m_lv ++ [.ptr 1 0, .row 2]), .rcells [.row 3], .row 0 (yg : List (Int)) Bool.true, .row 70 (yf : List (List Int)) Bool.true]))) (K (vb (T_api_Reply.Err rv == 0 && (T_api_Reply.Addr rv == 0 && (T_api_Reply.Size rv == yh.words (Prod.fst y0) && (T_api_Reply.Value rv == 0 && (ya.Blocks (T_api_Reply.Stats rv) == 0 && (ya.Asked (T_api_Reply.Stats rv) == 0 && (ya.Words (T_api_Reply.Stats rv) == 0 && (ya.Kept (T_api_Reply.Stats rv) == 0 && (ya.Open (T_api_Reply.Stats rv) == 0 && (ya.Mapped (T_api_Reply.Stats rv) == 0 && (ya.Used (T_api_Reply.Stats rv) == 0 && Bool.true)))))) && Bool.true)))))) [.rcells (yk m_lv ++ [.ptr 1 0, .row 2]), .rcells [.row 3], .row 0 (yg : List (Int)) Bool.true, .row 70 (yf : List (List Int)) Bool.true])))) ∧ (So (y0h (yb.Addr c) yf) (fun (y2 : yh × Bool) => (br (!Prod.snd y2) (So (y05 rv) (fun (y3 : Bool) => (K (vb (y3)) [.rcells (yk m_lv ++ [.ptr 1 0, .row 2]), .rcells [.row 3], .row 0 (yg : List (Int)) Bool.true, .row 70 (yf : List (List Int)) Bool.true]))) (K (vb (T_api_Reply.Err rv == 0 && (T_api_Reply.Addr rv == 0 && (T_api_Reply.Size rv == yh.words (Prod.fst y2) && (T_api_Reply.Value rv == 0 && (ya.Blocks (T_api_Reply.Stats rv) == 0 && (ya.Asked (T_api_Reply.Stats rv) == 0 && (ya.Words (T_api_Reply.Stats rv) == 0 && (ya.Kept (T_api_Reply.Stats rv) == 0 && (ya.Open (T_api_Reply.Stats rv) == 0 && (ya.Mapped (T_api_Reply.Stats rv) == 0 && (ya.Used (T_api_Reply.Stats rv) == 0 && Bool.true)))))) && Bool.true)))))) [.rcells (yk m_lv ++ [.ptr 1 0, .row 2]), .rcells [.row 3], .row 0 (yg : List (Int)) Bool.true, .row 70 (yf : List (List Int)) Bool.true])))))) := by
  kernel_rfl
theorem ycq (y14 : Y16) (y1b : (List (List Int)) → (List Pr) → Option ((List Pr))) (y19 : yh → (List (List Int)) → Option (yh)) (y1r : Y20) (y17 : Y22) (yu : (List (List Int)) → Option (Int)) (rv : T_api_Reply) (m_lv : yd) (yg : List Int) (yf : List (List Int)) (K : V → Heap → Prop) : (exF (ybr y14 y1b y19 y1r y17 yu) Try.f41 [.ptr 0 0, .agg (y0l rv)] [.rcells (yk m_lv ++ [.ptr 1 0, .row 2]), .rcells [.row 3], .row 0 yg true, .row 70 yf true] K) = (
    So (y19 (yh.mk 0 0) yf) (fun (y0 : yh) => (br (!(T_api_Reply.Err rv == 0 && (T_api_Reply.Addr rv == 0 && (T_api_Reply.Size rv == 0 && (T_api_Reply.Value rv == 0 && (ya.Blocks (T_api_Reply.Stats rv) == ya.Blocks (T_api_Reply.Stats rv) && (ya.Asked (T_api_Reply.Stats rv) == ya.Asked (T_api_Reply.Stats rv) && (ya.Words (T_api_Reply.Stats rv) == ya.Words (T_api_Reply.Stats rv) && (ya.Kept (T_api_Reply.Stats rv) == ya.Kept (T_api_Reply.Stats rv) && (ya.Open (T_api_Reply.Stats rv) == ya.Open (T_api_Reply.Stats rv) && (ya.Mapped (T_api_Reply.Stats rv) == ya.Mapped (T_api_Reply.Stats rv) && (ya.Used (T_api_Reply.Stats rv) == ya.Used (T_api_Reply.Stats rv) && Bool.true)))))) && Bool.true)))))) (K (vb (Bool.false)) [.rcells (yk m_lv ++ [.ptr 1 0, .row 2]), .rcells [.row 3], .row 0 (yg : List (Int)) Bool.true, .row 70 (yf : List (List Int)) Bool.true]) (So (y1r (T_api_Reply.Stats rv)) (fun (y1 : Bool) => (br (!y1) (K (vb (Bool.false)) [.rcells (yk m_lv ++ [.ptr 1 0, .row 2]), .rcells [.row 3], .row 0 (yg : List (Int)) Bool.true, .row 70 (yf : List (List Int)) Bool.true]) (So (y17 m_lv) (fun (y2 : yc) => (br (Decidable.decide (ya.Mapped (T_api_Reply.Stats rv) > yc.Pages y2)) (K (vb (Bool.false)) [.rcells (yk m_lv ++ [.ptr 1 0, .row 2]), .rcells [.row 3], .row 0 (yg : List (Int)) Bool.true, .row 70 (yf : List (List Int)) Bool.true]) (So (yu yf) (fun (y3 : Int) => (br (ya.Blocks (T_api_Reply.Stats rv) == y3) (br (ya.Asked (T_api_Reply.Stats rv) == yh.asked y0) (K (vb (ya.Words (T_api_Reply.Stats rv) == yh.words y0)) [.rcells (yk m_lv ++ [.ptr 1 0, .row 2]), .rcells [.row 3], .row 0 (yg : List (Int)) Bool.true, .row 70 (yf : List (List Int)) Bool.true]) (K (vb (Bool.false)) [.rcells (yk m_lv ++ [.ptr 1 0, .row 2]), .rcells [.row 3], .row 0 (yg : List (Int)) Bool.true, .row 70 (yf : List (List Int)) Bool.true])) (K (vb (Bool.false)) [.rcells (yk m_lv ++ [.ptr 1 0, .row 2]), .rcells [.row 3], .row 0 (yg : List (Int)) Bool.true, .row 70 (yf : List (List Int)) Bool.true]))))))))))))) := by
  kernel_rfl
theorem ydy (yw : Y7) (yq : Int → yd → (List Int) → (List (List Int)) → Option (Int × Int × Bool)) (y05 : Y11) (yx : Y1) (yr : Int → yd → (List Int) → (List (List Int)) → Option (Int)) (ym : Y5) (yn : Y2) (c : yb) (rv : T_api_Reply) (m_lv : yd) (yg : List Int) (yf : List (List Int)) (K : V → Heap → Prop) : (exF (y9j yw yq y05 yx yr ym yn) Try.f42 [.ptr 0 0, .agg (y0u c), .agg (y0l rv)] [.rcells (yk m_lv ++ [.ptr 1 0, .row 2]), .rcells [.row 3], .row 0 yg false, .row 70 yf true] K) = (
    So (yq (yb.Addr c) m_lv yg yf) (fun (y0 : Int × Int × Bool) => (br (!Prod.snd (Prod.snd y0)) (So (y05 rv) (fun (y1 : Bool) => (K (vb (y1)) [.rcells (yk m_lv ++ [.ptr 1 0, .row 2]), .rcells [.row 3], .row 0 (yg : List (Int)) Bool.false, .row 70 (yf : List (List Int)) Bool.true]))) (br (yb.Kind c == 11) (So (yr (yb.Addr c) m_lv yg yf) (fun (y2 : Int) => (K (vb (T_api_Reply.Err rv == 0 && (T_api_Reply.Addr rv == 0 && (T_api_Reply.Size rv == 0 && (T_api_Reply.Value rv == y2 && (ya.Blocks (T_api_Reply.Stats rv) == 0 && (ya.Asked (T_api_Reply.Stats rv) == 0 && (ya.Words (T_api_Reply.Stats rv) == 0 && (ya.Kept (T_api_Reply.Stats rv) == 0 && (ya.Open (T_api_Reply.Stats rv) == 0 && (ya.Mapped (T_api_Reply.Stats rv) == 0 && (ya.Used (T_api_Reply.Stats rv) == 0 && Bool.true)))))) && Bool.true)))))) [.rcells (yk m_lv ++ [.ptr 1 0, .row 2]), .rcells [.row 3], .row 0 (yg : List (Int)) Bool.false, .row 70 (yf : List (List Int)) Bool.true]))) (br (!(T_api_Reply.Err rv == 0 && (T_api_Reply.Addr rv == 0 && (T_api_Reply.Size rv == 0 && (T_api_Reply.Value rv == 0 && (ya.Blocks (T_api_Reply.Stats rv) == 0 && (ya.Asked (T_api_Reply.Stats rv) == 0 && (ya.Words (T_api_Reply.Stats rv) == 0 && (ya.Kept (T_api_Reply.Stats rv) == 0 && (ya.Open (T_api_Reply.Stats rv) == 0 && (ya.Mapped (T_api_Reply.Stats rv) == 0 && (ya.Used (T_api_Reply.Stats rv) == 0 && Bool.true)))))) && Bool.true)))))) (K (vb (Bool.false)) [.rcells (yk m_lv ++ [.ptr 1 0, .row 2]), .rcells [.row 3], .row 0 (yg : List (Int)) Bool.false, .row 70 (yf : List (List Int)) Bool.true]) (So (yn m_lv (yb.Addr c)) (fun (y3 : Int × Int × Bool) => (br (!Prod.snd (Prod.snd y3)) (False) (So (ym m_lv) (fun (y4 : Int) => (Req (inR (IntKind.wrap IntKind.i64 (yb.Addr c - y4)) (List.length yg)) (Req (inR (offs (IntKind.wrap IntKind.i64 (yb.Addr c - y4)) 0) (List.length yg)) (K (vb (Bool.true)) [.rcells (yk m_lv ++ [.ptr 1 0, .row 2]), .rcells [.row 3], .row 0 (List.set yg (Int.toNat (offs (IntKind.wrap IntKind.i64 (yb.Addr c - y4)) 0)) (yb.Value c) : List (Int)) Bool.false, .row 70 (yf : List (List Int)) Bool.true]))))))))))))) := by
  kernel_rfl
theorem ycv (y1n : Y10) (y0c : yb → T_api_Reply → yd → (List Int) → (List (List Int)) → Option (Bool × (List (List Int)) × (List Int))) (y1l : yb → T_api_Reply → yd → (List Int) → (List (List Int)) → Option (Bool × (List (List Int)) × (List Int))) (y1i : yb → T_api_Reply → yd → (List Int) → (List (List Int)) → Option (Bool × (List (List Int)))) (y1k : yb → T_api_Reply → yd → (List Int) → (List (List Int)) → Option (Bool)) (y17 : Y22) (y1m : T_api_Reply → yd → (List Int) → (List (List Int)) → Option (Bool)) (y1j : yb → T_api_Reply → yd → (List Int) → (List (List Int)) → Option (Bool × (List Int))) (c : yb) (rv : T_api_Reply) (m_lv : yd) (yg : List Int) (yf : List (List Int)) (U : TypeId) (K : V → Heap → Prop) : (exFW (ya3 y1n y0c y1l y1i y1k y17 y1m y1j) [] wk_model_Model_Step Try.f15 [.ptr 0 0, .agg (y0u c), .agg (y0l rv)] [.rcells (yk m_lv ++ [.ptr 1 0, .row 2]), .cells U [.row 3], .row 0 yg false, .row 70 yf false] K) = (
    br (T_api_Reply.Err rv == 8 && (T_api_Reply.Addr rv == 0 && (T_api_Reply.Size rv == 0 && (T_api_Reply.Value rv == 0 && (ya.Blocks (T_api_Reply.Stats rv) == 0 && (ya.Asked (T_api_Reply.Stats rv) == 0 && (ya.Words (T_api_Reply.Stats rv) == 0 && (ya.Kept (T_api_Reply.Stats rv) == 0 && (ya.Open (T_api_Reply.Stats rv) == 0 && (ya.Mapped (T_api_Reply.Stats rv) == 0 && (ya.Used (T_api_Reply.Stats rv) == 0 && Bool.true)))))) && Bool.true))))) (K (vb (Bool.true)) [.rcells (yk m_lv ++ [.ptr 1 0, .row 2]), .cells U [.row 4], .row 0 (yg : List (Int)) Bool.false, .dead, .row 70 (yf : List (List Int)) Bool.false]) (So (y1n c) (fun (y0 : Int) => (br (y0 != 0) (K (vb (T_api_Reply.Err rv == y0 && (T_api_Reply.Addr rv == 0 && (T_api_Reply.Size rv == 0 && (T_api_Reply.Value rv == 0 && (ya.Blocks (T_api_Reply.Stats rv) == 0 && (ya.Asked (T_api_Reply.Stats rv) == 0 && (ya.Words (T_api_Reply.Stats rv) == 0 && (ya.Kept (T_api_Reply.Stats rv) == 0 && (ya.Open (T_api_Reply.Stats rv) == 0 && (ya.Mapped (T_api_Reply.Stats rv) == 0 && (ya.Used (T_api_Reply.Stats rv) == 0 && Bool.true)))))) && Bool.true)))))) [.rcells (yk m_lv ++ [.ptr 1 0, .row 2]), .cells U [.row 4], .row 0 (yg : List (Int)) Bool.false, .dead, .row 70 (yf : List (List Int)) Bool.false]) (br (yb.Kind c == 1) (So (y0c c rv m_lv yg yf) (fun (y1 : Bool × List (List Int) × List Int) => (K (vb (Prod.fst y1)) [.rcells (yk m_lv ++ [.ptr 1 0, .row 2]), .cells U [.row 4], .row 0 (Prod.snd (Prod.snd y1) : List (Int)) Bool.false, .dead, .row 70 (Prod.fst (Prod.snd y1) : List (List Int)) Bool.false]))) (br (yb.Kind c == 3) (So (y0c c rv m_lv yg yf) (fun (y2 : Bool × List (List Int) × List Int) => (K (vb (Prod.fst y2)) [.rcells (yk m_lv ++ [.ptr 1 0, .row 2]), .cells U [.row 4], .row 0 (Prod.snd (Prod.snd y2) : List (Int)) Bool.false, .dead, .row 70 (Prod.fst (Prod.snd y2) : List (List Int)) Bool.false]))) (br (yb.Kind c == 5) (So (y0c c rv m_lv yg yf) (fun (y3 : Bool × List (List Int) × List Int) => (K (vb (Prod.fst y3)) [.rcells (yk m_lv ++ [.ptr 1 0, .row 2]), .cells U [.row 4], .row 0 (Prod.snd (Prod.snd y3) : List (Int)) Bool.false, .dead, .row 70 (Prod.fst (Prod.snd y3) : List (List Int)) Bool.false]))) (br (yb.Kind c == 4) (br (yb.Addr c == 0) (So (y0c c rv m_lv yg yf) (fun (y4 : Bool × List (List Int) × List Int) => (K (vb (Prod.fst y4)) [.rcells (yk m_lv ++ [.ptr 1 0, .row 2]), .cells U [.row 4], .row 0 (Prod.snd (Prod.snd y4) : List (Int)) Bool.false, .dead, .row 70 (Prod.fst (Prod.snd y4) : List (List Int)) Bool.false]))) (So (y1l c rv m_lv yg yf) (fun (y5 : Bool × List (List Int) × List Int) => (K (vb (Prod.fst y5)) [.rcells (yk m_lv ++ [.ptr 1 0, .row 2]), .cells U [.row 4], .row 0 (Prod.snd (Prod.snd y5) : List (Int)) Bool.false, .dead, .row 70 (Prod.fst (Prod.snd y5) : List (List Int)) Bool.false])))) (br (yb.Kind c == 2) (So (y1i c rv m_lv yg yf) (fun (y6 : Bool × List (List Int)) => (K (vb (Prod.fst y6)) [.rcells (yk m_lv ++ [.ptr 1 0, .row 2]), .cells U [.row 4], .row 0 (yg : List (Int)) Bool.false, .dead, .row 70 (Prod.snd y6 : List (List Int)) Bool.false]))) (br (yb.Kind c == 6) (So (y1k c rv m_lv yg yf) (fun (y7 : Bool) => (K (vb (y7)) [.rcells (yk m_lv ++ [.ptr 1 0, .row 2]), .cells U [.row 4], .row 0 (yg : List (Int)) Bool.false, .dead, .row 70 (yf : List (List Int)) Bool.false]))) (br (yb.Kind c == 7) (K (vb (T_api_Reply.Err rv == 0 && (T_api_Reply.Addr rv == 0 && (T_api_Reply.Size rv == 0 && (T_api_Reply.Value rv == 0 && (ya.Blocks (T_api_Reply.Stats rv) == 0 && (ya.Asked (T_api_Reply.Stats rv) == 0 && (ya.Words (T_api_Reply.Stats rv) == 0 && (ya.Kept (T_api_Reply.Stats rv) == 0 && (ya.Open (T_api_Reply.Stats rv) == 0 && (ya.Mapped (T_api_Reply.Stats rv) == 0 && (ya.Used (T_api_Reply.Stats rv) == 0 && Bool.true)))))) && Bool.true)))))) [.rcells (yk m_lv ++ [.ptr 1 0, .row 2]), .cells U [.row 4], .row 0 (yg : List (Int)) Bool.false, .dead, .row 70 (yf : List (List Int)) Bool.false]) (br (yb.Kind c == 9) (K (vb (T_api_Reply.Err rv == 0 && (T_api_Reply.Addr rv == 0 && (T_api_Reply.Size rv == 0 && (T_api_Reply.Value rv == 0 && (ya.Blocks (T_api_Reply.Stats rv) == 0 && (ya.Asked (T_api_Reply.Stats rv) == 0 && (ya.Words (T_api_Reply.Stats rv) == 0 && (ya.Kept (T_api_Reply.Stats rv) == 0 && (ya.Open (T_api_Reply.Stats rv) == 0 && (ya.Mapped (T_api_Reply.Stats rv) == 0 && (ya.Used (T_api_Reply.Stats rv) == 0 && Bool.true)))))) && Bool.true)))))) [.rcells (yk m_lv ++ [.ptr 1 0, .row 2]), .cells U [.row 4], .row 0 (yg : List (Int)) Bool.false, .dead, .row 70 (yf : List (List Int)) Bool.false]) (br (yb.Kind c == 8) (br (T_api_Reply.Err rv == 0 && (T_api_Reply.Addr rv == 0 && (T_api_Reply.Size rv == T_api_Reply.Size rv && (T_api_Reply.Value rv == 0 && (ya.Blocks (T_api_Reply.Stats rv) == 0 && (ya.Asked (T_api_Reply.Stats rv) == 0 && (ya.Words (T_api_Reply.Stats rv) == 0 && (ya.Kept (T_api_Reply.Stats rv) == 0 && (ya.Open (T_api_Reply.Stats rv) == 0 && (ya.Mapped (T_api_Reply.Stats rv) == 0 && (ya.Used (T_api_Reply.Stats rv) == 0 && Bool.true)))))) && Bool.true))))) (br (Decidable.decide (T_api_Reply.Size rv ≥ 0)) (So (y17 m_lv) (fun (y8 : yc) => (K (vb (Decidable.decide (T_api_Reply.Size rv ≤ yc.Pages y8))) [.rcells (yk m_lv ++ [.ptr 1 0, .row 2]), .cells U [.row 4], .row 0 (yg : List (Int)) Bool.false, .dead, .row 70 (yf : List (List Int)) Bool.false]))) (K (vb (Bool.false)) [.rcells (yk m_lv ++ [.ptr 1 0, .row 2]), .cells U [.row 4], .row 0 (yg : List (Int)) Bool.false, .dead, .row 70 (yf : List (List Int)) Bool.false])) (K (vb (Bool.false)) [.rcells (yk m_lv ++ [.ptr 1 0, .row 2]), .cells U [.row 4], .row 0 (yg : List (Int)) Bool.false, .dead, .row 70 (yf : List (List Int)) Bool.false])) (br (yb.Kind c == 10) (So (y1m rv m_lv yg yf) (fun (y9 : Bool) => (K (vb (y9)) [.rcells (yk m_lv ++ [.ptr 1 0, .row 2]), .cells U [.row 4], .row 0 (yg : List (Int)) Bool.false, .dead, .row 70 (yf : List (List Int)) Bool.false]))) (So (y1j c rv m_lv yg yf) (fun (y10 : Bool × List Int) => (K (vb (Prod.fst y10)) [.rcells (yk m_lv ++ [.ptr 1 0, .row 2]), .cells U [.row 4], .row 0 (Prod.snd y10 : List (Int)) Bool.false, .dead, .row 70 (yf : List (List Int)) Bool.false]))))))))))))))))) := by
  kernel_rfl
theorem ye0 (y1n : Y10) (y0c : yb → T_api_Reply → yd → (List Int) → (List (List Int)) → Option (Bool × (List (List Int)) × (List Int))) (y1l : yb → T_api_Reply → yd → (List Int) → (List (List Int)) → Option (Bool × (List (List Int)) × (List Int))) (y1i : yb → T_api_Reply → yd → (List Int) → (List (List Int)) → Option (Bool × (List (List Int)))) (y1k : yb → T_api_Reply → yd → (List Int) → (List (List Int)) → Option (Bool)) (y17 : Y22) (y1m : T_api_Reply → yd → (List Int) → (List (List Int)) → Option (Bool)) (y1j : yb → T_api_Reply → yd → (List Int) → (List (List Int)) → Option (Bool × (List Int))) (c : yb) (rv : T_api_Reply) (K : V → Heap → Prop) : (exF (ybx y1n y0c y1l y1i y1k y17 y1m y1j) Try.f15 [.ext (.pointer none), .agg (y0u c), .agg (y0l rv)] [] K) = (
    K (vb (Bool.false)) []) := by
  kernel_rfl
noncomputable def y1p (c : yc) : Option (Bool × Int × yd × (List Int) × (List (List Int))) :=
  ((y1d c).bind fun y0 => (bif (Prod.snd y0 != 0) then some (((Bool.false), (Prod.snd y0), ((yd.mk (yc.mk (0) (0) (0) (0) (0) (0) (0) (0) (0) (0) (0)) (0) (0) (0) (0) (0) (0) (0) (0) (0) (0) (0) (0))), ([]), ([]))) else ((y0r (Prod.fst y0)).bind fun y1 => ((ym (Prod.fst y0)).bind fun y2 => (bif (Decidable.decide (0 ≤ IntKind.wrap IntKind.i64 (y1 - y2) ∧ IntKind.wrap IntKind.i64 (y1 - y2) ≤ IntKind.wrap IntKind.i64 (y1 - y2) ∧ IntKind.wrap IntKind.i64 (y1 - y2) ≤ 1048576)) then some (((Bool.true), (0), ((Prod.fst y0)), (List.replicate (Int.toNat (IntKind.wrap IntKind.i64 (y1 - y2))) (0 : Int)), ([]))) else none)))))
noncomputable def y04 (size : Int) (align : Int) : Option (Int) :=
  (bif (Decidable.decide (size > 1048576)) then some ((0)) else ((y21 size align).bind fun y0 => some ((Prod.fst y0))))
noncomputable def y05 (rv : T_api_Reply) : Option (Bool) :=
  some ((T_api_Reply.Err rv == 7 && (T_api_Reply.Addr rv == 0 && (T_api_Reply.Size rv == 0 && (T_api_Reply.Value rv == 0 && (ya.Blocks (T_api_Reply.Stats rv) == 0 && (ya.Asked (T_api_Reply.Stats rv) == 0 && (ya.Words (T_api_Reply.Stats rv) == 0 && (ya.Kept (T_api_Reply.Stats rv) == 0 && (ya.Open (T_api_Reply.Stats rv) == 0 && (ya.Mapped (T_api_Reply.Stats rv) == 0 && (ya.Used (T_api_Reply.Stats rv) == 0 && Bool.true)))))) && Bool.true))))))
noncomputable def yr (a : Int) (m_lv : yd) (yg : List Int) (yf : List (List Int)) : Option (Int) :=
  ((yn m_lv a).bind fun y0 => (bif (!Prod.snd (Prod.snd y0)) then some ((0)) else ((ym m_lv).bind fun y1 => (bif (inR (IntKind.wrap IntKind.i64 (a - y1)) (List.length yg)) then (bif (inR (offs (IntKind.wrap IntKind.i64 (a - y1)) 0) (List.length yg)) then some ((List.getD yg (Int.toNat (offs (IntKind.wrap IntKind.i64 (a - y1)) 0)) 0)) else none) else none))))
noncomputable def yx (a : Int) : Option (Int) :=
  some ((0))
noncomputable def y0b (m_lv : yd) (yg : List Int) (yf : List (List Int)) : Option ((List Pr)) :=
  ((y1b yf []).bind fun y0 => some ((y0)))
noncomputable def y0j  : Option ((List Pr)) :=
  some (([]))
noncomputable def y33 (a : Int) (yf : List (List Int)) (iv : Int) : Option ((Int) ⊕ (Int × Int × Bool)) :=
  ((yu yf).bind fun y0 => (bif (Decidable.decide (iv < y0)) then ((y0y iv yf).bind fun y1 => (bif (Decidable.decide (Prod.fst y1 > a)) then some (.inr (((0), (0), (Bool.false)))) else (bif (Decidable.decide (IntKind.wrap IntKind.i64 (a - Prod.fst y1) < yh.words (Prod.fst (Prod.snd y1)))) then some (.inr (((Prod.fst y1), (yh.words (Prod.fst (Prod.snd y1))), (Bool.true)))) else some (.inl (IntKind.wrap IntKind.i64 (iv + 1)))))) else some (.inr (((0), (0), (Bool.false))))))
noncomputable def y7t (a : Int) (yf : List (List Int)) (s : Int) : Option (Int × Int × Bool) :=
  loopO (fun s => y33 a yf s) s
noncomputable def yq (a : Int) (m_lv : yd) (yg : List Int) (yf : List (List Int)) : Option (Int × Int × Bool) :=
  (y7t a yf (0))
noncomputable def yw (a : Int) : Option (Int × Int × Bool) :=
  some (((0), (0), (Bool.false)))
noncomputable def y3i (rv : T_api_Reply) (m_lv : yd) (yg : List Int) (yf : List (List Int)) (t58 : Int) (t59 : Int) : Option ((Int) ⊕ (Bool)) :=
  (bif (Decidable.decide (t59 < t58)) then ((yq (IntKind.wrap IntKind.i64 (T_api_Reply.Addr rv + t59)) m_lv yg yf).bind fun y0 => (bif (Prod.snd (Prod.snd y0)) then some (.inr ((Bool.false))) else some (.inl (IntKind.wrap IntKind.i64 (t59 + 1))))) else some (.inr ((Bool.true))))
noncomputable def y3p (rv : T_api_Reply) (m_lv : yd) (yg : List Int) (yf : List (List Int)) (t58 : Int) (s : Int) : Option (Bool) :=
  loopO (fun s => y3i rv m_lv yg yf t58 s) s
noncomputable def y18 (c : yb) (rv : T_api_Reply) (m_lv : yd) (yg : List Int) (yf : List (List Int)) : Option (Bool) :=
  (bif (yb.Kind c == 5) then ((y04 (yb.Size c) (yb.Align c)).bind fun y0 => (bif (!(T_api_Reply.Err rv == 0 && (T_api_Reply.Addr rv == T_api_Reply.Addr rv && (T_api_Reply.Size rv == y0 && (T_api_Reply.Value rv == 0 && (ya.Blocks (T_api_Reply.Stats rv) == 0 && (ya.Asked (T_api_Reply.Stats rv) == 0 && (ya.Words (T_api_Reply.Stats rv) == 0 && (ya.Kept (T_api_Reply.Stats rv) == 0 && (ya.Open (T_api_Reply.Stats rv) == 0 && (ya.Mapped (T_api_Reply.Stats rv) == 0 && (ya.Used (T_api_Reply.Stats rv) == 0 && Bool.true)))))) && Bool.true)))))) then some ((Bool.false)) else (bif (y0 == 0) then some ((Bool.false)) else (bif (!yb.Align c == 0) then (bif (Int.tmod (T_api_Reply.Addr rv) (yb.Align c) != 0) then some ((Bool.false)) else ((yn m_lv (T_api_Reply.Addr rv)).bind fun y1 => (bif (!Prod.snd (Prod.snd y1)) then some ((Bool.false)) else ((ym m_lv).bind fun y2 => (bif (inR (IntKind.wrap IntKind.i64 (T_api_Reply.Addr rv - y2)) (List.length yg)) then ((y0r m_lv).bind fun y3 => (bif (Decidable.decide (y0 > IntKind.wrap IntKind.i64 (y3 - T_api_Reply.Addr rv))) then some ((Bool.false)) else (y3p rv m_lv yg yf (y0) (0)))) else none))))) else none)))) else ((y04 (yb.Size c) 1).bind fun y4 => (bif (!(T_api_Reply.Err rv == 0 && (T_api_Reply.Addr rv == T_api_Reply.Addr rv && (T_api_Reply.Size rv == y4 && (T_api_Reply.Value rv == 0 && (ya.Blocks (T_api_Reply.Stats rv) == 0 && (ya.Asked (T_api_Reply.Stats rv) == 0 && (ya.Words (T_api_Reply.Stats rv) == 0 && (ya.Kept (T_api_Reply.Stats rv) == 0 && (ya.Open (T_api_Reply.Stats rv) == 0 && (ya.Mapped (T_api_Reply.Stats rv) == 0 && (ya.Used (T_api_Reply.Stats rv) == 0 && Bool.true)))))) && Bool.true)))))) then some ((Bool.false)) else (bif (y4 == 0) then some ((Bool.false)) else (bif (Int.tmod (T_api_Reply.Addr rv) 1 != 0) then some ((Bool.false)) else ((yn m_lv (T_api_Reply.Addr rv)).bind fun y5 => (bif (!Prod.snd (Prod.snd y5)) then some ((Bool.false)) else ((ym m_lv).bind fun y6 => (bif (inR (IntKind.wrap IntKind.i64 (T_api_Reply.Addr rv - y6)) (List.length yg)) then ((y0r m_lv).bind fun y7 => (bif (Decidable.decide (y4 > IntKind.wrap IntKind.i64 (y7 - T_api_Reply.Addr rv))) then some ((Bool.false)) else (y3p rv m_lv yg yf (y4) (0)))) else none)))))))))
noncomputable def y3c (rv : T_api_Reply) (m_lv : yd) (w : List (List Int)) (t35 : Int) (y0n : List Int) : Option ((Int × (List Int)) ⊕ (Bool × (List (List Int)) × (List Int))) :=
  (bif (Decidable.decide (t35 < T_api_Reply.Size rv)) then ((yn m_lv (IntKind.wrap IntKind.i64 (T_api_Reply.Addr rv + t35))).bind fun y0 => (bif (!Prod.snd (Prod.snd y0)) then none else ((ym m_lv).bind fun y1 => (bif (inR (IntKind.wrap IntKind.i64 (IntKind.wrap IntKind.i64 (T_api_Reply.Addr rv + t35) - y1)) (List.length y0n)) then (bif (inR (offs (IntKind.wrap IntKind.i64 (IntKind.wrap IntKind.i64 (T_api_Reply.Addr rv + t35) - y1)) 0) (List.length y0n)) then some (.inl ((IntKind.wrap IntKind.i64 (t35 + 1)), (List.set y0n (Int.toNat (offs (IntKind.wrap IntKind.i64 (IntKind.wrap IntKind.i64 (T_api_Reply.Addr rv + t35) - y1)) 0)) 0))) else none) else none)))) else some (.inr (((Bool.true), (w), (y0n)))))
noncomputable def y4b (rv : T_api_Reply) (m_lv : yd) (w : List (List Int)) (s : Int × (List Int)) : Option (Bool × (List (List Int)) × (List Int)) :=
  loopO (fun s => y3c rv m_lv w s.1 s.2) s
noncomputable def y0c (c : yb) (rv : T_api_Reply) (m_lv : yd) (yg : List Int) (yf : List (List Int)) : Option (Bool × (List (List Int)) × (List Int)) :=
  (bif (T_api_Reply.Err rv == 6 && (T_api_Reply.Addr rv == 0 && (T_api_Reply.Size rv == 0 && (T_api_Reply.Value rv == 0 && (ya.Blocks (T_api_Reply.Stats rv) == 0 && (ya.Asked (T_api_Reply.Stats rv) == 0 && (ya.Words (T_api_Reply.Stats rv) == 0 && (ya.Kept (T_api_Reply.Stats rv) == 0 && (ya.Open (T_api_Reply.Stats rv) == 0 && (ya.Mapped (T_api_Reply.Stats rv) == 0 && (ya.Used (T_api_Reply.Stats rv) == 0 && Bool.true)))))) && Bool.true))))) then some (((Bool.true), (yf), (yg))) else ((y18 c rv m_lv yg yf).bind fun y0 => (bif (!y0) then some (((Bool.false), (yf), (yg))) else ((y07 (T_api_Reply.Addr rv) (yh.mk (yb.Size c) (T_api_Reply.Size rv)) yf).bind fun y1 => (bif (yb.Kind c == 3) then (y4b rv m_lv (Prod.snd y1) ((0), (yg))) else some (((Bool.true), (Prod.snd y1), (yg))))))))
noncomputable def y39 (c : yb) (rv : T_api_Reply) (m_lv : yd) (t68 : Int) (w : List (List Int)) (t69 : Int) (y0n : List Int) : Option ((Int × (List Int)) ⊕ (Bool × (List (List Int)) × (List Int))) :=
  (bif (Decidable.decide (t69 < t68)) then ((yn m_lv (IntKind.wrap IntKind.i64 (T_api_Reply.Addr rv + t69))).bind fun y0 => (bif (!Prod.snd (Prod.snd y0)) then ((yr (IntKind.wrap IntKind.i64 (yb.Addr c + t69)) m_lv y0n w).bind fun y1 => none) else ((ym m_lv).bind fun y2 => (bif (inR (IntKind.wrap IntKind.i64 (IntKind.wrap IntKind.i64 (T_api_Reply.Addr rv + t69) - y2)) (List.length y0n)) then ((yr (IntKind.wrap IntKind.i64 (yb.Addr c + t69)) m_lv y0n w).bind fun y3 => (bif (inR (offs (IntKind.wrap IntKind.i64 (IntKind.wrap IntKind.i64 (T_api_Reply.Addr rv + t69) - y2)) 0) (List.length y0n)) then some (.inl ((IntKind.wrap IntKind.i64 (t69 + 1)), (List.set y0n (Int.toNat (offs (IntKind.wrap IntKind.i64 (IntKind.wrap IntKind.i64 (T_api_Reply.Addr rv + t69) - y2)) 0)) y3))) else none)) else none)))) else ((y0m (yb.Addr c) w).bind fun y4 => some (.inr (((Bool.true), (Prod.snd y4), (y0n))))))
noncomputable def y4o (c : yb) (rv : T_api_Reply) (m_lv : yd) (t68 : Int) (w : List (List Int)) (s : Int × (List Int)) : Option (Bool × (List (List Int)) × (List Int)) :=
  loopO (fun s => y39 c rv m_lv t68 w s.1 s.2) s
noncomputable def y1l (c : yb) (rv : T_api_Reply) (m_lv : yd) (yg : List Int) (yf : List (List Int)) : Option (Bool × (List (List Int)) × (List Int)) :=
  ((y0h (yb.Addr c) yf).bind fun y5 => (bif (!Prod.snd y5) then ((y05 rv).bind fun y6 => some (((y6), (yf), (yg)))) else ((y04 (yb.Size c) 1).bind fun y7 => (bif (y7 == yh.words (Prod.fst y5)) then (bif (T_api_Reply.Err rv == 0 && (T_api_Reply.Addr rv == yb.Addr c && (T_api_Reply.Size rv == yh.words (Prod.fst y5) && (T_api_Reply.Value rv == 0 && (ya.Blocks (T_api_Reply.Stats rv) == 0 && (ya.Asked (T_api_Reply.Stats rv) == 0 && (ya.Words (T_api_Reply.Stats rv) == 0 && (ya.Kept (T_api_Reply.Stats rv) == 0 && (ya.Open (T_api_Reply.Stats rv) == 0 && (ya.Mapped (T_api_Reply.Stats rv) == 0 && (ya.Used (T_api_Reply.Stats rv) == 0 && Bool.true)))))) && Bool.true))))) then ((y07 (yb.Addr c) (yh.mk (yb.Size c) (yh.words (Prod.fst y5))) yf).bind fun y8 => some (((T_api_Reply.Err rv == 0 && (T_api_Reply.Addr rv == yb.Addr c && (T_api_Reply.Size rv == yh.words (Prod.fst y5) && (T_api_Reply.Value rv == 0 && (ya.Blocks (T_api_Reply.Stats rv) == 0 && (ya.Asked (T_api_Reply.Stats rv) == 0 && (ya.Words (T_api_Reply.Stats rv) == 0 && (ya.Kept (T_api_Reply.Stats rv) == 0 && (ya.Open (T_api_Reply.Stats rv) == 0 && (ya.Mapped (T_api_Reply.Stats rv) == 0 && (ya.Used (T_api_Reply.Stats rv) == 0 && Bool.true)))))) && Bool.true))))), (Prod.snd y8), (yg)))) else some (((T_api_Reply.Err rv == 0 && (T_api_Reply.Addr rv == yb.Addr c && (T_api_Reply.Size rv == yh.words (Prod.fst y5) && (T_api_Reply.Value rv == 0 && (ya.Blocks (T_api_Reply.Stats rv) == 0 && (ya.Asked (T_api_Reply.Stats rv) == 0 && (ya.Words (T_api_Reply.Stats rv) == 0 && (ya.Kept (T_api_Reply.Stats rv) == 0 && (ya.Open (T_api_Reply.Stats rv) == 0 && (ya.Mapped (T_api_Reply.Stats rv) == 0 && (ya.Used (T_api_Reply.Stats rv) == 0 && Bool.true)))))) && Bool.true))))), (yf), (yg)))) else ((y0c c rv m_lv yg yf).bind fun y9 => (bif (!Prod.fst y9) then some (((Bool.false), (Prod.fst (Prod.snd y9)), (Prod.snd (Prod.snd y9)))) else (bif (T_api_Reply.Err rv != 0) then some (((Bool.true), (Prod.fst (Prod.snd y9)), (Prod.snd (Prod.snd y9)))) else (y4o c rv m_lv (if yb.Size c < yh.asked (Prod.fst y5) then yb.Size c else yh.asked (Prod.fst y5)) (Prod.fst (Prod.snd y9)) ((0), (Prod.snd (Prod.snd y9)))))))))))
noncomputable def y1i (c : yb) (rv : T_api_Reply) (m_lv : yd) (yg : List Int) (yf : List (List Int)) : Option (Bool × (List (List Int))) :=
  ((y0h (yb.Addr c) yf).bind fun y4 => (bif (!Prod.snd y4) then (bif (yb.Addr c != 0) then ((y05 rv).bind fun y5 => some (((y5), (yf)))) else (bif (!(T_api_Reply.Err rv == 0 && (T_api_Reply.Addr rv == 0 && (T_api_Reply.Size rv == 0 && (T_api_Reply.Value rv == 0 && (ya.Blocks (T_api_Reply.Stats rv) == 0 && (ya.Asked (T_api_Reply.Stats rv) == 0 && (ya.Words (T_api_Reply.Stats rv) == 0 && (ya.Kept (T_api_Reply.Stats rv) == 0 && (ya.Open (T_api_Reply.Stats rv) == 0 && (ya.Mapped (T_api_Reply.Stats rv) == 0 && (ya.Used (T_api_Reply.Stats rv) == 0 && Bool.true)))))) && Bool.true)))))) then some (((Bool.false), (yf))) else ((y0m (yb.Addr c) yf).bind fun y6 => some (((Bool.true), (Prod.snd y6)))))) else (bif (!(T_api_Reply.Err rv == 0 && (T_api_Reply.Addr rv == 0 && (T_api_Reply.Size rv == 0 && (T_api_Reply.Value rv == 0 && (ya.Blocks (T_api_Reply.Stats rv) == 0 && (ya.Asked (T_api_Reply.Stats rv) == 0 && (ya.Words (T_api_Reply.Stats rv) == 0 && (ya.Kept (T_api_Reply.Stats rv) == 0 && (ya.Open (T_api_Reply.Stats rv) == 0 && (ya.Mapped (T_api_Reply.Stats rv) == 0 && (ya.Used (T_api_Reply.Stats rv) == 0 && Bool.true)))))) && Bool.true)))))) then some (((Bool.false), (yf))) else ((y0m (yb.Addr c) yf).bind fun y7 => some (((Bool.true), (Prod.snd y7)))))))
noncomputable def y1k (c : yb) (rv : T_api_Reply) (m_lv : yd) (yg : List Int) (yf : List (List Int)) : Option (Bool) :=
  ((y0h (yb.Addr c) yf).bind fun y2 => (bif (!Prod.snd y2) then ((y05 rv).bind fun y3 => some ((y3))) else some ((T_api_Reply.Err rv == 0 && (T_api_Reply.Addr rv == 0 && (T_api_Reply.Size rv == yh.words (Prod.fst y2) && (T_api_Reply.Value rv == 0 && (ya.Blocks (T_api_Reply.Stats rv) == 0 && (ya.Asked (T_api_Reply.Stats rv) == 0 && (ya.Words (T_api_Reply.Stats rv) == 0 && (ya.Kept (T_api_Reply.Stats rv) == 0 && (ya.Open (T_api_Reply.Stats rv) == 0 && (ya.Mapped (T_api_Reply.Stats rv) == 0 && (ya.Used (T_api_Reply.Stats rv) == 0 && Bool.true)))))) && Bool.true))))))))
noncomputable def y1m (rv : T_api_Reply) (m_lv : yd) (yg : List Int) (yf : List (List Int)) : Option (Bool) :=
  ((y19 (yh.mk 0 0) yf).bind fun y0 => (bif (!(T_api_Reply.Err rv == 0 && (T_api_Reply.Addr rv == 0 && (T_api_Reply.Size rv == 0 && (T_api_Reply.Value rv == 0 && (ya.Blocks (T_api_Reply.Stats rv) == ya.Blocks (T_api_Reply.Stats rv) && (ya.Asked (T_api_Reply.Stats rv) == ya.Asked (T_api_Reply.Stats rv) && (ya.Words (T_api_Reply.Stats rv) == ya.Words (T_api_Reply.Stats rv) && (ya.Kept (T_api_Reply.Stats rv) == ya.Kept (T_api_Reply.Stats rv) && (ya.Open (T_api_Reply.Stats rv) == ya.Open (T_api_Reply.Stats rv) && (ya.Mapped (T_api_Reply.Stats rv) == ya.Mapped (T_api_Reply.Stats rv) && (ya.Used (T_api_Reply.Stats rv) == ya.Used (T_api_Reply.Stats rv) && Bool.true)))))) && Bool.true)))))) then some ((Bool.false)) else ((y1r (T_api_Reply.Stats rv)).bind fun y1 => (bif (!y1) then some ((Bool.false)) else ((y17 m_lv).bind fun y2 => (bif (Decidable.decide (ya.Mapped (T_api_Reply.Stats rv) > yc.Pages y2)) then some ((Bool.false)) else ((yu yf).bind fun y3 => (bif (ya.Blocks (T_api_Reply.Stats rv) == y3) then (bif (ya.Asked (T_api_Reply.Stats rv) == yh.asked y0) then some ((ya.Words (T_api_Reply.Stats rv) == yh.words y0)) else some ((Bool.false))) else some ((Bool.false))))))))))
noncomputable def y1j (c : yb) (rv : T_api_Reply) (m_lv : yd) (yg : List Int) (yf : List (List Int)) : Option (Bool × (List Int)) :=
  ((yq (yb.Addr c) m_lv yg yf).bind fun y0 => (bif (!Prod.snd (Prod.snd y0)) then ((y05 rv).bind fun y1 => some (((y1), (yg)))) else (bif (yb.Kind c == 11) then ((yr (yb.Addr c) m_lv yg yf).bind fun y2 => some (((T_api_Reply.Err rv == 0 && (T_api_Reply.Addr rv == 0 && (T_api_Reply.Size rv == 0 && (T_api_Reply.Value rv == y2 && (ya.Blocks (T_api_Reply.Stats rv) == 0 && (ya.Asked (T_api_Reply.Stats rv) == 0 && (ya.Words (T_api_Reply.Stats rv) == 0 && (ya.Kept (T_api_Reply.Stats rv) == 0 && (ya.Open (T_api_Reply.Stats rv) == 0 && (ya.Mapped (T_api_Reply.Stats rv) == 0 && (ya.Used (T_api_Reply.Stats rv) == 0 && Bool.true)))))) && Bool.true))))), (yg)))) else (bif (!(T_api_Reply.Err rv == 0 && (T_api_Reply.Addr rv == 0 && (T_api_Reply.Size rv == 0 && (T_api_Reply.Value rv == 0 && (ya.Blocks (T_api_Reply.Stats rv) == 0 && (ya.Asked (T_api_Reply.Stats rv) == 0 && (ya.Words (T_api_Reply.Stats rv) == 0 && (ya.Kept (T_api_Reply.Stats rv) == 0 && (ya.Open (T_api_Reply.Stats rv) == 0 && (ya.Mapped (T_api_Reply.Stats rv) == 0 && (ya.Used (T_api_Reply.Stats rv) == 0 && Bool.true)))))) && Bool.true)))))) then some (((Bool.false), (yg))) else ((yn m_lv (yb.Addr c)).bind fun y3 => (bif (!Prod.snd (Prod.snd y3)) then none else ((ym m_lv).bind fun y4 => (bif (inR (IntKind.wrap IntKind.i64 (yb.Addr c - y4)) (List.length yg)) then (bif (inR (offs (IntKind.wrap IntKind.i64 (yb.Addr c - y4)) 0) (List.length yg)) then some (((Bool.true), (List.set yg (Int.toNat (offs (IntKind.wrap IntKind.i64 (yb.Addr c - y4)) 0)) (yb.Value c)))) else none) else none))))))))
noncomputable def yz (c : yb) (rv : T_api_Reply) (m_lv : yd) (yg : List Int) (yf : List (List Int)) : Option (Bool × (List (List Int)) × (List Int)) :=
  (bif (T_api_Reply.Err rv == 8 && (T_api_Reply.Addr rv == 0 && (T_api_Reply.Size rv == 0 && (T_api_Reply.Value rv == 0 && (ya.Blocks (T_api_Reply.Stats rv) == 0 && (ya.Asked (T_api_Reply.Stats rv) == 0 && (ya.Words (T_api_Reply.Stats rv) == 0 && (ya.Kept (T_api_Reply.Stats rv) == 0 && (ya.Open (T_api_Reply.Stats rv) == 0 && (ya.Mapped (T_api_Reply.Stats rv) == 0 && (ya.Used (T_api_Reply.Stats rv) == 0 && Bool.true)))))) && Bool.true))))) then some (((Bool.true), (yf), (yg))) else ((y1n c).bind fun y0 => (bif (y0 != 0) then some (((T_api_Reply.Err rv == y0 && (T_api_Reply.Addr rv == 0 && (T_api_Reply.Size rv == 0 && (T_api_Reply.Value rv == 0 && (ya.Blocks (T_api_Reply.Stats rv) == 0 && (ya.Asked (T_api_Reply.Stats rv) == 0 && (ya.Words (T_api_Reply.Stats rv) == 0 && (ya.Kept (T_api_Reply.Stats rv) == 0 && (ya.Open (T_api_Reply.Stats rv) == 0 && (ya.Mapped (T_api_Reply.Stats rv) == 0 && (ya.Used (T_api_Reply.Stats rv) == 0 && Bool.true)))))) && Bool.true))))), (yf), (yg))) else (bif (yb.Kind c == 1) then ((y0c c rv m_lv yg yf).bind fun y1 => some (((Prod.fst y1), (Prod.fst (Prod.snd y1)), (Prod.snd (Prod.snd y1))))) else (bif (yb.Kind c == 3) then ((y0c c rv m_lv yg yf).bind fun y2 => some (((Prod.fst y2), (Prod.fst (Prod.snd y2)), (Prod.snd (Prod.snd y2))))) else (bif (yb.Kind c == 5) then ((y0c c rv m_lv yg yf).bind fun y3 => some (((Prod.fst y3), (Prod.fst (Prod.snd y3)), (Prod.snd (Prod.snd y3))))) else (bif (yb.Kind c == 4) then (bif (yb.Addr c == 0) then ((y0c c rv m_lv yg yf).bind fun y4 => some (((Prod.fst y4), (Prod.fst (Prod.snd y4)), (Prod.snd (Prod.snd y4))))) else ((y1l c rv m_lv yg yf).bind fun y5 => some (((Prod.fst y5), (Prod.fst (Prod.snd y5)), (Prod.snd (Prod.snd y5)))))) else (bif (yb.Kind c == 2) then ((y1i c rv m_lv yg yf).bind fun y6 => some (((Prod.fst y6), (Prod.snd y6), (yg)))) else (bif (yb.Kind c == 6) then ((y1k c rv m_lv yg yf).bind fun y7 => some (((y7), (yf), (yg)))) else (bif (yb.Kind c == 7) then some (((T_api_Reply.Err rv == 0 && (T_api_Reply.Addr rv == 0 && (T_api_Reply.Size rv == 0 && (T_api_Reply.Value rv == 0 && (ya.Blocks (T_api_Reply.Stats rv) == 0 && (ya.Asked (T_api_Reply.Stats rv) == 0 && (ya.Words (T_api_Reply.Stats rv) == 0 && (ya.Kept (T_api_Reply.Stats rv) == 0 && (ya.Open (T_api_Reply.Stats rv) == 0 && (ya.Mapped (T_api_Reply.Stats rv) == 0 && (ya.Used (T_api_Reply.Stats rv) == 0 && Bool.true)))))) && Bool.true))))), (yf), (yg))) else (bif (yb.Kind c == 9) then some (((T_api_Reply.Err rv == 0 && (T_api_Reply.Addr rv == 0 && (T_api_Reply.Size rv == 0 && (T_api_Reply.Value rv == 0 && (ya.Blocks (T_api_Reply.Stats rv) == 0 && (ya.Asked (T_api_Reply.Stats rv) == 0 && (ya.Words (T_api_Reply.Stats rv) == 0 && (ya.Kept (T_api_Reply.Stats rv) == 0 && (ya.Open (T_api_Reply.Stats rv) == 0 && (ya.Mapped (T_api_Reply.Stats rv) == 0 && (ya.Used (T_api_Reply.Stats rv) == 0 && Bool.true)))))) && Bool.true))))), (yf), (yg))) else (bif (yb.Kind c == 8) then (bif (T_api_Reply.Err rv == 0 && (T_api_Reply.Addr rv == 0 && (T_api_Reply.Size rv == T_api_Reply.Size rv && (T_api_Reply.Value rv == 0 && (ya.Blocks (T_api_Reply.Stats rv) == 0 && (ya.Asked (T_api_Reply.Stats rv) == 0 && (ya.Words (T_api_Reply.Stats rv) == 0 && (ya.Kept (T_api_Reply.Stats rv) == 0 && (ya.Open (T_api_Reply.Stats rv) == 0 && (ya.Mapped (T_api_Reply.Stats rv) == 0 && (ya.Used (T_api_Reply.Stats rv) == 0 && Bool.true)))))) && Bool.true))))) then (bif (Decidable.decide (T_api_Reply.Size rv ≥ 0)) then ((y17 m_lv).bind fun y8 => some (((Decidable.decide (T_api_Reply.Size rv ≤ yc.Pages y8)), (yf), (yg)))) else some (((Bool.false), (yf), (yg)))) else some (((Bool.false), (yf), (yg)))) else (bif (yb.Kind c == 10) then ((y1m rv m_lv yg yf).bind fun y9 => some (((y9), (yf), (yg)))) else ((y1j c rv m_lv yg yf).bind fun y10 => some (((Prod.fst y10), (yf), (Prod.snd y10)))))))))))))))))
noncomputable def y03 (c : yb) (rv : T_api_Reply) : Option (Bool) :=
  some ((Bool.false))
attribute [local irreducible] Loop ex exF contK roundK retK at_ bodyOf mkEnv exFW retW
theorem ybu : SpecOK Try.prog elTT 10 (y9x y1p) := by
  refine spec_of_exFW (cfg := (ybs y1d y0r ym)) (yo rfl rfl rfl) (yi yaq (yi (inlS_ok (cfg := cfgB) (yo rfl rfl rfl) (nosig rfl) (by kernel_rfl) (by kernel_rfl) (by kernel_rfl)) (yi y94 (yi y37 yp)))) (pre := []) (wk := wk_model_New) (fn := Try.f10) (by kernel_rfl) (by kernel_rfl) (by kernel_rfl) ?_
  intro args H K h
  change y51 y1p args H K at h
  unfold y51 at h
  repeat first | (obtain ⟨_, h⟩ := h) | replace h := Des.el h
  subst_vars
  refine Eq.mpr (yc9 y1d y0r ym _ K) ?_
  unfold y1p at h
  revert h
  exact bind_So fun y0 => br_So (fun h => h) (bind_So fun y1 => bind_So fun y2 => req_So (fun h => h))
theorem yao : SpecOK Try.prog elTT 77 (y5s y04) := by
  refine spec_of_exF (cfg := (yaz y21)) (yo rfl rfl rfl) (yi yem yp) (fn := Try.f77) (by kernel_rfl) (by kernel_rfl) (by kernel_rfl) ?_
  intro args H K h
  change y5m y04 args H K at h
  unfold y5m at h
  repeat first | (obtain ⟨_, h⟩ := h) | replace h := Des.el h
  subst_vars
  refine Eq.mpr (yf3 y21 _ _ K) ?_
  unfold y04 at h
  revert h
  exact br_So (fun h => h) (bind_So fun y0 => fun h => h)
theorem y4g : SpecOK Try.prog elTT 76 (y3y y05) := by
  refine spec_of_exF (cfg := yai) (yo rfl rfl rfl) yp (fn := Try.f76) (by kernel_rfl) (by kernel_rfl) (by kernel_rfl) ?_
  intro args H K h
  change y6m y05 args H K at h
  unfold y6m at h
  repeat first | (obtain ⟨_, h⟩ := h) | replace h := Des.el h
  subst_vars
  refine Eq.mpr (yer _ K) ?_
  unfold y05 at h
  revert h
  exact fun h => h
theorem y4w : SpecOK Try.prog elTT 20 (y4l yr) := by
  refine spec_of_exF (cfg := (ybe ym yn)) (yo rfl rfl rfl) (yi (inlSR_ok (ro := (⟨true, fun _ => false, fun i => Nat.beq i 0 || Nat.beq i 1⟩ : RO) ) (inlS_ok (cfg := { cfgB with sigs := (sigC 86 (y2e yn) (sigC 23 (y1u ym) sigN)), plan := fun r => match r with | 4 => some (List.range 13, 0) | _ => none }) (yo rfl rfl rfl) (yi y3m (yi y37 yp)) (by kernel_rfl) (by kernel_rfl) (by kernel_rfl))) yp) (fn := Try.f20) (by kernel_rfl) (by kernel_rfl) (by kernel_rfl) ?_
  intro args H K h
  change y6b yr args H K at h
  unfold y6b at h
  repeat first | (obtain ⟨_, h⟩ := h) | replace h := Des.el h
  subst_vars
  refine Eq.mpr (ydl ym yn _ _ _ _ K) ?_
  unfold yr at h
  revert h
  exact bind_So fun y0 => br_So (fun h => h) (bind_So fun y1 => req_So (req_So (fun h => h)))
theorem y5i : SpecOK Try.prog elTT 20 (y46 yx) := by
  refine spec_of_exF (cfg := (y8f ym yn)) (yo rfl rfl rfl) (yi (inlSR_ok (ro := (⟨true, fun _ => false, fun i => Nat.beq i 0 || Nat.beq i 1⟩ : RO) ) (inlS_ok (cfg := { cfgB with sigs := (sigC 86 (y2e yn) (sigC 23 (y1u ym) sigN)), plan := fun r => match r with | 4 => some (List.range 13, 0) | _ => none }) (yo rfl rfl rfl) (yi y3m (yi y37 yp)) (by kernel_rfl) (by kernel_rfl) (by kernel_rfl))) yp) (fn := Try.f20) (by kernel_rfl) (by kernel_rfl) (by kernel_rfl) ?_
  intro args H K h
  change y58 yx args H K at h
  unfold y58 at h
  repeat first | (obtain ⟨_, h⟩ := h) | replace h := Des.el h
  subst_vars
  refine Eq.mpr (yg4 ym yn _ K) ?_
  unfold yx at h
  revert h
  exact fun h => h
theorem ydz : SpecOK Try.prog elTT 17 (yaa y0b) := by
  refine spec_of_exF (cfg := (y96 y0s y1b y19)) (yo rfl rfl rfl) (yi y8a (yi (altP_ok y83 y6g) yp)) (fn := Try.f17) (by kernel_rfl) (by kernel_rfl) (by kernel_rfl) ?_
  intro args H K h
  change y4q y0b args H K at h
  unfold y4q at h
  repeat first | (obtain ⟨_, h⟩ := h) | replace h := Des.el h
  subst_vars
  refine Eq.mpr (ycy y0s y1b y19 _ _ _ K) ?_
  unfold y0b at h
  revert h
  exact bind_So fun y0 => fun h => h
theorem yf4 : SpecOK Try.prog elTT 17 (yak y0j) := by
  refine spec_of_exF (cfg := (ya9 y0s y1b y19)) (yo rfl rfl rfl) (yi y8a (yi (altP_ok y83 y6g) yp)) (fn := Try.f17) (by kernel_rfl) (by kernel_rfl) (by kernel_rfl) ?_
  intro args H K h
  change y6s y0j args H K at h
  unfold y6s at h
  repeat first | (obtain ⟨_, h⟩ := h) | replace h := Des.el h
  subst_vars
  refine Eq.mpr (ydr y0s y1b y19  K) ?_
  unfold y0j at h
  revert h
  exact fun h => h
theorem lpok_model_Model_Block_L1 (a : Int) (m_lv : yd) (yg : List Int) (yf : List (List Int)) (iv : Int) (K : V → Heap → Prop) : So (y7t (a) (yf) iv) (fun (x : Int × Int × Bool) => K (.tup [vi (x.1), vi (x.2.1), vb (x.2.2)]) [.rcells (yk m_lv ++ [.ptr 1 0, .row 2]), .rcells [.row 3], .row 0 yg true, .row 70 yf true]) → Loop (y2p yu y0y) (⟨46, 4⟩ : Cx) (at_ (bodyOf Try.f21) [1, 0, 1, 1, 1, 0, 0, 0]) (mkEnv [(0, .ptr 0 0), (1, vi (a)), (7, vi (iv))]) [.rcells (yk m_lv ++ [.ptr 1 0, .row 2]), .rcells [.row 3], .row 0 (yg : List (Int)) Bool.true, .row 70 (yf : List (List Int)) Bool.true] (contK (y2p yu y0y) (⟨46, 4⟩ : Cx) (bodyOf Try.f21) [1, 0, 1, 1, 1, 0, 0] (retK (y2p yu y0y) Try.f21 4 K)) := by
  refine loopK_So (fun (s_ : Int) => (mkEnv [(0, .ptr 0 0), (1, vi (a)), (7, vi ((s_)))])) (fun (s_ : Int) => [.rcells (yk m_lv ++ [.ptr 1 0, .row 2]), .rcells [.row 3], .row 0 (yg : List (Int)) Bool.true, .row 70 (yf : List (List Int)) Bool.true]) (fun (x : Int × Int × Bool) => K (.tup [vi (x.1), vi (x.2.1), vb (x.2.2)]) [.rcells (yk m_lv ++ [.ptr 1 0, .row 2]), .rcells [.row 3], .row 0 yg true, .row 70 yf true]) ?_ iv
  intro s_ J1 h
  clear iv
  revert h; revert s_; intro iv h
  refine Eq.mpr (yda yu y0y a m_lv yg yf iv K J1) ?_
  have h : So (y33 (a) (yf) iv) _ := h
  unfold y33 at h
  revert h
  exact bind_So fun y0 => br_So (bind_So fun y1 => br_So (fun h => h) (br_So (fun h => h) (fun h => h))) (fun h => h)
theorem y4m : SpecOK Try.prog elTT 21 (y3v yq) := by
  refine spec_of_exF (cfg := (y2p yu y0y)) (yo rfl rfl rfl) (yi y3r (yi y9t yp)) (fn := Try.f21) (by kernel_rfl) (by kernel_rfl) (by kernel_rfl) ?_
  intro args H K h
  change y4u yq args H K at h
  unfold y4u at h
  repeat first | (obtain ⟨_, h⟩ := h) | replace h := Des.el h
  subst_vars
  refine Eq.mpr (ydd yu y0y _ _ _ _ K) ?_
  unfold yq at h
  revert h
  exact lpok_model_Model_Block_L1 _ _ _ _ _ K
theorem y4j : SpecOK Try.prog elTT 21 (y40 yw) := by
  refine spec_of_exF (cfg := (y9q yu y0y)) (yo rfl rfl rfl) (yi y3r (yi y9t yp)) (fn := Try.f21) (by kernel_rfl) (by kernel_rfl) (by kernel_rfl) ?_
  intro args H K h
  change y7w yw args H K at h
  unfold y7w at h
  repeat first | (obtain ⟨_, h⟩ := h) | replace h := Des.el h
  subst_vars
  refine Eq.mpr (yek yu y0y _ K) ?_
  unfold yw at h
  revert h
  exact fun h => h
theorem lpok_model_Model_fits_L1 (c : yb) (rv : T_api_Reply) (m_lv : yd) (yg : List Int) (yf : List (List Int)) (t58 : Int) (t59 : Int) (K : V → Heap → Prop) : So (y3p (rv) (m_lv) (yg) (yf) (t58) t59) (fun (x : Bool) => K (vb (x)) [.rcells (yk m_lv ++ [.ptr 1 0, .row 2]), .rcells [.row 3], .row 0 yg true, .row 70 yf true]) → Loop (y1t y04 ym yn y0r yw yq) (⟨74, 4⟩ : Cx) (at_ (bodyOf Try.f73) [1, 1, 1, 1, 1, 0, 1, 0, 0]) (mkEnv [(0, .ptr 0 0), (5, .ptr 4 0), (58, vi (t58)), (59, vi (t59))]) [.rcells (yk m_lv ++ [.ptr 1 0, .row 2]), .rcells [.row 3], .row 0 (yg : List (Int)) Bool.true, .row 70 (yf : List (List Int)) Bool.true, .cells 46 (y0l rv)] (contK (y1t y04 ym yn y0r yw yq) (⟨74, 4⟩ : Cx) (bodyOf Try.f73) [1, 1, 1, 1, 1, 0, 1, 0] (retK (y1t y04 ym yn y0r yw yq) Try.f73 4 K)) := by
  refine loopK_So (fun (s_ : Int) => (mkEnv [(0, .ptr 0 0), (5, .ptr 4 0), (58, vi (t58)), (59, vi ((s_)))])) (fun (s_ : Int) => [.rcells (yk m_lv ++ [.ptr 1 0, .row 2]), .rcells [.row 3], .row 0 (yg : List (Int)) Bool.true, .row 70 (yf : List (List Int)) Bool.true, .cells 46 (y0l rv)]) (fun (x : Bool) => K (vb (x)) [.rcells (yk m_lv ++ [.ptr 1 0, .row 2]), .rcells [.row 3], .row 0 yg true, .row 70 yf true]) ?_ t59
  intro s_ J1 h
  clear t59
  revert h; revert s_; intro t59 h
  refine Eq.mpr (ygd y04 ym yn y0r yw yq c rv m_lv yg yf t58 t59 K J1) ?_
  have h : So (y3i (rv) (m_lv) (yg) (yf) (t58) t59) _ := h
  unfold y3i at h
  revert h
  exact br_So (bind_So fun y0 => br_So (fun h => h) (fun h => h)) (fun h => h)
theorem yd6 : SpecOK Try.prog elTT 73 (yan y18) := by
  refine spec_of_exF (cfg := (y1t y04 ym yn y0r yw yq)) (yo rfl rfl rfl) (yi yao (yi (inlSR_ok (ro := (⟨true, fun _ => false, fun i => Nat.beq i 0 || Nat.beq i 1⟩ : RO) ) (inlS_ok (cfg := { cfgB with sigs := (sigC 86 (y2e yn) (sigC 23 (y1u ym) sigN)), plan := fun r => match r with | 4 => some (List.range 13, 0) | _ => none }) (yo rfl rfl rfl) (yi y3m (yi y37 yp)) (by kernel_rfl) (by kernel_rfl) (by kernel_rfl))) (yi y94 (yi (altNil_ok y4m y4j) yp)))) (fn := Try.f73) (by kernel_rfl) (by kernel_rfl) (by kernel_rfl) ?_
  intro args H K h
  change y53 y18 args H K at h
  unfold y53 at h
  repeat first | (obtain ⟨_, h⟩ := h) | replace h := Des.el h
  subst_vars
  refine Eq.mpr (yco y04 ym yn y0r yw yq _ _ _ _ _ K) ?_
  unfold y18 at h
  revert h
  exact br_So (bind_So fun y0 => br_So (fun h => h) (br_So (fun h => h) (req_So (br_So (fun h => h) (bind_So fun y1 => br_So (fun h => h) (bind_So fun y2 => req_So (bind_So fun y3 => br_So (fun h => h) (lpok_model_Model_fits_L1 (by first | assumption | exact default) _ _ _ _ _ _ K)))))))) (bind_So fun y4 => br_So (fun h => h) (br_So (fun h => h) (br_So (fun h => h) (bind_So fun y5 => br_So (fun h => h) (bind_So fun y6 => req_So (bind_So fun y7 => br_So (fun h => h) (lpok_model_Model_fits_L1 (by first | assumption | exact default) _ _ _ _ _ _ K)))))))
theorem lpok_model_Model_fresh_L1 (c : yb) (rv : T_api_Reply) (m_lv : yd) (yg : List Int) (yf : List (List Int)) (U : TypeId) (t35 : Int) (y0n : List Int) (w : List (List Int)) (K : V → Heap → Prop) : So (y4b (rv) (m_lv) (w) (t35, y0n)) (fun (x : Bool × (List (List Int)) × (List Int)) => K (vb (x.1)) [.rcells (yk m_lv ++ [.ptr 1 0, .row 2]), .cells U [.row 4], .row 0 (x.2.2) false, .dead, .row 70 (x.2.1) false]) → Loop (y2w y18 y07 ym yn) (⟨46, 4⟩ : Cx) (at_ (bodyOf Try.f36) [1, 1, 1, 0, 1, 0, 1, 0, 0]) (mkEnv [(0, .ptr 0 0), (5, .ptr 4 0), (34, vi (T_api_Reply.Size rv)), (35, vi (t35))]) [.rcells (yk m_lv ++ [.ptr 1 0, .row 2]), .cells U [.row 5], .row 0 (y0n : List (Int)) Bool.false, .dead, .cells 46 (y0l rv), .row 70 (w : List (List Int)) Bool.false] (contK (y2w y18 y07 ym yn) (⟨46, 4⟩ : Cx) (bodyOf Try.f36) [1, 1, 1, 0, 1, 0, 1, 0] (retW (y2w y18 y07 ym yn) wk_model_Model_fresh Try.f36 4 K)) := by
  refine loopK_So (fun (s_ : Int × (List Int)) => (mkEnv [(0, .ptr 0 0), (5, .ptr 4 0), (34, vi (T_api_Reply.Size rv)), (35, vi ((s_.1)))])) (fun (s_ : Int × (List Int)) => [.rcells (yk m_lv ++ [.ptr 1 0, .row 2]), .cells U [.row 5], .row 0 ((s_.2) : List (Int)) Bool.false, .dead, .cells 46 (y0l rv), .row 70 (w : List (List Int)) Bool.false]) (fun (x : Bool × (List (List Int)) × (List Int)) => K (vb (x.1)) [.rcells (yk m_lv ++ [.ptr 1 0, .row 2]), .cells U [.row 4], .row 0 (x.2.2) false, .dead, .row 70 (x.2.1) false]) ?_ (t35, y0n)
  intro s_ J1 h
  clear t35
  clear y0n
  obtain ⟨t35, y0n⟩ := s_
  refine Eq.mpr (ycg y18 y07 ym yn c rv m_lv yg yf U t35 y0n w K J1) ?_
  have h : So (y3c (rv) (m_lv) (w) t35 y0n) _ := h
  unfold y3c at h
  revert h
  exact br_So (bind_So fun y0 => br_So (fun h => h) (bind_So fun y1 => req_So (req_So (fun h => h)))) (fun h => h)
theorem y60 : SpecOK Try.prog elTT 36 (y44 y0c) := by
  refine spec_of_exFW (cfg := (y2w y18 y07 ym yn)) (yo rfl rfl rfl) (yi yd6 (yi y8g (yi (inlSR_ok (ro := (⟨true, fun _ => false, fun i => Nat.beq i 0 || Nat.beq i 1⟩ : RO) ) (inlS_ok (cfg := { cfgB with sigs := (sigC 86 (y2e yn) (sigC 23 (y1u ym) sigN)), plan := fun r => match r with | 4 => some (List.range 13, 0) | _ => none }) (yo rfl rfl rfl) (yi y3m (yi y37 yp)) (by kernel_rfl) (by kernel_rfl) (by kernel_rfl))) yp))) (pre := []) (wk := wk_model_Model_fresh) (fn := Try.f36) (by kernel_rfl) (by kernel_rfl) (by kernel_rfl) ?_
  intro args H K h
  change y7a y0c args H K at h
  unfold y7a at h
  repeat first | (obtain ⟨_, h⟩ := h) | replace h := Des.el h
  subst_vars
  refine Eq.mpr (yew y18 y07 ym yn _ _ _ _ _ _ K) ?_
  unfold y0c at h
  revert h
  exact br_So (fun h => h) (bind_So fun y0 => br_So (fun h => h) (bind_So fun y1 => br_So (lpok_model_Model_fresh_L1 (by first | assumption | exact default) _ _ (by first | assumption | exact default) (by first | assumption | exact default) _ _ _ _ K) (fun h => h)))
theorem lpok_model_Model_again_L1 (c : yb) (rv : T_api_Reply) (m_lv : yd) (yg : List Int) (yf : List (List Int)) (U : TypeId) (t68 : Int) (t69 : Int) (y0n : List Int) (w : List (List Int)) (K : V → Heap → Prop) : So (y4o (c) (rv) (m_lv) (t68) (w) (t69, y0n)) (fun (x : Bool × (List (List Int)) × (List Int)) => K (vb (x.1)) [.rcells (yk m_lv ++ [.ptr 1 0, .row 2]), .cells U [.row 4], .row 0 (x.2.2) false, .dead, .row 70 (x.2.1) false]) → Loop (y1y y0h y05 y04 y07 y0c ym yn yx yr y0m) (⟨93, 4⟩ : Cx) (at_ (bodyOf Try.f37) [1, 1, 1, 0, 1, 0, 0]) (mkEnv [(0, .ptr 0 0), (4, .ptr 4 0), (5, .ptr 5 0), (68, vi (t68)), (69, vi (t69))]) [.rcells (yk m_lv ++ [.ptr 1 0, .row 2]), .cells U [.row 6], .row 0 (y0n : List (Int)) Bool.false, .dead, .cells 42 (y0u c), .cells 46 (y0l rv), .row 70 (w : List (List Int)) Bool.false] (contK (y1y y0h y05 y04 y07 y0c ym yn yx yr y0m) (⟨93, 4⟩ : Cx) (bodyOf Try.f37) [1, 1, 1, 0, 1, 0] (retW (y1y y0h y05 y04 y07 y0c ym yn yx yr y0m) wk_model_Model_again Try.f37 4 K)) := by
  refine loopK_So (fun (s_ : Int × (List Int)) => (mkEnv [(0, .ptr 0 0), (4, .ptr 4 0), (5, .ptr 5 0), (68, vi (t68)), (69, vi ((s_.1)))])) (fun (s_ : Int × (List Int)) => [.rcells (yk m_lv ++ [.ptr 1 0, .row 2]), .cells U [.row 6], .row 0 ((s_.2) : List (Int)) Bool.false, .dead, .cells 42 (y0u c), .cells 46 (y0l rv), .row 70 (w : List (List Int)) Bool.false]) (fun (x : Bool × (List (List Int)) × (List Int)) => K (vb (x.1)) [.rcells (yk m_lv ++ [.ptr 1 0, .row 2]), .cells U [.row 4], .row 0 (x.2.2) false, .dead, .row 70 (x.2.1) false]) ?_ (t69, y0n)
  intro s_ J1 h
  clear t69
  clear y0n
  obtain ⟨t69, y0n⟩ := s_
  refine Eq.mpr (yfz y0h y05 y04 y07 y0c ym yn yx yr y0m c rv m_lv yg yf U t68 t69 y0n w K J1) ?_
  have h : So (y39 (c) (rv) (m_lv) (t68) (w) t69 y0n) _ := h
  unfold y39 at h
  revert h
  exact br_So (bind_So fun y0 => br_So (bind_So fun y1 => fun h => h) (bind_So fun y2 => req_So (bind_So fun y3 => req_So (fun h => h)))) (bind_So fun y4 => fun h => h)
theorem ya5 : SpecOK Try.prog elTT 37 (y6n y1l) := by
  refine spec_of_exFW (cfg := (y1y y0h y05 y04 y07 y0c ym yn yx yr y0m)) (yo rfl rfl rfl) (yi y4s (yi y4g (yi yao (yi y8g (yi y60 (yi (inlSR_ok (ro := (⟨true, fun _ => false, fun i => Nat.beq i 0 || Nat.beq i 1⟩ : RO) ) (inlS_ok (cfg := { cfgB with sigs := (sigC 86 (y2e yn) (sigC 23 (y1u ym) sigN)), plan := fun r => match r with | 4 => some (List.range 13, 0) | _ => none }) (yo rfl rfl rfl) (yi y3m (yi y37 yp)) (by kernel_rfl) (by kernel_rfl) (by kernel_rfl))) (yi (altNil_ok y4w y5i) (yi ybv yp)))))))) (pre := []) (wk := wk_model_Model_again) (fn := Try.f37) (by kernel_rfl) (by kernel_rfl) (by kernel_rfl) ?_
  intro args H K h
  change y5l y1l args H K at h
  unfold y5l at h
  repeat first | (obtain ⟨_, h⟩ := h) | replace h := Des.el h
  subst_vars
  refine Eq.mpr (yeu y0h y05 y04 y07 y0c ym yn yx yr y0m _ _ _ _ _ _ K) ?_
  unfold y1l at h
  revert h
  exact alt_So (bind_So fun y0 => br_So (bind_So fun y1 => fun h => h) (bind_So fun y2 => br_So (br_So (bind_So fun y3 => fun h => h) (fun h => h)) (bind_So fun y4 => br_So (fun h => h) (br_So (fun h => h) (lpok_model_Model_again_L1 _ _ _ (by first | assumption | exact default) (by first | assumption | exact default) _ _ _ _ _ K))))) (bind_So fun y5 => br_So (bind_So fun y6 => fun h => h) (bind_So fun y7 => br_So (br_So (bind_So fun y8 => fun h => h) (fun h => h)) (bind_So fun y9 => br_So (fun h => h) (br_So (fun h => h) (lpok_model_Model_again_L1 _ _ _ (by first | assumption | exact default) (by first | assumption | exact default) _ _ _ _ _ K)))))
theorem y93 : SpecOK Try.prog elTT 38 (y5r y1i) := by
  refine spec_of_exFW (cfg := (y9a y0h y05 y0m)) (yo rfl rfl rfl) (yi y4s (yi y4g (yi ybv yp))) (pre := []) (wk := wk_model_Model_free) (fn := Try.f38) (by kernel_rfl) (by kernel_rfl) (by kernel_rfl) ?_
  intro args H K h
  change y6r y1i args H K at h
  unfold y6r at h
  repeat first | (obtain ⟨_, h⟩ := h) | replace h := Des.el h
  subst_vars
  refine Eq.mpr (ycn y0h y05 y0m _ _ _ _ _ _ K) ?_
  unfold y1i at h
  revert h
  exact alt_So (bind_So fun y0 => br_So (br_So (bind_So fun y1 => fun h => h) (br_So (fun h => h) (bind_So fun y2 => fun h => h))) (br_So (fun h => h) (bind_So fun y3 => fun h => h))) (bind_So fun y4 => br_So (br_So (bind_So fun y5 => fun h => h) (br_So (fun h => h) (bind_So fun y6 => fun h => h))) (br_So (fun h => h) (bind_So fun y7 => fun h => h)))
theorem ybb : SpecOK Try.prog elTT 39 (y7q y1k) := by
  refine spec_of_exF (cfg := (yau y0h y05)) (yo rfl rfl rfl) (yi y4s (yi y4g yp)) (fn := Try.f39) (by kernel_rfl) (by kernel_rfl) (by kernel_rfl) ?_
  intro args H K h
  change y56 y1k args H K at h
  unfold y56 at h
  repeat first | (obtain ⟨_, h⟩ := h) | replace h := Des.el h
  subst_vars
  refine Eq.mpr (ycs y0h y05 _ _ _ _ _ K) ?_
  unfold y1k at h
  revert h
  exact alt_So (bind_So fun y0 => br_So (bind_So fun y1 => fun h => h) (fun h => h)) (bind_So fun y2 => br_So (bind_So fun y3 => fun h => h) (fun h => h))
theorem y8e : SpecOK Try.prog elTT 41 (y5k y1m) := by
  refine spec_of_exF (cfg := (ybr y14 y1b y19 y1r y17 yu)) (yo rfl rfl rfl) (yi ya8 (yi (altP_ok y83 y6g) (yi yfx (yi y82 (yi y3r yp))))) (fn := Try.f41) (by kernel_rfl) (by kernel_rfl) (by kernel_rfl) ?_
  intro args H K h
  change y7o y1m args H K at h
  unfold y7o at h
  repeat first | (obtain ⟨_, h⟩ := h) | replace h := Des.el h
  subst_vars
  refine Eq.mpr (ycq y14 y1b y19 y1r y17 yu _ _ _ _ K) ?_
  unfold y1m at h
  revert h
  exact bind_So fun y0 => br_So (fun h => h) (bind_So fun y1 => br_So (fun h => h) (bind_So fun y2 => br_So (fun h => h) (bind_So fun y3 => br_So (br_So (fun h => h) (fun h => h)) (fun h => h))))
theorem y8d : SpecOK Try.prog elTT 42 (y79 y1j) := by
  refine spec_of_exF (cfg := (y9j yw yq y05 yx yr ym yn)) (yo rfl rfl rfl) (yi (altNil_ok y4m y4j) (yi y4g (yi (altNil_ok y4w y5i) (yi (inlSR_ok (ro := (⟨true, fun _ => false, fun i => Nat.beq i 0 || Nat.beq i 1⟩ : RO) ) (inlS_ok (cfg := { cfgB with sigs := (sigC 86 (y2e yn) (sigC 23 (y1u ym) sigN)), plan := fun r => match r with | 4 => some (List.range 13, 0) | _ => none }) (yo rfl rfl rfl) (yi y3m (yi y37 yp)) (by kernel_rfl) (by kernel_rfl) (by kernel_rfl))) yp)))) (fn := Try.f42) (by kernel_rfl) (by kernel_rfl) (by kernel_rfl) ?_
  intro args H K h
  change y7x y1j args H K at h
  unfold y7x at h
  repeat first | (obtain ⟨_, h⟩ := h) | replace h := Des.el h
  subst_vars
  refine Eq.mpr (ydy yw yq y05 yx yr ym yn _ _ _ _ _ K) ?_
  unfold y1j at h
  revert h
  exact bind_So fun y0 => br_So (bind_So fun y1 => fun h => h) (br_So (bind_So fun y2 => fun h => h) (br_So (fun h => h) (bind_So fun y3 => br_So (fun h => h) (bind_So fun y4 => req_So (req_So (fun h => h))))))
theorem y97 : SpecOK Try.prog elTT 15 (y4x yz) := by
  refine spec_of_exFW (cfg := (ya3 y1n y0c y1l y1i y1k y17 y1m y1j)) (yo rfl rfl rfl) (yi yb7 (yi y60 (yi ya5 (yi y93 (yi ybb (yi y82 (yi y8e (yi y8d yp)))))))) (pre := []) (wk := wk_model_Model_Step) (fn := Try.f15) (by kernel_rfl) (by kernel_rfl) (by kernel_rfl) ?_
  intro args H K h
  change y7g yz args H K at h
  unfold y7g at h
  repeat first | (obtain ⟨_, h⟩ := h) | replace h := Des.el h
  subst_vars
  refine Eq.mpr (ycv y1n y0c y1l y1i y1k y17 y1m y1j _ _ _ _ _ _ K) ?_
  unfold yz at h
  revert h
  exact br_So (fun h => h) (bind_So fun y0 => br_So (fun h => h) (br_So (bind_So fun y1 => fun h => h) (br_So (bind_So fun y2 => fun h => h) (br_So (bind_So fun y3 => fun h => h) (br_So (br_So (bind_So fun y4 => fun h => h) (bind_So fun y5 => fun h => h)) (br_So (bind_So fun y6 => fun h => h) (br_So (bind_So fun y7 => fun h => h) (br_So (fun h => h) (br_So (fun h => h) (br_So (br_So (br_So (bind_So fun y8 => fun h => h) (fun h => h)) (fun h => h)) (br_So (bind_So fun y9 => fun h => h) (bind_So fun y10 => fun h => h))))))))))))
theorem y8o : SpecOK Try.prog elTT 15 (y5w y03) := by
  refine spec_of_exF (cfg := (ybx y1n y0c y1l y1i y1k y17 y1m y1j)) (yo rfl rfl rfl) (yi yb7 (yi y60 (yi ya5 (yi y93 (yi ybb (yi y82 (yi y8e (yi y8d yp)))))))) (fn := Try.f15) (by kernel_rfl) (by kernel_rfl) (by kernel_rfl) ?_
  intro args H K h
  change y6x y03 args H K at h
  unfold y6x at h
  repeat first | (obtain ⟨_, h⟩ := h) | replace h := Des.el h
  subst_vars
  refine Eq.mpr (ye0 y1n y0c y1l y1i y1k y17 y1m y1j _ _ K) ?_
  unfold y03 at h
  revert h
  exact fun h => h
end Go.Rx
end

section
namespace Go.Rx
open Go.Proofs
theorem offs0 (a : Int) : offs a 0 = a := rfl
theorem scanS {α σ ρ : Type} {step : σ → Option (σ ⊕ ρ)} {l : List α} (st : List α → σ) (I : List α → Prop) (Q : ρ → Prop)
    (go : ∀ A b C, l = A ++ b :: C → I A → (step (st A) = some (.inl (st (A ++ [b]))) ∧ I (A ++ [b])) ∨ ∃ r, step (st A) = some (.inr r) ∧ Q r)
    (fin : I l → ∃ r, step (st l) = some (.inr r) ∧ Q r) (h0 : I []) : ∃ r, loopO step (st []) = some r ∧ Q r := by
  have key : ∀ R A, l = A ++ R → I A → ∃ r, loopO step (st A) = some r ∧ Q r := by
    intro R
    induction R with
    | nil =>
      intro A hA hI
      rw [List.append_nil] at hA
      subst hA
      obtain ⟨r, h1, h2⟩ := fin hI
      exact ⟨r, loopO_end h1, h2⟩
    | cons b R ih =>
      intro A hA hI
      rcases go A b R hA hI with ⟨h1, h2⟩ | ⟨r, h1, h2⟩
      · rw [loopO_go h1]
        exact ih (A ++ [b]) (by simp [hA]) h2
      · exact ⟨r, loopO_end h1, h2⟩
  exact key l [] rfl h0
theorem countS {σ ρ : Type} {step : σ → Option (σ ⊕ ρ)} (st : Nat → σ) (n : Nat) (I : Nat → Prop) (Q : ρ → Prop)
    (go : ∀ i, i < n → I i → (step (st i) = some (.inl (st (i + 1))) ∧ I (i + 1)) ∨ ∃ r, step (st i) = some (.inr r) ∧ Q r)
    (fin : I n → ∃ r, step (st n) = some (.inr r) ∧ Q r) (h0 : I 0) : ∃ r, loopO step (st 0) = some r ∧ Q r := by
  have key : ∀ k i, i + k = n → I i → ∃ r, loopO step (st i) = some r ∧ Q r := by
    intro k
    induction k with
    | zero =>
      intro i hi hI
      have : i = n := by omega
      subst this
      obtain ⟨r, h1, h2⟩ := fin hI
      exact ⟨r, loopO_end h1, h2⟩
    | succ k ih =>
      intro i hi hI
      rcases go i (by omega) hI with ⟨h1, h2⟩ | ⟨r, h1, h2⟩
      · rw [loopO_go h1]
        exact ih (i + 1) (by omega) h2
      · exact ⟨r, loopO_end h1, h2⟩
  exact key n 0 (by omega) h0
theorem mid_get {α : Type} (A : List α) (b : α) (C : List α) (d : α) : (A ++ b :: C).getD A.length d = b := by simp [List.getD]
theorem mid_in {α : Type} (A : List α) (b : α) (C : List α) : inR (A.length : Int) (A ++ b :: C).length = true := inR_nat (by simp)
theorem mid_lt {α : Type} (A : List α) (b : α) (C : List α) : decide ((A.length : Int) < ((A ++ b :: C).length : Int)) = true := decide_eq_true (by simp; omega)
def kk (x : List Int) : Int := x.getD 0 0
def aa (x : List Int) : Int := x.getD 1 0
def ww (x : List Int) : Int := x.getD 2 0
def hasW (x : List Int) (a : Int) : Prop := kk x ≤ a ∧ a < kk x + ww x
instance (x : List Int) (a : Int) : Decidable (hasW x a) := by unfold hasW; infer_instance
structure BOK (lo hi : Int) (x : List Int) : Prop where
  eq : x = [kk x, aa x, ww x]
  lo : lo ≤ kk x
  one : 1 ≤ ww x
  hi : kk x + ww x ≤ hi
  ask : 0 ≤ aa x ∧ aa x ≤ ww x
structure SOK (L : yd) (its : List (List Int)) : Prop where
  lay : LayOK L
  all : ∀ x ∈ its, BOK L.at_10 L.at_11 x
  srt : its.Pairwise fun x y => kk x + ww x ≤ kk y
section
variable {L : yd} {its : List (List Int)}
theorem SOK.big (h : SOK L its) : 128 ≤ L.at_10 ∧ L.at_10 ≤ 20000 ∧ L.at_11 = L.at_10 + L.c.Pages * 32 ∧ 1 ≤ L.c.Pages ∧ L.c.Pages ≤ 256 := by
  have := h.lay.big; have := h.lay.a11; have := h.lay.pages; omega
theorem SOK.parts {A C : List (List Int)} {b : List Int} (h : SOK L its) (e : its = A ++ b :: C) : BOK L.at_10 L.at_11 b ∧ (∀ x ∈ A, kk x + ww x ≤ kk b) ∧ (∀ x ∈ C, kk b + ww b ≤ kk x) := by
  subst e
  have hs := h.srt
  rw [List.pairwise_append] at hs
  exact ⟨h.all b (by simp), fun x hx => hs.2.2 x hx b (by simp), fun x hx => (List.pairwise_cons.1 hs.2.1).1 x hx⟩
theorem SOK.keys {A C : List (List Int)} {b : List Int} (h : SOK L its) (e : its = A ++ b :: C) : (∀ x ∈ A, kk x < kk b) ∧ (∀ x ∈ C, kk b < kk x) := by
  obtain ⟨h1, h2, h3⟩ := h.parts e
  refine ⟨fun x hx => ?_, fun x hx => ?_⟩
  · have := h2 x hx; have := (h.all x (by rw [e]; simp [hx])).one; omega
  · have := h3 x hx; have := h1.one; omega
theorem SOK.uniq (h : SOK L its) {x y : List Int} (hx : x ∈ its) (hy : y ∈ its) (e : kk x = kk y) : x = y := by
  obtain ⟨A, C, eq⟩ := List.append_of_mem hx
  obtain ⟨k1, k2⟩ := h.keys eq
  rw [eq] at hy
  rcases List.mem_append.1 hy with h1 | h1
  · have := k1 y h1; omega
  · rcases List.mem_cons.1 h1 with h1 | h1
    · exact h1.symm
    · have := k2 y h1; omega
theorem SOK.uniqW (h : SOK L its) {x y : List Int} {a : Int} (hx : x ∈ its) (hy : y ∈ its) (ex : hasW x a) (ey : hasW y a) : x = y := by
  obtain ⟨A, C, eq⟩ := List.append_of_mem hx
  obtain ⟨_, k1, k2⟩ := h.parts eq
  rw [eq] at hy
  unfold hasW at ex ey
  rcases List.mem_append.1 hy with h1 | h1
  · have := k1 y h1; omega
  · rcases List.mem_cons.1 h1 with h1 | h1
    · exact h1.symm
    · have := k2 y h1; omega
def splitP (k : Int) (its A C : List (List Int)) : Prop := its = A ++ C ∧ (∀ x ∈ A, kk x < k) ∧ (∀ x ∈ C, k ≤ kk x)
def headIs (k : Int) : List (List Int) → Bool
  | [] => false
  | b :: _ => kk b == k
theorem SOK.split (h : SOK L its) (k : Int) : ∃ A C, splitP k its A C := by
  have hs := h.srt
  have ho : ∀ x ∈ its, 1 ≤ ww x := fun x hx => (h.all x hx).one
  clear h
  induction its with
  | nil => exact ⟨[], [], rfl, by simp, by simp⟩
  | cons b r ih =>
    obtain ⟨h1, h2⟩ := List.pairwise_cons.1 hs
    by_cases hb : kk b < k
    · obtain ⟨A, C, e, hA, hC⟩ := ih h2 (fun x hx => ho x (by simp [hx]))
      refine ⟨b :: A, C, by rw [e]; rfl, fun x hx => ?_, hC⟩
      rcases List.mem_cons.1 hx with rfl | hx
      · exact hb
      · exact hA x hx
    · refine ⟨[], b :: r, rfl, by simp, fun x hx => ?_⟩
      rcases List.mem_cons.1 hx with rfl | hx
      · omega
      · have := h1 x hx; have := ho b (by simp); omega
theorem split_get {k : Int} {A C : List (List Int)} (h : splitP k its A C) {i : Nat} (hi : i < its.length) : (i < A.length → kk (its.getD i (List.replicate 3 0)) < k) ∧ (A.length ≤ i → k ≤ kk (its.getD i (List.replicate 3 0))) := by
  obtain ⟨e, hA, hC⟩ := h
  have hg : its.getD i (List.replicate 3 0) = its[i] := by simp [List.getD, hi]
  rw [hg]
  refine ⟨fun hl => hA _ ?_, fun hl => hC _ ?_⟩
  · have : its[i] = A[i] := by simp only [e]; rw [List.getElem_append_left hl]
    rw [this]; exact List.getElem_mem _
  · have hl2 : i - A.length < C.length := by rw [e, List.length_append] at hi; omega
    have : its[i] = C[i - A.length] := by simp only [e]; rw [List.getElem_append_right hl]
    rw [this]; exact List.getElem_mem _
theorem place_eq {k : Int} {A C : List (List Int)} (h : splitP k its A C) (hn : its.length ≤ 1048576) : y15 k its = some ((A.length : Int), headIs k C) := by
  obtain ⟨r, h1, h2⟩ := loopO_ind (step := fun s => y3n k its s.1 s.2) (fun s => 0 ≤ s.1 ∧ s.1 ≤ (A.length : Int) ∧ (A.length : Int) ≤ s.2 ∧ s.2 ≤ (its.length : Int)) (fun s => (s.2 - s.1).toNat) (fun r => r = ((A.length : Int), headIs k C))
    (fun s hs => by
      obtain ⟨low, high⟩ := s
      obtain ⟨i1, i2, i3, i4⟩ := hs
      simp only at i1 i2 i3 i4
      have hlen : its.length = A.length + C.length := by rw [h.1, List.length_append]
      by_cases hlt : low < high
      · left
        have hmid : IntKind.wrap IntKind.i64 (low + IntKind.wrap IntKind.i64 (Int.tdiv (IntKind.wrap IntKind.i64 (high - low)) 2)) = low + (high - low) / 2 := by
          rw [wrap_id (x := high - low) (by omega) (by omega), Int.tdiv_eq_ediv_of_nonneg (by omega), wrap_id (x := (high - low) / 2) (by omega) (by omega), wrap_id (by omega) (by omega)]
        obtain ⟨mid, hm⟩ : ∃ mid : Nat, low + (high - low) / 2 = (mid : Int) := ⟨(low + (high - low) / 2).toNat, by omega⟩
        have hml : mid < its.length := by omega
        obtain ⟨g1, g2⟩ := split_get h hml
        simp only [y3n, hmid, offs0, hm, inR_nat hml, decide_eq_true hlt, cond_true, Int.toNat_natCast]
        by_cases hk : kk (its.getD mid (List.replicate 3 0)) < k
        · have hmA : mid < A.length := by
            rcases Nat.lt_or_ge mid A.length with h | h
            · exact h
            · have := g2 h; omega
          refine ⟨((mid : Int) + 1, high), ?_, ⟨by simp only; omega, by simp only; omega, by simp only; omega, by simp only; omega⟩, by simp only; omega⟩
          rw [decide_eq_true (show List.getD (List.getD its mid (List.replicate 3 0)) 0 0 < k from hk), cond_true, wrap_id (by omega) (by omega)]
        · have hmA : A.length ≤ mid := by
            rcases Nat.lt_or_ge mid A.length with h | h
            · exact absurd (g1 h) hk
            · exact h
          refine ⟨(low, (mid : Int)), ?_, ⟨by simp only; omega, by simp only; omega, by simp only; omega, by simp only; omega⟩, by simp only; omega⟩
          rw [decide_eq_false (show ¬ List.getD (List.getD its mid (List.replicate 3 0)) 0 0 < k from hk), cond_false]
      · right
        have hl : low = (A.length : Int) := by omega
        subst hl
        refine ⟨_, ?_, rfl⟩
        simp only [y3n, decide_eq_false hlt, cond_false, offs0, Int.toNat_natCast]
        cases C with
        | nil => rw [decide_eq_false (by simp at hlen; omega)]; rfl
        | cons b C =>
          have e := h.1
          rw [decide_eq_true (by simp at hlen; omega), cond_true, e, mid_in, cond_true, cond_true, mid_get]; rfl)
    ((0 : Int), (its.length : Int)) ⟨by simp, by simp, by simp only; rw [h.1, List.length_append]; omega, by simp⟩
  unfold y15 y76
  rw [h1, h2]
theorem Get_eq {k : Int} {A C : List (List Int)} (h : splitP k its A C) (hn : its.length ≤ 1048576) : y0h k its = some (match C with | [] => (⟨0, 0⟩, false) | b :: _ => if kk b = k then (⟨aa b, ww b⟩, true) else (⟨0, 0⟩, false)) := by
  unfold y0h
  rw [place_eq h hn, Option.bind_some]
  cases C with
  | nil => rfl
  | cons b C =>
    by_cases hb : kk b = k
    · simp only [headIs, hb, beq_self_eq_true, Bool.not_true, cond_false, if_true]
      rw [h.1, offs0, mid_in, cond_true, cond_true, Int.toNat_natCast, mid_get]; rfl
    · have : headIs k (b :: C) = false := by simpa [headIs] using hb
      simp only [this, hb, Bool.not_false, cond_true, if_false]
theorem Cut_eq {k : Int} {A C : List (List Int)} (h : splitP k its A C) (hn : its.length ≤ 1048576) : y0m k its = some (match C with | [] => (false, its) | b :: D => if kk b = k then (true, A ++ D) else (false, its)) := by
  unfold y0m
  rw [place_eq h hn, Option.bind_some]
  cases C with
  | nil => rfl
  | cons b C =>
    have hlen : its.length = A.length + (C.length + 1) := by rw [h.1, List.length_append]; rfl
    by_cases hb : kk b = k
    · simp only [headIs, hb, beq_self_eq_true, Bool.not_true, cond_false, if_true]
      have w : IntKind.wrap IntKind.i64 ((A.length : Int) + 1) = ((A.length + 1 : Nat) : Int) := wrap_succ (by omega)
      rw [w, Int.toNat_natCast, Int.toNat_natCast]
      have e1 : List.take A.length its = A := by rw [h.1]; simp
      have e2 : List.drop (A.length + 1) its = C := by rw [h.1, ← List.drop_drop]; simp
      rw [e1, e2]
      have e3 : List.take (its.length - (A.length + 1)) C = C := by rw [List.take_of_length_le]; omega
      rw [e3, decide_eq_true (by omega), decide_eq_true (by omega), decide_eq_true (by omega), decide_eq_true (by omega), decide_eq_true (by omega)]; rfl
    · have : headIs k (b :: C) = false := by simpa [headIs] using hb
      simp only [this, hb, Bool.not_false, cond_true, if_false]
theorem shove (A C : List (List Int)) (z : List Int) : List.take (A.length + 1) ((A ++ C) ++ [z]) ++ (List.take (min ((A ++ C ++ [z]).length - (A.length + 1)) ((List.take ((A ++ C ++ [z]).length - A.length) (List.drop A.length (A ++ C ++ [z]))).length))
    (List.take ((A ++ C ++ [z]).length - A.length) (List.drop A.length (A ++ C ++ [z]))) ++ List.drop (A.length + 1 + min ((A ++ C ++ [z]).length - (A.length + 1)) ((List.take ((A ++ C ++ [z]).length - A.length) (List.drop A.length (A ++ C ++ [z]))).length)) (A ++ C ++ [z]))
    = A ++ ((C ++ [z]).take 1 ++ C) := by
  have d : List.drop A.length (A ++ C ++ [z]) = C ++ [z] := by rw [List.append_assoc]; simp
  have l : (A ++ C ++ [z]).length = A.length + (C.length + 1) := by simp [Nat.add_assoc]
  rw [d, l, show A.length + (C.length + 1) - A.length = C.length + 1 by omega, show A.length + (C.length + 1) - (A.length + 1) = C.length by omega]
  have t : List.take (C.length + 1) (C ++ [z]) = C ++ [z] := List.take_of_length_le (by simp)
  rw [t, show (C ++ [z]).length = C.length + 1 by simp, Nat.min_eq_left (by omega), show List.take C.length (C ++ [z]) = C by simp]
  rw [show List.drop (A.length + 1 + C.length) (A ++ C ++ [z]) = [] from List.drop_eq_nil_of_le (by rw [l]; omega), List.append_nil]
  rw [List.append_assoc A C [z], List.take_append, List.take_of_length_le (show A.length ≤ A.length + 1 by omega), show A.length + 1 - A.length = 1 by omega, List.append_assoc]
theorem Put_eq {k : Int} {A C : List (List Int)} (v : yh) (h : splitP k its A C) (hn : its.length + 1 ≤ 1048576) : y07 k v its = some (match C with | [] => (true, A ++ [k, v.asked, v.words] :: C) | b :: D => if kk b = k then (false, A ++ [k, v.asked, v.words] :: D) else (true, A ++ [k, v.asked, v.words] :: C)) := by
  unfold y07
  rw [place_eq h (by omega), Option.bind_some]
  have hlen : its.length = A.length + C.length := by rw [h.1, List.length_append]
  by_cases hh : headIs k C = true
  · cases C with
    | nil => cases hh
    | cons b D =>
      have hb : kk b = k := by simpa [headIs] using hh
      simp only [hh, cond_true, offs0, Int.toNat_natCast]
      rw [h.1, mid_in, cond_true, cond_true, mid_get]
      simp only [hb, if_true]
      have : List.getD b 0 0 = k := hb
      rw [this, List.set_append_right _ _ (by simp)]
      simp
  · have hf : headIs k C = false := by simpa using hh
    simp only [hf, cond_false, offs0]
    have w : IntKind.wrap IntKind.i64 ((A.length : Int) + 1) = ((A.length + 1 : Nat) : Int) := wrap_succ (by omega)
    have l1 : (its ++ [[(0 : Int), 0, 0]]).length = A.length + C.length + 1 := by simp [hlen]
    rw [w]
    simp only [Int.toNat_natCast]
    rw [decide_eq_true (show its.length + 1 ≤ 1048576 by omega), decide_eq_true (show 0 ≤ ((A.length + 1 : Nat) : Int) ∧ ((A.length + 1 : Nat) : Int) ≤ (((its ++ [[(0 : Int), 0, 0]]).length : Nat) : Int) by omega),
      decide_eq_true (show 0 ≤ ((A.length : Nat) : Int) ∧ ((A.length : Nat) : Int) ≤ (((its ++ [[(0 : Int), 0, 0]]).length : Nat) : Int) by omega), decide_eq_true (by omega), decide_eq_true (by omega)]
    simp only [cond_true]
    have sh := shove A C [(0 : Int), 0, 0]
    rw [← h.1] at sh
    rw [sh]
    have hi : inR (A.length : Int) (A ++ (List.take 1 (C ++ [[(0 : Int), 0, 0]]) ++ C)).length = true := inR_nat (by simp; omega)
    rw [hi]
    simp only [cond_true]
    have fin : List.set (A ++ (List.take 1 (C ++ [[(0 : Int), 0, 0]]) ++ C)) A.length [k, v.asked, v.words] = A ++ [k, v.asked, v.words] :: C := by
      rw [List.set_append_right _ _ (by simp)]
      cases C with
      | nil => simp
      | cons b D => simp
    rw [fin]
    cases C with
    | nil => rfl
    | cons b D =>
      have hb : ¬ kk b = k := by simpa [headIs] using hf
      simp only [hb, if_false]
end
end Go.Rx
end

section
namespace Go.Rx
open Go.Proofs
section
variable {L : yd} {its : List (List Int)} {ws : List Int}
theorem Len_eq (its : List (List Int)) : yu its = some (its.length : Int) := rfl
theorem At_eq (A : List (List Int)) (b : List Int) (C : List (List Int)) : y0y (A.length : Int) (A ++ b :: C) = some (kk b, ⟨aa b, ww b⟩, true) := by
  unfold y0y
  rw [decide_eq_false (show ¬ ((A.length : Int) < 0) by omega), cond_false, Len_eq, Option.bind_some, decide_eq_false (show ¬ ((A.length : Int) ≥ ((A ++ b :: C).length : Int)) by simp; omega), cond_false, offs0, mid_in, Int.toNat_natCast, mid_get]
  rfl
def blkA (its : List (List Int)) (a : Int) : Int × Int × Bool := match its.find? (fun x => decide (hasW x a)) with | some b => (kk b, ww b, true) | none => (0, 0, false)
theorem blkA_no {a : Int} (h : ∀ x ∈ its, ¬ hasW x a) : blkA its a = (0, 0, false) := by
  unfold blkA
  rw [List.find?_eq_none.2 (fun x hx => by simpa using h x hx)]
theorem blkA_at {a : Int} {A C : List (List Int)} {b : List Int} (h : ∀ x ∈ A, ¬ hasW x a) (hb : hasW b a) : blkA (A ++ b :: C) a = (kk b, ww b, true) := by
  unfold blkA
  have : (A ++ b :: C).find? (fun x => decide (hasW x a)) = some b := List.find?_eq_some_iff_append.2 ⟨by simpa using hb, A, C, rfl, fun x hx => by simpa using h x hx⟩
  rw [this]
theorem blkA_mem (h : SOK L its) {a : Int} {b : List Int} (hm : b ∈ its) (hb : hasW b a) : blkA its a = (kk b, ww b, true) := by
  obtain ⟨A, C, e⟩ := List.append_of_mem hm
  rw [e]
  refine blkA_at (fun x hx hw => ?_) hb
  have := h.uniqW (by rw [e]; simp [hx]) hm hw hb
  have k := (h.keys e).1 x hx
  subst this; omega
theorem blkA_any (its : List (List Int)) (a : Int) : (blkA its a).2.2 = its.any (fun x => decide (hasW x a)) := by
  unfold blkA
  cases hf : its.find? (fun x => decide (hasW x a)) with
  | none =>
    rw [List.find?_eq_none] at hf
    symm
    rw [List.any_eq_false]
    exact hf
  | some b =>
    symm
    rw [List.any_eq_true]
    exact ⟨b, List.mem_of_find?_eq_some hf, List.find?_some (p := fun x => decide (hasW x a)) hf⟩
theorem Block_eq (h : SOK L its) (hn : its.length ≤ 1048576) {a : Int} (ha : -9223372036854775808 ≤ a ∧ a ≤ 9223372036854775807) : yq a L ws its = some (blkA its a) := by
  have hbig := h.big
  obtain ⟨r, h1, h2⟩ := scanS (step := fun s => y33 a its s) (l := its) (fun A => (A.length : Int)) (fun A => ∀ x ∈ A, ¬ hasW x a) (fun r => r = blkA its a)
    (fun A b C e hA => by
      obtain ⟨hb, _, hC⟩ := h.parts e
      have hlt : decide ((A.length : Int) < (its.length : Int)) = true := by rw [e]; exact mid_lt A b C
      have hat : y0y (A.length : Int) its = some (kk b, ⟨aa b, ww b⟩, true) := by rw [e]; exact At_eq A b C
      have hl : A.length < its.length := by rw [e]; simp
      have h1 := hb.lo; have h2 := hb.hi; have h3 := hb.one
      by_cases hgt : kk b > a
      · right
        refine ⟨(0, 0, false), ?_, ?_⟩
        · simp only [y33, Len_eq, Option.bind_some, hlt, cond_true, hat, decide_eq_true hgt]
        · symm
          refine blkA_no fun x hx => ?_
          rw [e] at hx
          rcases List.mem_append.1 hx with hx | hx
          · exact hA x hx
          · rcases List.mem_cons.1 hx with rfl | hx
            · unfold hasW; omega
            · have := hC x hx; unfold hasW; omega
      · by_cases hw : hasW b a
        · right
          refine ⟨(kk b, ww b, true), ?_, ?_⟩
          · unfold hasW at hw
            simp only [y33, Len_eq, Option.bind_some, hlt, cond_true, hat, decide_eq_false hgt, cond_false]
            rw [wrap_id (by omega) (by omega), decide_eq_true (by omega), cond_true]
          · rw [e, blkA_at hA hw]
        · left
          refine ⟨?_, fun x hx => ?_⟩
          · have hw' : ¬ (a - kk b < ww b) := by unfold hasW at hw; omega
            simp only [y33, Len_eq, Option.bind_some, hlt, cond_true, hat, decide_eq_false hgt, cond_false]
            rw [wrap_id (x := a - kk b) (by omega) (by omega), decide_eq_false hw', cond_false, wrap_succ (by omega)]
            simp
          · rcases List.mem_append.1 hx with hx | hx
            · exact hA x hx
            · simp at hx; subst hx; exact hw)
    (fun hA => ⟨(0, 0, false), by
      simp only [y33, Len_eq, Option.bind_some]
      rw [decide_eq_false (by omega), cond_false], (blkA_no hA).symm⟩)
    (by simp)
  unfold yq y7t
  have h1 : loopO (fun s => y33 a its s) 0 = some r := h1
  rw [h1, h2]
def pairs (its : List (List Int)) : List Pr := its.map fun x => ⟨kk x, aa x⟩
theorem Live_eq (hn : its.length ≤ 1048575) : y0b L ws its = some (pairs its) := by
  obtain ⟨r, h1, h2⟩ := scanS (step := fun s => y3a its (its.length : Int) s.1 s.2) (l := its) (fun A => ((A.length : Int), pairs A)) (fun _ => True) (fun r => r = pairs its)
    (fun A b C e _ => by
      left
      refine ⟨?_, trivial⟩
      have hlt : decide ((A.length : Int) < (its.length : Int)) = true := by rw [e]; exact mid_lt A b C
      have hl : A.length < its.length := by rw [e]; simp
      have hi : inR (A.length : Int) its.length = true := by rw [e]; exact mid_in A b C
      have hg : its.getD A.length (List.replicate 3 0) = b := by rw [e]; exact mid_get A b C _
      have hp : (pairs A).length = A.length := by simp [pairs]
      simp only [y3a, hlt, cond_true, offs0, hi, Int.toNat_natCast, hg, y0s, hp]
      rw [decide_eq_true (by omega), cond_true, Option.bind_some, wrap_succ (by omega)]
      simp only [Bool.not_true, cond_false]
      simp [pairs, kk, aa])
    (fun _ => ⟨pairs its, by
      simp only [y3a]
      rw [decide_eq_false (by omega), cond_false], rfl⟩)
    trivial
  unfold y0b y1b y6y
  rw [Len_eq, Option.bind_some]
  have h1 : loopO (fun s => y3a its (its.length : Int) s.1 s.2) (0, []) = some r := h1
  rw [h1, h2]; rfl
def sumw (f : List Int → Int) (l : List (List Int)) : Int := l.foldl (fun s x => IntKind.wrap IntKind.i64 (s + f x)) 0
theorem sumw_snoc (f : List Int → Int) (A : List (List Int)) (b : List Int) : sumw f (A ++ [b]) = IntKind.wrap IntKind.i64 (sumw f A + f b) := by simp [sumw, List.foldl_append]
theorem sumw_perm (f : List Int → Int) {l l' : List (List Int)} (h : l.Perm l') : sumw f l = sumw f l' := by
  unfold sumw
  refine h.foldl_eq' (fun x _ y _ z => ?_) 0
  rw [IntKind.wrap_i64, IntKind.wrap_i64, IntKind.wrap_i64, IntKind.wrap_i64]; omega
theorem total_eq (hn : its.length ≤ 1048575) : y19 ⟨0, 0⟩ its = some ⟨sumw aa its, sumw ww its⟩ := by
  obtain ⟨r, h1, h2⟩ := scanS (step := fun s => y3e its (its.length : Int) s.1 s.2) (l := its) (fun A => ((A.length : Int), (⟨sumw aa A, sumw ww A⟩ : yh))) (fun _ => True) (fun r => r = ⟨sumw aa its, sumw ww its⟩)
    (fun A b C e _ => by
      left
      refine ⟨?_, trivial⟩
      have hlt : decide ((A.length : Int) < (its.length : Int)) = true := by rw [e]; exact mid_lt A b C
      have hl : A.length < its.length := by rw [e]; simp
      have hi : inR (A.length : Int) its.length = true := by rw [e]; exact mid_in A b C
      have hg : its.getD A.length (List.replicate 3 0) = b := by rw [e]; exact mid_get A b C _
      simp only [y3e, hlt, cond_true, offs0, hi, Int.toNat_natCast, hg, y14]
      rw [Option.bind_some, wrap_succ (by omega), sumw_snoc, sumw_snoc]
      simp only [Bool.not_true, cond_false]
      simp [aa, ww])
    (fun _ => ⟨_, by
      simp only [y3e]
      rw [decide_eq_false (by omega), cond_false], rfl⟩)
    trivial
  unfold y19 y88
  rw [Len_eq, Option.bind_some]
  have h1 : loopO (fun s => y3e its (its.length : Int) s.1 s.2) (0, ⟨0, 0⟩) = some r := h1
  rw [h1, h2]
def wordA (L : yd) (ws : List Int) (a : Int) : Int := if L.at_10 ≤ a ∧ a < L.at_11 then ws.getD (a - L.at_10).toNat 0 else 0
theorem lPlace_ok (L : yd) (a : Int) : (lPlace L a).2.2 = decide (L.at_10 ≤ a ∧ a < L.at_11) := by
  unfold lPlace; split <;> simp_all
theorem Word_eq (h : LayOK L) (hw : (ws.length : Int) = L.at_11 - L.at_10) (a : Int) : yr a L ws its = some (wordA L ws a) := by
  have hb := h.big; have h11 := h.a11; have hp := h.pages
  unfold yr wordA
  rw [Place_eq h, Option.bind_some, lPlace_ok]
  by_cases ha : L.at_10 ≤ a ∧ a < L.at_11
  · rw [decide_eq_true ha, if_pos ha, User_eq, Option.bind_some, offs0, wrap_id (by omega) (by omega), inR_int (by omega) (by omega)]; rfl
  · rw [decide_eq_false ha, if_neg ha]; rfl
def eqR (r : T_api_Reply) (e a s v : Int) : Bool := r.Err == e && (r.Addr == a && (r.Size == s && (r.Value == v && (r.Stats.Blocks == 0 && (r.Stats.Asked == 0 && (r.Stats.Words == 0 && (r.Stats.Kept == 0 && (r.Stats.Open == 0 && (r.Stats.Mapped == 0 && (r.Stats.Used == 0 && Bool.true)))))) && Bool.true))))
def freeB (its : List (List Int)) (a : Int) (n : Nat) : Bool := (List.range n).all fun i => !its.any (fun x => decide (hasW x (a + i)))
theorem freeB_false {a : Int} {n i : Nat} (hi : i < n) (h : its.any (fun x => decide (hasW x (a + i))) = true) : freeB its a n = false := by
  unfold freeB
  rw [List.all_eq_false]
  exact ⟨i, List.mem_range.2 hi, by rw [h]; simp⟩
theorem freeB_true {a : Int} {n : Nat} (h : ∀ i, i < n → its.any (fun x => decide (hasW x (a + (i : Nat)))) = false) : freeB its a n = true := by
  unfold freeB
  rw [List.all_eq_true]
  intro i hi
  rw [h i (List.mem_range.1 hi)]; rfl
theorem freeB_spec {a : Int} {n : Nat} (h : freeB its a n = true) {x : List Int} (hx : x ∈ its) {b : Int} (h1 : a ≤ b) (h2 : b < a + n) : ¬ hasW x b := by
  intro hw
  unfold freeB at h
  rw [List.all_eq_true] at h
  have := h (b - a).toNat (List.mem_range.2 (by omega))
  rw [show a + ((b - a).toNat : Nat) = b by omega] at this
  have h3 : its.any (fun x => decide (hasW x b)) = true := List.any_eq_true.2 ⟨x, hx, by simpa using hw⟩
  rw [h3] at this; cases this
theorem any_perm {p : List Int → Bool} {l l' : List (List Int)} (h : l.Perm l') : l.any p = l'.any p := by
  rw [Bool.eq_iff_iff, List.any_eq_true, List.any_eq_true]
  exact ⟨fun ⟨x, h1, h2⟩ => ⟨x, h.mem_iff.1 h1, h2⟩, fun ⟨x, h1, h2⟩ => ⟨x, h.mem_iff.2 h1, h2⟩⟩
def fitB (L : yd) (its : List (List Int)) (c : yb) (r : T_api_Reply) : Bool :=
  eqR r 0 r.Addr (rndI c.Size (alI c)) 0 && (!(rndI c.Size (alI c) == 0) && (Int.tmod r.Addr (alI c) == 0 && (decide (L.at_10 ≤ r.Addr ∧ r.Addr < L.at_11) && (decide (rndI c.Size (alI c) ≤ L.at_11 - r.Addr) && freeB its r.Addr (rndI c.Size (alI c)).toNat))))
theorem rnd_eq (n al : Int) : y04 n al = some (rndI n al) := by
  unfold y04 rndI
  by_cases h : n > 1048576
  · rw [decide_eq_true h, if_pos h]; rfl
  · rw [decide_eq_false h, if_neg h, cRound_eq _ _ (by omega)]; rfl
theorem fitsL_eq (h : SOK L its) (hn : its.length ≤ 1048576) {r : T_api_Reply} (ha : L.at_10 ≤ r.Addr ∧ r.Addr < L.at_11) {n : Int} (h0 : 0 ≤ n ∧ n ≤ L.at_11 - r.Addr) : y3p r L ws its n 0 = some (freeB its r.Addr n.toNat) := by
  have hb := h.big
  obtain ⟨x, h1, h2⟩ := countS (step := fun s => y3i r L ws its n s) (fun i => (i : Int)) n.toNat (fun i => ∀ j, j < i → its.any (fun x => decide (hasW x (r.Addr + (j : Nat)))) = false) (fun x => x = freeB its r.Addr n.toNat)
    (fun i hi hI => by
      have hlt : decide ((i : Int) < n) = true := decide_eq_true (by omega)
      have hblk : yq (IntKind.wrap IntKind.i64 (r.Addr + (i : Int))) L ws its = some (blkA its (r.Addr + (i : Int))) := by
        rw [wrap_id (by omega) (by omega)]; exact Block_eq h hn (by omega)
      simp only [y3i, hlt, cond_true, hblk, Option.bind_some, blkA_any]
      cases hx : its.any (fun x => decide (hasW x (r.Addr + (i : Int)))) with
      | true => exact .inr ⟨false, rfl, (freeB_false hi hx).symm⟩
      | false =>
        left
        refine ⟨by rw [cond_false, wrap_succ (by omega)], fun j hj => ?_⟩
        rcases Nat.lt_or_ge j i with h | h
        · exact hI j h
        · have : j = i := by omega
          subst this; exact hx)
    (fun hI => ⟨true, by
      simp only [y3i]
      rw [decide_eq_false (by omega), cond_false], (freeB_true hI).symm⟩)
    (fun j hj => by omega)
  unfold y3p
  have h1 : loopO (fun s => y3i r L ws its n s) 0 = some x := h1
  rw [h1, h2]
theorem fits_eq (h : SOK L its) (hn : its.length ≤ 1048576) (hw : (ws.length : Int) = L.at_11 - L.at_10) {c : yb} {r : T_api_Reply} (hk : sized c) (hc : askP c) : y18 c r L ws its = some (fitB L its c r) := by
  have hb := h.big
  have hf := hc.2 hk
  have tail : ∀ n al : Int, (0 ≤ n) → (bif (Int.tmod r.Addr al != 0) then some false else (yn L r.Addr).bind fun y1 => bif (!Prod.snd (Prod.snd y1)) then some false else (ym L).bind fun y2 =>
      bif inR (IntKind.wrap IntKind.i64 (r.Addr - y2)) ws.length then (y0r L).bind fun y3 => bif decide (n > IntKind.wrap IntKind.i64 (y3 - r.Addr)) then some false else y3p r L ws its n 0 else none) =
      some (Int.tmod r.Addr al == 0 && (decide (L.at_10 ≤ r.Addr ∧ r.Addr < L.at_11) && (decide (n ≤ L.at_11 - r.Addr) && freeB its r.Addr n.toNat))) := by
    intro n al hn0
    by_cases hm : Int.tmod r.Addr al = 0
    · rw [show (Int.tmod r.Addr al != 0) = false by simp [hm], cond_false, show (Int.tmod r.Addr al == 0) = true by simp [hm], Place_eq h.lay, Option.bind_some, lPlace_ok]
      by_cases ha : L.at_10 ≤ r.Addr ∧ r.Addr < L.at_11
      · rw [decide_eq_true ha, User_eq, Option.bind_some, wrap_id (x := r.Addr - _) (by omega) (by omega), inR_int (by omega) (by omega), Words_eq, Option.bind_some, wrap_id (by omega) (by omega)]
        simp only [Bool.not_true, cond_false, cond_true, Bool.true_and]
        by_cases hx : n ≤ L.at_11 - r.Addr
        · rw [decide_eq_false (by omega), cond_false, decide_eq_true hx, Bool.true_and, fitsL_eq h hn ha ⟨hn0, hx⟩]
        · rw [decide_eq_true (by omega), cond_true, decide_eq_false hx]; rfl
      · rw [decide_eq_false ha]; rfl
    · rw [show (Int.tmod r.Addr al != 0) = true by simp [hm], show (Int.tmod r.Addr al == 0) = false by simp [hm]]; rfl
  have nn : 0 ≤ rndI c.Size (alI c) := by
    unfold rndI; split
    · omega
    · have := roundI_le hf (by omega); omega
  unfold y18 fitB
  by_cases h5 : c.Kind = 5
  · have ea : alI c = c.Align := by unfold alI; rw [if_pos h5]
    rw [ea] at nn hf ⊢
    rw [show (c.Kind == 5) = true by simp [h5], cond_true, rnd_eq, Option.bind_some]
    have t := tail (rndI c.Size c.Align) c.Align nn
    change (bif !(eqR r 0 r.Addr (rndI c.Size c.Align) 0) then _ else _) = _
    cases eqR r 0 r.Addr (rndI c.Size c.Align) 0 with
    | false => rfl
    | true =>
      simp only [Bool.not_true, cond_false, Bool.true_and]
      cases rndI c.Size c.Align == 0 with
      | true => rfl
      | false =>
        have hal : (!c.Align == 0) = true := by
          have := hf.2; unfold powI at this
          have : c.Align ≠ 0 := by omega
          simpa using this
        simp only [cond_false, hal, cond_true, Bool.not_false, Bool.true_and]
        exact t
  · have ea : alI c = 1 := by unfold alI; rw [if_neg h5]
    rw [ea] at nn hf ⊢
    rw [show (c.Kind == 5) = false by simpa using h5, cond_false, rnd_eq, Option.bind_some]
    have t := tail (rndI c.Size 1) 1 nn
    change (bif !(eqR r 0 r.Addr (rndI c.Size 1) 0) then _ else _) = _
    cases eqR r 0 r.Addr (rndI c.Size 1) 0 with
    | false => rfl
    | true =>
      simp only [Bool.not_true, cond_false, Bool.true_and]
      cases rndI c.Size 1 == 0 with
      | true => rfl
      | false =>
        simp only [cond_false, Bool.not_false, Bool.true_and]
        exact t
end
end Go.Rx
end

section
namespace Go.Rx
open Go.Proofs
section
variable {L : yd} {its : List (List Int)} {ws : List Int}
theorem ilt_or (a b : Int) : a < b ∨ b ≤ a := by omega
def zeroW (ws : List Int) (f : Nat) : Nat → List Int
  | 0 => ws
  | n + 1 => (zeroW ws f n).set (f + n) 0
def copyW (ws : List Int) (t f : Nat) : Nat → List Int
  | 0 => ws
  | n + 1 => (copyW ws t f n).set (t + n) ((copyW ws t f n).getD (f + n) 0)
theorem zeroW_len (ws : List Int) (f : Nat) : ∀ n, (zeroW ws f n).length = ws.length
  | 0 => rfl
  | n + 1 => by rw [zeroW, List.length_set, zeroW_len ws f n]
theorem copyW_len (ws : List Int) (t f : Nat) : ∀ n, (copyW ws t f n).length = ws.length
  | 0 => rfl
  | n + 1 => by rw [copyW, List.length_set, copyW_len ws t f n]
theorem SOK.ins (h : SOK L its) {A C : List (List Int)} {x : List Int} (e : splitP (kk x) its A C) (hx : BOK L.at_10 L.at_11 x) (hf : freeB its (kk x) (ww x).toNat = true) : SOK L (A ++ x :: C) ∧ headIs (kk x) C = false := by
  have hone := hx.one
  have hfree : ∀ y ∈ its, kk y + ww y ≤ kk x ∨ kk x + ww x ≤ kk y := by
    intro y hy
    have h1 := (h.all y hy).one
    rcases ilt_or (kk x) (kk y) with hl | hl
    · right
      rcases ilt_or (kk y) (kk x + ww x) with h2 | h2
      · exact absurd (show hasW y (kk y) from ⟨by omega, by omega⟩) (freeB_spec hf hy (b := kk y) (by omega) (by omega))
      · exact h2
    · left
      rcases ilt_or (kk x) (kk y + ww y) with h2 | h2
      · exact absurd (show hasW y (kk x) from ⟨by omega, by omega⟩) (freeB_spec hf hy (b := kk x) (by omega) (by omega))
      · exact h2
  obtain ⟨e1, hA, hC⟩ := e
  have hs := h.srt
  rw [e1, List.pairwise_append] at hs
  refine ⟨⟨h.lay, fun y hy => ?_, ?_⟩, ?_⟩
  · rcases List.mem_append.1 hy with hy | hy
    · exact h.all y (by rw [e1]; simp [hy])
    · rcases List.mem_cons.1 hy with rfl | hy
      · exact hx
      · exact h.all y (by rw [e1]; simp [hy])
  · rw [List.pairwise_append]
    refine ⟨hs.1, List.pairwise_cons.2 ⟨fun y hy => ?_, hs.2.1⟩, fun y hy z hz => ?_⟩
    · have h1 := hC y hy
      rcases hfree y (by rw [e1]; simp [hy]) with h2 | h2
      · have := (h.all y (by rw [e1]; simp [hy])).one; omega
      · exact h2
    · rcases List.mem_cons.1 hz with rfl | hz
      · have h1 := hA y hy
        rcases hfree y (by rw [e1]; simp [hy]) with h2 | h2
        · exact h2
        · omega
      · exact hs.2.2 y hy z hz
  · cases C with
    | nil => rfl
    | cons b C =>
      have hb := hfree b (by rw [e1]; simp)
      have h1 := (h.all b (by rw [e1]; simp)).one
      have : kk b ≠ kk x := by omega
      simpa [headIs] using this
theorem eqR_iff {r : T_api_Reply} {e a s v : Int} (h : eqR r e a s v = true) : r.Err = e ∧ r.Addr = a ∧ r.Size = s ∧ r.Value = v := by
  unfold eqR at h
  simp only [Bool.and_eq_true, beq_iff_eq] at h
  exact ⟨h.1, h.2.1, h.2.2.1, h.2.2.2.1⟩
theorem fit_spec {c : yb} {r : T_api_Reply} (hc : fitOK c.Size (alI c)) (h : fitB L its c r = true) :
    r.Size = rndI c.Size (alI c) ∧ r.Err = 0 ∧ (L.at_10 ≤ r.Addr ∧ r.Addr < L.at_11) ∧ r.Size ≤ L.at_11 - r.Addr ∧ (0 ≤ c.Size ∧ c.Size ≤ r.Size) ∧ 1 ≤ r.Size ∧ freeB its r.Addr r.Size.toNat = true := by
  unfold fitB at h
  simp only [Bool.and_eq_true, decide_eq_true_eq] at h
  obtain ⟨h1, h2, h3, h4, h5, h6⟩ := h
  obtain ⟨e1, _, e3, _⟩ := eqR_iff h1
  rw [← e3] at h2 h5 h6
  have hn0 : rndI c.Size (alI c) ≠ 0 := by rw [← e3]; simpa using h2
  have hle : c.Size ≤ 1048576 := by
    rcases ilt_or 1048576 c.Size with h | h
    · exact absurd (by unfold rndI; rw [if_pos h]) hn0
    · exact h
  have hr := roundI_le hc hle
  have he : rndI c.Size (alI c) = roundI c.Size (alI c) := by unfold rndI; rw [if_neg (by omega)]
  have := hc.1
  exact ⟨e3, e1, h4, h5, ⟨this, by omega⟩, by omega, h6⟩
def putL (its : List (List Int)) (x : List Int) : List (List Int) := its.takeWhile (fun y => decide (kk y < kk x)) ++ x :: its.dropWhile (fun y => decide (kk y < kk x))
theorem split_while {A C : List (List Int)} {k : Int} (h : splitP k its A C) : its.takeWhile (fun y => decide (kk y < k)) = A ∧ its.dropWhile (fun y => decide (kk y < k)) = C := by
  obtain ⟨e, hA, hC⟩ := h
  subst e
  have t : ∀ y ∈ A, decide (kk y < k) = true := fun y hy => decide_eq_true (hA y hy)
  rw [List.takeWhile_append_of_pos t, List.dropWhile_append_of_pos t]
  cases C with
  | nil => simp
  | cons b C =>
    have := hC b (by simp)
    have : decide (kk b < k) = false := decide_eq_false (by omega)
    simp [this]
theorem putL_eq {A C : List (List Int)} {x : List Int} (h : splitP (kk x) its A C) : putL its x = A ++ x :: C := by
  unfold putL
  obtain ⟨h1, h2⟩ := split_while h
  rw [h1, h2]
theorem putL_perm (x : List Int) : (putL its x).Perm (x :: its) := by
  unfold putL
  refine List.perm_middle.trans ?_
  rw [List.takeWhile_append_dropWhile]
theorem putL_len (x : List Int) : (putL its x).length = its.length + 1 := (putL_perm x).length_eq
theorem SOK.put (h : SOK L its) {x : List Int} (hx : BOK L.at_10 L.at_11 x) (hf : freeB its (kk x) (ww x).toNat = true) : SOK L (putL its x) := by
  obtain ⟨A, C, e⟩ := h.split (kk x)
  rw [putL_eq e]
  exact (h.ins e hx hf).1
theorem putNew (h : SOK L its) (hn : its.length + 1 ≤ 1048576) {x : List Int} (hx : BOK L.at_10 L.at_11 x) (hf : freeB its (kk x) (ww x).toNat = true) : y07 (kk x) ⟨aa x, ww x⟩ its = some (true, putL its x) := by
  obtain ⟨A, C, e⟩ := h.split (kk x)
  have hh := (h.ins e hx hf).2
  rw [Put_eq _ e hn, putL_eq e, ← hx.eq]
  cases C with
  | nil => rfl
  | cons b C =>
    have : ¬ kk b = kk x := by simpa [headIs] using hh
    simp only [this, if_false]
def freshW (L : yd) (ws : List Int) (c : yb) (r : T_api_Reply) : List Int := if c.Kind = 3 then zeroW ws (r.Addr - L.at_10).toNat r.Size.toNat else ws
theorem freshW_len (c : yb) (r : T_api_Reply) : (freshW L ws c r).length = ws.length := by
  by_cases h3 : c.Kind = 3
  · rw [freshW, if_pos h3]; exact zeroW_len _ _ _
  · rw [freshW, if_neg h3]
theorem freshL_eq (h : LayOK L) (hw : (ws.length : Int) = L.at_11 - L.at_10) {r : T_api_Reply} (ha : L.at_10 ≤ r.Addr ∧ r.Addr < L.at_11) (h0 : 0 ≤ r.Size ∧ r.Size ≤ L.at_11 - r.Addr) (w : List (List Int)) :
    y4b r L w (0, ws) = some (true, w, zeroW ws (r.Addr - L.at_10).toNat r.Size.toNat) := by
  have hb := h.big; have h11 := h.a11; have hp := h.pages
  obtain ⟨x, h1, h2⟩ := countS (step := fun s => y3c r L w s.1 s.2) (fun i => ((i : Int), zeroW ws (r.Addr - L.at_10).toNat i)) r.Size.toNat (fun _ => True) (fun x => x = (true, w, zeroW ws (r.Addr - L.at_10).toNat r.Size.toNat))
    (fun i hi _ => by
      left
      refine ⟨?_, trivial⟩
      have hlt : decide ((i : Int) < r.Size) = true := decide_eq_true (by omega)
      have hok : decide (L.at_10 ≤ r.Addr + (i : Int) ∧ r.Addr + (i : Int) < L.at_11) = true := decide_eq_true (by omega)
      have w1 : IntKind.wrap IntKind.i64 (r.Addr + (i : Int)) = r.Addr + (i : Int) := wrap_id (by omega) (by omega)
      have w2 : IntKind.wrap IntKind.i64 (r.Addr + (i : Int) - L.at_10) = r.Addr + (i : Int) - L.at_10 := wrap_id (by omega) (by omega)
      have hin : inR (r.Addr + (i : Int) - L.at_10) (zeroW ws (r.Addr - L.at_10).toNat i).length = true := by rw [zeroW_len]; exact inR_int (by omega) (by omega)
      simp only [y3c, hlt, cond_true, w1, Place_eq h, Option.bind_some, lPlace_ok, hok, Bool.not_true, cond_false, User_eq, w2, offs0, hin]
      rw [wrap_succ (by omega), show (r.Addr + (i : Int) - L.at_10).toNat = (r.Addr - L.at_10).toNat + i by omega]
      rfl)
    (fun _ => ⟨_, by
      simp only [y3c]
      rw [decide_eq_false (by omega), cond_false], rfl⟩)
    trivial
  unfold y4b
  have h1 : loopO (fun s => y3c r L w s.1 s.2) (0, ws) = some x := h1
  rw [h1, h2]
def freshR (L : yd) (its : List (List Int)) (ws : List Int) (c : yb) (r : T_api_Reply) : Bool × List (List Int) × List Int :=
  bif eqR r 6 0 0 0 then (true, its, ws) else bif !fitB L its c r then (false, its, ws) else (true, putL its [r.Addr, c.Size, r.Size], freshW L ws c r)
theorem newBOK {c : yb} {r : T_api_Reply} (hc : fitOK c.Size (alI c)) (hf : fitB L its c r = true) : BOK L.at_10 L.at_11 [r.Addr, c.Size, r.Size] := by
  obtain ⟨f1, f2, f3, f4, f5, f6, f7⟩ := fit_spec hc hf
  exact ⟨rfl, f3.1, f6, by show r.Addr + r.Size ≤ L.at_11; omega, f5⟩
theorem fresh_eq (h : SOK L its) (hn : its.length + 1 ≤ 1048576) (hw : (ws.length : Int) = L.at_11 - L.at_10) {c : yb} {r : T_api_Reply} (hk : sized c) (hc : askP c) : y0c c r L ws its = some (freshR L its ws c r) := by
  unfold y0c freshR
  change (bif eqR r 6 0 0 0 then _ else _) = _
  cases eqR r 6 0 0 0 with
  | true => rfl
  | false =>
    simp only [cond_false]
    rw [fits_eq h (by omega) hw hk hc, Option.bind_some]
    cases hf : fitB L its c r with
    | false => rfl
    | true =>
      simp only [Bool.not_true, cond_false]
      obtain ⟨f1, f2, f3, f4, f5, f6, f7⟩ := fit_spec (hc.2 hk) hf
      have hx := newBOK (hc.2 hk) hf
      have hp := putNew h hn hx f7
      rw [show y07 r.Addr ⟨c.Size, r.Size⟩ its = some (true, putL its [r.Addr, c.Size, r.Size]) from hp, Option.bind_some]
      unfold freshW
      by_cases h3 : c.Kind = 3
      · rw [show (c.Kind == 3) = true by simp [h3], cond_true, if_pos h3, freshL_eq h.lay hw f3 ⟨by omega, f4⟩]
      · rw [show (c.Kind == 3) = false by simpa using h3, cond_false, if_neg h3]
theorem freshR_ok (h : SOK L its) {c : yb} {r : T_api_Reply} (hc : fitOK c.Size (alI c)) : SOK L (freshR L its ws c r).2.1 ∧ (freshR L its ws c r).2.2.length = ws.length ∧ (freshR L its ws c r).2.1.length ≤ its.length + 1 ∧ ((freshR L its ws c r).1 = false → (freshR L its ws c r).2 = (its, ws)) := by
  unfold freshR
  cases eqR r 6 0 0 0 with
  | true => exact ⟨h, rfl, by simp, fun h => by cases h⟩
  | false =>
    cases hf : fitB L its c r with
    | false => exact ⟨h, rfl, by simp, fun _ => rfl⟩
    | true =>
      obtain ⟨f1, f2, f3, f4, f5, f6, f7⟩ := fit_spec hc hf
      exact ⟨h.put (newBOK hc hf) f7, freshW_len _ _, by simp [putL_len], fun h => by cases h⟩
end
end Go.Rx
end

section
namespace Go.Rx
open Go.Proofs
section
variable {L : yd} {its : List (List Int)} {ws : List Int}
theorem eqR_def (r : T_api_Reply) (e a s v : Int) : eqR r e a s v = (r.Err == e && (r.Addr == a && (r.Size == s && (r.Value == v && (r.Stats.Blocks == 0 && (r.Stats.Asked == 0 && (r.Stats.Words == 0 && (r.Stats.Kept == 0 && (r.Stats.Open == 0 && (r.Stats.Mapped == 0 && (r.Stats.Used == 0 && Bool.true)))))) && Bool.true))))) := rfl
def eqS (r : T_api_Reply) : Bool := r.Err == 0 && (r.Addr == 0 && (r.Size == 0 && (r.Value == 0 && (r.Stats.Blocks == r.Stats.Blocks && (r.Stats.Asked == r.Stats.Asked && (r.Stats.Words == r.Stats.Words && (r.Stats.Kept == r.Stats.Kept && (r.Stats.Open == r.Stats.Open && (r.Stats.Mapped == r.Stats.Mapped && (r.Stats.Used == r.Stats.Used && Bool.true)))))) && Bool.true))))
def getK (its : List (List Int)) (k : Int) : Option (List Int) := its.find? (fun x => kk x == k)
def delK (its : List (List Int)) (k : Int) : List (List Int) := its.filter (fun x => !(kk x == k))
def updK (its : List (List Int)) (x : List Int) : List (List Int) := its.map (fun y => bif kk y == kk x then x else y)
theorem map_no {l : List (List Int)} {x : List Int} (h : ∀ y ∈ l, kk y ≠ kk x) : updK l x = l := by
  unfold updK
  conv => rhs; rw [← List.map_id l]
  refine List.map_congr_left fun y hy => ?_
  rw [show (kk y == kk x) = false by simpa using h y hy]; rfl
theorem del_no {l : List (List Int)} {k : Int} (h : ∀ y ∈ l, kk y ≠ k) : delK l k = l := by
  unfold delK
  rw [List.filter_eq_self]
  intro y hy
  simpa using h y hy
theorem get_no {l : List (List Int)} {k : Int} (h : ∀ y ∈ l, kk y ≠ k) : getK l k = none := by
  unfold getK
  rw [List.find?_eq_none]
  intro y hy
  simpa using h y hy
theorem SOK.look (h : SOK L its) (k : Int) : (∃ A b D, its = A ++ b :: D ∧ kk b = k ∧ splitP k its A (b :: D) ∧ getK its k = some b ∧ delK its k = A ++ D ∧ (∀ x : List Int, kk x = k → updK its x = A ++ x :: D)) ∨
    (∃ A C, splitP k its A C ∧ headIs k C = false ∧ (∀ x ∈ its, kk x ≠ k) ∧ getK its k = none ∧ delK its k = its) := by
  obtain ⟨A, C, e⟩ := h.split k
  have hA : ∀ y ∈ A, kk y ≠ k := fun y hy => by have := e.2.1 y hy; omega
  have none_ : headIs k C = false → (∀ x ∈ C, kk x ≠ k) → (∃ A C, splitP k its A C ∧ headIs k C = false ∧ (∀ x ∈ its, kk x ≠ k) ∧ getK its k = none ∧ delK its k = its) := by
    intro h1 h2
    have hall : ∀ x ∈ its, kk x ≠ k := fun x hx => by
      rw [e.1] at hx
      rcases List.mem_append.1 hx with hx | hx
      · exact hA x hx
      · exact h2 x hx
    exact ⟨A, C, e, h1, hall, get_no hall, del_no hall⟩
  cases C with
  | nil => exact .inr (none_ rfl (by simp))
  | cons b D =>
    have kD := (h.keys e.1).2
    by_cases hb : kk b = k
    · left
      have hD : ∀ y ∈ D, kk y ≠ k := fun y hy => by have := kD y hy; omega
      refine ⟨A, b, D, e.1, hb, e, ?_, ?_, fun x hx => ?_⟩
      · unfold getK
        rw [List.find?_eq_some_iff_append]
        exact ⟨by simpa using hb, A, D, e.1, fun y hy => by simpa using hA y hy⟩
      · rw [e.1]
        have h1 := del_no hA
        have h2 := del_no hD
        unfold delK at h1 h2 ⊢
        rw [List.filter_append, h1, List.filter_cons, show (!(kk b == k)) = false by simp [hb], h2]; rfl
      · rw [e.1]
        have h1 : updK A x = A := map_no (fun y hy => by rw [hx]; exact hA y hy)
        have h2 : updK D x = D := map_no (fun y hy => by rw [hx]; exact hD y hy)
        unfold updK at h1 h2 ⊢
        rw [List.map_append, h1, List.map_cons, h2, show (kk b == kk x) = true by simp [hb, hx]]; rfl
    · refine .inr (none_ (by simpa [headIs] using hb) fun x hx => ?_)
      rcases List.mem_cons.1 hx with rfl | hx
      · exact hb
      · have := kD x hx; have := e.2.2 b (by simp); omega
theorem GetK_eq (h : SOK L its) (hn : its.length ≤ 1048576) (k : Int) : y0h k its = some (match getK its k with | none => (⟨0, 0⟩, false) | some b => (⟨aa b, ww b⟩, true)) := by
  rcases h.look k with ⟨A, b, D, e, hb, hs, hg, _, _⟩ | ⟨A, C, hs, hh, _, hg, _⟩
  · rw [Get_eq hs hn, hg]; simp [hb]
  · rw [Get_eq hs hn, hg]
    cases C with
    | nil => rfl
    | cons b C =>
      have : ¬ kk b = k := by simpa [headIs] using hh
      simp [this]
theorem CutK_eq (h : SOK L its) (hn : its.length ≤ 1048576) (k : Int) : ∃ b, y0m k its = some (b, delK its k) := by
  rcases h.look k with ⟨A, b, D, e, hb, hs, hg, hd, _⟩ | ⟨A, C, hs, hh, _, hg, hd⟩
  · rw [Cut_eq hs hn, hd]; simp [hb]
  · rw [Cut_eq hs hn, hd]
    cases C with
    | nil => exact ⟨_, rfl⟩
    | cons b C =>
      have : ¬ kk b = k := by simpa [headIs] using hh
      simp [this]
theorem PutK_eq (h : SOK L its) (hn : its.length + 1 ≤ 1048576) {k : Int} {b : List Int} (hg : getK its k = some b) (s w : Int) : ∃ x, y07 k ⟨s, w⟩ its = some (x, updK its [k, s, w]) := by
  rcases h.look k with ⟨A, b, D, e, hb, hs, _, _, hu⟩ | ⟨A, C, hs, hh, _, hg', _⟩
  · rw [Put_eq _ hs hn, hu [k, s, w] rfl]; simp [hb]
  · rw [hg'] at hg; cases hg
theorem getK_mem {k : Int} {b : List Int} (hg : getK its k = some b) : b ∈ its ∧ kk b = k := by
  unfold getK at hg
  exact ⟨List.mem_of_find?_eq_some hg, by simpa using List.find?_some hg⟩
theorem SOK.del (h : SOK L its) (k : Int) : SOK L (delK its k) := by
  refine ⟨h.lay, fun x hx => h.all x (List.mem_filter.1 hx).1, h.srt.filter _⟩
theorem delK_len (its : List (List Int)) (k : Int) : (delK its k).length ≤ its.length := List.length_filter_le _ _
theorem SOK.upd (h : SOK L its) {k s : Int} {b : List Int} (hg : getK its k = some b) (hs : 0 ≤ s ∧ s ≤ ww b) : SOK L (updK its [k, s, ww b]) := by
  rcases h.look k with ⟨A, b', D, e, hb, _, hg', _, hu⟩ | ⟨A, C, _, _, _, hg', _⟩
  · rw [hg'] at hg
    injection hg with hg
    subst hg
    rw [hu [k, s, ww b'] rfl]
    have hB := h.all b' (by rw [e]; simp)
    have hsr := h.srt
    rw [e, List.pairwise_append] at hsr
    refine ⟨h.lay, fun x hx => ?_, ?_⟩
    · rcases List.mem_append.1 hx with hx | hx
      · exact h.all x (by rw [e]; simp [hx])
      · rcases List.mem_cons.1 hx with rfl | hx
        · exact ⟨rfl, by show L.at_10 ≤ k; rw [← hb]; exact hB.lo, hB.one, by show k + ww b' ≤ L.at_11; rw [← hb]; exact hB.hi, hs⟩
        · exact h.all x (by rw [e]; simp [hx])
    · rw [List.pairwise_append]
      obtain ⟨p1, p2⟩ := List.pairwise_cons.1 hsr.2.1
      refine ⟨hsr.1, List.pairwise_cons.2 ⟨fun y hy => ?_, p2⟩, fun y hy z hz => ?_⟩
      · show k + ww b' ≤ kk y; rw [← hb]; exact p1 y hy
      · rcases List.mem_cons.1 hz with rfl | hz
        · show kk y + ww y ≤ k; rw [← hb]; exact hsr.2.2 y hy b' (by simp)
        · exact hsr.2.2 y hy z (by simp [hz])
  · rw [hg'] at hg; cases hg
def againR (L : yd) (its : List (List Int)) (ws : List Int) (c : yb) (r : T_api_Reply) : Bool × List (List Int) × List Int :=
  match getK its c.Addr with
  | none => (eqR r 7 0 0 0, its, ws)
  | some b => bif rndI c.Size 1 == ww b then (bif eqR r 0 c.Addr (ww b) 0 then (true, updK its [c.Addr, c.Size, ww b], ws) else (false, its, ws)) else
    bif !(freshR L its ws c r).1 then (false, (freshR L its ws c r).2) else bif r.Err != 0 then (true, (freshR L its ws c r).2) else
      (true, delK (freshR L its ws c r).2.1 c.Addr, copyW (freshR L its ws c r).2.2 (r.Addr - L.at_10).toNat (c.Addr - L.at_10).toNat (min (aa b) c.Size).toNat)
theorem againL_eq {w : List (List Int)} (h : SOK L w) (hn : w.length ≤ 1048576) (hw : (ws.length : Int) = L.at_11 - L.at_10) {c : yb} {r : T_api_Reply} {n : Int} (h0 : 0 ≤ n) (ht : L.at_10 ≤ r.Addr ∧ r.Addr + n ≤ L.at_11) (hf : L.at_10 ≤ c.Addr ∧ c.Addr + n ≤ L.at_11) :
    y4o c r L n w (0, ws) = some (true, delK w c.Addr, copyW ws (r.Addr - L.at_10).toNat (c.Addr - L.at_10).toNat n.toNat) := by
  have hb := h.big
  obtain ⟨bb, hcut⟩ := CutK_eq h hn c.Addr
  obtain ⟨x, h1, h2⟩ := countS (step := fun s => y39 c r L n w s.1 s.2) (fun i => ((i : Int), copyW ws (r.Addr - L.at_10).toNat (c.Addr - L.at_10).toNat i)) n.toNat (fun _ => True) (fun x => x = (true, delK w c.Addr, copyW ws (r.Addr - L.at_10).toNat (c.Addr - L.at_10).toNat n.toNat))
    (fun i hi _ => by
      left
      refine ⟨?_, trivial⟩
      have hlt : decide ((i : Int) < n) = true := decide_eq_true (by omega)
      have hok : decide (L.at_10 ≤ r.Addr + (i : Int) ∧ r.Addr + (i : Int) < L.at_11) = true := decide_eq_true (by omega)
      have w1 : IntKind.wrap IntKind.i64 (r.Addr + (i : Int)) = r.Addr + (i : Int) := wrap_id (by omega) (by omega)
      have w2 : IntKind.wrap IntKind.i64 (r.Addr + (i : Int) - L.at_10) = r.Addr + (i : Int) - L.at_10 := wrap_id (by omega) (by omega)
      have w3 : IntKind.wrap IntKind.i64 (c.Addr + (i : Int)) = c.Addr + (i : Int) := wrap_id (by omega) (by omega)
      have hin : inR (r.Addr + (i : Int) - L.at_10) (copyW ws (r.Addr - L.at_10).toNat (c.Addr - L.at_10).toNat i).length = true := by rw [copyW_len]; exact inR_int (by omega) (by omega)
      have hwd := Word_eq (its := w) h.lay (ws := copyW ws (r.Addr - L.at_10).toNat (c.Addr - L.at_10).toNat i) (by rw [copyW_len]; exact hw) (c.Addr + (i : Int))
      simp only [y39, hlt, cond_true, w1, w3, Place_eq h.lay, Option.bind_some, lPlace_ok, hok, Bool.not_true, cond_false, User_eq, w2, offs0, hin, hwd]
      rw [wrap_succ (by omega), show (r.Addr + (i : Int) - L.at_10).toNat = (r.Addr - L.at_10).toNat + i by omega]
      have : wordA L (copyW ws (r.Addr - L.at_10).toNat (c.Addr - L.at_10).toNat i) (c.Addr + (i : Int)) = (copyW ws (r.Addr - L.at_10).toNat (c.Addr - L.at_10).toNat i).getD ((c.Addr - L.at_10).toNat + i) 0 := by
        unfold wordA
        rw [if_pos (by omega), show (c.Addr + (i : Int) - L.at_10).toNat = (c.Addr - L.at_10).toNat + i by omega]
      rw [this]; rfl)
    (fun _ => ⟨_, by
      simp only [y39]
      rw [decide_eq_false (by omega), cond_false, hcut, Option.bind_some], rfl⟩)
    trivial
  unfold y4o
  have h1 : loopO (fun s => y39 c r L n w s.1 s.2) (0, ws) = some x := h1
  rw [h1, h2]
theorem imin' (x y : Int) : (if x < y then x else y) = min y x := by rw [Int.min_def]; split <;> split <;> omega
theorem ptr_eq (r : T_api_Reply) : y05 r = some (eqR r 7 0 0 0) := rfl
theorem again_eq (h : SOK L its) (hn : its.length + 1 ≤ 1048576) (hw : (ws.length : Int) = L.at_11 - L.at_10) {c : yb} {r : T_api_Reply} (hk : c.Kind = 4) (hc : askP c) : y1l c r L ws its = some (againR L its ws c r) := by
  have hsz : sized c := .inr (.inr (.inl hk))
  have ea : alI c = 1 := by unfold alI; rw [if_neg (by omega)]
  have hfit := hc.2 hsz
  unfold y1l againR
  rw [GetK_eq h (by omega), Option.bind_some]
  cases hg : getK its c.Addr with
  | none => rfl
  | some b =>
    obtain ⟨hm, hkb⟩ := getK_mem hg
    have hB := h.all b hm
    simp only [Bool.not_true, cond_false]
    rw [rnd_eq, Option.bind_some]
    cases hr : rndI c.Size 1 == ww b with
    | true =>
      simp only [cond_true, ← eqR_def]
      cases heq : eqR r 0 c.Addr (ww b) 0 with
      | false => rfl
      | true =>
        obtain ⟨x, hp⟩ := PutK_eq h hn hg c.Size (ww b)
        simp only [cond_true]
        rw [hp, Option.bind_some]
    | false =>
      simp only [cond_false]
      rw [fresh_eq h hn hw hsz hc, Option.bind_some]
      have hok := freshR_ok (ws := ws) (r := r) h hfit
      cases hf : (freshR L its ws c r).1 with
      | false => rfl
      | true =>
        simp only [Bool.not_true, cond_false]
        by_cases he : r.Err = 0
        · rw [show (r.Err != 0) = false by simp [he], cond_false, cond_false, imin']
          have hfb : fitB L its c r = true := by
            unfold freshR at hf
            have : eqR r 6 0 0 0 = false := by
              cases h6 : eqR r 6 0 0 0 with
              | false => rfl
              | true => have := (eqR_iff h6).1; omega
            rw [this, cond_false] at hf
            cases hfb : fitB L its c r with
            | true => rfl
            | false => rw [hfb] at hf; cases hf
          obtain ⟨f1, f2, f3, f4, f5, f6, f7⟩ := fit_spec hfit hfb
          have h1 := hB.lo; have h2 := hB.hi; have h3 := hB.ask
          exact againL_eq hok.1 (by omega) (by rw [hok.2.1]; exact hw) (by omega) ⟨f3.1, by omega⟩ ⟨by omega, by omega⟩
        · rw [show (r.Err != 0) = true by simpa using he, cond_true, cond_true]
end
end Go.Rx
end

section
namespace Go.Rx
open Go.Proofs
section
variable {L : yd} {its : List (List Int)} {ws : List Int}
def freeR (its : List (List Int)) (c : yb) (r : T_api_Reply) : Bool × List (List Int) :=
  bif (getK its c.Addr).isNone && (c.Addr != 0) then (eqR r 7 0 0 0, its) else bif !eqR r 0 0 0 0 then (false, its) else (true, delK its c.Addr)
theorem free_eq (h : SOK L its) (hn : its.length ≤ 1048576) (c : yb) (r : T_api_Reply) : y1i c r L ws its = some (freeR its c r) := by
  unfold y1i freeR
  obtain ⟨bb, hcut⟩ := CutK_eq h hn c.Addr
  rw [GetK_eq h hn, Option.bind_some]
  simp only [← eqR_def, ptr_eq, Option.bind_some, hcut]
  cases hg : getK its c.Addr with
  | none =>
    simp only [Bool.not_false, cond_true, Option.isNone_none, Bool.true_and]
    cases c.Addr != 0 with
    | true => rfl
    | false => cases eqR r 0 0 0 0 <;> rfl
  | some b =>
    simp only [Bool.not_true, cond_false, Option.isNone_some, Bool.false_and]
    cases eqR r 0 0 0 0 <;> rfl
def usableR (its : List (List Int)) (c : yb) (r : T_api_Reply) : Bool := match getK its c.Addr with | none => eqR r 7 0 0 0 | some b => eqR r 0 0 (ww b) 0
theorem usable_eq (h : SOK L its) (hn : its.length ≤ 1048576) (c : yb) (r : T_api_Reply) : y1k c r L ws its = some (usableR its c r) := by
  unfold y1k usableR
  rw [GetK_eq h hn, Option.bind_some]
  simp only [← eqR_def, ptr_eq, Option.bind_some]
  cases getK its c.Addr <;> rfl
noncomputable def rightB (s : ya) : Bool := (y1r s).getD false
theorem right_c {s : ya} (h : statB s) : y1r s = some (rightB s) ∧ y1x s = some (rightB s) := by
  obtain ⟨b, h1, h2⟩ := Right_eq s h
  unfold rightB
  rw [h1, h2]; exact ⟨rfl, rfl⟩
noncomputable def statsR (L : yd) (its : List (List Int)) (r : T_api_Reply) : Bool :=
  eqS r && (rightB r.Stats && (decide (r.Stats.Mapped ≤ L.c.Pages) && (r.Stats.Blocks == (its.length : Int) && (r.Stats.Asked == sumw aa its && r.Stats.Words == sumw ww its))))
theorem eqS_def (r : T_api_Reply) : eqS r = (r.Err == 0 && (r.Addr == 0 && (r.Size == 0 && (r.Value == 0 && (r.Stats.Blocks == r.Stats.Blocks && (r.Stats.Asked == r.Stats.Asked && (r.Stats.Words == r.Stats.Words && (r.Stats.Kept == r.Stats.Kept && (r.Stats.Open == r.Stats.Open && (r.Stats.Mapped == r.Stats.Mapped && (r.Stats.Used == r.Stats.Used && Bool.true)))))) && Bool.true))))) := rfl
theorem stats_eq (hn : its.length ≤ 1048575) {r : T_api_Reply} (hs : statB r.Stats) : y1m r L ws its = some (statsR L its r) := by
  unfold y1m statsR
  simp only [← eqS_def]
  rw [total_eq hn, Option.bind_some]
  cases eqS r with
  | false => rfl
  | true =>
    simp only [Bool.not_true, cond_false, Bool.true_and]
    rw [(right_c hs).1, Option.bind_some]
    cases rightB r.Stats with
    | false => rfl
    | true =>
      simp only [Bool.not_true, cond_false, Bool.true_and]
      rw [Config_eq, Option.bind_some]
      by_cases hm : r.Stats.Mapped > L.c.Pages
      · rw [decide_eq_true (show r.Stats.Mapped > (cOf L).Pages from hm), cond_true, decide_eq_false (by omega)]; rfl
      · rw [decide_eq_false (show ¬ r.Stats.Mapped > (cOf L).Pages from hm), cond_false, decide_eq_true (by omega), Len_eq, Option.bind_some, Bool.true_and]
        cases r.Stats.Blocks == (its.length : Int) with
        | false => rfl
        | true => cases r.Stats.Asked == sumw aa its <;> rfl
def accessR (L : yd) (its : List (List Int)) (ws : List Int) (c : yb) (r : T_api_Reply) : Bool × List Int :=
  bif !its.any (fun x => decide (hasW x c.Addr)) then (eqR r 7 0 0 0, ws) else bif c.Kind == 11 then (eqR r 0 0 0 (wordA L ws c.Addr), ws) else
    bif !eqR r 0 0 0 0 then (false, ws) else (true, ws.set (c.Addr - L.at_10).toNat c.Value)
theorem access_eq (h : SOK L its) (hn : its.length ≤ 1048576) (hw : (ws.length : Int) = L.at_11 - L.at_10) {c : yb} (ha : -9223372036854775808 ≤ c.Addr ∧ c.Addr ≤ 9223372036854775807) (r : T_api_Reply) : y1j c r L ws its = some (accessR L its ws c r) := by
  have hb := h.big
  unfold y1j accessR
  rw [Block_eq h hn ha, Option.bind_some, blkA_any]
  simp only [← eqR_def, ptr_eq, Option.bind_some]
  cases hx : its.any (fun x => decide (hasW x c.Addr)) with
  | false => rfl
  | true =>
    simp only [Bool.not_true, cond_false]
    rw [Word_eq h.lay hw, Option.bind_some]
    cases c.Kind == 11 with
    | true => simp only [cond_true, eqR_def]
    | false =>
      simp only [cond_false]
      cases eqR r 0 0 0 0 with
      | false => rfl
      | true =>
        obtain ⟨x, hm, hh⟩ := List.any_eq_true.1 hx
        have hh : hasW x c.Addr := by simpa using hh
        have hB := h.all x hm
        have h1 := hB.lo; have h2 := hB.hi
        unfold hasW at hh
        have hok : decide (L.at_10 ≤ c.Addr ∧ c.Addr < L.at_11) = true := decide_eq_true (by omega)
        simp only [Bool.not_true, cond_false]
        rw [Place_eq h.lay, Option.bind_some, lPlace_ok, hok, User_eq, Option.bind_some, wrap_id (by omega) (by omega), offs0, inR_int (by omega) (by omega)]; rfl
noncomputable def stepR (L : yd) (its : List (List Int)) (ws : List Int) (c : yb) (r : T_api_Reply) : Bool × List (List Int) × List Int :=
  bif eqR r 8 0 0 0 then (true, its, ws) else bif askI c != 0 then (eqR r (askI c) 0 0 0, its, ws) else
  if c.Kind = 1 ∨ c.Kind = 3 ∨ c.Kind = 5 then freshR L its ws c r else
  if c.Kind = 4 then (if c.Addr = 0 then freshR L its ws c r else againR L its ws c r) else
  if c.Kind = 2 then ((freeR its c r).1, (freeR its c r).2, ws) else
  if c.Kind = 6 then (usableR its c r, its, ws) else
  if c.Kind = 7 ∨ c.Kind = 9 then (eqR r 0 0 0 0, its, ws) else
  if c.Kind = 8 then (eqR r 0 0 r.Size 0 && (decide (0 ≤ r.Size) && decide (r.Size ≤ L.c.Pages)), its, ws) else
  if c.Kind = 10 then (statsR L its r, its, ws) else ((accessR L its ws c r).1, its, (accessR L its ws c r).2)
structure CRB (c : yb) (r : T_api_Reply) : Prop where
  addr : -9223372036854775808 ≤ c.Addr ∧ c.Addr ≤ 9223372036854775807
  size : c.Size ≤ 9223372036854775807
  stats : statB r.Stats
theorem Step_eq (h : SOK L its) (hn : its.length + 1 ≤ 1048576) (hw : (ws.length : Int) = L.at_11 - L.at_10) {c : yb} {r : T_api_Reply} (hb : CRB c r) : yz c r L ws its = some (stepR L its ws c r) := by
  unfold yz stepR
  simp only [← eqR_def]
  cases eqR r 8 0 0 0 with
  | true => rfl
  | false =>
    simp only [cond_false]
    rw [cAsks_eq _ hb.size, Option.bind_some]
    by_cases hp : askP c
    · have ha : askI c = 0 := by unfold askI; rw [if_pos hp]
      simp only [ha, bne_self_eq_false, cond_false]
      have e : ∀ k : Int, c.Kind ≠ k → (c.Kind == k) = false := fun k hk => by simpa using hk
      have e' : ∀ k : Int, c.Kind = k → (c.Kind == k) = true := fun k hk => by simpa using hk
      by_cases h1 : c.Kind = 1 ∨ c.Kind = 3 ∨ c.Kind = 5
      · rw [if_pos h1]
        have hs : sized c := by unfold sized; omega
        rw [fresh_eq h hn hw hs hp]
        rcases h1 with h1 | h1 | h1
        · rw [e' 1 h1]; rfl
        · rw [e 1 (by omega), e' 3 h1]; rfl
        · rw [e 1 (by omega), e 3 (by omega), e' 5 h1]; rfl
      · rw [if_neg h1, e 1 (by omega), e 3 (by omega), e 5 (by omega)]
        simp only [cond_false]
        by_cases h4 : c.Kind = 4
        · rw [if_pos h4, e' 4 h4, cond_true]
          by_cases hz : c.Addr = 0
          · rw [if_pos hz, show (c.Addr == 0) = true by simpa using hz, cond_true, fresh_eq h hn hw (by unfold sized; omega) hp]; rfl
          · rw [if_neg hz, show (c.Addr == 0) = false by simpa using hz, cond_false, again_eq h hn hw h4 hp]; rfl
        · rw [if_neg h4, e 4 h4, cond_false]
          by_cases h2 : c.Kind = 2
          · rw [if_pos h2, e' 2 h2, cond_true, free_eq h (by omega)]; rfl
          · rw [if_neg h2, e 2 h2, cond_false]
            by_cases h6 : c.Kind = 6
            · rw [if_pos h6, e' 6 h6, cond_true, usable_eq h (by omega)]; rfl
            · rw [if_neg h6, e 6 h6, cond_false]
              by_cases h7 : c.Kind = 7 ∨ c.Kind = 9
              · rw [if_pos h7]
                rcases h7 with h7 | h7
                · rw [e' 7 h7]; rfl
                · rw [e 7 (by omega), e' 9 h7]; rfl
              · rw [if_neg h7, e 7 (by omega), e 9 (by omega)]
                simp only [cond_false]
                by_cases h8 : c.Kind = 8
                · rw [if_pos h8, e' 8 h8, cond_true, Config_eq, Option.bind_some]
                  cases eqR r 0 0 r.Size 0 with
                  | false => rfl
                  | true =>
                    by_cases hs : 0 ≤ r.Size
                    · rw [decide_eq_true (show r.Size ≥ 0 from hs)]; rfl
                    · rw [decide_eq_false (show ¬ r.Size ≥ 0 from hs)]; rfl
                · rw [if_neg h8, e 8 h8, cond_false]
                  by_cases h10 : c.Kind = 10
                  · rw [if_pos h10, e' 10 h10, cond_true, stats_eq (by omega) hb.stats]; rfl
                  · rw [if_neg h10, e 10 h10, cond_false, access_eq h (by omega) hw hb.addr]; rfl
    · have ha : askI c = 2 := by unfold askI; rw [if_neg hp]
      rw [ha]; rfl
theorem againR_ok (h : SOK L its) {c : yb} {r : T_api_Reply} (hk : c.Kind = 4) (hc : fitOK c.Size (alI c)) : SOK L (againR L its ws c r).2.1 ∧ (againR L its ws c r).2.2.length = ws.length ∧ (againR L its ws c r).2.1.length ≤ its.length + 1 ∧ ((againR L its ws c r).1 = false → (againR L its ws c r).2 = (its, ws)) := by
  have hf := freshR_ok (ws := ws) (r := r) h hc
  have ea : alI c = 1 := by unfold alI; rw [if_neg (by omega)]
  unfold againR
  cases hg : getK its c.Addr with
  | none => exact ⟨h, rfl, by simp, fun _ => rfl⟩
  | some b =>
    simp only
    cases hr : rndI c.Size 1 == ww b with
    | true =>
      have hr : rndI c.Size 1 = ww b := by simpa using hr
      simp only [cond_true]
      cases eqR r 0 c.Addr (ww b) 0 with
      | true =>
        have hB := h.all b (getK_mem hg).1
        have h1 := hB.one
        have hle : c.Size ≤ 1048576 := by
          rcases ilt_or 1048576 c.Size with h | h
          · unfold rndI at hr; rw [if_pos h] at hr; omega
          · exact h
        rw [ea] at hc
        have h2 := roundI_le hc hle
        unfold rndI at hr
        rw [if_neg (by omega)] at hr
        exact ⟨h.upd hg ⟨hc.1, by omega⟩, rfl, by simp [updK], fun h => by cases h⟩
      | false => exact ⟨h, rfl, by simp, fun _ => rfl⟩
    | false =>
      simp only [cond_false]
      cases hf1 : (freshR L its ws c r).1 with
      | false => exact ⟨hf.1, hf.2.1, hf.2.2.1, fun _ => hf.2.2.2 hf1⟩
      | true =>
        simp only [Bool.not_true, cond_false]
        cases r.Err != 0 with
        | true => exact ⟨hf.1, hf.2.1, hf.2.2.1, fun h => by cases h⟩
        | false => exact ⟨hf.1.del _, by rw [cond_false, copyW_len]; exact hf.2.1, Nat.le_trans (delK_len _ _) hf.2.2.1, fun h => by cases h⟩
theorem stepR_ok (h : SOK L its) {c : yb} {r : T_api_Reply} : SOK L (stepR L its ws c r).2.1 ∧ (stepR L its ws c r).2.2.length = ws.length ∧ (stepR L its ws c r).2.1.length ≤ its.length + 1 ∧ ((stepR L its ws c r).1 = false → (stepR L its ws c r).2 = (its, ws)) := by
  have same : ∀ b : Bool, SOK L (b, its, ws).2.1 ∧ (b, its, ws).2.2.length = ws.length ∧ (b, its, ws).2.1.length ≤ its.length + 1 ∧ ((b, its, ws).1 = false → (b, its, ws).2 = (its, ws)) := fun b => ⟨h, rfl, Nat.le_succ _, fun _ => rfl⟩
  unfold stepR
  cases eqR r 8 0 0 0 with
  | true => exact same _
  | false =>
    simp only [cond_false]
    by_cases hp : askP c
    · have ha : askI c = 0 := by unfold askI; rw [if_pos hp]
      simp only [ha, bne_self_eq_false, cond_false]
      by_cases h1 : c.Kind = 1 ∨ c.Kind = 3 ∨ c.Kind = 5
      · rw [if_pos h1]; exact freshR_ok h (hp.2 (by unfold sized; omega))
      rw [if_neg h1]
      by_cases h4 : c.Kind = 4
      · rw [if_pos h4]
        by_cases hz : c.Addr = 0
        · rw [if_pos hz]; exact freshR_ok h (hp.2 (by unfold sized; omega))
        · rw [if_neg hz]; exact againR_ok h h4 (hp.2 (by unfold sized; omega))
      rw [if_neg h4]
      by_cases h2 : c.Kind = 2
      · rw [if_pos h2]
        unfold freeR
        cases (getK its c.Addr).isNone && (c.Addr != 0) with
        | true => exact same _
        | false =>
          cases eqR r 0 0 0 0 with
          | false => exact same _
          | true => exact ⟨h.del _, rfl, Nat.le_trans (delK_len _ _) (Nat.le_succ _), fun h => by cases h⟩
      rw [if_neg h2]
      by_cases h6 : c.Kind = 6
      · rw [if_pos h6]; exact same _
      rw [if_neg h6]
      by_cases h7 : c.Kind = 7 ∨ c.Kind = 9
      · rw [if_pos h7]; exact same _
      rw [if_neg h7]
      by_cases h8 : c.Kind = 8
      · rw [if_pos h8]; exact same _
      rw [if_neg h8]
      by_cases h10 : c.Kind = 10
      · rw [if_pos h10]; exact same _
      rw [if_neg h10]
      unfold accessR
      cases its.any (fun x => decide (hasW x c.Addr)) with
      | false => exact same _
      | true =>
        cases c.Kind == 11 with
        | true => exact same _
        | false =>
          cases eqR r 0 0 0 0 with
          | false => exact same _
          | true => exact ⟨h, by simp, by simp, fun h => by cases h⟩
    · have ha : askI c = 2 := by unfold askI; rw [if_neg hp]
      rw [ha]; exact same _
end
end Go.Rx
end

section
namespace Go.Rx
open Go.Proofs
theorem wrap_u64' (x : Int) : IntKind.wrap IntKind.u64 x = x % 18446744073709551616 := rfl
theorem within_eq {n low high : Int} (h : 0 ≤ low ∧ low ≤ high ∧ high ≤ 1099511627776) : ∃ x, y0w n low high = some x ∧ low ≤ x ∧ x ≤ high := by
  unfold y0w
  have hu : ∀ x : Int, 0 ≤ x → x < 18446744073709551616 → IntKind.wrap IntKind.u64 x = x := fun x h1 h2 => by
    rw [wrap_u64']; omega
  have hn : ∀ x : Int, 0 ≤ IntKind.wrap IntKind.u64 x := fun x => by
    rw [wrap_u64']; exact Int.emod_nonneg _ (by decide)
  rw [wrap_id (x := high - low) (by omega) (by omega), wrap_id (x := high - low + 1) (by omega) (by omega), hu (high - low + 1) (by omega) (by omega)]
  have e : (!(high - low + 1 == 0)) = true := by simp; omega
  rw [e, cond_true]
  have h0 := hn n
  generalize IntKind.wrap IntKind.u64 n = m at *
  rw [Int.tmod_eq_emod_of_nonneg h0]
  have h1 := Int.emod_nonneg m (b := high - low + 1) (by omega)
  have h2 := Int.emod_lt_of_pos m (b := high - low + 1) (by omega)
  generalize m % (high - low + 1) = k at *
  refine ⟨_, rfl, ?_⟩
  rw [wrap_id (x := k) (by omega) (by omega), wrap_id (by omega) (by omega)]
  omega
theorem Some_eq (c : yc) : ∃ d, y24 c = some d ∧ RightC d := by
  unfold y24
  obtain ⟨a0, e0, h0⟩ := within_eq (n := c.Workers) (low := 1) (high := 64) (by omega)
  obtain ⟨a1, e1, h1⟩ := within_eq (n := c.CPUs) (low := 1) (high := 8) (by omega)
  obtain ⟨a2, e2, h2⟩ := within_eq (n := c.Pages) (low := 1) (high := 256) (by omega)
  obtain ⟨a3, e3, h3⟩ := within_eq (n := c.Stripes) (low := 1) (high := 64) (by omega)
  obtain ⟨a4, e4, h4⟩ := within_eq (n := c.Tries) (low := 0) (high := 16) (by omega)
  obtain ⟨a5, e5, h5⟩ := within_eq (n := c.Wait) (low := 0) (high := 64) (by omega)
  obtain ⟨a6, e6, h6⟩ := within_eq (n := c.Clock) (low := 1) (high := 1099511627776) (by omega)
  obtain ⟨a7, e7, h7⟩ := within_eq (n := c.Private) (low := 1) (high := 8) (by omega)
  obtain ⟨a8, e8, h8⟩ := within_eq (n := c.Cache) (low := 0) (high := 8) (by omega)
  obtain ⟨a9, e9, h9⟩ := within_eq (n := c.Bin) (low := 0) (high := 16) (by omega)
  obtain ⟨a10, e10, h10⟩ := within_eq (n := c.Batch) (low := 1) (high := 8) (by omega)
  rw [e0, e1, e2, e3, e4, e5, e6, e7, e8, e9, e10]
  exact ⟨_, rfl, h0, h1, h2, h3, h4, h5, h6, h7, h8, h9, h10⟩
section
variable {c : yc}
theorem rChunks_eq (h : RightC c) : y2g ⟨c⟩ = some ((c.Pages + 3) / 4) := by
  have := h.pages
  unfold y2g
  simp only
  rw [wrap_id (x := c.Pages + 3) (by omega) (by omega), Int.tdiv_eq_ediv_of_nonneg (by omega), wrap_id (by omega) (by omega)]
theorem rtable_eq (h : RightC c) : y20 ⟨c⟩ = some (layC c).at_0 := by
  have := h.stripes
  unfold y20
  simp only [layC]
  rw [wrap_id (by omega) (by omega)]
theorem rheads_eq (h : RightC c) : y2d ⟨c⟩ = some (layC c).at_6 := by
  have := h.stripes; have := h.pages
  unfold y2d
  rw [rtable_eq h, rChunks_eq h]
  simp only [layC, Option.bind_some]
  simp (disch := omega) only [wrap_id]
theorem rcaches_eq (h : RightC c) : y2f ⟨c⟩ = some (layC c).at_7 := by
  have := h.stripes; have := h.pages
  unfold y2f
  rw [rheads_eq h]
  simp only [layC, Option.bind_some]
  simp (disch := omega) only [wrap_id]
theorem rbins_eq (h : RightC c) : y25 ⟨c⟩ = some (layC c).at_8 := by
  have := h.stripes; have := h.pages; have := h.cpus; have := h.cache
  have hp := prodC h
  unfold y25
  rw [rcaches_eq h]
  simp only [layC, Option.bind_some]
  have e : 5 * c.CPUs = c.CPUs * 5 := Int.mul_comm _ _
  rw [wrap_id (x := 5 * c.CPUs) (by omega) (by omega), wrap_id (x := c.Cache + 1) (by omega) (by omega), e]
  generalize c.CPUs * 5 * (c.Cache + 1) = q at *
  simp (disch := omega) only [wrap_id]
theorem rlive_eq (h : RightC c) : y23 ⟨c⟩ = some (layC c).at_9 := by
  have := h.stripes; have := h.pages; have := h.bin
  have hp := prodC h
  unfold y23
  rw [rbins_eq h]
  simp only [layC, Option.bind_some]
  generalize c.CPUs * 5 * (c.Cache + 1) = q at *
  simp (disch := omega) only [wrap_id]
theorem rUser_eq (h : RightC c) : yj ⟨c⟩ = some (layC c).at_10 := by
  have := h.stripes; have := h.pages; have := h.bin
  have hp := prodC h
  unfold yj
  rw [rlive_eq h]
  simp only [layC, Option.bind_some]
  generalize c.CPUs * 5 * (c.Cache + 1) = q at *
  simp (disch := omega) only [wrap_id, Int.tdiv_eq_ediv_of_nonneg, Int.mul_comm 32]
theorem rWords_eq (h : RightC c) : y01 ⟨c⟩ = some (layC c).at_11 := by
  have := h.stripes; have := h.pages; have := h.bin
  have hb := (layC_ok h).big
  unfold y01
  rw [rUser_eq h]
  have e : (layC c).at_11 = (layC c).at_10 + c.Pages * 32 := rfl
  rw [e]
  generalize (layC c).at_10 = q at *
  simp only [Option.bind_some]
  simp (disch := omega) only [wrap_id, Int.mul_comm 32]
end
end Go.Rx
end
