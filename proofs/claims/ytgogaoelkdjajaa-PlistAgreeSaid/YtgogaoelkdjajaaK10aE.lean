/- What the row's text of this claim stands on, part 5: the symbolic executor, contracts of the program's functions, plain facts. No condition. -/
import Derived.Test.YtgogaoelkdjajaaK10aD
section
/- Lists of pages: the program's functions and the document's, plainly. -/
namespace Go.Rx
open Go.Proofs

theorem offs_nn {a : Int} (h : 0 ≤ a) : offs a 0 = a := by
  have e : a = ((a.toNat : Nat) : Int) := by omega
  rw [e]; rfl
theorem take_snoc {xs : List Int} {i : Nat} (h : i < xs.length) : xs.take (i + 1) = xs.take i ++ [xs.getD i 0] := by
  rw [List.take_add_one]; simp [List.getD, h]

section
variable {L : T_layout_Layout} {nw : Nat} {cur : List Int}
theorem LayOK.geo {L : T_layout_Layout} (h : LayOK L) : 1 ≤ L.at_4 ∧ L.at_5 = L.at_4 + L.c.Pages ∧ L.at_6 = L.at_4 + 2 * L.c.Pages ∧ L.at_6 + 62 ≤ L.at_11 := by
  have := h.a0; have := h.a1; have := h.a4; have := h.a5; have := h.a6; have := h.a7; have := h.a8b; have := h.a9; have := h.a11; have := h.big; have := h.stripes; have := h.pages; have := h.bin
  omega
theorem VOK.geoA (v : VOK L nw cur) : GeoA L.at_4 L.c.Pages nw := by
  have := v.lay.geo; have := v.all; have := v.lay.pages
  exact ⟨by omega, v.lay.pages, by omega⟩
theorem lHead_is (h : LayOK L) {c f : Int} (k : isL c f) : lHead L c f = hdI (L.at_4 + 2 * L.c.Pages) c f := by
  have := h.geo
  unfold lHead; rw [if_pos (show (0 ≤ c ∧ c < 5) ∧ 1 ≤ f ∧ f ≤ slotsI c from k)]; unfold hdI
  have e : slotsI c = slotsC c := rfl
  omega
theorem lHead_no {c f : Int} (k : ¬ isL c f) : lHead L c f = 0 := by unfold lHead; rw [if_neg (show ¬ ((0 ≤ c ∧ c < 5) ∧ 1 ≤ f ∧ f ≤ slotsI c) from k)]
theorem lHead_ne (h : LayOK L) {c f : Int} (k : isL c f) : lHead L c f ≠ 0 := by
  have := h.geo; have := h.pages
  have := hd_in (hb := L.at_4 + 2 * L.c.Pages) k
  rw [lHead_is h k]; omega
theorem nx_is {p : Int} (h : 0 ≤ p ∧ p < L.c.Pages) : lPg L L.at_4 p = L.at_4 + p := by unfold lPg; rw [if_pos h]
theorem pv_is (k : LayOK L) {p : Int} (h : 0 ≤ p ∧ p < L.c.Pages) : lPg L L.at_5 p = L.at_4 + L.c.Pages + p := by
  have := k.geo
  unfold lPg; rw [if_pos h]; omega

theorem Size_eq (c : Int) : m_class_Size c = some (if c = 0 then 1 else if c = 1 then 2 else if c = 2 then 4 else if c = 3 then 8 else if c = 4 then 16 else 0) := by
  unfold m_class_Size
  by_cases a : c < 0
  · rw [decide_eq_true a, if_neg (by omega), if_neg (by omega), if_neg (by omega), if_neg (by omega), if_neg (by omega)]; rfl
  · rw [decide_eq_false a]
    by_cases b : 5 ≤ c
    · rw [decide_eq_true (show c ≥ 5 from b), if_neg (by omega), if_neg (by omega), if_neg (by omega), if_neg (by omega), if_neg (by omega)]; rfl
    · rw [decide_eq_false (show ¬ c ≥ 5 from b)]
      have e : c = 0 ∨ c = 1 ∨ c = 2 ∨ c = 3 ∨ c = 4 := by omega
      rcases e with rfl | rfl | rfl | rfl | rfl <;> rfl
theorem Slots_eq (c : Int) : m_class_Slots c = some (slotsC c) := by
  unfold m_class_Slots
  rw [Size_eq]
  unfold slotsC
  by_cases c0 : c = 0
  · subst c0; rfl
  by_cases c1 : c = 1
  · subst c1; rfl
  by_cases c2 : c = 2
  · subst c2; rfl
  by_cases c3 : c = 3
  · subst c3; rfl
  by_cases c4 : c = 4
  · subst c4; rfl
  rw [if_neg c0, if_neg c1, if_neg c2, if_neg c3, if_neg c4, if_neg c0, if_neg c1, if_neg c2, if_neg c3, if_neg c4]; rfl

theorem of_eq (h : LayOK L) (p c f : Int) : m_plist_of nw cur L p c f = some (L.c.Workers, L.c.CPUs, L.c.Pages, L.c.Stripes, L.c.Tries, L.c.Wait, L.c.Clock, L.c.Private, L.c.Cache, L.c.Bin, L.c.Batch, L.at_0, L.at_1, L.at_2, L.at_3, L.at_4, L.at_5, L.at_6, L.at_7, L.at_8, L.at_9, L.at_10, L.at_11, lHead L c f, decide (isL c f ∧ 0 ≤ p ∧ p < L.c.Pages)) := by
  unfold m_plist_of
  rw [Head_eq h, Option.bind_some]
  by_cases a : isL c f
  · have e : (lHead L c f != 0) = true := by simpa using lHead_ne h a
    rw [e, cond_true]
    by_cases b : 0 ≤ p
    · rw [decide_eq_true (show p ≥ 0 from b), cond_true, Config_eq, Option.bind_some]
      have e2 : (isL c f ∧ 0 ≤ p ∧ p < L.c.Pages) ↔ p < (cOf L).Pages := ⟨fun x => x.2.2, fun x => ⟨a, b, x⟩⟩
      simp only [e2]
    · rw [decide_eq_false (show ¬ p ≥ 0 from b), cond_false, decide_eq_false (fun x => b x.2.1)]
  · have e : (lHead L c f != 0) = false := by rw [lHead_no a]; rfl
    rw [e, cond_false, decide_eq_false (fun x => a x.1)]

theorem pages_eq (v : VOK L nw cur) {h : Int} {xs : List Int} (g : Geo L.at_4 L.c.Pages nw h) (l : Lst L.at_4 L.c.Pages cur h xs) : m_plist_list_pages nw cur L.c.Workers L.c.CPUs L.c.Pages L.c.Stripes L.c.Tries L.c.Wait L.c.Clock L.c.Private L.c.Cache L.c.Bin L.c.Batch L.at_0 L.at_1 L.at_2 L.at_3 L.at_4 L.at_5 L.at_6 L.at_7 L.at_8 L.at_9 L.at_10 L.at_11 h = some xs := by
  have hpg := v.lay.pages
  obtain ⟨g1, g2, g3⟩ := g
  have hle := l.len (by omega)
  have hN : ∀ x, m_layout_Layout_Next (T_layout_Layout.mk (T_api_Config.mk L.c.Workers L.c.CPUs L.c.Pages L.c.Stripes L.c.Tries L.c.Wait L.c.Clock L.c.Private L.c.Cache L.c.Bin L.c.Batch) L.at_0 L.at_1 L.at_2 L.at_3 L.at_4 L.at_5 L.at_6 L.at_7 L.at_8 L.at_9 L.at_10 L.at_11) x = some (lPg L L.at_4 x) := fun x => Next_eq v.lay x
  have hC : m_layout_Layout_Config (T_layout_Layout.mk (T_api_Config.mk L.c.Workers L.c.CPUs L.c.Pages L.c.Stripes L.c.Tries L.c.Wait L.c.Clock L.c.Private L.c.Cache L.c.Bin L.c.Batch) L.at_0 L.at_1 L.at_2 L.at_3 L.at_4 L.at_5 L.at_6 L.at_7 L.at_8 L.at_9 L.at_10 L.at_11) = some L.c := rfl
  have hat : ∀ i, i < xs.length → nxV xs i - 1 = xs.getD i 0 := fun i hi => by rw [nxV_at hi]; omega
  have hrd : ∀ i, i < xs.length → lPg L L.at_4 (xs.getD i 0) = L.at_4 + xs.getD i 0 ∧ inR (L.at_4 + xs.getD i 0) nw = true ∧ rd cur (L.at_4 + xs.getD i 0) = nxV xs (i + 1) := fun i hi => by
    have hb := l.inn _ (getD_mem hi)
    exact ⟨nx_is hb, inR_int (by omega) (by omega), l.next i hi⟩
  have hbd : ∀ i, i < xs.length → 1 ≤ nxV xs i ∧ nxV xs i ≤ 256 := fun i hi => by
    have hb := l.inn _ (getD_mem hi)
    rw [nxV_at hi]; omega
  have hhd : rd cur h = nxV xs 0 := l.head
  unfold m_plist_list_pages
  rw [hC, Option.bind_some, inR_int (by omega) (by omega), cond_true, hhd]
  by_cases c0 : 0 < xs.length
  · have h1 := hbd 0 c0
    rw [decide_eq_false (by omega), cond_false]
    have e0 : (L.c.Pages == 0) = false := by simp; omega
    rw [e0, cond_false, wrap_id (by omega) (by omega), hat 0 c0, hN, Option.bind_some, (hrd 0 c0).1, (hrd 0 c0).2.1, cond_true, (hrd 0 c0).2.2, wrap_id (by omega) (by omega)]
    obtain ⟨r, h2, rfl⟩ := loopO_ind (step := fun s : Int × Int × List Int => sb_plist_list_pages_L1 nw cur L.c.Workers L.c.CPUs L.c.Pages L.c.Stripes L.c.Tries L.c.Wait L.c.Clock L.c.Private L.c.Cache L.c.Bin L.c.Batch L.at_0 L.at_1 L.at_2 L.at_3 L.at_4 L.at_5 L.at_6 L.at_7 L.at_8 L.at_9 L.at_10 L.at_11 s.1 s.2.1 s.2.2)
      (I := fun s => ∃ i : Nat, 1 ≤ i ∧ i ≤ xs.length ∧ s = (L.c.Pages - i, nxV xs i, xs.take i)) (μ := fun s => s.1.toNat) (fun r => r = xs) (by
        rintro _ ⟨i, hi1, hi2, rfl⟩
        simp only [sb_plist_list_pages_L1]
        by_cases c : i < xs.length
        · have h3 := hbd i c
          have e1 : (L.c.Pages - (i : Int) == 0) = false := by simp; omega
          rw [decide_eq_false (by omega), cond_false, e1, cond_false, decide_eq_true (by rw [List.length_take]; omega), cond_true, wrap_id (by omega) (by omega), hat i c, hN, Option.bind_some, (hrd i c).1, (hrd i c).2.1, cond_true, (hrd i c).2.2, wrap_id (by omega) (by omega)]
          refine .inl ⟨_, rfl, ⟨i + 1, by omega, c, ?_⟩, by simp only; omega⟩
          rw [take_snoc c]
          congr 1; omega
        · have e : i = xs.length := by omega
          subst e
          rw [nxV_end (Nat.le_refl _), decide_eq_true (by omega), cond_true, List.take_length]
          exact .inr ⟨_, rfl, rfl⟩) (L.c.Pages - 1, nxV xs 1, [xs.getD 0 0]) ⟨1, by omega, c0, by
            rw [show (1 : Nat) = 0 + 1 from rfl, take_snoc c0]; simp⟩
    exact h2
  · have : xs = [] := by cases xs with | nil => rfl | cons x r => simp at c0
    subst this
    rw [nxV_end (by simp), decide_eq_true (by omega), cond_true]

theorem pList_eq (v : VOK L nw cur) {c f : Int} (k : isL c f) {xs : List Int} (l : Lst L.at_4 L.c.Pages cur (hdI (L.at_4 + 2 * L.c.Pages) c f) xs) : m_plist_List nw cur L c f = some xs := by
  have hpg := v.lay.pages
  unfold m_plist_List
  rw [of_eq v.lay, Option.bind_some]
  simp only
  rw [decide_eq_true ⟨k, by omega, by omega⟩, Bool.not_true, cond_false, lHead_is v.lay k, pages_eq v (v.geoA.geo k) l]; rfl
theorem pList_no (v : VOK L nw cur) {c f : Int} (k : ¬ isL c f) : m_plist_List nw cur L c f = some [] := by
  unfold m_plist_List
  rw [of_eq v.lay, Option.bind_some]
  simp only
  rw [decide_eq_false (fun x => k x.1)]; rfl

theorem Link_eq (v : VOK L nw cur) {p c f : Int} {xs : List Int} (l : isL c f → Lst L.at_4 L.c.Pages cur (hdI (L.at_4 + 2 * L.c.Pages) c f) xs) : m_plist_Link nw cur L p c f =
    some (if isL c f ∧ 0 ≤ p ∧ p < L.c.Pages then (true, linkW L.at_4 L.c.Pages cur (hdI (L.at_4 + 2 * L.c.Pages) c f) p) else (false, cur)) := by
  have hpg := v.lay.pages
  unfold m_plist_Link
  rw [of_eq v.lay, Option.bind_some]
  simp only
  by_cases a : isL c f ∧ 0 ≤ p ∧ p < L.c.Pages
  · rw [decide_eq_true a, if_pos a, Bool.not_true, cond_false]
    obtain ⟨a1, a2, a3⟩ := a
    have l := l a1
    have g := v.geoA.geo a1
    rw [lHead_is v.lay a1]
    obtain ⟨g1, g2, g3⟩ := g
    generalize hdI (L.at_4 + 2 * L.c.Pages) c f = h at *
    have hN := Next_eq v.lay; have hP := Prev_eq v.lay
    have ih : inR h nw = true := inR_int (by omega) (by omega)
    have i1 : inR (L.at_4 + p) nw = true := inR_int (by omega) (by omega)
    have i2 : inR (L.at_4 + L.c.Pages + p) nw = true := inR_int (by omega) (by omega)
    have hrd : rd cur h = wd cur h := rfl
    simp only [ih, cond_true, hN, hP, Option.bind_some, nx_is ⟨a2, a3⟩, pv_is v.lay ⟨a2, a3⟩, i1, i2, hrd]
    rw [wrap_id (x := p + 1) (by omega) (by omega)]
    unfold linkW
    dsimp only
    by_cases c0 : wd cur h = 0
    · have e : (wd cur h != 0) = false := by rw [c0]; rfl
      rw [e, cond_false, if_pos c0]; rfl
    · have e : (wd cur h != 0) = true := by simpa using c0
      rw [e, cond_true, if_neg c0]
      have hr : 0 < xs.length := by
        have := (nxV_pos l 0).2; have := l.head; omega
      have hb := l.inn _ (getD_mem hr)
      have h0 := l.head
      rw [nxV_at hr] at h0
      rw [wrap_id (x := wd cur h - 1) (by omega) (by omega), pv_is v.lay (by omega), inR_int (by omega) (by omega), cond_true]; rfl
  · rw [decide_eq_false a, if_neg a]; rfl

theorem Index_eq {xs : List Int} (p : Int) (hl : xs.length ≤ 4611686018427387904) : ∃ k, m_slices_Index_int_int p xs = some k ∧ ((k = -1 ∧ p ∉ xs) ∨ ∃ i : Nat, k = i ∧ i < xs.length ∧ xs.getD i 0 = p) := by
  obtain ⟨r, h1, h2⟩ := loopO_ind (step := fun s : Int => sb_slices_Index_int_int_L1 p xs (xs.length : Int) s)
    (I := fun s => ∃ i : Nat, s = i ∧ i ≤ xs.length ∧ ∀ j, j < i → xs.getD j 0 ≠ p) (μ := fun s => xs.length - s.toNat) (fun k => (k = -1 ∧ p ∉ xs) ∨ ∃ i : Nat, k = i ∧ i < xs.length ∧ xs.getD i 0 = p) (by
      rintro _ ⟨i, rfl, hi, hno⟩
      simp only [sb_slices_Index_int_int_L1]
      by_cases c : i < xs.length
      · have ho : offs (i : Int) 0 = (i : Int) := rfl
        rw [decide_eq_true (show (i : Int) < (xs.length : Int) by omega), cond_true, inR_nat c, cond_true, ho, inR_nat c, cond_true, Int.toNat_natCast]
        by_cases e : xs.getD i 0 = p
        · have e2 : (p == xs.getD i 0) = true := by rw [e]; exact beq_self_eq_true p
          rw [e2, cond_true]
          exact .inr ⟨_, rfl, .inr ⟨i, rfl, c, e⟩⟩
        · have e2 : (p == xs.getD i 0) = false := by simp; exact fun h => e h.symm
          rw [e2, cond_false, wrap_succ (by omega)]
          refine .inl ⟨_, rfl, ⟨i + 1, rfl, c, fun j hj => ?_⟩, by omega⟩
          by_cases d : j = i
          · rw [d]; exact e
          · exact hno j (by omega)
      · rw [decide_eq_false (by omega), cond_false]
        refine .inr ⟨_, rfl, .inl ⟨rfl, fun hm => ?_⟩⟩
        obtain ⟨j, hj, e⟩ := mem_getD hm
        exact hno j (by omega) e) 0 ⟨0, rfl, by omega, fun j hj => by omega⟩
  exact ⟨r, h1, h2⟩
theorem Contains_eq {xs : List Int} (p : Int) (hl : xs.length ≤ 4611686018427387904) : m_slices_Contains_int_int p xs = some (decide (p ∈ xs)) := by
  obtain ⟨k, h1, h2⟩ := Index_eq p hl
  unfold m_slices_Contains_int_int
  rw [h1, Option.bind_some]
  rcases h2 with ⟨rfl, h2⟩ | ⟨i, rfl, h2, h3⟩
  · rw [decide_eq_false h2]; rfl
  · have hm : p ∈ xs := by rw [← h3]; exact getD_mem h2
    rw [decide_eq_true hm, decide_eq_true (by omega)]

theorem Unlink_eq (v : VOK L nw cur) {p c f : Int} {xs : List Int} (l : isL c f → Lst L.at_4 L.c.Pages cur (hdI (L.at_4 + 2 * L.c.Pages) c f) xs) : m_plist_Unlink nw cur L p c f =
    some (if isL c f ∧ p ∈ xs then (true, unlinkW L.at_4 L.c.Pages cur (hdI (L.at_4 + 2 * L.c.Pages) c f) p) else (false, cur)) := by
  have hpg := v.lay.pages
  unfold m_plist_Unlink
  rw [of_eq v.lay, Option.bind_some]
  simp only
  by_cases a1 : isL c f
  · have l := l a1
    have g := v.geoA.geo a1
    by_cases a : 0 ≤ p ∧ p < L.c.Pages
    · rw [decide_eq_true ⟨a1, a⟩, Bool.not_true, cond_false]
      have hle := l.len (by omega)
      rw [lHead_is v.lay a1, pages_eq v g l, Option.bind_some, Contains_eq p (by omega), Option.bind_some]
      by_cases m : p ∈ xs
      · rw [decide_eq_true m, if_pos ⟨a1, m⟩, Bool.not_true, cond_false]
        obtain ⟨k, hk, rfl⟩ := mem_getD m
        obtain ⟨g1, g2, g3⟩ := g
        generalize hdI (L.at_4 + 2 * L.c.Pages) c f = h at *
        have hN := Next_eq v.lay; have hP := Prev_eq v.lay
        have ih : inR h nw = true := inR_int (by omega) (by omega)
        have i1 : inR (L.at_4 + xs.getD k 0) nw = true := inR_int (by omega) (by omega)
        have i2 : inR (L.at_4 + L.c.Pages + xs.getD k 0) nw = true := inR_int (by omega) (by omega)
        have hrd : ∀ a, rd cur a = wd cur a := fun _ => rfl
        simp only [ih, cond_true, hN, hP, Option.bind_some, nx_is a, pv_is v.lay a, i1, i2, hrd]
        unfold unlinkW
        dsimp only
        have ea := l.prev k hk
        have eb := l.next k hk
        have hA : wd cur (L.at_4 + L.c.Pages + xs.getD k 0) ≠ 0 → 0 ≤ wd cur (L.at_4 + L.c.Pages + xs.getD k 0) - 1 ∧ wd cur (L.at_4 + L.c.Pages + xs.getD k 0) - 1 < L.c.Pages := fun h0 => by
          rw [ea] at h0 ⊢
          cases k with
          | zero => exact (h0 (pvV_zero _)).elim
          | succ j =>
            have := l.inn _ (getD_mem (i := j) (by omega))
            rw [pvV_succ, nxV_at (by omega)]; omega
        have hB : wd cur (L.at_4 + xs.getD k 0) ≠ 0 → 0 ≤ wd cur (L.at_4 + xs.getD k 0) - 1 ∧ wd cur (L.at_4 + xs.getD k 0) - 1 < L.c.Pages := fun h0 => by
          rw [eb] at h0 ⊢
          have hlt : k + 1 < xs.length := by
            have := (nxV_pos l (k + 1)).2; omega
          have := l.inn _ (getD_mem hlt)
          rw [nxV_at hlt]; omega
        generalize wd cur (L.at_4 + L.c.Pages + xs.getD k 0) = av at *
        generalize wd cur (L.at_4 + xs.getD k 0) = bv at *
        generalize xs.getD k 0 = q at *
        by_cases c0 : av = 0
        · have e : (av == 0) = true := by rw [c0]; rfl
          rw [e, cond_true, if_pos c0]
          by_cases d0 : bv = 0
          · have e2 : (bv != 0) = false := by rw [d0]; rfl
            rw [e2, cond_false, if_pos d0]; rfl
          · have e2 : (bv != 0) = true := by simpa using d0
            have hb := hB d0
            rw [e2, cond_true, if_neg d0, wrap_id (x := bv - 1) (by omega) (by omega), pv_is v.lay hb, inR_int (by omega) (by omega), cond_true]; rfl
        · have e : (av == 0) = false := by simpa using c0
          have ha := hA c0
          rw [e, cond_false, if_neg c0, wrap_id (x := av - 1) (by omega) (by omega), nx_is ha, inR_int (i := L.at_4 + (av - 1)) (by omega) (by omega), cond_true]
          by_cases d0 : bv = 0
          · have e2 : (bv != 0) = false := by rw [d0]; rfl
            rw [e2, cond_false, if_pos d0]; rfl
          · have e2 : (bv != 0) = true := by simpa using d0
            have hb := hB d0
            rw [e2, cond_true, if_neg d0, wrap_id (x := bv - 1) (by omega) (by omega), pv_is v.lay hb, inR_int (by omega) (by omega), cond_true]; rfl
      · rw [decide_eq_false m, if_neg (fun x => m x.2)]; rfl
    · rw [decide_eq_false (fun x => a x.2), if_neg (fun x => a (l.inn p x.2))]; rfl
  · rw [decide_eq_false (fun x => a1 x.1), if_neg (fun x => a1 x.1)]; rfl

/-- The lists that words hold; of a list that there is not: none. -/
def lsOf (ls : Int → Int → List Int) (c f : Int) : List Int := if isL c f then ls c f else []

theorem pFirst_eq (v : VOK L nw cur) {c : Int} {ls : Int → Int → List Int} (l : ∀ f, isL c f → Lst L.at_4 L.c.Pages cur (hdI (L.at_4 + 2 * L.c.Pages) c f) (ls c f)) : m_plist_First nw cur L c = some (firstF ls c 1 (slotsC c).toNat) := by
  have hs := slotsC_le c
  refine loopO_fun (step := fun s : Int => sb_plist_First_L1 nw cur L c s) (I := fun f => 1 ≤ f ∧ f ≤ slotsC c + 1) (fun f => (slotsC c + 1 - f).toNat) (fun f => firstF ls c f (slotsC c + 1 - f).toNat) (fun f hf => ?_) 1 ⟨by omega, by omega⟩ |>.trans (by congr 2; omega)
  simp only [sb_plist_First_L1, Slots_eq, Option.bind_some]
  by_cases c0 : f ≤ slotsC c
  · have hc : 0 ≤ c ∧ c < 5 := by
      unfold slotsC at c0
      by_cases h : 0 ≤ c ∧ c < 5
      · exact h
      · rw [if_neg (by omega), if_neg (by omega), if_neg (by omega), if_neg (by omega), if_neg (by omega)] at c0; omega
    have k : isL c f := ⟨hc, hf.1, c0⟩
    have hl := l f k
    obtain ⟨g1, g2, g3⟩ := v.geoA.geo k
    have hh : rd cur (hdI (L.at_4 + 2 * L.c.Pages) c f) = nxV (ls c f) 0 := hl.head
    rw [decide_eq_true c0, cond_true, Head_eq v.lay, Option.bind_some, lHead_is v.lay k, inR_int (by omega) (by omega), cond_true, hh]
    have hn : (slotsC c + 1 - f).toNat = (slotsC c + 1 - (f + 1)).toNat + 1 := by omega
    cases hx : ls c f with
    | nil =>
      rw [nxV_end (by simp), decide_eq_false (by omega), cond_false, wrap_id (by omega) (by omega)]
      refine .inl ⟨_, rfl, ⟨by omega, by omega⟩, by omega, ?_⟩
      rw [hn]; simp only [firstF, hx]
    | cons x r =>
      have hb := hl.inn x (by rw [hx]; simp)
      have e : nxV (x :: r) 0 = x + 1 := by simp [nxV]
      rw [e, decide_eq_true (by omega), cond_true, wrap_id (by omega) (by omega)]
      refine .inr ?_
      rw [hn]; simp only [firstF, hx]
      congr 2; omega
  · rw [decide_eq_false c0, cond_false]
    refine .inr ?_
    have : (slotsC c + 1 - f).toNat = 0 := by omega
    rw [this]; rfl
end
end Go.Rx
end

section
/- Lists of pages: the document's functions, plainly. -/
namespace Go.Rx
open Go.Proofs

theorem rSlots0 : m_ref02_Slots 0 = some 32 := loopO_end rfl
theorem rSlots1 : m_ref02_Slots 1 = some 16 := (loopO_go rfl).trans (loopO_end rfl)
theorem rSlots2 : m_ref02_Slots 2 = some 8 := (loopO_go rfl).trans ((loopO_go rfl).trans (loopO_end rfl))
theorem rSlots3 : m_ref02_Slots 3 = some 4 := (loopO_go rfl).trans ((loopO_go rfl).trans ((loopO_go rfl).trans (loopO_end rfl)))
theorem rSlots4 : m_ref02_Slots 4 = some 2 := (loopO_go rfl).trans ((loopO_go rfl).trans ((loopO_go rfl).trans ((loopO_go rfl).trans (loopO_end rfl))))

section
variable {c : T_api_Config}
theorem rHead_end (h : RightC c) {q f ahead : Int} (hq : 0 ≤ q ∧ q < 5) (hs : m_ref02_Slots q = some (slotsI q)) (ha : ahead = 64 - 2 * slotsI q) :
    sb_ref02_Layout_Head_L1 ⟨c⟩ q f ahead q = some (.inr (lHead (layC c) q f)) := by
  have hg := (layC_ok h).geo; have hb := (layC_ok h).big; have h11 := (layC_ok h).a11; have hp := h.pages
  have hsl := slots_le q
  simp only [sb_ref02_Layout_Head_L1]
  rw [decide_eq_false (by omega), cond_false, hs, rheads_eq h]
  simp only [Option.bind_some, rat_eq, lHead]
  by_cases a : 1 ≤ f
  · rw [decide_eq_true (show f ≥ 1 from a), cond_true]
    by_cases b : f ≤ slotsI q
    · rw [decide_eq_true b, if_pos rfl, if_pos ⟨hq, a, b⟩]
      have e1 : (layC c).c = c := rfl
      rw [e1] at hg h11
      rw [wrap_id (x := (layC c).at_6 + ahead) (by omega) (by omega), wrap_id (x := (layC c).at_6 + ahead + f) (by omega) (by omega), wrap_id (by omega) (by omega), ha]
      congr 2; omega
    · rw [decide_eq_false b, if_neg (by decide), if_neg (fun x => b x.2.2)]
  · rw [decide_eq_false (show ¬ f ≥ 1 from a), cond_false, if_neg (by decide), if_neg (fun x => a x.2.1)]
theorem rHead_eq (h : RightC c) (q f : Int) : m_ref02_Layout_Head ⟨c⟩ q f = some (lHead (layC c) q f) := by
  unfold m_ref02_Layout_Head
  by_cases a : q < 0
  · rw [decide_eq_true a, cond_true, lHead_no (fun x => by have := x.1; omega)]
  rw [decide_eq_false a, cond_false]
  by_cases b : q > 4
  · rw [decide_eq_true b, cond_true, lHead_no (fun x => by have := x.1; omega)]
  rw [decide_eq_false b, cond_false]
  have go : ∀ (k ahead s : Int), k < q → m_ref02_Slots k = some s → -9223372036854775808 ≤ ahead + s ∧ ahead + s ≤ 9223372036854775807 → 0 ≤ k → k < 5 →
      sb_ref02_Layout_Head_L1 ⟨c⟩ q f ahead k = some (.inl (ahead + s, k + 1)) := fun k ahead s h1 h2 h3 h4 h5 => by
    simp only [sb_ref02_Layout_Head_L1]
    rw [decide_eq_true h1, cond_true, h2, Option.bind_some, wrap_id h3.1 h3.2, wrap_id (by omega) (by omega)]
  have e : q = 0 ∨ q = 1 ∨ q = 2 ∨ q = 3 ∨ q = 4 := by omega
  rcases e with rfl | rfl | rfl | rfl | rfl
  · exact loopO_end (rHead_end h (by decide) rSlots0 (by decide))
  · exact (loopO_go (go 0 0 32 (by decide) rSlots0 (by decide) (by decide) (by decide))).trans (loopO_end (rHead_end h (by decide) rSlots1 (by decide)))
  · exact (loopO_go (go 0 0 32 (by decide) rSlots0 (by decide) (by decide) (by decide))).trans ((loopO_go (go 1 32 16 (by decide) rSlots1 (by decide) (by decide) (by decide))).trans (loopO_end (rHead_end h (by decide) rSlots2 (by decide))))
  · exact (loopO_go (go 0 0 32 (by decide) rSlots0 (by decide) (by decide) (by decide))).trans ((loopO_go (go 1 32 16 (by decide) rSlots1 (by decide) (by decide) (by decide))).trans ((loopO_go (go 2 48 8 (by decide) rSlots2 (by decide) (by decide) (by decide))).trans (loopO_end (rHead_end h (by decide) rSlots3 (by decide)))))
  · exact (loopO_go (go 0 0 32 (by decide) rSlots0 (by decide) (by decide) (by decide))).trans ((loopO_go (go 1 32 16 (by decide) rSlots1 (by decide) (by decide) (by decide))).trans ((loopO_go (go 2 48 8 (by decide) rSlots2 (by decide) (by decide) (by decide))).trans ((loopO_go (go 3 56 4 (by decide) rSlots3 (by decide) (by decide) (by decide))).trans (loopO_end (rHead_end h (by decide) rSlots4 (by decide))))))

theorem rthere10_eq (h : RightC c) (p q f : Int) : m_ref10_there ⟨c⟩ p q f = some (decide (isL q f ∧ 0 ≤ p ∧ p < c.Pages)) := by
  unfold m_ref10_there
  by_cases a : 0 ≤ p
  · rw [decide_eq_true (show p ≥ 0 from a), cond_true]
    by_cases b : p < c.Pages
    · rw [decide_eq_true b, cond_true, rHead_eq h, Option.bind_some]
      by_cases k : isL q f
      · have e : (lHead (layC c) q f != 0) = true := by simpa using lHead_ne (layC_ok h) k
        rw [e, decide_eq_true ⟨k, a, b⟩]
      · rw [lHead_no k, decide_eq_false (fun x => k x.1)]; rfl
    · rw [decide_eq_false b, cond_false, decide_eq_false (fun x => b x.2.2)]
  · rw [decide_eq_false (show ¬ p ≥ 0 from a), cond_false, decide_eq_false (fun x => a x.2.1)]

theorem rList_eq (h : RightC c) {w : List Int} (v : VOK (layC c) w.length w) {q f : Int} (k : isL q f) {xs : List Int} (l : Lst (layC c).at_4 c.Pages w (hdI ((layC c).at_4 + 2 * c.Pages) q f) xs) : m_ref10_List ⟨c⟩ q f w = some xs := by
  have hpg := h.pages
  obtain ⟨g1, g2, g3⟩ := v.geoA.geo k
  have e0 : (layC c).c = c := rfl
  rw [e0] at g3
  have hle := l.len (by omega)
  unfold m_ref10_List
  have hh := lHead_is v.lay k
  rw [e0] at hh
  rw [rHead_eq h, Option.bind_some, hh]
  generalize hdI ((layC c).at_4 + 2 * c.Pages) q f = hd at *
  have e1 : (hd == 0) = false := by simp; omega
  rw [e1, cond_false, offs_nn (by omega), inR_int (by omega) (by omega), cond_true]
  have hrd : ∀ i, i < xs.length → lPg (layC c) (layC c).at_4 (xs.getD i 0) = (layC c).at_4 + xs.getD i 0 ∧ inR ((layC c).at_4 + xs.getD i 0) w.length = true ∧ w.getD ((layC c).at_4 + xs.getD i 0).toNat 0 = nxV xs (i + 1) := fun i hi => by
    have hb := l.inn _ (getD_mem hi)
    exact ⟨nx_is hb, inR_int (by omega) (by omega), l.next i hi⟩
  have hbd : ∀ i, i < xs.length → 1 ≤ nxV xs i ∧ nxV xs i ≤ 256 := fun i hi => by
    have hb := l.inn _ (getD_mem hi)
    rw [nxV_at hi]; omega
  have hhd : w.getD hd.toNat 0 = nxV xs 0 := l.head
  rw [hhd, cond_true]
  obtain ⟨r, h2, rfl⟩ := loopO_ind (step := fun s : Int × Int × List Int => sb_ref10_List_L1 ⟨c⟩ w s.1 s.2.1 s.2.2)
    (I := fun s => ∃ i : Nat, i ≤ xs.length ∧ s = (nxV xs i, (i : Int), xs.take i)) (μ := fun s => (c.Pages - s.2.1).toNat) (fun r => r = xs) (by
      rintro _ ⟨i, hi2, rfl⟩
      simp only [sb_ref10_List_L1]
      by_cases cc : i < xs.length
      · have h3 := hbd i cc
        have hat : nxV xs i - 1 = xs.getD i 0 := by rw [nxV_at cc]; omega
        rw [decide_eq_true (by omega), cond_true, decide_eq_true (by omega), cond_true, decide_eq_true (by rw [List.length_take]; omega), cond_true, wrap_id (by omega) (by omega), hat, rNext_eq h, Option.bind_some, (hrd i cc).1, (hrd i cc).2.1, cond_true]
        have hb := l.inn _ (getD_mem cc)
        rw [offs_nn (by omega), (hrd i cc).2.1, cond_true, (hrd i cc).2.2, wrap_succ (by omega)]
        refine .inl ⟨_, rfl, ⟨i + 1, cc, ?_⟩, by simp only; omega⟩
        rw [take_snoc cc]
      · have e : i = xs.length := by omega
        subst e
        rw [nxV_end (Nat.le_refl _), List.take_length]
        by_cases d : (xs.length : Int) < c.Pages
        · rw [decide_eq_true d, cond_true, decide_eq_false (by omega), cond_false]; exact .inr ⟨_, rfl, rfl⟩
        · rw [decide_eq_false d, cond_false]; exact .inr ⟨_, rfl, rfl⟩) (nxV xs 0, 0, []) ⟨0, by omega, by simp⟩
  exact h2
theorem rList_no (h : RightC c) {w : List Int} {q f : Int} (k : ¬ isL q f) : m_ref10_List ⟨c⟩ q f w = some [] := by
  unfold m_ref10_List
  rw [rHead_eq h, Option.bind_some, lHead_no k]; rfl

theorem rlay_eq (h : RightC c) {w : List Int} (v : VOK (layC c) w.length w) {q f : Int} (k : isL q f) {xs : List Int} (hx : ∀ x ∈ xs, 0 ≤ x ∧ x < c.Pages) (nd : xs.Nodup) :
    ∃ u, m_ref10_lay ⟨c⟩ q f w xs = some u ∧ Lst (layC c).at_4 c.Pages u (hdI ((layC c).at_4 + 2 * c.Pages) q f) xs ∧ Off (layC c).at_4 c.Pages w u (hdI ((layC c).at_4 + 2 * c.Pages) q f) xs := by
  have hpg := h.pages
  have g := v.geoA.geo k
  have e0 : (layC c).c = c := rfl
  rw [e0] at g
  obtain ⟨g1, g2, g3⟩ := id g
  have hle : (xs.length : Int) ≤ c.Pages := by
    have := nodupI_len (N := c.Pages.toNat) nd (fun x hm => by have := hx x hm; omega)
    omega
  have hin : ∀ i, i < xs.length → 0 ≤ xs.getD i 0 ∧ xs.getD i 0 < c.Pages := fun i hi => hx _ (getD_mem hi)
  unfold m_ref10_lay
  have hh := lHead_is v.lay k
  rw [e0] at hh
  rw [rHead_eq h, Option.bind_some, hh, offs_nn (by omega), inR_int (by omega) (by omega), cond_true, cond_true]
  have hst := Laid.start (xs := xs) g
  have hhd : m_ref02_Layout_Head ⟨c⟩ q f = some (hdI ((layC c).at_4 + 2 * c.Pages) q f) := by rw [rHead_eq h, hh]
  generalize hdI ((layC c).at_4 + 2 * c.Pages) q f = hd at *
  obtain ⟨r, h2, hr⟩ := loopO_ind (step := fun s : Int × List Int => sb_ref10_lay_L1 ⟨c⟩ q f xs s.1 s.2)
    (I := fun s => ∃ i : Nat, i ≤ xs.length ∧ s.1 = (i : Int) ∧ Laid (layC c).at_4 c.Pages w s.2 hd xs i) (μ := fun s => xs.length - s.1.toNat) (fun r => Laid (layC c).at_4 c.Pages w r hd xs xs.length) (by
      rintro ⟨_, u⟩ ⟨i, hi, rfl, l⟩
      simp only at l ⊢
      simp only [sb_ref10_lay_L1]
      by_cases cc : i < xs.length
      · have hb := hin i cc
        have ho : offs (i : Int) 0 = (i : Int) := rfl
        have hul := l.off.len
        have st := l.step g hx nd cc
        have hP : m_ref02_Layout_Prev ⟨c⟩ (xs.getD i 0) = some ((layC c).at_4 + c.Pages + xs.getD i 0) := by rw [rPrev_eq h, pv_is v.lay hb]; rfl
        have hN : m_ref02_Layout_Next ⟨c⟩ (xs.getD i 0) = some ((layC c).at_4 + xs.getD i 0) := by rw [rNext_eq h, nx_is hb]
        rw [decide_eq_true (show (i : Int) < (xs.length : Int) by omega), cond_true, inR_nat cc, cond_true, ho, inR_nat cc, cond_true, Int.toNat_natCast, hN, hP]
        simp only [Option.bind_some, List.length_set]
        have o1 : offs ((layC c).at_4 + xs.getD i 0) 0 = (layC c).at_4 + xs.getD i 0 := offs_nn (by omega)
        have o2 : offs ((layC c).at_4 + c.Pages + xs.getD i 0) 0 = (layC c).at_4 + c.Pages + xs.getD i 0 := offs_nn (by omega)
        have o3 : offs hd 0 = hd := offs_nn (by omega)
        have r1 : inR ((layC c).at_4 + xs.getD i 0) u.length = true := inR_int (by omega) (by omega)
        have r2 : inR ((layC c).at_4 + c.Pages + xs.getD i 0) u.length = true := inR_int (by omega) (by omega)
        have r3 : inR hd u.length = true := inR_int (by omega) (by omega)
        simp only [o1, o2, o3, r1, r2, r3, hhd, Option.bind_some, cond_true]
        have w1 : IntKind.i64.wrap ((i : Int) + 1) = ((i + 1 : Nat) : Int) := wrap_succ (by omega)
        have ho1 : offs ((i + 1 : Nat) : Int) 0 = ((i + 1 : Nat) : Int) := rfl
        have e1 : (xs.getD i 0 + 1 : Int) = IntKind.i64.wrap (xs.getD i 0 + 1) := (wrap_id (by omega) (by omega)).symm
        simp only [w1, ho1, Int.toNat_natCast, ← e1]
        unfold layStep at st
        dsimp only at st
        by_cases d : i + 1 < xs.length
        · have hb1 := hin (i + 1) d
          have e2 : IntKind.i64.wrap (xs.getD (i + 1) 0 + 1) = xs.getD (i + 1) 0 + 1 := wrap_id (by omega) (by omega)
          rw [if_pos d] at st
          rw [decide_eq_true (show ((i + 1 : Nat) : Int) < (xs.length : Int) by omega), inR_nat d, e2]
          simp only [cond_true]
          by_cases z : i = 0
          · have ez : ((i : Int) == 0) = true := by simp [z]
            rw [if_pos z] at st
            rw [ez, cond_true]
            exact .inl ⟨_, rfl, ⟨i + 1, cc, rfl, st⟩, by simp only; omega⟩
          · have ez : ((i : Int) == 0) = false := by simpa using z
            have w2 : IntKind.i64.wrap ((i : Int) - 1) = ((i - 1 : Nat) : Int) := by rw [wrap_id (by omega) (by omega)]; omega
            have ho2 : offs ((i - 1 : Nat) : Int) 0 = ((i - 1 : Nat) : Int) := rfl
            have hb2 := hin (i - 1) (by omega)
            have e3 : IntKind.i64.wrap (xs.getD (i - 1) 0 + 1) = xs.getD (i - 1) 0 + 1 := wrap_id (by omega) (by omega)
            rw [if_neg z] at st
            rw [ez, cond_false, w2, ho2, inR_nat (by omega), Int.toNat_natCast, e3]
            simp only [cond_true]
            exact .inl ⟨_, rfl, ⟨i + 1, cc, rfl, st⟩, by simp only; omega⟩
        · rw [if_neg d] at st
          rw [decide_eq_false (show ¬ ((i + 1 : Nat) : Int) < (xs.length : Int) by omega)]
          simp only [cond_false]
          by_cases z : i = 0
          · have ez : ((i : Int) == 0) = true := by simp [z]
            rw [if_pos z] at st
            rw [ez, cond_true]
            exact .inl ⟨_, rfl, ⟨i + 1, cc, rfl, st⟩, by simp only; omega⟩
          · have ez : ((i : Int) == 0) = false := by simpa using z
            have w2 : IntKind.i64.wrap ((i : Int) - 1) = ((i - 1 : Nat) : Int) := by rw [wrap_id (by omega) (by omega)]; omega
            have ho2 : offs ((i - 1 : Nat) : Int) 0 = ((i - 1 : Nat) : Int) := rfl
            have hb2 := hin (i - 1) (by omega)
            have e3 : IntKind.i64.wrap (xs.getD (i - 1) 0 + 1) = xs.getD (i - 1) 0 + 1 := wrap_id (by omega) (by omega)
            rw [if_neg z] at st
            rw [ez, cond_false, w2, ho2, inR_nat (by omega), Int.toNat_natCast, e3]
            simp only [cond_true]
            exact .inl ⟨_, rfl, ⟨i + 1, cc, rfl, st⟩, by simp only; omega⟩
      · have e : i = xs.length := by omega
        subst e
        rw [decide_eq_false (by omega), cond_false]
        exact .inr ⟨_, rfl, l⟩) (0, w.set hd.toNat 0) ⟨0, by omega, rfl, hst⟩
  exact ⟨r, h2, hr.fin hx nd, hr.off⟩
end
end Go.Rx
end

section
/- Lists of pages: what the document links and unlinks is what the program does. -/
namespace Go.Rx
open Go.Proofs

theorem filter_erase : ∀ {xs : List Int}, xs.Nodup → ∀ {k : Nat}, k < xs.length → xs.filter (fun x => x != xs.getD k 0) = xs.eraseIdx k
  | [], _, _, h => by simp at h
  | x :: r, nd, 0, _ => by
    rw [List.nodup_cons] at nd
    have e : r.filter (fun y => y != x) = r := List.filter_eq_self.2 (fun y hy => by
      have : y ≠ x := fun h => nd.1 (h ▸ hy)
      simpa using this)
    simp only [List.getD_cons_zero, List.filter_cons, bne_self_eq_false, List.eraseIdx_cons_zero]
    exact e
  | x :: r, nd, k + 1, h => by
    rw [List.nodup_cons] at nd
    have hk : k < r.length := by simpa using h
    have hx : x ≠ r.getD k 0 := fun h => nd.1 (h ▸ getD_mem hk)
    have e : (x != r.getD k 0) = true := by simpa [List.getD] using hx
    simp only [List.getD_cons_succ, List.filter_cons, e, if_true, List.eraseIdx_cons_succ]
    rw [filter_erase nd.2 hk]
theorem filter_not {xs : List Int} {p : Int} (h : p ∉ xs) : xs.filter (fun x => x != p) = xs := List.filter_eq_self.2 (fun y hy => by
  have : y ≠ p := fun e => h (e ▸ hy)
  simpa using this)
theorem filter_snoc {xs : List Int} {i : Nat} (h : i < xs.length) (p : Int) : (xs.take (i + 1)).filter (fun x => x != p) = (xs.take i).filter (fun x => x != p) ++ (bif xs.getD i 0 != p then [xs.getD i 0] else []) := by
  rw [take_snoc h, List.filter_append]
  congr 1

section
variable {c : T_api_Config}
theorem rLink_eq (h : RightC c) {w : List Int} (v : VOK (layC c) w.length w) {p q f : Int} {xs : List Int} (l : isL q f → Lst (layC c).at_4 c.Pages w (hdI ((layC c).at_4 + 2 * c.Pages) q f) xs) (hp : isL q f → 0 ≤ p → p < c.Pages → p ∉ xs) :
    m_ref10_Link ⟨c⟩ p q f w = some (if isL q f ∧ 0 ≤ p ∧ p < c.Pages then (true, linkW (layC c).at_4 c.Pages w (hdI ((layC c).at_4 + 2 * c.Pages) q f) p) else (false, w)) := by
  have hpg := h.pages
  unfold m_ref10_Link
  rw [rthere10_eq h, Option.bind_some]
  by_cases a : isL q f ∧ 0 ≤ p ∧ p < c.Pages
  · rw [decide_eq_true a, if_pos a, Bool.not_true, cond_false]
    obtain ⟨k, a1, a2⟩ := a
    have l := l k
    have g := v.geoA.geo k
    have hle := l.len (by omega)
    obtain ⟨n1, n2⟩ := link_ok g l ⟨a1, a2⟩ (hp k a1 a2)
    obtain ⟨u, h1, h2, h3⟩ := rlay_eq h v k n1.inn n1.nd
    rw [rList_eq h v k l, Option.bind_some, decide_eq_true (by omega), cond_true, h1, Option.bind_some]
    have e : u = linkW (layC c).at_4 c.Pages w (hdI ((layC c).at_4 + 2 * c.Pages) q f) p := h2.det n1 h3 n2 (fun y m n => (n m).elim)
    rw [e]
  · rw [decide_eq_false a, if_neg a]; rfl

theorem rUnlink_eq (h : RightC c) {w : List Int} (v : VOK (layC c) w.length w) {p q f : Int} {xs : List Int} (l : isL q f → Lst (layC c).at_4 c.Pages w (hdI ((layC c).at_4 + 2 * c.Pages) q f) xs) :
    m_ref10_Unlink ⟨c⟩ p q f w = some (if isL q f ∧ p ∈ xs then (true, unlinkW (layC c).at_4 c.Pages w (hdI ((layC c).at_4 + 2 * c.Pages) q f) p) else (false, w)) := by
  have hpg := h.pages
  unfold m_ref10_Unlink
  rw [rthere10_eq h, Option.bind_some]
  by_cases a : isL q f ∧ 0 ≤ p ∧ p < c.Pages
  · rw [decide_eq_true a, Bool.not_true, cond_false]
    obtain ⟨k, a1, a2⟩ := a
    have l := l k
    have g : Geo (layC c).at_4 c.Pages w.length (hdI ((layC c).at_4 + 2 * c.Pages) q f) := v.geoA.geo k
    have hle := l.len (by omega)
    rw [rList_eq h v k l, Option.bind_some]
    obtain ⟨r, h1, rfl⟩ := loopO_ind (step := fun s : Int × List Int => sb_ref10_Unlink_L1 ⟨c⟩ p q f w xs s.1 s.2)
      (I := fun s => ∃ i : Nat, i ≤ xs.length ∧ s = ((i : Int), (xs.take i).filter (fun x => x != p))) (μ := fun s => xs.length - s.1.toNat)
      (fun r => r = if isL q f ∧ p ∈ xs then (true, unlinkW (layC c).at_4 c.Pages w (hdI ((layC c).at_4 + 2 * c.Pages) q f) p) else (false, w)) (by
        rintro _ ⟨i, hi, rfl⟩
        simp only [sb_ref10_Unlink_L1]
        by_cases cc : i < xs.length
        · have ho : offs (i : Int) 0 = (i : Int) := rfl
          have hlen : ((xs.take i).filter (fun x => x != p)).length + 1 ≤ 1048576 := by
            have := List.length_filter_le (fun x => x != p) (xs.take i)
            rw [List.length_take] at this; omega
          rw [decide_eq_true (show (i : Int) < (xs.length : Int) by omega), cond_true, ho, inR_nat cc, Int.toNat_natCast, wrap_succ (by omega)]
          simp only [cond_true]
          refine .inl ⟨_, ?_, ⟨i + 1, cc, rfl⟩, by simp only; omega⟩
          rw [filter_snoc cc]
          cases (xs.getD i 0 != p) with
          | true => rw [cond_true, decide_eq_true hlen, cond_true, cond_true]
          | false => rw [cond_false, cond_false, List.append_nil]
        · have e : i = xs.length := by omega
          subst e
          rw [decide_eq_false (by omega), cond_false, List.take_length]
          by_cases m : p ∈ xs
          · obtain ⟨j, hj, rfl⟩ := mem_getD m
            rw [filter_erase l.nd hj, if_pos ⟨k, m⟩]
            have hel : (xs.eraseIdx j).length = xs.length - 1 := by rw [List.length_eraseIdx, if_pos hj]
            have e1 : (((xs.eraseIdx j).length : Int) == (xs.length : Int)) = false := by rw [hel]; simp; omega
            obtain ⟨n1, n2, z1, z2⟩ := unlink_ok g l hj
            obtain ⟨g1, g2, g3⟩ := id g
            have o1 : offs ((layC c).at_4 + xs.getD j 0) 0 = (layC c).at_4 + xs.getD j 0 := offs_nn (by omega)
            have o2 : offs ((layC c).at_4 + c.Pages + xs.getD j 0) 0 = (layC c).at_4 + c.Pages + xs.getD j 0 := offs_nn (by omega)
            have r1 : inR ((layC c).at_4 + xs.getD j 0) w.length = true := inR_int (by omega) (by omega)
            have r2 : inR ((layC c).at_4 + c.Pages + xs.getD j 0) w.length = true := inR_int (by omega) (by omega)
            have pvn := pv_is v.lay (p := xs.getD j 0) ⟨a1, a2⟩
            have e0 : (layC c).c = c := rfl
            rw [e0] at pvn
            rw [e1, cond_false, rNext_eq h, Option.bind_some, nx_is ⟨a1, a2⟩, rPrev_eq h, Option.bind_some, pvn]
            simp only [List.length_set, o1, o2, r1, r2, cond_true]
            have v1 : VOK (layC c) ((w.set ((layC c).at_4 + xs.getD j 0).toNat 0).set ((layC c).at_4 + c.Pages + xs.getD j 0).toNat 0).length ((w.set ((layC c).at_4 + xs.getD j 0).toNat 0).set ((layC c).at_4 + c.Pages + xs.getD j 0).toNat 0) :=
              ⟨v.lay, rfl, by simp only [List.length_set]; exact v.all⟩
            obtain ⟨u, h1, h2, h3⟩ := rlay_eq h v1 k n1.inn n1.nd
            have oA : Off (layC c).at_4 c.Pages w ((w.set ((layC c).at_4 + xs.getD j 0).toNat 0).set ((layC c).at_4 + c.Pages + xs.getD j 0).toNat 0) (hdI ((layC c).at_4 + 2 * c.Pages) q f) xs :=
              ((Off.refl _ _ _ _ _).set ⟨by omega, by omega⟩ (.inr ⟨_, m, .inl rfl⟩)).set ⟨by omega, by omega⟩ (.inr ⟨_, m, .inr rfl⟩)
            have hsub : ∀ x ∈ xs.eraseIdx j, x ∈ xs := fun x hx => List.mem_of_mem_eraseIdx hx
            have hne : ∀ y ∈ xs.eraseIdx j, y ≠ xs.getD j 0 := fun y hy => ((mem_erase_nd l.nd hj y).1 hy).2
            have h3' := h3.more hsub
            have oB : Off (layC c).at_4 c.Pages w u (hdI ((layC c).at_4 + 2 * c.Pages) q f) xs := ⟨by rw [h3'.len, oA.len], fun b b1 b2 b3 => by rw [h3'.off b b1 b2 b3, oA.off b b1 b2 b3]⟩
            have hwl : (w.set ((layC c).at_4 + xs.getD j 0).toNat 0).length = w.length := List.length_set
            have zu1 : wd u ((layC c).at_4 + xs.getD j 0) = 0 := by
              rw [h3.off _ (by omega) (by omega) (fun y hy => by have := hne y hy; have := n1.inn y hy; omega), wd_set (by omega) (by omega), wd_set (by omega) (by omega)]
              split <;> simp
            have zu2 : wd u ((layC c).at_4 + c.Pages + xs.getD j 0) = 0 := by
              rw [h3.off _ (by omega) (by omega) (fun y hy => by have := hne y hy; have := n1.inn y hy; omega), wd_set (by omega) (by omega), if_pos rfl]
            have e : u = unlinkW (layC c).at_4 c.Pages w (hdI ((layC c).at_4 + 2 * c.Pages) q f) (xs.getD j 0) := h2.det n1 oB n2 (fun y my ny => by
              by_cases ey : y = xs.getD j 0
              · rw [ey, zu1, zu2, z1, z2]; exact ⟨rfl, rfl⟩
              · exact (ny ((mem_erase_nd l.nd hj y).2 ⟨my, ey⟩)).elim)
            rw [h1, Option.bind_some, e]
            exact .inr ⟨_, rfl, rfl⟩
          · rw [filter_not m, beq_self_eq_true, cond_true, if_neg (fun x => m x.2)]
            exact .inr ⟨_, rfl, rfl⟩) (0, []) ⟨0, by omega, by simp⟩
    exact h1
  · rw [decide_eq_false a, if_neg ?_]
    · rfl
    · rintro ⟨k, m⟩
      exact a ⟨k, (l k).inn p m⟩

theorem firstF_congr {ls ls' : Int → Int → List Int} {q : Int} : ∀ (n : Nat) (f : Int), (∀ g, f ≤ g → g < f + n → ls q g = ls' q g) → firstF ls q f n = firstF ls' q f n
  | 0, _, _ => rfl
  | n + 1, f, h => by
    simp only [firstF]
    rw [h f (by omega) (by omega), firstF_congr n (f + 1) (fun g h1 h2 => h g (by omega) (by omega))]

theorem rFirst_eq (h : RightC c) {w : List Int} (v : VOK (layC c) w.length w) {q : Int} {ls : Int → Int → List Int} (l : ∀ f, isL q f → Lst (layC c).at_4 c.Pages w (hdI ((layC c).at_4 + 2 * c.Pages) q f) (ls q f)) :
    m_ref10_First ⟨c⟩ q w = some (firstF ls q 1 (slotsC q).toNat) := by
  have hs := slotsC_le q
  have hL : ∀ f, m_ref10_List ⟨c⟩ q f w = some (lsOf ls q f) := fun f => by
    unfold lsOf
    by_cases k : isL q f
    · rw [if_pos k]; exact rList_eq h v k (l f k)
    · rw [if_neg k]; exact rList_no h k
  have key : m_ref10_First ⟨c⟩ q w = some (firstF (lsOf ls) q 1 32) := by
    refine loopO_fun (step := fun s : Int => sb_ref10_First_L1 ⟨c⟩ q w s) (I := fun f => 1 ≤ f ∧ f ≤ 33) (fun f => (33 - f).toNat) (fun f => firstF (lsOf ls) q f (33 - f).toNat) (fun f hf => ?_) 1 ⟨by omega, by omega⟩
    simp only [sb_ref10_First_L1, hL, Option.bind_some]
    by_cases c0 : f ≤ 32
    · rw [decide_eq_true c0, cond_true]
      have hn : (33 - f).toNat = (33 - (f + 1)).toNat + 1 := by omega
      cases hx : lsOf ls q f with
      | nil =>
        rw [decide_eq_false (by simp), cond_false, wrap_id (by omega) (by omega)]
        refine .inl ⟨_, rfl, ⟨by omega, by omega⟩, by omega, ?_⟩
        rw [hn]; simp only [firstF, hx]
      | cons x r =>
        have e1 : offs 0 0 = 0 := rfl
        rw [decide_eq_true (by simp), cond_true, inR_int (by omega) (by simp), cond_true, e1, inR_int (by omega) (by simp), cond_true]
        refine .inr ?_
        rw [hn]; simp only [firstF, hx]; rfl
    · rw [decide_eq_false c0, cond_false]
      refine .inr ?_
      have : (33 - f).toNat = 0 := by omega
      rw [this]; rfl
  rw [key]
  have e : 32 = (slotsC q).toNat + (32 - (slotsC q).toNat) := by omega
  rw [e, firstF_more (slotsC q).toNat (32 - (slotsC q).toNat) 1 (fun g hg => by unfold lsOf; rw [if_neg (fun k => by have := k.2; omega)])]
  congr 1
  refine firstF_congr _ _ (fun g h1 h2 => ?_)
  unfold lsOf
  by_cases hq : 0 ≤ q ∧ q < 5
  · rw [if_pos ⟨hq, h1, by omega⟩]
  · exfalso
    have : slotsC q = 0 := by
      unfold slotsC
      rw [if_neg (by omega), if_neg (by omega), if_neg (by omega), if_neg (by omega), if_neg (by omega)]
    rw [this] at h2
    have e0 : ((0 : Int).toNat : Int) = 0 := rfl
    omega
end
end Go.Rx
end

section
/- Contracts. -/
namespace Go.Rx
open Go.Proofs
set_option maxRecDepth 100000
set_option maxHeartbeats 4000000
/-! assart/assartlaw10.done -/
def tr_law10_done (m_ : Nat → (List Int) → T_layout_Layout → T_assartlaw10_Act → Option (Bool × (List Int))) (args : List V) (H : Heap) (K : V → Heap → Prop) : Prop :=
  aC args fun a0 r => aC r fun a1 r => aC r fun a2 r => aN r <| aPtr 0 a0 <| aAgg a1 fun c1 => d_layout_Layout c1 fun l2 => aAgg a2 fun c2 => d_assartlaw10_Act c2 fun a => aC H fun b0 r => aC r fun b1 r => aN r <| bView 1 b0 fun ws cur xs => bRow 0 true b1 fun (l : List Int) => ws = l ∧ xs.length ≤ 2 ∧ So (m_ (ws.length) cur l2 a) fun x => K (vb (x.1)) [.pk 0 [ws, x.2] xs [.row 1], .row 0 l true]
def sp_law10_done (m_ : Nat → (List Int) → T_layout_Layout → T_assartlaw10_Act → Option (Bool × (List Int))) : Spec := ⟨tr_law10_done m_, (true : Bool)⟩

/-! assart/assartlaw10.told -/
def tr_law10_told (m_ : T_assartref02_Layout → T_assartlaw10_Act → (List Int) → Option (Bool × (List Int))) (args : List V) (H : Heap) (K : V → Heap → Prop) : Prop :=
  aC args fun a0 r => aC r fun a1 r => aC r fun a2 r => aN r <| aAgg a0 fun c0 => d_assartref02_Layout c0 fun rv => aRow 0 a1 <| aAgg a2 fun c2 => d_assartlaw10_Act c2 fun a => aC H fun b0 r => aN r <| bRow 0 false b0 fun (w : List Int) => So (m_ rv a w) fun x => K (vb (x.1)) [.row 0 (x.2) false]
def sp_law10_told (m_ : T_assartref02_Layout → T_assartlaw10_Act → (List Int) → Option (Bool × (List Int))) : Spec := ⟨tr_law10_told m_, (⟨true, fun i => Nat.beq i 0⟩ : RO)⟩

/-! (assart/assartlaw10.Where).skipped -/
def tr_law10_Where_skipped (m_ : T_assartlaw10_Act → (List Int) → Option (Bool)) (args : List V) (H : Heap) (K : V → Heap → Prop) : Prop :=
  aC args fun a0 r => aC r fun a1 r => aN r <| aRow 0 a0 <| aAgg a1 fun c1 => d_assartlaw10_Act c1 fun a => aC H fun b0 r => aN r <| bRow 0 true b0 fun (w : List Int) => So (m_ a w) fun x => K (vb (x)) [.row 0 w true]
def sp_law10_Where_skipped (m_ : T_assartlaw10_Act → (List Int) → Option (Bool)) : Spec := ⟨tr_law10_Where_skipped m_, (true : Bool)⟩

/-! (assart/assartlaw10.Where).note -/
def tr_law10_Where_note (m_ : T_assartlaw10_Act → (List Int) → Option ((List Int))) (args : List V) (H : Heap) (K : V → Heap → Prop) : Prop :=
  aC args fun a0 r => aC r fun a1 r => aN r <| aRow 0 a0 <| aAgg a1 fun c1 => d_assartlaw10_Act c1 fun a => aC H fun b0 r => aN r <| bRow 0 false b0 fun (w : List Int) => So (m_ a w) fun x => K (.tup []) [.row 0 (x) false]
def sp_law10_Where_note (m_ : T_assartlaw10_Act → (List Int) → Option ((List Int))) : Spec := ⟨tr_law10_Where_note m_, (⟨true, fun i => Nat.beq i 0⟩ : RO)⟩

noncomputable def cfg_law10_done (m_plist_Link : Nat → (List Int) → T_layout_Layout → Int → Int → Int → Option (Bool × (List Int))) (m_plist_Unlink : Nat → (List Int) → T_layout_Layout → Int → Int → Int → Option (Bool × (List Int))) : Cfg := { cfgB with
  sigs := (sigC 40 (sp_plist_Link m_plist_Link) (sigC 39 (sp_plist_Unlink m_plist_Unlink) sigN)) }

noncomputable def cfg_law10_told (m_ref10_Link : T_assartref02_Layout → Int → Int → Int → (List Int) → Option (Bool × (List Int))) (m_ref10_Unlink : T_assartref02_Layout → Int → Int → Int → (List Int) → Option (Bool × (List Int))) : Cfg := { cfgB with
  sigs := (sigC 94 (sp_ref10_Link m_ref10_Link) (sigC 95 (sp_ref10_Unlink m_ref10_Unlink) sigN)) }

noncomputable def cfg_law10_Where_skipped  : Cfg := { cfgB with
  sigs := sigN }

noncomputable def cfg_law10_Where_note  : Cfg := { cfgB with
  sigs := sigN }

theorem nf_law10_done (m_plist_Link : Nat → (List Int) → T_layout_Layout → Int → Int → Int → Option (Bool × (List Int))) (m_plist_Unlink : Nat → (List Int) → T_layout_Layout → Int → Int → Int → Option (Bool × (List Int))) (ws : List Int) (cur : List Int) (xs : List Value) (l2 : T_layout_Layout) (a : T_assartlaw10_Act) (K : V → Heap → Prop) : (exF (cfg_law10_done m_plist_Link m_plist_Unlink) Try.f44 [.ptr 0 0, .agg (e_layout_Layout l2), .agg (e_assartlaw10_Act a)] [.pk 0 [ws, cur] xs [.row 1], .row 0 ws true] K) = (
    br (Decidable.decide (T_assartlaw10_Act.Kind a < 2)) (((ws = ws) ∧ (((List.length xs ≤ 2) ∧ (So (m_plist_Link (List.length ws) cur l2 (T_assartlaw10_Act.P a) (T_assartlaw10_Act.C a) (T_assartlaw10_Act.F a)) (fun (y0 : Bool × List Int) => (K (vb (Prod.fst y0)) [.pk 0 [ws, Prod.snd y0] (xs) [.row 1], .row 0 (ws : List (Int)) Bool.true]))))))) (((ws = ws) ∧ (((List.length xs ≤ 2) ∧ (So (m_plist_Unlink (List.length ws) cur l2 (T_assartlaw10_Act.P a) (T_assartlaw10_Act.C a) (T_assartlaw10_Act.F a)) (fun (y1 : Bool × List Int) => (K (vb (Prod.fst y1)) [.pk 0 [ws, Prod.snd y1] (xs) [.row 1], .row 0 (ws : List (Int)) Bool.true])))))))) := by
  kernel_rfl

theorem nf_law10_told (m_ref10_Link : T_assartref02_Layout → Int → Int → Int → (List Int) → Option (Bool × (List Int))) (m_ref10_Unlink : T_assartref02_Layout → Int → Int → Int → (List Int) → Option (Bool × (List Int))) (rv : T_assartref02_Layout) (a : T_assartlaw10_Act) (w : List Int) (K : V → Heap → Prop) : (exF (cfg_law10_told m_ref10_Link m_ref10_Unlink) Try.f46 [.agg (e_assartref02_Layout rv), .row 0, .agg (e_assartlaw10_Act a)] [.row 0 w false] K) = (
    br (Decidable.decide (T_assartlaw10_Act.Kind a < 2)) (So (m_ref10_Link rv (T_assartlaw10_Act.P a) (T_assartlaw10_Act.C a) (T_assartlaw10_Act.F a) w) (fun (y0 : Bool × List Int) => (K (vb (Prod.fst y0)) [.row 0 (Prod.snd y0 : List (Int)) Bool.false]))) (So (m_ref10_Unlink rv (T_assartlaw10_Act.P a) (T_assartlaw10_Act.C a) (T_assartlaw10_Act.F a) w) (fun (y1 : Bool × List Int) => (K (vb (Prod.fst y1)) [.row 0 (Prod.snd y1 : List (Int)) Bool.false])))) := by
  kernel_rfl

theorem nf_law10_Where_skipped (a : T_assartlaw10_Act) (w : List Int) (K : V → Heap → Prop) : (exF cfg_law10_Where_skipped Try.f42 [.row 0, .agg (e_assartlaw10_Act a)] [.row 0 w true] K) = (
    br (Decidable.decide (T_assartlaw10_Act.Kind a < 2)) (br (Decidable.decide (T_assartlaw10_Act.P a ≥ 0)) (br (Decidable.decide (T_assartlaw10_Act.P a < (↑(List.length w) : Int))) (Req (inR (T_assartlaw10_Act.P a) (List.length w)) (Req (inR (offs (T_assartlaw10_Act.P a) 0) (List.length w)) (K (vb (List.getD w (Int.toNat (offs (T_assartlaw10_Act.P a) 0)) 0 != 0)) [.row 0 (w : List (Int)) Bool.true]))) (K (vb (Bool.false)) [.row 0 (w : List (Int)) Bool.true])) (K (vb (Bool.false)) [.row 0 (w : List (Int)) Bool.true])) (K (vb (Bool.false)) [.row 0 (w : List (Int)) Bool.true])) := by
  kernel_rfl

theorem nf_law10_Where_note (a : T_assartlaw10_Act) (w : List Int) (K : V → Heap → Prop) : (exF cfg_law10_Where_note Try.f47 [.row 0, .agg (e_assartlaw10_Act a)] [.row 0 w false] K) = (
    br (Decidable.decide (T_assartlaw10_Act.P a < 0)) (K (.tup []) [.row 0 (w : List (Int)) Bool.false]) (br (Decidable.decide (T_assartlaw10_Act.P a ≥ (↑(List.length w) : Int))) (K (.tup []) [.row 0 (w : List (Int)) Bool.false]) (Req (inR (T_assartlaw10_Act.P a) (List.length w)) (Req (inR (offs (T_assartlaw10_Act.P a) 0) (List.length w)) (br (Decidable.decide (T_assartlaw10_Act.Kind a < 2)) (Req (inR (T_assartlaw10_Act.P a) (List.length (List.set w (Int.toNat (offs (T_assartlaw10_Act.P a) 0)) 0))) (Req (inR (offs (T_assartlaw10_Act.P a) 0) (List.length (List.set w (Int.toNat (offs (T_assartlaw10_Act.P a) 0)) 0))) (K (.tup []) [.row 0 (List.set (List.set w (Int.toNat (offs (T_assartlaw10_Act.P a) 0)) 0) (Int.toNat (offs (T_assartlaw10_Act.P a) 0)) (IntKind.wrap IntKind.i64 (IntKind.wrap IntKind.i64 (100 * T_assartlaw10_Act.C a) + T_assartlaw10_Act.F a)) : List (Int)) Bool.false]))) (K (.tup []) [.row 0 (List.set w (Int.toNat (offs (T_assartlaw10_Act.P a) 0)) 0 : List (Int)) Bool.false])))))) := by
  kernel_rfl

noncomputable def m_law10_done (nw : Nat) (cur : List Int) (l2 : T_layout_Layout) (a : T_assartlaw10_Act) : Option (Bool × (List Int)) :=
  (bif (Decidable.decide (T_assartlaw10_Act.Kind a < 2)) then ((m_plist_Link nw cur l2 (T_assartlaw10_Act.P a) (T_assartlaw10_Act.C a) (T_assartlaw10_Act.F a)).bind fun y0 => some (((Prod.fst y0), (Prod.snd y0)))) else ((m_plist_Unlink nw cur l2 (T_assartlaw10_Act.P a) (T_assartlaw10_Act.C a) (T_assartlaw10_Act.F a)).bind fun y1 => some (((Prod.fst y1), (Prod.snd y1)))))

noncomputable def m_law10_told (rv : T_assartref02_Layout) (a : T_assartlaw10_Act) (w : List Int) : Option (Bool × (List Int)) :=
  (bif (Decidable.decide (T_assartlaw10_Act.Kind a < 2)) then ((m_ref10_Link rv (T_assartlaw10_Act.P a) (T_assartlaw10_Act.C a) (T_assartlaw10_Act.F a) w).bind fun y0 => some (((Prod.fst y0), (Prod.snd y0)))) else ((m_ref10_Unlink rv (T_assartlaw10_Act.P a) (T_assartlaw10_Act.C a) (T_assartlaw10_Act.F a) w).bind fun y1 => some (((Prod.fst y1), (Prod.snd y1)))))

noncomputable def m_law10_Where_skipped (a : T_assartlaw10_Act) (w : List Int) : Option (Bool) :=
  (bif (Decidable.decide (T_assartlaw10_Act.Kind a < 2)) then (bif (Decidable.decide (T_assartlaw10_Act.P a ≥ 0)) then (bif (Decidable.decide (T_assartlaw10_Act.P a < (↑(List.length w) : Int))) then (bif (inR (T_assartlaw10_Act.P a) (List.length w)) then (bif (inR (offs (T_assartlaw10_Act.P a) 0) (List.length w)) then some ((List.getD w (Int.toNat (offs (T_assartlaw10_Act.P a) 0)) 0 != 0)) else none) else none) else some ((Bool.false))) else some ((Bool.false))) else some ((Bool.false)))

noncomputable def m_law10_Where_note (a : T_assartlaw10_Act) (w : List Int) : Option ((List Int)) :=
  (bif (Decidable.decide (T_assartlaw10_Act.P a < 0)) then some ((w)) else (bif (Decidable.decide (T_assartlaw10_Act.P a ≥ (↑(List.length w) : Int))) then some ((w)) else (bif (inR (T_assartlaw10_Act.P a) (List.length w)) then (bif (inR (offs (T_assartlaw10_Act.P a) 0) (List.length w)) then (bif (Decidable.decide (T_assartlaw10_Act.Kind a < 2)) then (bif (inR (T_assartlaw10_Act.P a) (List.length (List.set w (Int.toNat (offs (T_assartlaw10_Act.P a) 0)) 0))) then (bif (inR (offs (T_assartlaw10_Act.P a) 0) (List.length (List.set w (Int.toNat (offs (T_assartlaw10_Act.P a) 0)) 0))) then some ((List.set (List.set w (Int.toNat (offs (T_assartlaw10_Act.P a) 0)) 0) (Int.toNat (offs (T_assartlaw10_Act.P a) 0)) (IntKind.wrap IntKind.i64 (IntKind.wrap IntKind.i64 (100 * T_assartlaw10_Act.C a) + T_assartlaw10_Act.F a)))) else none) else none) else some ((List.set w (Int.toNat (offs (T_assartlaw10_Act.P a) 0)) 0))) else none) else none)))

attribute [local irreducible] Loop ex exF contK roundK retK at_ bodyOf mkEnv
theorem ok_law10_done : SpecOK Try.prog elTT 44 (sp_law10_done m_law10_done) := by
  refine spec_of_exF (cfg := (cfg_law10_done m_plist_Link m_plist_Unlink)) (cfg_ok rfl rfl rfl) (sig_cons ok_plist_Link (sig_cons ok_plist_Unlink sig_nil)) (fn := Try.f44) (by kernel_rfl) (by kernel_rfl) (by kernel_rfl) ?_
  intro args H K h
  change tr_law10_done m_law10_done args H K at h
  unfold tr_law10_done at h
  replace h := aC_el h
  obtain ⟨a0, _, rfl, h⟩ := h
  replace h := aC_el h
  obtain ⟨a1, _, rfl, h⟩ := h
  replace h := aC_el h
  obtain ⟨a2, _, rfl, h⟩ := h
  replace h := aN_el h
  obtain ⟨rfl, h⟩ := h
  replace h := aPtr_el h
  obtain ⟨rfl, h⟩ := h
  replace h := aAgg_el h
  obtain ⟨c1, rfl, h⟩ := h
  replace h := d_layout_Layout_el h
  obtain ⟨l2, rfl, h⟩ := h
  replace h := aAgg_el h
  obtain ⟨c2, rfl, h⟩ := h
  replace h := d_assartlaw10_Act_el h
  obtain ⟨a, rfl, h⟩ := h
  replace h := aC_el h
  obtain ⟨b0, _, rfl, h⟩ := h
  replace h := aC_el h
  obtain ⟨b1, _, rfl, h⟩ := h
  replace h := aN_el h
  obtain ⟨rfl, h⟩ := h
  replace h := bView_el h
  obtain ⟨ws, cur, xs, rfl, h⟩ := h
  replace h := bRow_el h
  obtain ⟨(l : List Int), rfl, h⟩ := h
  obtain ⟨rfl, hx, h⟩ := h
  refine Eq.mpr (nf_law10_done m_plist_Link m_plist_Unlink ws cur xs l2 a K) ?_
  unfold m_law10_done at h
  revert h
  exact br_So (and_So (by first | exact rfl | assumption | exact trivial | omega) (and_So (by first | exact rfl | assumption | exact trivial | omega) (bind_So fun y0 => fun h => h))) (and_So (by first | exact rfl | assumption | exact trivial | omega) (and_So (by first | exact rfl | assumption | exact trivial | omega) (bind_So fun y1 => fun h => h)))

theorem ok_law10_told : SpecOK Try.prog elTT 46 (sp_law10_told m_law10_told) := by
  refine spec_of_exF (cfg := (cfg_law10_told m_ref10_Link m_ref10_Unlink)) (cfg_ok rfl rfl rfl) (sig_cons ok_ref10_Link (sig_cons ok_ref10_Unlink sig_nil)) (fn := Try.f46) (by kernel_rfl) (by kernel_rfl) (by kernel_rfl) ?_
  intro args H K h
  change tr_law10_told m_law10_told args H K at h
  unfold tr_law10_told at h
  replace h := aC_el h
  obtain ⟨a0, _, rfl, h⟩ := h
  replace h := aC_el h
  obtain ⟨a1, _, rfl, h⟩ := h
  replace h := aC_el h
  obtain ⟨a2, _, rfl, h⟩ := h
  replace h := aN_el h
  obtain ⟨rfl, h⟩ := h
  replace h := aAgg_el h
  obtain ⟨c0, rfl, h⟩ := h
  replace h := d_assartref02_Layout_el h
  obtain ⟨rv, rfl, h⟩ := h
  replace h := aRow_el h
  obtain ⟨rfl, h⟩ := h
  replace h := aAgg_el h
  obtain ⟨c2, rfl, h⟩ := h
  replace h := d_assartlaw10_Act_el h
  obtain ⟨a, rfl, h⟩ := h
  replace h := aC_el h
  obtain ⟨b0, _, rfl, h⟩ := h
  replace h := aN_el h
  obtain ⟨rfl, h⟩ := h
  replace h := bRow_el h
  obtain ⟨(w : List Int), rfl, h⟩ := h
  refine Eq.mpr (nf_law10_told m_ref10_Link m_ref10_Unlink rv a w K) ?_
  unfold m_law10_told at h
  revert h
  exact br_So (bind_So fun y0 => fun h => h) (bind_So fun y1 => fun h => h)

theorem ok_law10_Where_skipped : SpecOK Try.prog elTT 42 (sp_law10_Where_skipped m_law10_Where_skipped) := by
  refine spec_of_exF (cfg := cfg_law10_Where_skipped) (cfg_ok rfl rfl rfl) sig_nil (fn := Try.f42) (by kernel_rfl) (by kernel_rfl) (by kernel_rfl) ?_
  intro args H K h
  change tr_law10_Where_skipped m_law10_Where_skipped args H K at h
  unfold tr_law10_Where_skipped at h
  replace h := aC_el h
  obtain ⟨a0, _, rfl, h⟩ := h
  replace h := aC_el h
  obtain ⟨a1, _, rfl, h⟩ := h
  replace h := aN_el h
  obtain ⟨rfl, h⟩ := h
  replace h := aRow_el h
  obtain ⟨rfl, h⟩ := h
  replace h := aAgg_el h
  obtain ⟨c1, rfl, h⟩ := h
  replace h := d_assartlaw10_Act_el h
  obtain ⟨a, rfl, h⟩ := h
  replace h := aC_el h
  obtain ⟨b0, _, rfl, h⟩ := h
  replace h := aN_el h
  obtain ⟨rfl, h⟩ := h
  replace h := bRow_el h
  obtain ⟨(w : List Int), rfl, h⟩ := h
  refine Eq.mpr (nf_law10_Where_skipped a w K) ?_
  unfold m_law10_Where_skipped at h
  revert h
  exact br_So (br_So (br_So (req_So (req_So (fun h => h))) (fun h => h)) (fun h => h)) (fun h => h)

theorem ok_law10_Where_note : SpecOK Try.prog elTT 47 (sp_law10_Where_note m_law10_Where_note) := by
  refine spec_of_exF (cfg := cfg_law10_Where_note) (cfg_ok rfl rfl rfl) sig_nil (fn := Try.f47) (by kernel_rfl) (by kernel_rfl) (by kernel_rfl) ?_
  intro args H K h
  change tr_law10_Where_note m_law10_Where_note args H K at h
  unfold tr_law10_Where_note at h
  replace h := aC_el h
  obtain ⟨a0, _, rfl, h⟩ := h
  replace h := aC_el h
  obtain ⟨a1, _, rfl, h⟩ := h
  replace h := aN_el h
  obtain ⟨rfl, h⟩ := h
  replace h := aRow_el h
  obtain ⟨rfl, h⟩ := h
  replace h := aAgg_el h
  obtain ⟨c1, rfl, h⟩ := h
  replace h := d_assartlaw10_Act_el h
  obtain ⟨a, rfl, h⟩ := h
  replace h := aC_el h
  obtain ⟨b0, _, rfl, h⟩ := h
  replace h := aN_el h
  obtain ⟨rfl, h⟩ := h
  replace h := bRow_el h
  obtain ⟨(w : List Int), rfl, h⟩ := h
  refine Eq.mpr (nf_law10_Where_note a w K) ?_
  unfold m_law10_Where_note at h
  revert h
  exact br_So (fun h => h) (br_So (fun h => h) (req_So (req_So (br_So (req_So (req_So (fun h => h))) (fun h => h)))))

end Go.Rx
end

section
/- One step of the laws of chapter 10, plainly. -/
namespace Go.Rx
open Go.Proofs

/-- A step that is not skipped may be done. -/
def MayDo (pg : Int) (inn : List Int) (a : T_assartlaw10_Act) : Prop := a.Kind < 2 → 0 ≤ a.P → a.P < pg → wd inn a.P = 0

theorem skipped_eq {pg : Int} {inn : List Int} (hl : (inn.length : Int) = pg) (a : T_assartlaw10_Act) : ∃ b, m_law10_Where_skipped a inn = some b ∧ (b = false → MayDo pg inn a) := by
  unfold m_law10_Where_skipped
  by_cases k : a.Kind < 2
  · rw [decide_eq_true k, cond_true]
    by_cases p0 : 0 ≤ a.P
    · rw [decide_eq_true (show a.P ≥ 0 from p0), cond_true]
      by_cases p1 : a.P < pg
      · rw [decide_eq_true (by omega), cond_true, offs_nn p0, inR_int p0 (by omega), cond_true, cond_true]
        refine ⟨_, rfl, fun hb _ _ _ => ?_⟩
        show inn.getD a.P.toNat 0 = 0
        simpa using hb
      · rw [decide_eq_false (by omega), cond_false]
        exact ⟨_, rfl, fun _ _ _ h => (p1 h).elim⟩
    · rw [decide_eq_false (show ¬ a.P ≥ 0 from p0), cond_false]
      exact ⟨_, rfl, fun _ _ h => (p0 h).elim⟩
  · rw [decide_eq_false k, cond_false]
    exact ⟨_, rfl, fun _ h => (k h).elim⟩

/-- What a step tells, and the words then. -/
def step10 (nb pg : Int) (ls : Int → Int → List Int) (w : List Int) (a : T_assartlaw10_Act) : Bool × List Int :=
  if a.Kind < 2 then (if isL a.C a.F ∧ 0 ≤ a.P ∧ a.P < pg then (true, linkW nb pg w (hdI (nb + 2 * pg) a.C a.F) a.P) else (false, w))
  else if isL a.C a.F ∧ a.P ∈ ls a.C a.F then (true, unlinkW nb pg w (hdI (nb + 2 * pg) a.C a.F) a.P) else (false, w)

theorem linkW_len (nb pg : Int) (w : List Int) (h p : Int) : (linkW nb pg w h p).length = w.length := by
  unfold linkW; dsimp only; split <;> simp
theorem unlinkW_len (nb pg : Int) (w : List Int) (h p : Int) : (unlinkW nb pg w h p).length = w.length := by
  unfold unlinkW; simp only [List.length_set]; split <;> split <;> simp
theorem step10_len (nb pg : Int) (ls : Int → Int → List Int) (w : List Int) (a : T_assartlaw10_Act) : (step10 nb pg ls w a).2.length = w.length := by
  unfold step10
  repeat' split
  all_goals simp only [linkW_len, unlinkW_len]

theorem done10_eq {L : T_layout_Layout} {nw : Nat} {cur inn : List Int} {ls : Int → Int → List Int} (v : VOK L nw cur) (r : RepW L.at_4 L.c.Pages cur inn ls) (a : T_assartlaw10_Act) : m_law10_done nw cur L a = some (step10 L.at_4 L.c.Pages ls cur a) := by
  unfold m_law10_done step10
  by_cases k : a.Kind < 2
  · rw [decide_eq_true k, cond_true, if_pos k, Link_eq v (fun h => r.lst _ _ h)]; rfl
  · rw [decide_eq_false k, cond_false, if_neg k, Unlink_eq v (fun h => r.lst _ _ h)]; rfl

theorem told10_eq {c : T_api_Config} {w inn : List Int} {ls : Int → Int → List Int} (h : RightC c) (v : VOK (layC c) w.length w) (r : RepW (layC c).at_4 c.Pages w inn ls) {a : T_assartlaw10_Act} (hm : MayDo c.Pages inn a) : m_law10_told ⟨c⟩ a w = some (step10 (layC c).at_4 c.Pages ls w a) := by
  unfold m_law10_told step10
  by_cases k : a.Kind < 2
  · rw [decide_eq_true k, cond_true, if_pos k, rLink_eq h v (fun x => r.lst _ _ x) (fun x p0 p1 m => by
      have h1 := hm k p0 p1
      have h2 := ((r.mem _ _ x _).1 m).2
      have := x.1; have := x.2
      omega)]; rfl
  · rw [decide_eq_false k, cond_false, if_neg k, rUnlink_eq h v (fun x => r.lst _ _ x)]; rfl

/-- What a step that was done makes of where pages are. -/
theorem step10_rep {nb pg : Int} {w inn : List Int} {ls : Int → Int → List Int} (g : GeoA nb pg w.length) (r : RepW nb pg w inn ls) {a : T_assartlaw10_Act} (hm : MayDo pg inn a) :
    ((step10 nb pg ls w a).1 = false → (step10 nb pg ls w a).2 = w) ∧
    ((step10 nb pg ls w a).1 = true → ∃ inn' ls', m_law10_Where_note a inn = some inn' ∧ RepW nb pg (step10 nb pg ls w a).2 inn' ls' ∧ (∀ c f, ¬ (c = a.C ∧ f = a.F) → ls' c f = ls c f)) := by
  have hlen := r.len
  have hset : ∀ x y : Int, (inn.set a.P.toNat x).set a.P.toNat y = inn.set a.P.toNat y := fun x y => List.set_set _
  have note : ∀ (hp : 0 ≤ a.P ∧ a.P < pg), m_law10_Where_note a inn = (bif decide (a.Kind < 2) then some (inn.set a.P.toNat (IntKind.wrap IntKind.i64 (IntKind.wrap IntKind.i64 (100 * a.C) + a.F))) else some (inn.set a.P.toNat 0)) := fun hp => by
    unfold m_law10_Where_note
    rw [decide_eq_false (by omega), cond_false, decide_eq_false (by omega), cond_false, offs_nn hp.1, inR_int hp.1 (by omega), cond_true, cond_true]
    simp only [List.length_set, inR_int hp.1 (show a.P < (inn.length : Int) by omega), cond_true, hset]
  unfold step10
  by_cases k : a.Kind < 2
  · rw [if_pos k]
    by_cases x : isL a.C a.F ∧ 0 ≤ a.P ∧ a.P < pg
    · rw [if_pos x]
      refine ⟨fun h => (by cases h), fun _ => ?_⟩
      obtain ⟨x1, x2⟩ := x
      have h0 := hm k x2.1 x2.2
      have hn : a.P ∉ ls a.C a.F := fun m => by
        have := ((r.mem _ _ x1 _).1 m).2
        have := x1.1; have := x1.2; omega
      obtain ⟨n1, n2⟩ := link_ok (g.geo x1) (r.lst _ _ x1) x2 hn
      have hs := slotsC_le a.C
      have hx1 := x1.1; have hx2 := x1.2
      rw [note x2, decide_eq_true k, cond_true, wrap_id (x := 100 * a.C) (by omega) (by omega), wrap_id (by omega) (by omega)]
      exact ⟨_, _, rfl, r.link g x1 x2 h0 n1 n2, fun c f hne => by unfold putL; rw [if_neg hne]⟩
    · rw [if_neg x]
      exact ⟨fun _ => rfl, fun h => by cases h⟩
  · rw [if_neg k]
    by_cases x : isL a.C a.F ∧ a.P ∈ ls a.C a.F
    · rw [if_pos x]
      refine ⟨fun h => (by cases h), fun _ => ?_⟩
      obtain ⟨x1, x2⟩ := x
      have hp := (r.lst _ _ x1).inn _ x2
      obtain ⟨i, hi, e⟩ := mem_getD x2
      obtain ⟨n1, n2, z1, z2⟩ := unlink_ok (g.geo x1) (r.lst _ _ x1) hi
      have hr := r.unlink g x1 hi n1 n2 z1 z2
      rw [e] at hr
      rw [note hp, decide_eq_false k, cond_false]
      exact ⟨_, _, rfl, hr, fun c f hne => by unfold putL; rw [if_neg hne]⟩
    · rw [if_neg x]
      exact ⟨fun _ => rfl, fun h => by cases h⟩

theorem act4 {acts : List (List Int)} (n : Nat) (h : n < acts.length) : acts.getD n (List.replicate 4 0) = acts[n] := by simp [List.getD, h]
theorem RepW.start {L : T_layout_Layout} (h : LayOK L) : RepW L.at_4 L.c.Pages (List.replicate L.at_11.toNat 0) (List.replicate L.c.Pages.toNat 0) (fun _ _ => []) := by
  have := (rep_VOK h).geoA
  rw [List.length_replicate] at this
  exact RepW.zero this
end Go.Rx
end

section
/- Contracts. -/
namespace Go.Rx
open Go.Proofs
set_option maxRecDepth 100000
set_option maxHeartbeats 4000000
/-! assart/assartlaw10.PlistAgree$1 -/
def tr_law10_PlistAgree_1 (m_ : Nat → (List Int) → T_layout_Layout → Int → Int → Option ((List Int))) (args : List V) (H : Heap) (K : V → Heap → Prop) : Prop :=
  aC args fun a0 r => aC r fun a1 r => aC r fun a2 r => aC r fun a3 r => aC r fun a4 r => aN r <| aPtr 0 a0 <| aPtr 1 a1 <| aPtr 2 a2 <| aPtr 3 a3 <| aPtr 4 a4 <| aC H fun b0 r => aC r fun b1 r => aC r fun b2 r => aC r fun b3 r => aC r fun b4 r => aC r fun b5 r => aN r <| bView 5 b0 fun ws cur xs => bCells b1 fun U c1 => d_layout_Layout c1 fun l2 => bCells b2 fun U2 c2 => aC c2 fun d2_0 r => aInt d2_0 fun q => aN r <| bCells b3 fun U3 c3 => aC c3 fun d3_0 r => aInt d3_0 fun f => aN r <| bCells b4 fun U4 c4 => aC c4 fun d4_0 r => aNilS d4_0 <| aN r <| bRow 0 true b5 fun (l : List Int) => ws = l ∧ xs.length ≤ 2 ∧ So (m_ (ws.length) cur l2 q f) fun x => K (.tup []) [.pk 0 [ws, cur] xs [.row 5], .cells U (e_layout_Layout l2), .cells U2 [vi q], .cells U3 [vi f], .cells U4 [.row 6], .row 0 l true, .row 0 (x) false]
def sp_law10_PlistAgree_1 (m_ : Nat → (List Int) → T_layout_Layout → Int → Int → Option ((List Int))) : Spec := ⟨tr_law10_PlistAgree_1 m_, (true : Bool)⟩

/-! assart/assartlaw10.PlistOut$1 -/
def tr_law10_PlistOut_1 (m_ : Nat → (List Int) → T_layout_Layout → Int → Int → Int → Bool → (List Int) → Option ((List Int) × Bool)) (args : List V) (H : Heap) (K : V → Heap → Prop) : Prop :=
  aC args fun a0 r => aC r fun a1 r => aC r fun a2 r => aC r fun a3 r => aC r fun a4 r => aC r fun a5 r => aC r fun a6 r => aN r <| aPtr 0 a0 <| aPtr 1 a1 <| aPtr 2 a2 <| aPtr 3 a3 <| aPtr 4 a4 <| aPtr 5 a5 <| aPtr 6 a6 <| aC H fun b0 r => aC r fun b1 r => aC r fun b2 r => aC r fun b3 r => aC r fun b4 r => aC r fun b5 r => aC r fun b6 r => aC r fun b7 r => aC r fun b8 r => aN r <| bView 7 b0 fun ws cur xs => bCells b1 fun U c1 => d_layout_Layout c1 fun l2 => bCells b2 fun U2 c2 => aC c2 fun d2_0 r => aInt d2_0 fun q => aN r <| bCells b3 fun U3 c3 => aC c3 fun d3_0 r => aInt d3_0 fun f => aN r <| bCells b4 fun U4 c4 => aC c4 fun d4_0 r => aRow 8 d4_0 <| aN r <| bCells b5 fun U5 c5 => aC c5 fun d5_0 r => aInt d5_0 fun p => aN r <| bCells b6 fun U6 c6 => aC c6 fun d6_0 r => aBool d6_0 fun right => aN r <| bRow 0 true b7 fun (l : List Int) => bRow 0 true b8 fun (inv : List Int) => ws = l ∧ xs.length ≤ 2 ∧ So (m_ (ws.length) cur l2 q f p right inv) fun x => K (.tup []) [.pk 0 [ws, x.1] xs [.row 7], .cells U (e_layout_Layout l2), .cells U2 [vi q], .cells U3 [vi f], .cells U4 [.row 8], .cells U5 [vi p], .cells U6 [vb (x.2)], .row 0 l true, .row 0 inv true]
def sp_law10_PlistOut_1 (m_ : Nat → (List Int) → T_layout_Layout → Int → Int → Int → Bool → (List Int) → Option ((List Int) × Bool)) : Spec := ⟨tr_law10_PlistOut_1 m_, (true : Bool)⟩

/-! assart/assartlaw10.PlistPlays$1 -/
def tr_law10_PlistPlays_1 (m_ : Nat → (List Int) → T_layout_Layout → T_assartlaw10_Act → Bool → Int → Int → Option ((List Int) × Bool × (List Int) × Int)) (args : List V) (H : Heap) (K : V → Heap → Prop) : Prop :=
  aC args fun a0 r => aC r fun a1 r => aC r fun a2 r => aC r fun a3 r => aC r fun a4 r => aC r fun a5 r => aC r fun a6 r => aN r <| aPtr 0 a0 <| aPtr 1 a1 <| aPtr 2 a2 <| aPtr 3 a3 <| aPtr 4 a4 <| aPtr 5 a5 <| aPtr 6 a6 <| aC H fun b0 r => aC r fun b1 r => aC r fun b2 r => aC r fun b3 r => aC r fun b4 r => aC r fun b5 r => aC r fun b6 r => aC r fun b7 r => aN r <| bView 7 b0 fun ws cur xs => bCells b1 fun U c1 => d_layout_Layout c1 fun l2 => bCells b2 fun U2 c2 => d_assartlaw10_Act c2 fun a => bCells b3 fun U3 c3 => aC c3 fun d3_0 r => aBool d3_0 fun xv => aN r <| bCells b4 fun U4 c4 => aC c4 fun d4_0 r => aNilS d4_0 <| aN r <| bCells b5 fun U5 c5 => aC c5 fun d5_0 r => aInt d5_0 fun q => aN r <| bCells b6 fun U6 c6 => aC c6 fun d6_0 r => aInt d6_0 fun first => aN r <| bRow 0 true b7 fun (l : List Int) => ws = l ∧ xs.length ≤ 2 ∧ So (m_ (ws.length) cur l2 a xv q first) fun x => K (.tup []) [.pk 0 [ws, x.1] xs [.row 7], .cells U (e_layout_Layout l2), .cells U2 (e_assartlaw10_Act a), .cells U3 [vb (x.2.1)], .cells U4 [.row 8], .cells U5 [vi q], .cells U6 [vi (x.2.2.2)], .row 0 l true, .row 0 (x.2.2.1) false]
def sp_law10_PlistPlays_1 (m_ : Nat → (List Int) → T_layout_Layout → T_assartlaw10_Act → Bool → Int → Int → Option ((List Int) × Bool × (List Int) × Int)) : Spec := ⟨tr_law10_PlistPlays_1 m_, (true : Bool)⟩

/-! assart/assartlaw10.PlistEach$1 -/
def tr_law10_PlistEach_1 (m_ : Nat → (List Int) → Bool → T_layout_Layout → (List Int) → (List Int) → Option ((List Int) × Bool)) (args : List V) (H : Heap) (K : V → Heap → Prop) : Prop :=
  aC args fun a0 r => aC r fun a1 r => aC r fun a2 r => aC r fun a3 r => aC r fun a4 r => aN r <| aPtr 0 a0 <| aPtr 1 a1 <| aPtr 2 a2 <| aPtr 3 a3 <| aPtr 4 a4 <| aC H fun b0 r => aC r fun b1 r => aC r fun b2 r => aC r fun b3 r => aC r fun b4 r => aC r fun b5 r => aC r fun b6 r => aC r fun b7 r => aN r <| bView 5 b0 fun ws cur xs => bCells b1 fun U c1 => aC c1 fun d1_0 r => aRow 6 d1_0 <| aN r <| bCells b2 fun U2 c2 => aC c2 fun d2_0 r => aRow 7 d2_0 <| aN r <| bCells b3 fun U3 c3 => aC c3 fun d3_0 r => aBool d3_0 fun right => aN r <| bCells b4 fun U4 c4 => d_layout_Layout c4 fun l2 => bRow 0 true b5 fun (l : List Int) => bRow 0 true b6 fun (inv : List Int) => bRow 0 true b7 fun (found : List Int) => ws = l ∧ xs.length ≤ 2 ∧ So (m_ (ws.length) cur right l2 inv found) fun x => K (.tup []) [.pk 0 [ws, cur] xs [.row 5], .cells U [.row 6], .cells U2 [.row 8], .cells U3 [vb (x.2)], .cells U4 (e_layout_Layout l2), .row 0 l true, .row 0 inv true, .row 0 found true, .row 0 (x.1) false]
def sp_law10_PlistEach_1 (m_ : Nat → (List Int) → Bool → T_layout_Layout → (List Int) → (List Int) → Option ((List Int) × Bool)) : Spec := ⟨tr_law10_PlistEach_1 m_, (true : Bool)⟩

/-! assart/assartlaw10.lives$1 -/
def tr_law10_lives_1 (m_ : Nat → (List Int) → T_layout_Layout → Option ((List Int) × (List Int) × (List Int))) (args : List V) (H : Heap) (K : V → Heap → Prop) : Prop :=
  aC args fun a0 r => aC r fun a1 r => aC r fun a2 r => aC r fun a3 r => aN r <| aPtr 0 a0 <| aPtr 1 a1 <| aPtr 2 a2 <| aPtr 3 a3 <| aC H fun b0 r => aC r fun b1 r => aC r fun b2 r => aC r fun b3 r => aC r fun b4 r => aN r <| bView 4 b0 fun ws cur xs => bCells b1 fun U c1 => d_layout_Layout c1 fun l2 => bCells b2 fun U2 c2 => aC c2 fun d2_0 r => aNilS d2_0 <| aN r <| bCells b3 fun U3 c3 => aC c3 fun d3_0 r => aNilS d3_0 <| aN r <| bRow 0 true b4 fun (l : List Int) => ws = l ∧ xs.length ≤ 2 ∧ So (m_ (ws.length) cur l2) fun x => K (.tup []) [.pk 0 [ws, x.1] xs [.row 4], .cells U (e_layout_Layout l2), .cells U2 [.row 5], .cells U3 [.row 6], .row 0 l true, .row 0 (x.2.1) false, .row 0 (x.2.2) false]
def sp_law10_lives_1 (m_ : Nat → (List Int) → T_layout_Layout → Option ((List Int) × (List Int) × (List Int))) : Spec := ⟨tr_law10_lives_1 m_, (true : Bool)⟩

/-! assart/assartlaw10.after$1 -/
def tr_law10_after_1 (m_ : Nat → (List Int) → T_assartref02_Layout → T_layout_Layout → (List Int) → (List (List Int)) → Option ((List Int) × (List Int))) (args : List V) (H : Heap) (K : V → Heap → Prop) : Prop :=
  aC args fun a0 r => aC r fun a1 r => aC r fun a2 r => aC r fun a3 r => aC r fun a4 r => aN r <| aPtr 0 a0 <| aPtr 1 a1 <| aPtr 2 a2 <| aPtr 3 a3 <| aPtr 4 a4 <| aC H fun b0 r => aC r fun b1 r => aC r fun b2 r => aC r fun b3 r => aC r fun b4 r => aC r fun b5 r => aC r fun b6 r => aC r fun b7 r => aN r <| bView 5 b0 fun ws cur xs => bCells b1 fun U c1 => d_assartref02_Layout c1 fun rv => bCells b2 fun U2 c2 => aC c2 fun d2_0 r => aRow 6 d2_0 <| aN r <| bCells b3 fun U3 c3 => aC c3 fun d3_0 r => aRow 7 d3_0 <| aN r <| bCells b4 fun U4 c4 => d_layout_Layout c4 fun l2 => bRow 0 true b5 fun (l : List Int) => bRow 0 true b6 fun (inv : List Int) => bRow 39 true b7 fun (acts : List (List Int)) => ws = l ∧ xs.length ≤ 2 ∧ So (m_ (ws.length) cur rv l2 inv acts) fun x => K (.tup []) [.pk 0 [ws, x.1] xs [.row 5], .cells U (e_assartref02_Layout rv), .cells U2 [.row 8], .cells U3 [.row 7], .cells U4 (e_layout_Layout l2), .row 0 l true, .row 0 inv true, .row 39 acts true, .row 0 (x.2) false]
def sp_law10_after_1 (m_ : Nat → (List Int) → T_assartref02_Layout → T_layout_Layout → (List Int) → (List (List Int)) → Option ((List Int) × (List Int))) : Spec := ⟨tr_law10_after_1 m_, (true : Bool)⟩

noncomputable def cfg_law10_PlistAgree_1 (m_plist_List : Nat → (List Int) → T_layout_Layout → Int → Int → Option ((List Int))) : Cfg := { cfgB with
  sigs := (sigC 37 (sp_plist_List m_plist_List) sigN) }

noncomputable def cfg_law10_PlistOut_1 (m_plist_List : Nat → (List Int) → T_layout_Layout → Int → Int → Option ((List Int))) (m_plist_Unlink : Nat → (List Int) → T_layout_Layout → Int → Int → Int → Option (Bool × (List Int))) (m_plist_Link : Nat → (List Int) → T_layout_Layout → Int → Int → Int → Option (Bool × (List Int))) (m_class_Slots : Int → Option (Int)) (m_law01_Ints_Same : (List Int) → (List Int) → Option (Bool)) : Cfg := { cfgB with
  sigs := (sigC 37 (sp_plist_List m_plist_List) (sigC 39 (sp_plist_Unlink m_plist_Unlink) (sigC 40 (sp_plist_Link m_plist_Link) (sigC 41 (sp_class_Slots m_class_Slots) (sigC 20 (sp_law01_Ints_Same m_law01_Ints_Same) sigN))))),
  keep := fun r => match r with | 6 => some [(0, none), (1, none), (2, none), (3, none), (5, none), (6, none), (8, some 0), (9, none), (10, some 0), (11, none), (12, none)] | _ => none,
  plan := fun r => match r with | 8 => some (List.range 6, 16) | 13 => some (List.range 14, 16) | 14 => some ([0, 1, 2, 3, 4, 5, 6, 7, 8, 9, 10, 11, 12, 13, 14, 15, 16, 17, 18, 19, 20, 21, 22, 23, 24, 25, 26, 27, 29, 28, 30, 31, 32, 33, 34, 35, 36, 38, 37, 39, 40, 41], 92358976733200) | _ => none }

noncomputable def cfg_law10_PlistPlays_1 (m_law10_done : Nat → (List Int) → T_layout_Layout → T_assartlaw10_Act → Option (Bool × (List Int))) (m_plist_List : Nat → (List Int) → T_layout_Layout → Int → Int → Option ((List Int))) (m_plist_First : Nat → (List Int) → T_layout_Layout → Int → Option (Int)) : Cfg := { cfgB with
  sigs := (sigC 44 (sp_law10_done m_law10_done) (sigC 37 (sp_plist_List m_plist_List) (sigC 45 (sp_plist_First m_plist_First) sigN))) }

noncomputable def cfg_law10_PlistEach_1 (m_class_Slots : Int → Option (Int)) (m_plist_List : Nat → (List Int) → T_layout_Layout → Int → Int → Option ((List Int))) (m_plist_First : Nat → (List Int) → T_layout_Layout → Int → Option (Int)) : Cfg := { cfgB with
  sigs := (sigC 41 (sp_class_Slots m_class_Slots) (sigC 37 (sp_plist_List m_plist_List) (sigC 45 (sp_plist_First m_plist_First) sigN))),
  keep := fun r => match r with | 3 => some [(0, none), (2, none), (3, none), (4, none), (6, none)] | 7 => some [(0, none), (2, none), (3, none), (4, none), (6, none), (7, none), (8, none)] | 11 => some [(0, none), (2, none), (3, none), (4, none), (6, none), (7, none), (8, none), (9, some 0), (10, none)] | _ => none,
  plan := fun r => match r with | 13 => some (List.range 24, 0) | 15 => some (List.range 11, 1) | _ => none }

noncomputable def cfg_law10_lives_1 (m_plist_Link : Nat → (List Int) → T_layout_Layout → Int → Int → Int → Option (Bool × (List Int))) (m_plist_List : Nat → (List Int) → T_layout_Layout → Int → Int → Option ((List Int))) (m_plist_Unlink : Nat → (List Int) → T_layout_Layout → Int → Int → Int → Option (Bool × (List Int))) : Cfg := { cfgB with
  sigs := (sigC 40 (sp_plist_Link m_plist_Link) (sigC 37 (sp_plist_List m_plist_List) (sigC 39 (sp_plist_Unlink m_plist_Unlink) sigN))) }

noncomputable def cfg_law10_after_1 (m_law10_Where_skipped : T_assartlaw10_Act → (List Int) → Option (Bool)) (m_law10_done : Nat → (List Int) → T_layout_Layout → T_assartlaw10_Act → Option (Bool × (List Int))) (m_law10_Where_note : T_assartlaw10_Act → (List Int) → Option ((List Int))) : Cfg := { cfgB with
  sigs := (sigC 42 (sp_law10_Where_skipped m_law10_Where_skipped) (sigC 44 (sp_law10_done m_law10_done) (sigC 47 (sp_law10_Where_note m_law10_Where_note) sigN))),
  keep := fun r => match r with | 2 => some [(0, none), (2, none), (3, none), (4, none), (6, none)] | _ => none,
  plan := fun r => match r with | 4 => some (List.range 16, 16) | 5 => some (List.range 6, 17) | _ => none }

theorem nf_law10_PlistAgree_1 (m_plist_List : Nat → (List Int) → T_layout_Layout → Int → Int → Option ((List Int))) (ws : List Int) (cur : List Int) (xs : List Value) (l2 : T_layout_Layout) (q : Int) (f : Int) (U : TypeId) (U2 : TypeId) (U3 : TypeId) (U4 : TypeId) (K : V → Heap → Prop) : (exF (cfg_law10_PlistAgree_1 m_plist_List) Try.f36 [.ptr 0 0, .ptr 1 0, .ptr 2 0, .ptr 3 0, .ptr 4 0] [.pk 0 [ws, cur] xs [.row 5], .cells U (e_layout_Layout l2), .cells U2 [vi q], .cells U3 [vi f], .cells U4 [.ext (.slice none 0 0)], .row 0 ws true] K) = (
    ((ws = ws) ∧ (((List.length xs ≤ 2) ∧ (So (m_plist_List (List.length ws) cur l2 q f) (fun (y0 : List Int) => (K (.tup []) [.pk 0 [ws, cur] (xs) [.row 5], .cells U (e_layout_Layout l2), .cells U2 [vi (q)], .cells U3 [vi (f)], .cells U4 [.row 6], .row 0 (ws : List (Int)) Bool.true, .row 0 (y0 : List (Int)) Bool.false]))))))) := by
  kernel_rfl

theorem nf_law10_PlistOut_1_L1 (m_plist_List : Nat → (List Int) → T_layout_Layout → Int → Int → Option ((List Int))) (m_plist_Unlink : Nat → (List Int) → T_layout_Layout → Int → Int → Int → Option (Bool × (List Int))) (m_plist_Link : Nat → (List Int) → T_layout_Layout → Int → Int → Int → Option (Bool × (List Int))) (m_class_Slots : Int → Option (Int)) (m_law01_Ints_Same : (List Int) → (List Int) → Option (Bool)) (ws : List Int) (cur : List Int) (xs : List Value) (l2 : T_layout_Layout) (q : Int) (f : Int) (p : Int) (right : Bool) (inv : List Int) (U : TypeId) (U2 : TypeId) (U3 : TypeId) (U4 : TypeId) (U5 : TypeId) (U6 : TypeId) (cut : Bool) (k : Int) (iv : Int) (cur2 : List Int) (w : List Int) (w2 : List Int) (K : V → Heap → Prop) (J1 : Env → Heap → Prop) : (ex (cfg_law10_PlistOut_1 m_plist_List m_plist_Unlink m_plist_Link m_class_Slots m_law01_Ints_Same) (⟨137, 9⟩ : Cx) (at_ (bodyOf Try.f38) [1, 0, 1, 0, 1, 1, 1, 0, 1, 0, 0]) (mkEnv [(0, .ptr 0 0), (1, .ptr 1 0), (2, .ptr 2 0), (3, .ptr 3 0), (5, .ptr 5 0), (6, .ptr 6 0), (8, .row 9), (9, vb (cut)), (10, .row 10), (11, vi (k)), (12, vi (iv))]) [.pk 0 [ws, cur2] (xs) [.row 7], .cells U (e_layout_Layout l2), .cells U2 [vi (q)], .cells U3 [vi (f)], .cells U4 [.row 8], .cells U5 [vi (p)], .cells U6 [vb (right)], .row 0 (ws : List (Int)) Bool.true, .row 0 (inv : List (Int)) Bool.true, .row 0 (w : List (Int)) Bool.false, .row 0 (w2 : List (Int)) Bool.false] (roundK (cfg_law10_PlistOut_1 m_plist_List m_plist_Unlink m_plist_Link m_class_Slots m_law01_Ints_Same) (⟨137, 9⟩ : Cx) (at_ (bodyOf Try.f38) [1, 0, 1, 0, 1, 1, 1, 0, 1, 0, 0]) (contK (cfg_law10_PlistOut_1 m_plist_List m_plist_Unlink m_plist_Link m_class_Slots m_law01_Ints_Same) (⟨137, 9⟩ : Cx) (bodyOf Try.f38) [1, 0, 1, 0, 1, 1, 1, 0, 1, 0] (retK (cfg_law10_PlistOut_1 m_plist_List m_plist_Unlink m_plist_Link m_class_Slots m_law01_Ints_Same) Try.f38 9 K)) J1)) = (
    br (Decidable.decide (iv < (↑(List.length w) : Int))) (Req (inR iv (List.length w)) (Req (inR (offs iv 0) (List.length w)) (br (List.getD w (Int.toNat (offs iv 0)) 0 != p) (J1 (mkEnv [(0, .ptr 0 0), (1, .ptr 1 0), (2, .ptr 2 0), (3, .ptr 3 0), (5, .ptr 5 0), (6, .ptr 6 0), (8, .row 9), (9, vb (cut)), (10, .row 10), (11, vi (IntKind.wrap IntKind.i64 (k + 1))), (12, vi (IntKind.wrap IntKind.i64 (iv + 1)))]) [.pk 0 [ws, cur2] (xs) [.row 7], .cells U (e_layout_Layout l2), .cells U2 [vi (q)], .cells U3 [vi (f)], .cells U4 [.row 8], .cells U5 [vi (p)], .cells U6 [vb (right)], .row 0 (ws : List (Int)) Bool.true, .row 0 (inv : List (Int)) Bool.true, .row 0 (w : List (Int)) Bool.false, .row 0 (w2 : List (Int)) Bool.false]) (J1 (mkEnv [(0, .ptr 0 0), (1, .ptr 1 0), (2, .ptr 2 0), (3, .ptr 3 0), (5, .ptr 5 0), (6, .ptr 6 0), (8, .row 9), (9, vb (cut)), (10, .row 10), (11, vi (k)), (12, vi (IntKind.wrap IntKind.i64 (iv + 1)))]) [.pk 0 [ws, cur2] (xs) [.row 7], .cells U (e_layout_Layout l2), .cells U2 [vi (q)], .cells U3 [vi (f)], .cells U4 [.row 8], .cells U5 [vi (p)], .cells U6 [vb (right)], .row 0 (ws : List (Int)) Bool.true, .row 0 (inv : List (Int)) Bool.true, .row 0 (w : List (Int)) Bool.false, .row 0 (w2 : List (Int)) Bool.false])))) (br (cut == Decidable.decide (k < (↑(List.length w) : Int))) (br ((↑(List.length w2) : Int) == k) (((ws = ws) ∧ (((List.length xs ≤ 2) ∧ (So (m_plist_Unlink (List.length ws) cur2 l2 p q f) (fun (y0 : Bool × List Int) => (K (.tup []) [.pk 0 [ws, Prod.snd y0] (xs) [.row 7], .cells U (e_layout_Layout l2), .cells U2 [vi (q)], .cells U3 [vi (f)], .cells U4 [.row 8], .cells U5 [vi (p)], .cells U6 [vb (!Prod.fst y0)], .row 0 (ws : List (Int)) Bool.true, .row 0 (inv : List (Int)) Bool.true]))))))) (K (.tup []) [.pk 0 [ws, cur2] (xs) [.row 7], .cells U (e_layout_Layout l2), .cells U2 [vi (q)], .cells U3 [vi (f)], .cells U4 [.row 8], .cells U5 [vi (p)], .cells U6 [vb (Bool.false)], .row 0 (ws : List (Int)) Bool.true, .row 0 (inv : List (Int)) Bool.true])) (K (.tup []) [.pk 0 [ws, cur2] (xs) [.row 7], .cells U (e_layout_Layout l2), .cells U2 [vi (q)], .cells U3 [vi (f)], .cells U4 [.row 8], .cells U5 [vi (p)], .cells U6 [vb (Bool.false)], .row 0 (ws : List (Int)) Bool.true, .row 0 (inv : List (Int)) Bool.true]))) := by
  kernel_rfl

theorem nf_law10_PlistOut_1 (m_plist_List : Nat → (List Int) → T_layout_Layout → Int → Int → Option ((List Int))) (m_plist_Unlink : Nat → (List Int) → T_layout_Layout → Int → Int → Int → Option (Bool × (List Int))) (m_plist_Link : Nat → (List Int) → T_layout_Layout → Int → Int → Int → Option (Bool × (List Int))) (m_class_Slots : Int → Option (Int)) (m_law01_Ints_Same : (List Int) → (List Int) → Option (Bool)) (ws : List Int) (cur : List Int) (xs : List Value) (l2 : T_layout_Layout) (q : Int) (f : Int) (p : Int) (right : Bool) (inv : List Int) (U : TypeId) (U2 : TypeId) (U3 : TypeId) (U4 : TypeId) (U5 : TypeId) (U6 : TypeId) (K : V → Heap → Prop) : (exF (cfg_law10_PlistOut_1 m_plist_List m_plist_Unlink m_plist_Link m_class_Slots m_law01_Ints_Same) Try.f38 [.ptr 0 0, .ptr 1 0, .ptr 2 0, .ptr 3 0, .ptr 4 0, .ptr 5 0, .ptr 6 0] [.pk 0 [ws, cur] xs [.row 7], .cells U (e_layout_Layout l2), .cells U2 [vi q], .cells U3 [vi f], .cells U4 [.row 8], .cells U5 [vi p], .cells U6 [vb right], .row 0 ws true, .row 0 inv true] K) = (
    ((ws = ws) ∧ (((List.length xs ≤ 2) ∧ (So (m_plist_List (List.length ws) cur l2 q f) (fun (y0 : List Int) => (Req (inR p (List.length inv)) (Req (inR (offs p 0) (List.length inv)) (br (List.getD inv (Int.toNat (offs p 0)) 0 != 0) (((ws = ws) ∧ (((List.length xs ≤ 2) ∧ (So (m_plist_Unlink (List.length ws) cur l2 p q f) (fun (y1 : Bool × List Int) => (((ws = ws) ∧ (((List.length xs ≤ 2) ∧ (So (m_plist_List (List.length ws) (Prod.snd y1) l2 q f) (fun (y2 : List Int) => (Loop (cfg_law10_PlistOut_1 m_plist_List m_plist_Unlink m_plist_Link m_class_Slots m_law01_Ints_Same) (⟨137, 9⟩ : Cx) (at_ (bodyOf Try.f38) [1, 0, 1, 0, 1, 1, 1, 0, 1, 0, 0]) (mkEnv [(0, .ptr 0 0), (1, .ptr 1 0), (2, .ptr 2 0), (3, .ptr 3 0), (5, .ptr 5 0), (6, .ptr 6 0), (8, .row 9), (9, vb (Prod.fst y1)), (10, .row 10), (11, vi (0)), (12, vi (0))]) [.pk 0 [ws, Prod.snd y1] (xs) [.row 7], .cells U (e_layout_Layout l2), .cells U2 [vi (q)], .cells U3 [vi (f)], .cells U4 [.row 8], .cells U5 [vi (p)], .cells U6 [vb (right)], .row 0 (ws : List (Int)) Bool.true, .row 0 (inv : List (Int)) Bool.true, .row 0 (y0 : List (Int)) Bool.false, .row 0 (y2 : List (Int)) Bool.false] (contK (cfg_law10_PlistOut_1 m_plist_List m_plist_Unlink m_plist_Link m_class_Slots m_law01_Ints_Same) (⟨137, 9⟩ : Cx) (bodyOf Try.f38) [1, 0, 1, 0, 1, 1, 1, 0, 1, 0] (retK (cfg_law10_PlistOut_1 m_plist_List m_plist_Unlink m_plist_Link m_class_Slots m_law01_Ints_Same) Try.f38 9 K))))))))))))))) (((ws = ws) ∧ (((List.length xs ≤ 2) ∧ (So (m_plist_Link (List.length ws) cur l2 p q f) (fun (y3 : Bool × List Int) => (((ws = ws) ∧ (((List.length xs ≤ 2) ∧ (So (m_plist_List (List.length ws) (Prod.snd y3) l2 q f) (fun (y4 : List Int) => (So (m_class_Slots q) (fun (y5 : Int) => (br (Decidable.decide (y5 > 0)) (br (Decidable.decide (f ≥ 1)) (So (m_class_Slots q) (fun (y6 : Int) => (br (Prod.fst y3 == Decidable.decide (f ≤ y6)) (br (!Decidable.decide (f ≤ y6)) (((ws = ws) ∧ (((List.length xs ≤ 2) ∧ (So (m_plist_Unlink (List.length ws) (Prod.snd y3) l2 p q f) (fun (y7 : Bool × List Int) => (br (Prod.fst y7 == Decidable.decide (f ≤ y6)) (((ws = ws) ∧ (((List.length xs ≤ 2) ∧ (So (m_plist_List (List.length ws) (Prod.snd y7) l2 q f) (fun (y8 : List Int) => (So (m_law01_Ints_Same y8 y0) (fun (y9 : Bool) => (K (.tup []) [.pk 0 [ws, Prod.snd y7] (xs) [.row 7], .cells U (e_layout_Layout l2), .cells U2 [vi (q)], .cells U3 [vi (f)], .cells U4 [.row 8], .cells U5 [vi (p)], .cells U6 [vb (y9)], .row 0 (ws : List (Int)) Bool.true, .row 0 (inv : List (Int)) Bool.true]))))))))) (K (.tup []) [.pk 0 [ws, Prod.snd y7] (xs) [.row 7], .cells U (e_layout_Layout l2), .cells U2 [vi (q)], .cells U3 [vi (f)], .cells U4 [.row 8], .cells U5 [vi (p)], .cells U6 [vb (Bool.false)], .row 0 (ws : List (Int)) Bool.true, .row 0 (inv : List (Int)) Bool.true])))))))) (br ((↑(List.length y4) : Int) == IntKind.wrap IntKind.i64 ((↑(List.length y0) : Int) + 1)) (Req (inR 0 (List.length y4)) (Req (inR (offs 0 0) (List.length y4)) (br (List.getD y4 0 0 == p) (((ws = ws) ∧ (((List.length xs ≤ 2) ∧ (So (m_plist_Unlink (List.length ws) (Prod.snd y3) l2 p q f) (fun (y10 : Bool × List Int) => (br (Prod.fst y10 == Decidable.decide (f ≤ y6)) (((ws = ws) ∧ (((List.length xs ≤ 2) ∧ (So (m_plist_List (List.length ws) (Prod.snd y10) l2 q f) (fun (y11 : List Int) => (So (m_law01_Ints_Same y11 y0) (fun (y12 : Bool) => (K (.tup []) [.pk 0 [ws, Prod.snd y10] (xs) [.row 7], .cells U (e_layout_Layout l2), .cells U2 [vi (q)], .cells U3 [vi (f)], .cells U4 [.row 8], .cells U5 [vi (p)], .cells U6 [vb (y12)], .row 0 (ws : List (Int)) Bool.true, .row 0 (inv : List (Int)) Bool.true]))))))))) (K (.tup []) [.pk 0 [ws, Prod.snd y10] (xs) [.row 7], .cells U (e_layout_Layout l2), .cells U2 [vi (q)], .cells U3 [vi (f)], .cells U4 [.row 8], .cells U5 [vi (p)], .cells U6 [vb (Bool.false)], .row 0 (ws : List (Int)) Bool.true, .row 0 (inv : List (Int)) Bool.true])))))))) (K (.tup []) [.pk 0 [ws, Prod.snd y3] (xs) [.row 7], .cells U (e_layout_Layout l2), .cells U2 [vi (q)], .cells U3 [vi (f)], .cells U4 [.row 8], .cells U5 [vi (p)], .cells U6 [vb (Bool.false)], .row 0 (ws : List (Int)) Bool.true, .row 0 (inv : List (Int)) Bool.true])))) (K (.tup []) [.pk 0 [ws, Prod.snd y3] (xs) [.row 7], .cells U (e_layout_Layout l2), .cells U2 [vi (q)], .cells U3 [vi (f)], .cells U4 [.row 8], .cells U5 [vi (p)], .cells U6 [vb (Bool.false)], .row 0 (ws : List (Int)) Bool.true, .row 0 (inv : List (Int)) Bool.true]))) (K (.tup []) [.pk 0 [ws, Prod.snd y3] (xs) [.row 7], .cells U (e_layout_Layout l2), .cells U2 [vi (q)], .cells U3 [vi (f)], .cells U4 [.row 8], .cells U5 [vi (p)], .cells U6 [vb (Bool.false)], .row 0 (ws : List (Int)) Bool.true, .row 0 (inv : List (Int)) Bool.true])))) (br (Prod.fst y3 == Bool.false) (((ws = ws) ∧ (((List.length xs ≤ 2) ∧ (So (m_plist_Unlink (List.length ws) (Prod.snd y3) l2 p q f) (fun (y13 : Bool × List Int) => (br (Prod.fst y13 == Bool.false) (((ws = ws) ∧ (((List.length xs ≤ 2) ∧ (So (m_plist_List (List.length ws) (Prod.snd y13) l2 q f) (fun (y14 : List Int) => (So (m_law01_Ints_Same y14 y0) (fun (y15 : Bool) => (K (.tup []) [.pk 0 [ws, Prod.snd y13] (xs) [.row 7], .cells U (e_layout_Layout l2), .cells U2 [vi (q)], .cells U3 [vi (f)], .cells U4 [.row 8], .cells U5 [vi (p)], .cells U6 [vb (y15)], .row 0 (ws : List (Int)) Bool.true, .row 0 (inv : List (Int)) Bool.true]))))))))) (K (.tup []) [.pk 0 [ws, Prod.snd y13] (xs) [.row 7], .cells U (e_layout_Layout l2), .cells U2 [vi (q)], .cells U3 [vi (f)], .cells U4 [.row 8], .cells U5 [vi (p)], .cells U6 [vb (Bool.false)], .row 0 (ws : List (Int)) Bool.true, .row 0 (inv : List (Int)) Bool.true])))))))) (K (.tup []) [.pk 0 [ws, Prod.snd y3] (xs) [.row 7], .cells U (e_layout_Layout l2), .cells U2 [vi (q)], .cells U3 [vi (f)], .cells U4 [.row 8], .cells U5 [vi (p)], .cells U6 [vb (Bool.false)], .row 0 (ws : List (Int)) Bool.true, .row 0 (inv : List (Int)) Bool.true]))) (br (Prod.fst y3 == Bool.false) (((ws = ws) ∧ (((List.length xs ≤ 2) ∧ (So (m_plist_Unlink (List.length ws) (Prod.snd y3) l2 p q f) (fun (y16 : Bool × List Int) => (br (Prod.fst y16 == Bool.false) (((ws = ws) ∧ (((List.length xs ≤ 2) ∧ (So (m_plist_List (List.length ws) (Prod.snd y16) l2 q f) (fun (y17 : List Int) => (So (m_law01_Ints_Same y17 y0) (fun (y18 : Bool) => (K (.tup []) [.pk 0 [ws, Prod.snd y16] (xs) [.row 7], .cells U (e_layout_Layout l2), .cells U2 [vi (q)], .cells U3 [vi (f)], .cells U4 [.row 8], .cells U5 [vi (p)], .cells U6 [vb (y18)], .row 0 (ws : List (Int)) Bool.true, .row 0 (inv : List (Int)) Bool.true]))))))))) (K (.tup []) [.pk 0 [ws, Prod.snd y16] (xs) [.row 7], .cells U (e_layout_Layout l2), .cells U2 [vi (q)], .cells U3 [vi (f)], .cells U4 [.row 8], .cells U5 [vi (p)], .cells U6 [vb (Bool.false)], .row 0 (ws : List (Int)) Bool.true, .row 0 (inv : List (Int)) Bool.true])))))))) (K (.tup []) [.pk 0 [ws, Prod.snd y3] (xs) [.row 7], .cells U (e_layout_Layout l2), .cells U2 [vi (q)], .cells U3 [vi (f)], .cells U4 [.row 8], .cells U5 [vi (p)], .cells U6 [vb (Bool.false)], .row 0 (ws : List (Int)) Bool.true, .row 0 (inv : List (Int)) Bool.true])))))))))))))))))))))))))) := by
  kernel_rfl

theorem nf_law10_PlistPlays_1 (m_law10_done : Nat → (List Int) → T_layout_Layout → T_assartlaw10_Act → Option (Bool × (List Int))) (m_plist_List : Nat → (List Int) → T_layout_Layout → Int → Int → Option ((List Int))) (m_plist_First : Nat → (List Int) → T_layout_Layout → Int → Option (Int)) (ws : List Int) (cur : List Int) (xs : List Value) (l2 : T_layout_Layout) (a : T_assartlaw10_Act) (xv : Bool) (q : Int) (first : Int) (U : TypeId) (U2 : TypeId) (U3 : TypeId) (U4 : TypeId) (U5 : TypeId) (U6 : TypeId) (K : V → Heap → Prop) : (exF (cfg_law10_PlistPlays_1 m_law10_done m_plist_List m_plist_First) Try.f43 [.ptr 0 0, .ptr 1 0, .ptr 2 0, .ptr 3 0, .ptr 4 0, .ptr 5 0, .ptr 6 0] [.pk 0 [ws, cur] xs [.row 7], .cells U (e_layout_Layout l2), .cells U2 (e_assartlaw10_Act a), .cells U3 [vb xv], .cells U4 [.ext (.slice none 0 0)], .cells U5 [vi q], .cells U6 [vi first], .row 0 ws true] K) = (
    ((ws = ws) ∧ (((List.length xs ≤ 2) ∧ (So (m_law10_done (List.length ws) cur l2 a) (fun (y0 : Bool × List Int) => (((ws = ws) ∧ (((List.length xs ≤ 2) ∧ (So (m_plist_List (List.length ws) (Prod.snd y0) l2 (T_assartlaw10_Act.C a) (T_assartlaw10_Act.F a)) (fun (y1 : List Int) => (((ws = ws) ∧ (((List.length xs ≤ 2) ∧ (So (m_plist_First (List.length ws) (Prod.snd y0) l2 q) (fun (y2 : Int) => (K (.tup []) [.pk 0 [ws, Prod.snd y0] (xs) [.row 7], .cells U (e_layout_Layout l2), .cells U2 (e_assartlaw10_Act a), .cells U3 [vb (Prod.fst y0)], .cells U4 [.row 8], .cells U5 [vi (q)], .cells U6 [vi (y2)], .row 0 (ws : List (Int)) Bool.true, .row 0 (y1 : List (Int)) Bool.false]))))))))))))))))))) := by
  kernel_rfl

theorem nf_law10_PlistEach_1_L3 (m_class_Slots : Int → Option (Int)) (m_plist_List : Nat → (List Int) → T_layout_Layout → Int → Int → Option ((List Int))) (m_plist_First : Nat → (List Int) → T_layout_Layout → Int → Option (Int)) (ws : List Int) (cur : List Int) (xs : List Value) (right : Bool) (l2 : T_layout_Layout) (inv : List Int) (found : List Int) (U : TypeId) (U2 : TypeId) (U3 : TypeId) (U4 : TypeId) (q : Int) (c : Bool) (w : List Int) (first : Int) (f : Int) (w2 : List Int) (iv : Int) (w3 : List Int) (w4 : List Int) (K : V → Heap → Prop) (J1 : Env → Heap → Prop) (J2 : Env → Heap → Prop) (J3 : Env → Heap → Prop) : (ex (cfg_law10_PlistEach_1 m_class_Slots m_plist_List m_plist_First) (⟨88, 8⟩ : Cx) (at_ (bodyOf Try.f50) [1, 1, 1, 0, 0, 1, 0, 0, 1, 0, 1, 0, 0, 1, 0, 0, 1, 0, 1, 0, 0]) (mkEnv [(0, .ptr 0 0), (2, .ptr 2 0), (3, .ptr 3 0), (4, .ptr 4 0), (6, vi (q)), (7, vi (first)), (8, vi (f)), (9, .row 8), (10, vi (iv))]) [.pk 0 [ws, cur] (xs) [.row 5], .cells U [.row 6], .cells U2 [.row 9], .cells U3 [vb (c)], .cells U4 (e_layout_Layout l2), .row 0 (ws : List (Int)) Bool.true, .row 0 (inv : List (Int)) Bool.true, .row 0 (found : List (Int)) Bool.true, .row 0 (w3 : List (Int)) Bool.false, .row 0 (w4 : List (Int)) Bool.false] (roundK (cfg_law10_PlistEach_1 m_class_Slots m_plist_List m_plist_First) (⟨88, 8⟩ : Cx) (at_ (bodyOf Try.f50) [1, 1, 1, 0, 0, 1, 0, 0, 1, 0, 1, 0, 0, 1, 0, 0, 1, 0, 1, 0, 0]) (contK (cfg_law10_PlistEach_1 m_class_Slots m_plist_List m_plist_First) (⟨88, 8⟩ : Cx) (at_ (bodyOf Try.f50) [1, 1, 1, 0, 0, 1, 0, 0, 1, 0, 1, 0, 0]) [1, 0, 0, 1, 0, 1, 0] (roundK (cfg_law10_PlistEach_1 m_class_Slots m_plist_List m_plist_First) (⟨88, 8⟩ : Cx) (at_ (bodyOf Try.f50) [1, 1, 1, 0, 0, 1, 0, 0, 1, 0, 1, 0, 0]) (contK (cfg_law10_PlistEach_1 m_class_Slots m_plist_List m_plist_First) (⟨88, 8⟩ : Cx) (at_ (bodyOf Try.f50) [1, 1, 1, 0, 0]) [1, 0, 0, 1, 0, 1, 0] (roundK (cfg_law10_PlistEach_1 m_class_Slots m_plist_List m_plist_First) (⟨88, 8⟩ : Cx) (at_ (bodyOf Try.f50) [1, 1, 1, 0, 0]) (contK (cfg_law10_PlistEach_1 m_class_Slots m_plist_List m_plist_First) (⟨88, 8⟩ : Cx) (bodyOf Try.f50) [1, 1, 1, 0] (retK (cfg_law10_PlistEach_1 m_class_Slots m_plist_List m_plist_First) Try.f50 8 K)) J1)) J2)) J3)) = (
    br (Decidable.decide (iv < (↑(List.length w3) : Int))) (Req (inR iv (List.length w3)) (Req (inR (offs iv 0) (List.length w3)) (br (Decidable.decide (List.getD w3 (Int.toNat (offs iv 0)) 0 < 0)) (K (.tup []) [.pk 0 [ws, cur] (xs) [.row 5], .cells U [.row 6], .cells U2 [.row 8], .cells U3 [vb (Bool.false)], .cells U4 (e_layout_Layout l2), .row 0 (ws : List (Int)) Bool.true, .row 0 (inv : List (Int)) Bool.true, .row 0 (found : List (Int)) Bool.true, .row 0 (w4 : List (Int)) Bool.false]) (Req (inR iv (List.length w3)) (Req (inR (offs iv 0) (List.length w3)) (br (Decidable.decide (List.getD w3 (Int.toNat (offs iv 0)) 0 ≥ (↑(List.length w4) : Int))) (K (.tup []) [.pk 0 [ws, cur] (xs) [.row 5], .cells U [.row 6], .cells U2 [.row 8], .cells U3 [vb (Bool.false)], .cells U4 (e_layout_Layout l2), .row 0 (ws : List (Int)) Bool.true, .row 0 (inv : List (Int)) Bool.true, .row 0 (found : List (Int)) Bool.true, .row 0 (w4 : List (Int)) Bool.false]) (Req (inR iv (List.length w3)) (Req (inR (offs iv 0) (List.length w3)) (Req (inR (List.getD w3 (Int.toNat (offs iv 0)) 0) (List.length w4)) (Req (inR (offs (List.getD w3 (Int.toNat (offs iv 0)) 0) 0) (List.length w4)) (br (List.getD w4 (Int.toNat (offs (List.getD w3 (Int.toNat (offs iv 0)) 0) 0)) 0 != 0) (K (.tup []) [.pk 0 [ws, cur] (xs) [.row 5], .cells U [.row 6], .cells U2 [.row 8], .cells U3 [vb (Bool.false)], .cells U4 (e_layout_Layout l2), .row 0 (ws : List (Int)) Bool.true, .row 0 (inv : List (Int)) Bool.true, .row 0 (found : List (Int)) Bool.true, .row 0 (w4 : List (Int)) Bool.false]) (Req (inR iv (List.length w3)) (Req (inR (offs iv 0) (List.length w3)) (Req (inR (List.getD w3 (Int.toNat (offs iv 0)) 0) (List.length w4)) (Req (inR (offs (List.getD w3 (Int.toNat (offs iv 0)) 0) 0) (List.length w4)) (J3 (mkEnv [(0, .ptr 0 0), (2, .ptr 2 0), (3, .ptr 3 0), (4, .ptr 4 0), (6, vi (q)), (7, vi (first)), (8, vi (f)), (9, .row 8), (10, vi (IntKind.wrap IntKind.i64 (iv + 1)))]) [.pk 0 [ws, cur] (xs) [.row 5], .cells U [.row 6], .cells U2 [.row 9], .cells U3 [vb (c)], .cells U4 (e_layout_Layout l2), .row 0 (ws : List (Int)) Bool.true, .row 0 (inv : List (Int)) Bool.true, .row 0 (found : List (Int)) Bool.true, .row 0 (w3 : List (Int)) Bool.false, .row 0 (List.set w4 (Int.toNat (offs (List.getD w3 (Int.toNat (offs iv 0)) 0) 0)) (IntKind.wrap IntKind.i64 (IntKind.wrap IntKind.i64 (100 * q) + f)) : List (Int)) Bool.false])))))))))))))))) (br (Decidable.decide (first < 0)) (br (Decidable.decide ((↑(List.length w3) : Int) > 0)) (Req (inR 0 (List.length w3)) (Req (inR (offs 0 0) (List.length w3)) (J2 (mkEnv [(0, .ptr 0 0), (2, .ptr 2 0), (3, .ptr 3 0), (4, .ptr 4 0), (6, vi (q)), (7, vi (List.getD w3 0 0)), (8, vi (IntKind.wrap IntKind.i64 (f + 1)))]) [.pk 0 [ws, cur] (xs) [.row 5], .cells U [.row 6], .cells U2 [.row 8], .cells U3 [vb (c)], .cells U4 (e_layout_Layout l2), .row 0 (ws : List (Int)) Bool.true, .row 0 (inv : List (Int)) Bool.true, .row 0 (found : List (Int)) Bool.true, .row 0 (w4 : List (Int)) Bool.false]))) (J2 (mkEnv [(0, .ptr 0 0), (2, .ptr 2 0), (3, .ptr 3 0), (4, .ptr 4 0), (6, vi (q)), (7, vi (first)), (8, vi (IntKind.wrap IntKind.i64 (f + 1)))]) [.pk 0 [ws, cur] (xs) [.row 5], .cells U [.row 6], .cells U2 [.row 8], .cells U3 [vb (c)], .cells U4 (e_layout_Layout l2), .row 0 (ws : List (Int)) Bool.true, .row 0 (inv : List (Int)) Bool.true, .row 0 (found : List (Int)) Bool.true, .row 0 (w4 : List (Int)) Bool.false])) (J2 (mkEnv [(0, .ptr 0 0), (2, .ptr 2 0), (3, .ptr 3 0), (4, .ptr 4 0), (6, vi (q)), (7, vi (first)), (8, vi (IntKind.wrap IntKind.i64 (f + 1)))]) [.pk 0 [ws, cur] (xs) [.row 5], .cells U [.row 6], .cells U2 [.row 8], .cells U3 [vb (c)], .cells U4 (e_layout_Layout l2), .row 0 (ws : List (Int)) Bool.true, .row 0 (inv : List (Int)) Bool.true, .row 0 (found : List (Int)) Bool.true, .row 0 (w4 : List (Int)) Bool.false]))) := by
  kernel_rfl

theorem nf_law10_PlistEach_1_L2 (m_class_Slots : Int → Option (Int)) (m_plist_List : Nat → (List Int) → T_layout_Layout → Int → Int → Option ((List Int))) (m_plist_First : Nat → (List Int) → T_layout_Layout → Int → Option (Int)) (ws : List Int) (cur : List Int) (xs : List Value) (right : Bool) (l2 : T_layout_Layout) (inv : List Int) (found : List Int) (U : TypeId) (U2 : TypeId) (U3 : TypeId) (U4 : TypeId) (q : Int) (c : Bool) (w : List Int) (first : Int) (f : Int) (w2 : List Int) (K : V → Heap → Prop) (J1 : Env → Heap → Prop) (J2 : Env → Heap → Prop) : (ex (cfg_law10_PlistEach_1 m_class_Slots m_plist_List m_plist_First) (⟨88, 8⟩ : Cx) (at_ (bodyOf Try.f50) [1, 1, 1, 0, 0, 1, 0, 0, 1, 0, 1, 0, 0]) (mkEnv [(0, .ptr 0 0), (2, .ptr 2 0), (3, .ptr 3 0), (4, .ptr 4 0), (6, vi (q)), (7, vi (first)), (8, vi (f))]) [.pk 0 [ws, cur] (xs) [.row 5], .cells U [.row 6], .cells U2 [.row 8], .cells U3 [vb (c)], .cells U4 (e_layout_Layout l2), .row 0 (ws : List (Int)) Bool.true, .row 0 (inv : List (Int)) Bool.true, .row 0 (found : List (Int)) Bool.true, .row 0 (w2 : List (Int)) Bool.false] (roundK (cfg_law10_PlistEach_1 m_class_Slots m_plist_List m_plist_First) (⟨88, 8⟩ : Cx) (at_ (bodyOf Try.f50) [1, 1, 1, 0, 0, 1, 0, 0, 1, 0, 1, 0, 0]) (contK (cfg_law10_PlistEach_1 m_class_Slots m_plist_List m_plist_First) (⟨88, 8⟩ : Cx) (at_ (bodyOf Try.f50) [1, 1, 1, 0, 0]) [1, 0, 0, 1, 0, 1, 0] (roundK (cfg_law10_PlistEach_1 m_class_Slots m_plist_List m_plist_First) (⟨88, 8⟩ : Cx) (at_ (bodyOf Try.f50) [1, 1, 1, 0, 0]) (contK (cfg_law10_PlistEach_1 m_class_Slots m_plist_List m_plist_First) (⟨88, 8⟩ : Cx) (bodyOf Try.f50) [1, 1, 1, 0] (retK (cfg_law10_PlistEach_1 m_class_Slots m_plist_List m_plist_First) Try.f50 8 K)) J1)) J2)) = (
    So (m_class_Slots q) (fun (y0 : Int) => (br (Decidable.decide (f ≤ y0)) (((ws = ws) ∧ (((List.length xs ≤ 2) ∧ (So (m_plist_List (List.length ws) cur l2 q f) (fun (y1 : List Int) => (Loop (cfg_law10_PlistEach_1 m_class_Slots m_plist_List m_plist_First) (⟨88, 8⟩ : Cx) (at_ (bodyOf Try.f50) [1, 1, 1, 0, 0, 1, 0, 0, 1, 0, 1, 0, 0, 1, 0, 0, 1, 0, 1, 0, 0]) (mkEnv [(0, .ptr 0 0), (2, .ptr 2 0), (3, .ptr 3 0), (4, .ptr 4 0), (6, vi (q)), (7, vi (first)), (8, vi (f)), (9, .row 8), (10, vi (0))]) [.pk 0 [ws, cur] (xs) [.row 5], .cells U [.row 6], .cells U2 [.row 9], .cells U3 [vb (c)], .cells U4 (e_layout_Layout l2), .row 0 (ws : List (Int)) Bool.true, .row 0 (inv : List (Int)) Bool.true, .row 0 (found : List (Int)) Bool.true, .row 0 (y1 : List (Int)) Bool.false, .row 0 (w2 : List (Int)) Bool.false] (contK (cfg_law10_PlistEach_1 m_class_Slots m_plist_List m_plist_First) (⟨88, 8⟩ : Cx) (at_ (bodyOf Try.f50) [1, 1, 1, 0, 0, 1, 0, 0, 1, 0, 1, 0, 0]) [1, 0, 0, 1, 0, 1, 0] (roundK (cfg_law10_PlistEach_1 m_class_Slots m_plist_List m_plist_First) (⟨88, 8⟩ : Cx) (at_ (bodyOf Try.f50) [1, 1, 1, 0, 0, 1, 0, 0, 1, 0, 1, 0, 0]) (contK (cfg_law10_PlistEach_1 m_class_Slots m_plist_List m_plist_First) (⟨88, 8⟩ : Cx) (at_ (bodyOf Try.f50) [1, 1, 1, 0, 0]) [1, 0, 0, 1, 0, 1, 0] (roundK (cfg_law10_PlistEach_1 m_class_Slots m_plist_List m_plist_First) (⟨88, 8⟩ : Cx) (at_ (bodyOf Try.f50) [1, 1, 1, 0, 0]) (contK (cfg_law10_PlistEach_1 m_class_Slots m_plist_List m_plist_First) (⟨88, 8⟩ : Cx) (bodyOf Try.f50) [1, 1, 1, 0] (retK (cfg_law10_PlistEach_1 m_class_Slots m_plist_List m_plist_First) Try.f50 8 K)) J1)) J2))))))))) (br (c) (((ws = ws) ∧ (((List.length xs ≤ 2) ∧ (So (m_plist_First (List.length ws) cur l2 q) (fun (y2 : Int) => (J1 (mkEnv [(0, .ptr 0 0), (2, .ptr 2 0), (3, .ptr 3 0), (4, .ptr 4 0), (6, vi (IntKind.wrap IntKind.i64 (q + 1)))]) [.pk 0 [ws, cur] (xs) [.row 5], .cells U [.row 6], .cells U2 [.row 8], .cells U3 [vb (y2 == first)], .cells U4 (e_layout_Layout l2), .row 0 (ws : List (Int)) Bool.true, .row 0 (inv : List (Int)) Bool.true, .row 0 (found : List (Int)) Bool.true, .row 0 (w2 : List (Int)) Bool.false]))))))) (J1 (mkEnv [(0, .ptr 0 0), (2, .ptr 2 0), (3, .ptr 3 0), (4, .ptr 4 0), (6, vi (IntKind.wrap IntKind.i64 (q + 1)))]) [.pk 0 [ws, cur] (xs) [.row 5], .cells U [.row 6], .cells U2 [.row 8], .cells U3 [vb (Bool.false)], .cells U4 (e_layout_Layout l2), .row 0 (ws : List (Int)) Bool.true, .row 0 (inv : List (Int)) Bool.true, .row 0 (found : List (Int)) Bool.true, .row 0 (w2 : List (Int)) Bool.false]))))) := by
  kernel_rfl

theorem nf_law10_PlistEach_1_L1 (m_class_Slots : Int → Option (Int)) (m_plist_List : Nat → (List Int) → T_layout_Layout → Int → Int → Option ((List Int))) (m_plist_First : Nat → (List Int) → T_layout_Layout → Int → Option (Int)) (ws : List Int) (cur : List Int) (xs : List Value) (right : Bool) (l2 : T_layout_Layout) (inv : List Int) (found : List Int) (U : TypeId) (U2 : TypeId) (U3 : TypeId) (U4 : TypeId) (q : Int) (c : Bool) (w : List Int) (K : V → Heap → Prop) (J1 : Env → Heap → Prop) : (ex (cfg_law10_PlistEach_1 m_class_Slots m_plist_List m_plist_First) (⟨88, 8⟩ : Cx) (at_ (bodyOf Try.f50) [1, 1, 1, 0, 0]) (mkEnv [(0, .ptr 0 0), (2, .ptr 2 0), (3, .ptr 3 0), (4, .ptr 4 0), (6, vi (q))]) [.pk 0 [ws, cur] (xs) [.row 5], .cells U [.row 6], .cells U2 [.row 8], .cells U3 [vb (c)], .cells U4 (e_layout_Layout l2), .row 0 (ws : List (Int)) Bool.true, .row 0 (inv : List (Int)) Bool.true, .row 0 (found : List (Int)) Bool.true, .row 0 (w : List (Int)) Bool.false] (roundK (cfg_law10_PlistEach_1 m_class_Slots m_plist_List m_plist_First) (⟨88, 8⟩ : Cx) (at_ (bodyOf Try.f50) [1, 1, 1, 0, 0]) (contK (cfg_law10_PlistEach_1 m_class_Slots m_plist_List m_plist_First) (⟨88, 8⟩ : Cx) (bodyOf Try.f50) [1, 1, 1, 0] (retK (cfg_law10_PlistEach_1 m_class_Slots m_plist_List m_plist_First) Try.f50 8 K)) J1)) = (
    br (Decidable.decide (q < 5)) (Loop (cfg_law10_PlistEach_1 m_class_Slots m_plist_List m_plist_First) (⟨88, 8⟩ : Cx) (at_ (bodyOf Try.f50) [1, 1, 1, 0, 0, 1, 0, 0, 1, 0, 1, 0, 0]) (mkEnv [(0, .ptr 0 0), (2, .ptr 2 0), (3, .ptr 3 0), (4, .ptr 4 0), (6, vi (q)), (7, vi (-1)), (8, vi (1))]) [.pk 0 [ws, cur] (xs) [.row 5], .cells U [.row 6], .cells U2 [.row 8], .cells U3 [vb (c)], .cells U4 (e_layout_Layout l2), .row 0 (ws : List (Int)) Bool.true, .row 0 (inv : List (Int)) Bool.true, .row 0 (found : List (Int)) Bool.true, .row 0 (w : List (Int)) Bool.false] (contK (cfg_law10_PlistEach_1 m_class_Slots m_plist_List m_plist_First) (⟨88, 8⟩ : Cx) (at_ (bodyOf Try.f50) [1, 1, 1, 0, 0]) [1, 0, 0, 1, 0, 1, 0] (roundK (cfg_law10_PlistEach_1 m_class_Slots m_plist_List m_plist_First) (⟨88, 8⟩ : Cx) (at_ (bodyOf Try.f50) [1, 1, 1, 0, 0]) (contK (cfg_law10_PlistEach_1 m_class_Slots m_plist_List m_plist_First) (⟨88, 8⟩ : Cx) (bodyOf Try.f50) [1, 1, 1, 0] (retK (cfg_law10_PlistEach_1 m_class_Slots m_plist_List m_plist_First) Try.f50 8 K)) J1))) (K (.tup []) [.pk 0 [ws, cur] (xs) [.row 5], .cells U [.row 6], .cells U2 [.row 8], .cells U3 [vb (c)], .cells U4 (e_layout_Layout l2), .row 0 (ws : List (Int)) Bool.true, .row 0 (inv : List (Int)) Bool.true, .row 0 (found : List (Int)) Bool.true, .row 0 (w : List (Int)) Bool.false])) := by
  kernel_rfl

theorem nf_law10_PlistEach_1 (m_class_Slots : Int → Option (Int)) (m_plist_List : Nat → (List Int) → T_layout_Layout → Int → Int → Option ((List Int))) (m_plist_First : Nat → (List Int) → T_layout_Layout → Int → Option (Int)) (ws : List Int) (cur : List Int) (xs : List Value) (right : Bool) (l2 : T_layout_Layout) (inv : List Int) (found : List Int) (U : TypeId) (U2 : TypeId) (U3 : TypeId) (U4 : TypeId) (K : V → Heap → Prop) : (exF (cfg_law10_PlistEach_1 m_class_Slots m_plist_List m_plist_First) Try.f50 [.ptr 0 0, .ptr 1 0, .ptr 2 0, .ptr 3 0, .ptr 4 0] [.pk 0 [ws, cur] xs [.row 5], .cells U [.row 6], .cells U2 [.row 7], .cells U3 [vb right], .cells U4 (e_layout_Layout l2), .row 0 ws true, .row 0 inv true, .row 0 found true] K) = (
    Req (Decidable.decide (0 ≤ (↑(List.length inv) : Int) ∧ (↑(List.length inv) : Int) ≤ (↑(List.length inv) : Int) ∧ (↑(List.length inv) : Int) ≤ 1048576)) (Loop (cfg_law10_PlistEach_1 m_class_Slots m_plist_List m_plist_First) (⟨88, 8⟩ : Cx) (at_ (bodyOf Try.f50) [1, 1, 1, 0, 0]) (mkEnv [(0, .ptr 0 0), (2, .ptr 2 0), (3, .ptr 3 0), (4, .ptr 4 0), (6, vi (0))]) [.pk 0 [ws, cur] (xs) [.row 5], .cells U [.row 6], .cells U2 [.row 8], .cells U3 [vb (Bool.true)], .cells U4 (e_layout_Layout l2), .row 0 (ws : List (Int)) Bool.true, .row 0 (inv : List (Int)) Bool.true, .row 0 (found : List (Int)) Bool.true, .row 0 (List.replicate (Int.toNat (↑(List.length inv) : Int)) (0 : Int) : List (Int)) Bool.false] (contK (cfg_law10_PlistEach_1 m_class_Slots m_plist_List m_plist_First) (⟨88, 8⟩ : Cx) (bodyOf Try.f50) [1, 1, 1, 0] (retK (cfg_law10_PlistEach_1 m_class_Slots m_plist_List m_plist_First) Try.f50 8 K)))) := by
  kernel_rfl

theorem nf_law10_lives_1 (m_plist_Link : Nat → (List Int) → T_layout_Layout → Int → Int → Int → Option (Bool × (List Int))) (m_plist_List : Nat → (List Int) → T_layout_Layout → Int → Int → Option ((List Int))) (m_plist_Unlink : Nat → (List Int) → T_layout_Layout → Int → Int → Int → Option (Bool × (List Int))) (ws : List Int) (cur : List Int) (xs : List Value) (l2 : T_layout_Layout) (U : TypeId) (U2 : TypeId) (U3 : TypeId) (K : V → Heap → Prop) : (exF (cfg_law10_lives_1 m_plist_Link m_plist_List m_plist_Unlink) Try.f85 [.ptr 0 0, .ptr 1 0, .ptr 2 0, .ptr 3 0] [.pk 0 [ws, cur] xs [.row 4], .cells U (e_layout_Layout l2), .cells U2 [.ext (.slice none 0 0)], .cells U3 [.ext (.slice none 0 0)], .row 0 ws true] K) = (
    ((ws = ws) ∧ (((List.length xs ≤ 2) ∧ (So (m_plist_Link (List.length ws) cur l2 3 0 2) (fun (y0 : Bool × List Int) => (((ws = ws) ∧ (((List.length xs ≤ 2) ∧ (So (m_plist_Link (List.length ws) (Prod.snd y0) l2 5 0 2) (fun (y1 : Bool × List Int) => (((ws = ws) ∧ (((List.length xs ≤ 2) ∧ (So (m_plist_List (List.length ws) (Prod.snd y1) l2 0 2) (fun (y2 : List Int) => (((ws = ws) ∧ (((List.length xs ≤ 2) ∧ (So (m_plist_Unlink (List.length ws) (Prod.snd y1) l2 5 0 2) (fun (y3 : Bool × List Int) => (((ws = ws) ∧ (((List.length xs ≤ 2) ∧ (So (m_plist_List (List.length ws) (Prod.snd y3) l2 0 2) (fun (y4 : List Int) => (K (.tup []) [.pk 0 [ws, Prod.snd y3] (xs) [.row 4], .cells U (e_layout_Layout l2), .cells U2 [.row 5], .cells U3 [.row 6], .row 0 (ws : List (Int)) Bool.true, .row 0 (y2 : List (Int)) Bool.false, .row 0 (y4 : List (Int)) Bool.false]))))))))))))))))))))))))))))))) := by
  kernel_rfl

theorem nf_law10_after_1_L1 (m_law10_Where_skipped : T_assartlaw10_Act → (List Int) → Option (Bool)) (m_law10_done : Nat → (List Int) → T_layout_Layout → T_assartlaw10_Act → Option (Bool × (List Int))) (m_law10_Where_note : T_assartlaw10_Act → (List Int) → Option ((List Int))) (ws : List Int) (cur : List Int) (xs : List Value) (rv : T_assartref02_Layout) (l2 : T_layout_Layout) (inv : List Int) (acts : List (List Int)) (U : TypeId) (U2 : TypeId) (U3 : TypeId) (U4 : TypeId) (iv : Int) (cur2 : List Int) (w : List Int) (K : V → Heap → Prop) (J1 : Env → Heap → Prop) : (ex (cfg_law10_after_1 m_law10_Where_skipped m_law10_done m_law10_Where_note) (⟨39, 8⟩ : Cx) (at_ (bodyOf Try.f86) [1, 1, 0, 0]) (mkEnv [(0, .ptr 0 0), (2, .ptr 2 0), (3, .ptr 3 0), (4, .ptr 4 0), (6, vi (iv))]) [.pk 0 [ws, cur2] (xs) [.row 5], .cells U (e_api_Config (Go.Rx.T_assartref02_Layout.C rv)), .cells U2 [.row 8], .cells U3 [.row 7], .cells U4 (e_layout_Layout l2), .row 0 (ws : List (Int)) Bool.true, .row 0 (inv : List (Int)) Bool.true, .row 39 (acts : List (List Int)) Bool.true, .row 0 (w : List (Int)) Bool.false] (roundK (cfg_law10_after_1 m_law10_Where_skipped m_law10_done m_law10_Where_note) (⟨39, 8⟩ : Cx) (at_ (bodyOf Try.f86) [1, 1, 0, 0]) (contK (cfg_law10_after_1 m_law10_Where_skipped m_law10_done m_law10_Where_note) (⟨39, 8⟩ : Cx) (bodyOf Try.f86) [1, 1, 0] (retK (cfg_law10_after_1 m_law10_Where_skipped m_law10_done m_law10_Where_note) Try.f86 8 K)) J1)) = (
    br (Decidable.decide (iv < (↑(List.length acts) : Int))) (Req (inR iv (List.length acts)) (Req (inR (offs iv 0) (List.length acts)) (So (m_law10_Where_skipped (T_assartlaw10_Act.mk (List.getD (List.getD acts (Int.toNat (offs iv (0 : Nat))) (List.replicate (4 : Nat) (0 : Int))) (0 : Nat) (0 : Int)) (List.getD (List.getD acts (Int.toNat (offs iv (0 : Nat))) (List.replicate (4 : Nat) (0 : Int))) (1 : Nat) (0 : Int)) (List.getD (List.getD acts (Int.toNat (offs iv (0 : Nat))) (List.replicate (4 : Nat) (0 : Int))) (2 : Nat) (0 : Int)) (List.getD (List.getD acts (Int.toNat (offs iv (0 : Nat))) (List.replicate (4 : Nat) (0 : Int))) (3 : Nat) (0 : Int))) w) (fun (y0 : Bool) => (br (!y0) (Req (inR iv (List.length acts)) (Req (inR (offs iv 0) (List.length acts)) (((ws = ws) ∧ (((List.length xs ≤ 2) ∧ (So (m_law10_done (List.length ws) cur2 l2 (T_assartlaw10_Act.mk (List.getD (List.getD acts (Int.toNat (offs iv (0 : Nat))) (List.replicate (4 : Nat) (0 : Int))) (0 : Nat) (0 : Int)) (List.getD (List.getD acts (Int.toNat (offs iv (0 : Nat))) (List.replicate (4 : Nat) (0 : Int))) (1 : Nat) (0 : Int)) (List.getD (List.getD acts (Int.toNat (offs iv (0 : Nat))) (List.replicate (4 : Nat) (0 : Int))) (2 : Nat) (0 : Int)) (List.getD (List.getD acts (Int.toNat (offs iv (0 : Nat))) (List.replicate (4 : Nat) (0 : Int))) (3 : Nat) (0 : Int)))) (fun (y1 : Bool × List Int) => (br (Prod.fst y1) (Req (inR iv (List.length acts)) (Req (inR (offs iv 0) (List.length acts)) (So (m_law10_Where_note (T_assartlaw10_Act.mk (List.getD (List.getD acts (Int.toNat (offs iv (0 : Nat))) (List.replicate (4 : Nat) (0 : Int))) (0 : Nat) (0 : Int)) (List.getD (List.getD acts (Int.toNat (offs iv (0 : Nat))) (List.replicate (4 : Nat) (0 : Int))) (1 : Nat) (0 : Int)) (List.getD (List.getD acts (Int.toNat (offs iv (0 : Nat))) (List.replicate (4 : Nat) (0 : Int))) (2 : Nat) (0 : Int)) (List.getD (List.getD acts (Int.toNat (offs iv (0 : Nat))) (List.replicate (4 : Nat) (0 : Int))) (3 : Nat) (0 : Int))) w) (fun (y2 : List Int) => (J1 (mkEnv [(0, .ptr 0 0), (2, .ptr 2 0), (3, .ptr 3 0), (4, .ptr 4 0), (6, vi (IntKind.wrap IntKind.i64 (iv + 1)))]) [.pk 0 [ws, Prod.snd y1] (xs) [.row 5], .cells U (e_api_Config (T_assartref02_Layout.C rv)), .cells U2 [.row 8], .cells U3 [.row 7], .cells U4 (e_layout_Layout l2), .row 0 (ws : List (Int)) Bool.true, .row 0 (inv : List (Int)) Bool.true, .row 39 (acts : List (List Int)) Bool.true, .row 0 (y2 : List (Int)) Bool.false]))))) (J1 (mkEnv [(0, .ptr 0 0), (2, .ptr 2 0), (3, .ptr 3 0), (4, .ptr 4 0), (6, vi (IntKind.wrap IntKind.i64 (iv + 1)))]) [.pk 0 [ws, Prod.snd y1] (xs) [.row 5], .cells U (e_api_Config (T_assartref02_Layout.C rv)), .cells U2 [.row 8], .cells U3 [.row 7], .cells U4 (e_layout_Layout l2), .row 0 (ws : List (Int)) Bool.true, .row 0 (inv : List (Int)) Bool.true, .row 39 (acts : List (List Int)) Bool.true, .row 0 (w : List (Int)) Bool.false])))))))))) (J1 (mkEnv [(0, .ptr 0 0), (2, .ptr 2 0), (3, .ptr 3 0), (4, .ptr 4 0), (6, vi (IntKind.wrap IntKind.i64 (iv + 1)))]) [.pk 0 [ws, cur2] (xs) [.row 5], .cells U (e_api_Config (T_assartref02_Layout.C rv)), .cells U2 [.row 8], .cells U3 [.row 7], .cells U4 (e_layout_Layout l2), .row 0 (ws : List (Int)) Bool.true, .row 0 (inv : List (Int)) Bool.true, .row 39 (acts : List (List Int)) Bool.true, .row 0 (w : List (Int)) Bool.false])))))) (K (.tup []) [.pk 0 [ws, cur2] (xs) [.row 5], .cells U (e_api_Config (T_assartref02_Layout.C rv)), .cells U2 [.row 8], .cells U3 [.row 7], .cells U4 (e_layout_Layout l2), .row 0 (ws : List (Int)) Bool.true, .row 0 (inv : List (Int)) Bool.true, .row 39 (acts : List (List Int)) Bool.true, .row 0 (w : List (Int)) Bool.false])) := by
  kernel_rfl

theorem nf_law10_after_1 (m_law10_Where_skipped : T_assartlaw10_Act → (List Int) → Option (Bool)) (m_law10_done : Nat → (List Int) → T_layout_Layout → T_assartlaw10_Act → Option (Bool × (List Int))) (m_law10_Where_note : T_assartlaw10_Act → (List Int) → Option ((List Int))) (ws : List Int) (cur : List Int) (xs : List Value) (rv : T_assartref02_Layout) (l2 : T_layout_Layout) (inv : List Int) (acts : List (List Int)) (U : TypeId) (U2 : TypeId) (U3 : TypeId) (U4 : TypeId) (K : V → Heap → Prop) : (exF (cfg_law10_after_1 m_law10_Where_skipped m_law10_done m_law10_Where_note) Try.f86 [.ptr 0 0, .ptr 1 0, .ptr 2 0, .ptr 3 0, .ptr 4 0] [.pk 0 [ws, cur] xs [.row 5], .cells U (e_assartref02_Layout rv), .cells U2 [.row 6], .cells U3 [.row 7], .cells U4 (e_layout_Layout l2), .row 0 ws true, .row 0 inv true, .row 39 acts true] K) = (
    Req (Decidable.decide (0 ≤ T_api_Config.Pages (T_assartref02_Layout.C rv) ∧ T_api_Config.Pages (T_assartref02_Layout.C rv) ≤ T_api_Config.Pages (T_assartref02_Layout.C rv) ∧ T_api_Config.Pages (T_assartref02_Layout.C rv) ≤ 1048576)) (Loop (cfg_law10_after_1 m_law10_Where_skipped m_law10_done m_law10_Where_note) (⟨39, 8⟩ : Cx) (at_ (bodyOf Try.f86) [1, 1, 0, 0]) (mkEnv [(0, .ptr 0 0), (2, .ptr 2 0), (3, .ptr 3 0), (4, .ptr 4 0), (6, vi (0))]) [.pk 0 [ws, cur] (xs) [.row 5], .cells U (e_api_Config (T_assartref02_Layout.C rv)), .cells U2 [.row 8], .cells U3 [.row 7], .cells U4 (e_layout_Layout l2), .row 0 (ws : List (Int)) Bool.true, .row 0 (inv : List (Int)) Bool.true, .row 39 (acts : List (List Int)) Bool.true, .row 0 (List.replicate (Int.toNat (T_api_Config.Pages (T_assartref02_Layout.C rv))) (0 : Int) : List (Int)) Bool.false] (contK (cfg_law10_after_1 m_law10_Where_skipped m_law10_done m_law10_Where_note) (⟨39, 8⟩ : Cx) (bodyOf Try.f86) [1, 1, 0] (retK (cfg_law10_after_1 m_law10_Where_skipped m_law10_done m_law10_Where_note) Try.f86 8 K)))) := by
  kernel_rfl

noncomputable def m_law10_PlistAgree_1 (nw : Nat) (cur : List Int) (l2 : T_layout_Layout) (q : Int) (f : Int) : Option ((List Int)) :=
  ((m_plist_List nw cur l2 q f).bind fun y0 => some ((y0)))

noncomputable def sb_law10_PlistOut_1_L1 (nw : Nat) (l2 : T_layout_Layout) (q : Int) (f : Int) (p : Int) (cut : Bool) (cur2 : List Int) (w : List Int) (w2 : List Int) (k : Int) (iv : Int) : Option ((Int × Int) ⊕ ((List Int) × Bool)) :=
  (bif (Decidable.decide (iv < (↑(List.length w) : Int))) then (bif (inR iv (List.length w)) then (bif (inR (offs iv 0) (List.length w)) then (bif (List.getD w (Int.toNat (offs iv 0)) 0 != p) then some (.inl ((IntKind.wrap IntKind.i64 (k + 1)), (IntKind.wrap IntKind.i64 (iv + 1)))) else some (.inl ((k), (IntKind.wrap IntKind.i64 (iv + 1))))) else none) else none) else (bif (cut == Decidable.decide (k < (↑(List.length w) : Int))) then (bif ((↑(List.length w2) : Int) == k) then ((m_plist_Unlink nw cur2 l2 p q f).bind fun y0 => some (.inr (((Prod.snd y0), (!Prod.fst y0))))) else some (.inr (((cur2), (Bool.false))))) else some (.inr (((cur2), (Bool.false))))))

noncomputable def lp_law10_PlistOut_1_L1 (nw : Nat) (l2 : T_layout_Layout) (q : Int) (f : Int) (p : Int) (cut : Bool) (cur2 : List Int) (w : List Int) (w2 : List Int) (s : Int × Int) : Option ((List Int) × Bool) :=
  loopO (fun s => sb_law10_PlistOut_1_L1 nw l2 q f p cut cur2 w w2 s.1 s.2) s

noncomputable def m_law10_PlistOut_1 (nw : Nat) (cur : List Int) (l2 : T_layout_Layout) (q : Int) (f : Int) (p : Int) (right : Bool) (inv : List Int) : Option ((List Int) × Bool) :=
  ((m_plist_List nw cur l2 q f).bind fun y0 => (bif (inR p (List.length inv)) then (bif (inR (offs p 0) (List.length inv)) then (bif (List.getD inv (Int.toNat (offs p 0)) 0 != 0) then ((m_plist_Unlink nw cur l2 p q f).bind fun y1 => ((m_plist_List nw (Prod.snd y1) l2 q f).bind fun y2 => (lp_law10_PlistOut_1_L1 nw l2 q f p (Prod.fst y1) (Prod.snd y1) (y0) (y2) ((0), (0))))) else ((m_plist_Link nw cur l2 p q f).bind fun y3 => ((m_plist_List nw (Prod.snd y3) l2 q f).bind fun y4 => ((m_class_Slots q).bind fun y5 => (bif (Decidable.decide (y5 > 0)) then (bif (Decidable.decide (f ≥ 1)) then ((m_class_Slots q).bind fun y6 => (bif (Prod.fst y3 == Decidable.decide (f ≤ y6)) then (bif (!Decidable.decide (f ≤ y6)) then ((m_plist_Unlink nw (Prod.snd y3) l2 p q f).bind fun y7 => (bif (Prod.fst y7 == Decidable.decide (f ≤ y6)) then ((m_plist_List nw (Prod.snd y7) l2 q f).bind fun y8 => ((m_law01_Ints_Same y8 y0).bind fun y9 => some (((Prod.snd y7), (y9))))) else some (((Prod.snd y7), (Bool.false))))) else (bif ((↑(List.length y4) : Int) == IntKind.wrap IntKind.i64 ((↑(List.length y0) : Int) + 1)) then (bif (inR 0 (List.length y4)) then (bif (inR (offs 0 0) (List.length y4)) then (bif (List.getD y4 0 0 == p) then ((m_plist_Unlink nw (Prod.snd y3) l2 p q f).bind fun y10 => (bif (Prod.fst y10 == Decidable.decide (f ≤ y6)) then ((m_plist_List nw (Prod.snd y10) l2 q f).bind fun y11 => ((m_law01_Ints_Same y11 y0).bind fun y12 => some (((Prod.snd y10), (y12))))) else some (((Prod.snd y10), (Bool.false))))) else some (((Prod.snd y3), (Bool.false)))) else none) else none) else some (((Prod.snd y3), (Bool.false))))) else some (((Prod.snd y3), (Bool.false))))) else (bif (Prod.fst y3 == Bool.false) then ((m_plist_Unlink nw (Prod.snd y3) l2 p q f).bind fun y13 => (bif (Prod.fst y13 == Bool.false) then ((m_plist_List nw (Prod.snd y13) l2 q f).bind fun y14 => ((m_law01_Ints_Same y14 y0).bind fun y15 => some (((Prod.snd y13), (y15))))) else some (((Prod.snd y13), (Bool.false))))) else some (((Prod.snd y3), (Bool.false))))) else (bif (Prod.fst y3 == Bool.false) then ((m_plist_Unlink nw (Prod.snd y3) l2 p q f).bind fun y16 => (bif (Prod.fst y16 == Bool.false) then ((m_plist_List nw (Prod.snd y16) l2 q f).bind fun y17 => ((m_law01_Ints_Same y17 y0).bind fun y18 => some (((Prod.snd y16), (y18))))) else some (((Prod.snd y16), (Bool.false))))) else some (((Prod.snd y3), (Bool.false))))))))) else none) else none))

noncomputable def m_law10_PlistPlays_1 (nw : Nat) (cur : List Int) (l2 : T_layout_Layout) (a : T_assartlaw10_Act) (xv : Bool) (q : Int) (first : Int) : Option ((List Int) × Bool × (List Int) × Int) :=
  ((m_law10_done nw cur l2 a).bind fun y0 => ((m_plist_List nw (Prod.snd y0) l2 (T_assartlaw10_Act.C a) (T_assartlaw10_Act.F a)).bind fun y1 => ((m_plist_First nw (Prod.snd y0) l2 q).bind fun y2 => some (((Prod.snd y0), (Prod.fst y0), (y1), (y2))))))

noncomputable def sb_law10_PlistEach_1_L3 (q : Int) (first : Int) (f : Int) (w3 : List Int) (iv : Int) (w4 : List Int) : Option ((Int × (List Int)) ⊕ ((Int × Int × (List Int)) ⊕ ((Int × Bool × (List Int)) ⊕ ((List Int) × Bool)))) :=
  (bif (Decidable.decide (iv < (↑(List.length w3) : Int))) then (bif (inR iv (List.length w3)) then (bif (inR (offs iv 0) (List.length w3)) then (bif (Decidable.decide (List.getD w3 (Int.toNat (offs iv 0)) 0 < 0)) then some (.inr (.inr (.inr (((w4), (Bool.false)))))) else (bif (inR iv (List.length w3)) then (bif (inR (offs iv 0) (List.length w3)) then (bif (Decidable.decide (List.getD w3 (Int.toNat (offs iv 0)) 0 ≥ (↑(List.length w4) : Int))) then some (.inr (.inr (.inr (((w4), (Bool.false)))))) else (bif (inR iv (List.length w3)) then (bif (inR (offs iv 0) (List.length w3)) then (bif (inR (List.getD w3 (Int.toNat (offs iv 0)) 0) (List.length w4)) then (bif (inR (offs (List.getD w3 (Int.toNat (offs iv 0)) 0) 0) (List.length w4)) then (bif (List.getD w4 (Int.toNat (offs (List.getD w3 (Int.toNat (offs iv 0)) 0) 0)) 0 != 0) then some (.inr (.inr (.inr (((w4), (Bool.false)))))) else (bif (inR iv (List.length w3)) then (bif (inR (offs iv 0) (List.length w3)) then (bif (inR (List.getD w3 (Int.toNat (offs iv 0)) 0) (List.length w4)) then (bif (inR (offs (List.getD w3 (Int.toNat (offs iv 0)) 0) 0) (List.length w4)) then some (.inl ((IntKind.wrap IntKind.i64 (iv + 1)), (List.set w4 (Int.toNat (offs (List.getD w3 (Int.toNat (offs iv 0)) 0) 0)) (IntKind.wrap IntKind.i64 (IntKind.wrap IntKind.i64 (100 * q) + f))))) else none) else none) else none) else none)) else none) else none) else none) else none)) else none) else none)) else none) else none) else (bif (Decidable.decide (first < 0)) then (bif (Decidable.decide ((↑(List.length w3) : Int) > 0)) then (bif (inR 0 (List.length w3)) then (bif (inR (offs 0 0) (List.length w3)) then some (.inr (.inl ((List.getD w3 0 0), (IntKind.wrap IntKind.i64 (f + 1)), (w4)))) else none) else none) else some (.inr (.inl ((first), (IntKind.wrap IntKind.i64 (f + 1)), (w4))))) else some (.inr (.inl ((first), (IntKind.wrap IntKind.i64 (f + 1)), (w4))))))

noncomputable def lp_law10_PlistEach_1_L3 (q : Int) (first : Int) (f : Int) (w3 : List Int) (s : Int × (List Int)) : Option ((Int × Int × (List Int)) ⊕ ((Int × Bool × (List Int)) ⊕ ((List Int) × Bool))) :=
  loopO (fun s => sb_law10_PlistEach_1_L3 q first f w3 s.1 s.2) s

noncomputable def sb_law10_PlistEach_1_L2 (nw : Nat) (cur : List Int) (l2 : T_layout_Layout) (q : Int) (c : Bool) (first : Int) (f : Int) (w2 : List Int) : Option ((Int × Int × (List Int)) ⊕ ((Int × Bool × (List Int)) ⊕ ((List Int) × Bool))) :=
  ((m_class_Slots q).bind fun y0 => (bif (Decidable.decide (f ≤ y0)) then ((m_plist_List nw cur l2 q f).bind fun y1 => (lp_law10_PlistEach_1_L3 q first f (y1) ((0), (w2)))) else (bif (c) then ((m_plist_First nw cur l2 q).bind fun y2 => some (.inr (.inl ((IntKind.wrap IntKind.i64 (q + 1)), (y2 == first), (w2))))) else some (.inr (.inl ((IntKind.wrap IntKind.i64 (q + 1)), (Bool.false), (w2)))))))

noncomputable def lp_law10_PlistEach_1_L2 (nw : Nat) (cur : List Int) (l2 : T_layout_Layout) (q : Int) (c : Bool) (s : Int × Int × (List Int)) : Option ((Int × Bool × (List Int)) ⊕ ((List Int) × Bool)) :=
  loopO (fun s => sb_law10_PlistEach_1_L2 nw cur l2 q c s.1 s.2.1 s.2.2) s

noncomputable def sb_law10_PlistEach_1_L1 (nw : Nat) (cur : List Int) (l2 : T_layout_Layout) (q : Int) (c : Bool) (w : List Int) : Option ((Int × Bool × (List Int)) ⊕ ((List Int) × Bool)) :=
  (bif (Decidable.decide (q < 5)) then (lp_law10_PlistEach_1_L2 nw cur l2 q c ((-1), (1), (w))) else some (.inr (((w), (c)))))

noncomputable def lp_law10_PlistEach_1_L1 (nw : Nat) (cur : List Int) (l2 : T_layout_Layout) (s : Int × Bool × (List Int)) : Option ((List Int) × Bool) :=
  loopO (fun s => sb_law10_PlistEach_1_L1 nw cur l2 s.1 s.2.1 s.2.2) s

noncomputable def m_law10_PlistEach_1 (nw : Nat) (cur : List Int) (right : Bool) (l2 : T_layout_Layout) (inv : List Int) (found : List Int) : Option ((List Int) × Bool) :=
  (bif (Decidable.decide (0 ≤ (↑(List.length inv) : Int) ∧ (↑(List.length inv) : Int) ≤ (↑(List.length inv) : Int) ∧ (↑(List.length inv) : Int) ≤ 1048576)) then (lp_law10_PlistEach_1_L1 nw cur l2 ((0), (Bool.true), (List.replicate (Int.toNat (↑(List.length inv) : Int)) (0 : Int)))) else none)

noncomputable def m_law10_lives_1 (nw : Nat) (cur : List Int) (l2 : T_layout_Layout) : Option ((List Int) × (List Int) × (List Int)) :=
  ((m_plist_Link nw cur l2 3 0 2).bind fun y0 => ((m_plist_Link nw (Prod.snd y0) l2 5 0 2).bind fun y1 => ((m_plist_List nw (Prod.snd y1) l2 0 2).bind fun y2 => ((m_plist_Unlink nw (Prod.snd y1) l2 5 0 2).bind fun y3 => ((m_plist_List nw (Prod.snd y3) l2 0 2).bind fun y4 => some (((Prod.snd y3), (y2), (y4))))))))

noncomputable def sb_law10_after_1_L1 (nw : Nat) (l2 : T_layout_Layout) (acts : List (List Int)) (iv : Int) (cur2 : List Int) (w : List Int) : Option ((Int × (List Int) × (List Int)) ⊕ ((List Int) × (List Int))) :=
  (bif (Decidable.decide (iv < (↑(List.length acts) : Int))) then (bif (inR iv (List.length acts)) then (bif (inR (offs iv 0) (List.length acts)) then ((m_law10_Where_skipped (T_assartlaw10_Act.mk (List.getD (List.getD acts (Int.toNat (offs iv (0 : Nat))) (List.replicate (4 : Nat) (0 : Int))) (0 : Nat) (0 : Int)) (List.getD (List.getD acts (Int.toNat (offs iv (0 : Nat))) (List.replicate (4 : Nat) (0 : Int))) (1 : Nat) (0 : Int)) (List.getD (List.getD acts (Int.toNat (offs iv (0 : Nat))) (List.replicate (4 : Nat) (0 : Int))) (2 : Nat) (0 : Int)) (List.getD (List.getD acts (Int.toNat (offs iv (0 : Nat))) (List.replicate (4 : Nat) (0 : Int))) (3 : Nat) (0 : Int))) w).bind fun y0 => (bif (!y0) then (bif (inR iv (List.length acts)) then (bif (inR (offs iv 0) (List.length acts)) then ((m_law10_done nw cur2 l2 (T_assartlaw10_Act.mk (List.getD (List.getD acts (Int.toNat (offs iv (0 : Nat))) (List.replicate (4 : Nat) (0 : Int))) (0 : Nat) (0 : Int)) (List.getD (List.getD acts (Int.toNat (offs iv (0 : Nat))) (List.replicate (4 : Nat) (0 : Int))) (1 : Nat) (0 : Int)) (List.getD (List.getD acts (Int.toNat (offs iv (0 : Nat))) (List.replicate (4 : Nat) (0 : Int))) (2 : Nat) (0 : Int)) (List.getD (List.getD acts (Int.toNat (offs iv (0 : Nat))) (List.replicate (4 : Nat) (0 : Int))) (3 : Nat) (0 : Int)))).bind fun y1 => (bif (Prod.fst y1) then (bif (inR iv (List.length acts)) then (bif (inR (offs iv 0) (List.length acts)) then ((m_law10_Where_note (T_assartlaw10_Act.mk (List.getD (List.getD acts (Int.toNat (offs iv (0 : Nat))) (List.replicate (4 : Nat) (0 : Int))) (0 : Nat) (0 : Int)) (List.getD (List.getD acts (Int.toNat (offs iv (0 : Nat))) (List.replicate (4 : Nat) (0 : Int))) (1 : Nat) (0 : Int)) (List.getD (List.getD acts (Int.toNat (offs iv (0 : Nat))) (List.replicate (4 : Nat) (0 : Int))) (2 : Nat) (0 : Int)) (List.getD (List.getD acts (Int.toNat (offs iv (0 : Nat))) (List.replicate (4 : Nat) (0 : Int))) (3 : Nat) (0 : Int))) w).bind fun y2 => some (.inl ((IntKind.wrap IntKind.i64 (iv + 1)), (Prod.snd y1), (y2)))) else none) else none) else some (.inl ((IntKind.wrap IntKind.i64 (iv + 1)), (Prod.snd y1), (w))))) else none) else none) else some (.inl ((IntKind.wrap IntKind.i64 (iv + 1)), (cur2), (w))))) else none) else none) else some (.inr (((cur2), (w)))))

noncomputable def lp_law10_after_1_L1 (nw : Nat) (l2 : T_layout_Layout) (acts : List (List Int)) (s : Int × (List Int) × (List Int)) : Option ((List Int) × (List Int)) :=
  loopO (fun s => sb_law10_after_1_L1 nw l2 acts s.1 s.2.1 s.2.2) s

noncomputable def m_law10_after_1 (nw : Nat) (cur : List Int) (rv : T_assartref02_Layout) (l2 : T_layout_Layout) (inv : List Int) (acts : List (List Int)) : Option ((List Int) × (List Int)) :=
  (bif (Decidable.decide (0 ≤ T_api_Config.Pages (T_assartref02_Layout.C rv) ∧ T_api_Config.Pages (T_assartref02_Layout.C rv) ≤ T_api_Config.Pages (T_assartref02_Layout.C rv) ∧ T_api_Config.Pages (T_assartref02_Layout.C rv) ≤ 1048576)) then (lp_law10_after_1_L1 nw l2 acts ((0), (cur), (List.replicate (Int.toNat (T_api_Config.Pages (T_assartref02_Layout.C rv))) (0 : Int)))) else none)

attribute [local irreducible] Loop ex exF contK roundK retK at_ bodyOf mkEnv
theorem ok_law10_PlistAgree_1 : SpecOK Try.prog elTT 36 (sp_law10_PlistAgree_1 m_law10_PlistAgree_1) := by
  refine spec_of_exF (cfg := (cfg_law10_PlistAgree_1 m_plist_List)) (cfg_ok rfl rfl rfl) (sig_cons ok_plist_List sig_nil) (fn := Try.f36) (by kernel_rfl) (by kernel_rfl) (by kernel_rfl) ?_
  intro args H K h
  change tr_law10_PlistAgree_1 m_law10_PlistAgree_1 args H K at h
  unfold tr_law10_PlistAgree_1 at h
  replace h := aC_el h
  obtain ⟨a0, _, rfl, h⟩ := h
  replace h := aC_el h
  obtain ⟨a1, _, rfl, h⟩ := h
  replace h := aC_el h
  obtain ⟨a2, _, rfl, h⟩ := h
  replace h := aC_el h
  obtain ⟨a3, _, rfl, h⟩ := h
  replace h := aC_el h
  obtain ⟨a4, _, rfl, h⟩ := h
  replace h := aN_el h
  obtain ⟨rfl, h⟩ := h
  replace h := aPtr_el h
  obtain ⟨rfl, h⟩ := h
  replace h := aPtr_el h
  obtain ⟨rfl, h⟩ := h
  replace h := aPtr_el h
  obtain ⟨rfl, h⟩ := h
  replace h := aPtr_el h
  obtain ⟨rfl, h⟩ := h
  replace h := aPtr_el h
  obtain ⟨rfl, h⟩ := h
  replace h := aC_el h
  obtain ⟨b0, _, rfl, h⟩ := h
  replace h := aC_el h
  obtain ⟨b1, _, rfl, h⟩ := h
  replace h := aC_el h
  obtain ⟨b2, _, rfl, h⟩ := h
  replace h := aC_el h
  obtain ⟨b3, _, rfl, h⟩ := h
  replace h := aC_el h
  obtain ⟨b4, _, rfl, h⟩ := h
  replace h := aC_el h
  obtain ⟨b5, _, rfl, h⟩ := h
  replace h := aN_el h
  obtain ⟨rfl, h⟩ := h
  replace h := bView_el h
  obtain ⟨ws, cur, xs, rfl, h⟩ := h
  replace h := bCells_el h
  obtain ⟨U, c1, rfl, h⟩ := h
  replace h := d_layout_Layout_el h
  obtain ⟨l2, rfl, h⟩ := h
  replace h := bCells_el h
  obtain ⟨U2, c2, rfl, h⟩ := h
  replace h := aC_el h
  obtain ⟨d2_0, _, rfl, h⟩ := h
  replace h := aInt_el h
  obtain ⟨q, rfl, h⟩ := h
  replace h := aN_el h
  obtain ⟨rfl, h⟩ := h
  replace h := bCells_el h
  obtain ⟨U3, c3, rfl, h⟩ := h
  replace h := aC_el h
  obtain ⟨d3_0, _, rfl, h⟩ := h
  replace h := aInt_el h
  obtain ⟨f, rfl, h⟩ := h
  replace h := aN_el h
  obtain ⟨rfl, h⟩ := h
  replace h := bCells_el h
  obtain ⟨U4, c4, rfl, h⟩ := h
  replace h := aC_el h
  obtain ⟨d4_0, _, rfl, h⟩ := h
  replace h := aNilS_el h
  obtain ⟨rfl, h⟩ := h
  replace h := aN_el h
  obtain ⟨rfl, h⟩ := h
  replace h := bRow_el h
  obtain ⟨(l : List Int), rfl, h⟩ := h
  obtain ⟨rfl, hx, h⟩ := h
  refine Eq.mpr (nf_law10_PlistAgree_1 m_plist_List ws cur xs l2 q f U U2 U3 U4 K) ?_
  unfold m_law10_PlistAgree_1 at h
  revert h
  exact and_So (by first | exact rfl | assumption | exact trivial | omega) (and_So (by first | exact rfl | assumption | exact trivial | omega) (bind_So fun y0 => fun h => h))

theorem lpok_law10_PlistOut_1_L1 (ws : List Int) (cur : List Int) (xs : List Value) (l2 : T_layout_Layout) (q : Int) (f : Int) (p : Int) (right : Bool) (inv : List Int) (U : TypeId) (U2 : TypeId) (U3 : TypeId) (U4 : TypeId) (U5 : TypeId) (U6 : TypeId) (cut : Bool) (k : Int) (iv : Int) (cur2 : List Int) (w : List Int) (w2 : List Int) (K : V → Heap → Prop) (hx : xs.length ≤ 2) : So (lp_law10_PlistOut_1_L1 (ws.length) (l2) (q) (f) (p) (cut) (cur2) (w) (w2) (k, iv)) (fun (x : (List Int) × Bool) => K (.tup []) [.pk 0 [ws, x.1] xs [.row 7], .cells U (e_layout_Layout l2), .cells U2 [vi q], .cells U3 [vi f], .cells U4 [.row 8], .cells U5 [vi p], .cells U6 [vb (x.2)], .row 0 ws true, .row 0 inv true]) → Loop (cfg_law10_PlistOut_1 m_plist_List m_plist_Unlink m_plist_Link m_class_Slots m_law01_Ints_Same) (⟨137, 9⟩ : Cx) (at_ (bodyOf Try.f38) [1, 0, 1, 0, 1, 1, 1, 0, 1, 0, 0]) (mkEnv [(0, .ptr 0 0), (1, .ptr 1 0), (2, .ptr 2 0), (3, .ptr 3 0), (5, .ptr 5 0), (6, .ptr 6 0), (8, .row 9), (9, vb (cut)), (10, .row 10), (11, vi (k)), (12, vi (iv))]) [.pk 0 [ws, cur2] (xs) [.row 7], .cells U (e_layout_Layout l2), .cells U2 [vi (q)], .cells U3 [vi (f)], .cells U4 [.row 8], .cells U5 [vi (p)], .cells U6 [vb (right)], .row 0 (ws : List (Int)) Bool.true, .row 0 (inv : List (Int)) Bool.true, .row 0 (w : List (Int)) Bool.false, .row 0 (w2 : List (Int)) Bool.false] (contK (cfg_law10_PlistOut_1 m_plist_List m_plist_Unlink m_plist_Link m_class_Slots m_law01_Ints_Same) (⟨137, 9⟩ : Cx) (bodyOf Try.f38) [1, 0, 1, 0, 1, 1, 1, 0, 1, 0] (retK (cfg_law10_PlistOut_1 m_plist_List m_plist_Unlink m_plist_Link m_class_Slots m_law01_Ints_Same) Try.f38 9 K)) := by
  refine loopK_So (fun (s_ : Int × Int) => (mkEnv [(0, .ptr 0 0), (1, .ptr 1 0), (2, .ptr 2 0), (3, .ptr 3 0), (5, .ptr 5 0), (6, .ptr 6 0), (8, .row 9), (9, vb (cut)), (10, .row 10), (11, vi ((s_.1))), (12, vi ((s_.2)))])) (fun (s_ : Int × Int) => [.pk 0 [ws, cur2] (xs) [.row 7], .cells U (e_layout_Layout l2), .cells U2 [vi (q)], .cells U3 [vi (f)], .cells U4 [.row 8], .cells U5 [vi (p)], .cells U6 [vb (right)], .row 0 (ws : List (Int)) Bool.true, .row 0 (inv : List (Int)) Bool.true, .row 0 (w : List (Int)) Bool.false, .row 0 (w2 : List (Int)) Bool.false]) (fun (x : (List Int) × Bool) => K (.tup []) [.pk 0 [ws, x.1] xs [.row 7], .cells U (e_layout_Layout l2), .cells U2 [vi q], .cells U3 [vi f], .cells U4 [.row 8], .cells U5 [vi p], .cells U6 [vb (x.2)], .row 0 ws true, .row 0 inv true]) ?_ (k, iv)
  intro s_ J1 h
  clear k
  clear iv
  obtain ⟨k, iv⟩ := s_
  refine Eq.mpr (nf_law10_PlistOut_1_L1 m_plist_List m_plist_Unlink m_plist_Link m_class_Slots m_law01_Ints_Same ws cur xs l2 q f p right inv U U2 U3 U4 U5 U6 cut k iv cur2 w w2 K J1) ?_
  have h : So (sb_law10_PlistOut_1_L1 (ws.length) (l2) (q) (f) (p) (cut) (cur2) (w) (w2) k iv) _ := h
  unfold sb_law10_PlistOut_1_L1 at h
  revert h
  exact br_So (req_So (req_So (br_So (fun h => h) (fun h => h)))) (br_So (br_So (and_So (by first | exact rfl | assumption | exact trivial | omega) (and_So (by first | exact rfl | assumption | exact trivial | omega) (bind_So fun y0 => fun h => h))) (fun h => h)) (fun h => h))

theorem ok_law10_PlistOut_1 : SpecOK Try.prog elTT 38 (sp_law10_PlistOut_1 m_law10_PlistOut_1) := by
  refine spec_of_exF (cfg := (cfg_law10_PlistOut_1 m_plist_List m_plist_Unlink m_plist_Link m_class_Slots m_law01_Ints_Same)) (cfg_ok rfl rfl rfl) (sig_cons ok_plist_List (sig_cons ok_plist_Unlink (sig_cons ok_plist_Link (sig_cons ok_class_Slots (sig_cons ok_law01_Ints_Same sig_nil))))) (fn := Try.f38) (by kernel_rfl) (by kernel_rfl) (by kernel_rfl) ?_
  intro args H K h
  change tr_law10_PlistOut_1 m_law10_PlistOut_1 args H K at h
  unfold tr_law10_PlistOut_1 at h
  replace h := aC_el h
  obtain ⟨a0, _, rfl, h⟩ := h
  replace h := aC_el h
  obtain ⟨a1, _, rfl, h⟩ := h
  replace h := aC_el h
  obtain ⟨a2, _, rfl, h⟩ := h
  replace h := aC_el h
  obtain ⟨a3, _, rfl, h⟩ := h
  replace h := aC_el h
  obtain ⟨a4, _, rfl, h⟩ := h
  replace h := aC_el h
  obtain ⟨a5, _, rfl, h⟩ := h
  replace h := aC_el h
  obtain ⟨a6, _, rfl, h⟩ := h
  replace h := aN_el h
  obtain ⟨rfl, h⟩ := h
  replace h := aPtr_el h
  obtain ⟨rfl, h⟩ := h
  replace h := aPtr_el h
  obtain ⟨rfl, h⟩ := h
  replace h := aPtr_el h
  obtain ⟨rfl, h⟩ := h
  replace h := aPtr_el h
  obtain ⟨rfl, h⟩ := h
  replace h := aPtr_el h
  obtain ⟨rfl, h⟩ := h
  replace h := aPtr_el h
  obtain ⟨rfl, h⟩ := h
  replace h := aPtr_el h
  obtain ⟨rfl, h⟩ := h
  replace h := aC_el h
  obtain ⟨b0, _, rfl, h⟩ := h
  replace h := aC_el h
  obtain ⟨b1, _, rfl, h⟩ := h
  replace h := aC_el h
  obtain ⟨b2, _, rfl, h⟩ := h
  replace h := aC_el h
  obtain ⟨b3, _, rfl, h⟩ := h
  replace h := aC_el h
  obtain ⟨b4, _, rfl, h⟩ := h
  replace h := aC_el h
  obtain ⟨b5, _, rfl, h⟩ := h
  replace h := aC_el h
  obtain ⟨b6, _, rfl, h⟩ := h
  replace h := aC_el h
  obtain ⟨b7, _, rfl, h⟩ := h
  replace h := aC_el h
  obtain ⟨b8, _, rfl, h⟩ := h
  replace h := aN_el h
  obtain ⟨rfl, h⟩ := h
  replace h := bView_el h
  obtain ⟨ws, cur, xs, rfl, h⟩ := h
  replace h := bCells_el h
  obtain ⟨U, c1, rfl, h⟩ := h
  replace h := d_layout_Layout_el h
  obtain ⟨l2, rfl, h⟩ := h
  replace h := bCells_el h
  obtain ⟨U2, c2, rfl, h⟩ := h
  replace h := aC_el h
  obtain ⟨d2_0, _, rfl, h⟩ := h
  replace h := aInt_el h
  obtain ⟨q, rfl, h⟩ := h
  replace h := aN_el h
  obtain ⟨rfl, h⟩ := h
  replace h := bCells_el h
  obtain ⟨U3, c3, rfl, h⟩ := h
  replace h := aC_el h
  obtain ⟨d3_0, _, rfl, h⟩ := h
  replace h := aInt_el h
  obtain ⟨f, rfl, h⟩ := h
  replace h := aN_el h
  obtain ⟨rfl, h⟩ := h
  replace h := bCells_el h
  obtain ⟨U4, c4, rfl, h⟩ := h
  replace h := aC_el h
  obtain ⟨d4_0, _, rfl, h⟩ := h
  replace h := aRow_el h
  obtain ⟨rfl, h⟩ := h
  replace h := aN_el h
  obtain ⟨rfl, h⟩ := h
  replace h := bCells_el h
  obtain ⟨U5, c5, rfl, h⟩ := h
  replace h := aC_el h
  obtain ⟨d5_0, _, rfl, h⟩ := h
  replace h := aInt_el h
  obtain ⟨p, rfl, h⟩ := h
  replace h := aN_el h
  obtain ⟨rfl, h⟩ := h
  replace h := bCells_el h
  obtain ⟨U6, c6, rfl, h⟩ := h
  replace h := aC_el h
  obtain ⟨d6_0, _, rfl, h⟩ := h
  replace h := aBool_el h
  obtain ⟨right, rfl, h⟩ := h
  replace h := aN_el h
  obtain ⟨rfl, h⟩ := h
  replace h := bRow_el h
  obtain ⟨(l : List Int), rfl, h⟩ := h
  replace h := bRow_el h
  obtain ⟨(inv : List Int), rfl, h⟩ := h
  obtain ⟨rfl, hx, h⟩ := h
  refine Eq.mpr (nf_law10_PlistOut_1 m_plist_List m_plist_Unlink m_plist_Link m_class_Slots m_law01_Ints_Same ws cur xs l2 q f p right inv U U2 U3 U4 U5 U6 K) ?_
  unfold m_law10_PlistOut_1 at h
  revert h
  exact and_So (by first | exact rfl | assumption | exact trivial | omega) (and_So (by first | exact rfl | assumption | exact trivial | omega) (bind_So fun y0 => req_So (req_So (br_So (and_So (by first | exact rfl | assumption | exact trivial | omega) (and_So (by first | exact rfl | assumption | exact trivial | omega) (bind_So fun y1 => and_So (by first | exact rfl | assumption | exact trivial | omega) (and_So (by first | exact rfl | assumption | exact trivial | omega) (bind_So fun y2 => lpok_law10_PlistOut_1_L1 ws cur xs l2 q f p right inv U U2 U3 U4 U5 U6 (Prod.fst y1) (0) (0) (Prod.snd y1) (y0) (y2) K hx))))) (and_So (by first | exact rfl | assumption | exact trivial | omega) (and_So (by first | exact rfl | assumption | exact trivial | omega) (bind_So fun y3 => and_So (by first | exact rfl | assumption | exact trivial | omega) (and_So (by first | exact rfl | assumption | exact trivial | omega) (bind_So fun y4 => bind_So fun y5 => br_So (br_So (bind_So fun y6 => br_So (br_So (and_So (by first | exact rfl | assumption | exact trivial | omega) (and_So (by first | exact rfl | assumption | exact trivial | omega) (bind_So fun y7 => br_So (and_So (by first | exact rfl | assumption | exact trivial | omega) (and_So (by first | exact rfl | assumption | exact trivial | omega) (bind_So fun y8 => bind_So fun y9 => fun h => h))) (fun h => h)))) (br_So (req_So (req_So (br_So (and_So (by first | exact rfl | assumption | exact trivial | omega) (and_So (by first | exact rfl | assumption | exact trivial | omega) (bind_So fun y10 => br_So (and_So (by first | exact rfl | assumption | exact trivial | omega) (and_So (by first | exact rfl | assumption | exact trivial | omega) (bind_So fun y11 => bind_So fun y12 => fun h => h))) (fun h => h)))) (fun h => h)))) (fun h => h))) (fun h => h)) (br_So (and_So (by first | exact rfl | assumption | exact trivial | omega) (and_So (by first | exact rfl | assumption | exact trivial | omega) (bind_So fun y13 => br_So (and_So (by first | exact rfl | assumption | exact trivial | omega) (and_So (by first | exact rfl | assumption | exact trivial | omega) (bind_So fun y14 => bind_So fun y15 => fun h => h))) (fun h => h)))) (fun h => h))) (br_So (and_So (by first | exact rfl | assumption | exact trivial | omega) (and_So (by first | exact rfl | assumption | exact trivial | omega) (bind_So fun y16 => br_So (and_So (by first | exact rfl | assumption | exact trivial | omega) (and_So (by first | exact rfl | assumption | exact trivial | omega) (bind_So fun y17 => bind_So fun y18 => fun h => h))) (fun h => h)))) (fun h => h)))))))))))

theorem ok_law10_PlistPlays_1 : SpecOK Try.prog elTT 43 (sp_law10_PlistPlays_1 m_law10_PlistPlays_1) := by
  refine spec_of_exF (cfg := (cfg_law10_PlistPlays_1 m_law10_done m_plist_List m_plist_First)) (cfg_ok rfl rfl rfl) (sig_cons ok_law10_done (sig_cons ok_plist_List (sig_cons ok_plist_First sig_nil))) (fn := Try.f43) (by kernel_rfl) (by kernel_rfl) (by kernel_rfl) ?_
  intro args H K h
  change tr_law10_PlistPlays_1 m_law10_PlistPlays_1 args H K at h
  unfold tr_law10_PlistPlays_1 at h
  replace h := aC_el h
  obtain ⟨a0, _, rfl, h⟩ := h
  replace h := aC_el h
  obtain ⟨a1, _, rfl, h⟩ := h
  replace h := aC_el h
  obtain ⟨a2, _, rfl, h⟩ := h
  replace h := aC_el h
  obtain ⟨a3, _, rfl, h⟩ := h
  replace h := aC_el h
  obtain ⟨a4, _, rfl, h⟩ := h
  replace h := aC_el h
  obtain ⟨a5, _, rfl, h⟩ := h
  replace h := aC_el h
  obtain ⟨a6, _, rfl, h⟩ := h
  replace h := aN_el h
  obtain ⟨rfl, h⟩ := h
  replace h := aPtr_el h
  obtain ⟨rfl, h⟩ := h
  replace h := aPtr_el h
  obtain ⟨rfl, h⟩ := h
  replace h := aPtr_el h
  obtain ⟨rfl, h⟩ := h
  replace h := aPtr_el h
  obtain ⟨rfl, h⟩ := h
  replace h := aPtr_el h
  obtain ⟨rfl, h⟩ := h
  replace h := aPtr_el h
  obtain ⟨rfl, h⟩ := h
  replace h := aPtr_el h
  obtain ⟨rfl, h⟩ := h
  replace h := aC_el h
  obtain ⟨b0, _, rfl, h⟩ := h
  replace h := aC_el h
  obtain ⟨b1, _, rfl, h⟩ := h
  replace h := aC_el h
  obtain ⟨b2, _, rfl, h⟩ := h
  replace h := aC_el h
  obtain ⟨b3, _, rfl, h⟩ := h
  replace h := aC_el h
  obtain ⟨b4, _, rfl, h⟩ := h
  replace h := aC_el h
  obtain ⟨b5, _, rfl, h⟩ := h
  replace h := aC_el h
  obtain ⟨b6, _, rfl, h⟩ := h
  replace h := aC_el h
  obtain ⟨b7, _, rfl, h⟩ := h
  replace h := aN_el h
  obtain ⟨rfl, h⟩ := h
  replace h := bView_el h
  obtain ⟨ws, cur, xs, rfl, h⟩ := h
  replace h := bCells_el h
  obtain ⟨U, c1, rfl, h⟩ := h
  replace h := d_layout_Layout_el h
  obtain ⟨l2, rfl, h⟩ := h
  replace h := bCells_el h
  obtain ⟨U2, c2, rfl, h⟩ := h
  replace h := d_assartlaw10_Act_el h
  obtain ⟨a, rfl, h⟩ := h
  replace h := bCells_el h
  obtain ⟨U3, c3, rfl, h⟩ := h
  replace h := aC_el h
  obtain ⟨d3_0, _, rfl, h⟩ := h
  replace h := aBool_el h
  obtain ⟨xv, rfl, h⟩ := h
  replace h := aN_el h
  obtain ⟨rfl, h⟩ := h
  replace h := bCells_el h
  obtain ⟨U4, c4, rfl, h⟩ := h
  replace h := aC_el h
  obtain ⟨d4_0, _, rfl, h⟩ := h
  replace h := aNilS_el h
  obtain ⟨rfl, h⟩ := h
  replace h := aN_el h
  obtain ⟨rfl, h⟩ := h
  replace h := bCells_el h
  obtain ⟨U5, c5, rfl, h⟩ := h
  replace h := aC_el h
  obtain ⟨d5_0, _, rfl, h⟩ := h
  replace h := aInt_el h
  obtain ⟨q, rfl, h⟩ := h
  replace h := aN_el h
  obtain ⟨rfl, h⟩ := h
  replace h := bCells_el h
  obtain ⟨U6, c6, rfl, h⟩ := h
  replace h := aC_el h
  obtain ⟨d6_0, _, rfl, h⟩ := h
  replace h := aInt_el h
  obtain ⟨first, rfl, h⟩ := h
  replace h := aN_el h
  obtain ⟨rfl, h⟩ := h
  replace h := bRow_el h
  obtain ⟨(l : List Int), rfl, h⟩ := h
  obtain ⟨rfl, hx, h⟩ := h
  refine Eq.mpr (nf_law10_PlistPlays_1 m_law10_done m_plist_List m_plist_First ws cur xs l2 a xv q first U U2 U3 U4 U5 U6 K) ?_
  unfold m_law10_PlistPlays_1 at h
  revert h
  exact and_So (by first | exact rfl | assumption | exact trivial | omega) (and_So (by first | exact rfl | assumption | exact trivial | omega) (bind_So fun y0 => and_So (by first | exact rfl | assumption | exact trivial | omega) (and_So (by first | exact rfl | assumption | exact trivial | omega) (bind_So fun y1 => and_So (by first | exact rfl | assumption | exact trivial | omega) (and_So (by first | exact rfl | assumption | exact trivial | omega) (bind_So fun y2 => fun h => h))))))

theorem lpok_law10_PlistEach_1_L3 (ws : List Int) (cur : List Int) (xs : List Value) (right : Bool) (l2 : T_layout_Layout) (inv : List Int) (found : List Int) (U : TypeId) (U2 : TypeId) (U3 : TypeId) (U4 : TypeId) (q : Int) (c : Bool) (w : List Int) (first : Int) (f : Int) (w2 : List Int) (iv : Int) (w3 : List Int) (w4 : List Int) (K : V → Heap → Prop) (J1 : Env → Heap → Prop) (J2 : Env → Heap → Prop) (hx : xs.length ≤ 2) : So (lp_law10_PlistEach_1_L3 (q) (first) (f) (w3) (iv, w4)) (sumK (fun (s_ : Int × Int × (List Int)) => J2 (mkEnv [(0, .ptr 0 0), (2, .ptr 2 0), (3, .ptr 3 0), (4, .ptr 4 0), (6, vi (q)), (7, vi ((s_.1))), (8, vi ((s_.2.1)))]) [.pk 0 [ws, cur] (xs) [.row 5], .cells U [.row 6], .cells U2 [.row 8], .cells U3 [vb (c)], .cells U4 (e_layout_Layout l2), .row 0 (ws : List (Int)) Bool.true, .row 0 (inv : List (Int)) Bool.true, .row 0 (found : List (Int)) Bool.true, .row 0 ((s_.2.2) : List (Int)) Bool.false]) (sumK (fun (s_ : Int × Bool × (List Int)) => J1 (mkEnv [(0, .ptr 0 0), (2, .ptr 2 0), (3, .ptr 3 0), (4, .ptr 4 0), (6, vi ((s_.1)))]) [.pk 0 [ws, cur] (xs) [.row 5], .cells U [.row 6], .cells U2 [.row 8], .cells U3 [vb ((s_.2.1))], .cells U4 (e_layout_Layout l2), .row 0 (ws : List (Int)) Bool.true, .row 0 (inv : List (Int)) Bool.true, .row 0 (found : List (Int)) Bool.true, .row 0 ((s_.2.2) : List (Int)) Bool.false]) (fun (x : (List Int) × Bool) => K (.tup []) [.pk 0 [ws, cur] xs [.row 5], .cells U [.row 6], .cells U2 [.row 8], .cells U3 [vb (x.2)], .cells U4 (e_layout_Layout l2), .row 0 ws true, .row 0 inv true, .row 0 found true, .row 0 (x.1) false]))) → Loop (cfg_law10_PlistEach_1 m_class_Slots m_plist_List m_plist_First) (⟨88, 8⟩ : Cx) (at_ (bodyOf Try.f50) [1, 1, 1, 0, 0, 1, 0, 0, 1, 0, 1, 0, 0, 1, 0, 0, 1, 0, 1, 0, 0]) (mkEnv [(0, .ptr 0 0), (2, .ptr 2 0), (3, .ptr 3 0), (4, .ptr 4 0), (6, vi (q)), (7, vi (first)), (8, vi (f)), (9, .row 8), (10, vi (iv))]) [.pk 0 [ws, cur] (xs) [.row 5], .cells U [.row 6], .cells U2 [.row 9], .cells U3 [vb (c)], .cells U4 (e_layout_Layout l2), .row 0 (ws : List (Int)) Bool.true, .row 0 (inv : List (Int)) Bool.true, .row 0 (found : List (Int)) Bool.true, .row 0 (w3 : List (Int)) Bool.false, .row 0 (w4 : List (Int)) Bool.false] (contK (cfg_law10_PlistEach_1 m_class_Slots m_plist_List m_plist_First) (⟨88, 8⟩ : Cx) (at_ (bodyOf Try.f50) [1, 1, 1, 0, 0, 1, 0, 0, 1, 0, 1, 0, 0]) [1, 0, 0, 1, 0, 1, 0] (roundK (cfg_law10_PlistEach_1 m_class_Slots m_plist_List m_plist_First) (⟨88, 8⟩ : Cx) (at_ (bodyOf Try.f50) [1, 1, 1, 0, 0, 1, 0, 0, 1, 0, 1, 0, 0]) (contK (cfg_law10_PlistEach_1 m_class_Slots m_plist_List m_plist_First) (⟨88, 8⟩ : Cx) (at_ (bodyOf Try.f50) [1, 1, 1, 0, 0]) [1, 0, 0, 1, 0, 1, 0] (roundK (cfg_law10_PlistEach_1 m_class_Slots m_plist_List m_plist_First) (⟨88, 8⟩ : Cx) (at_ (bodyOf Try.f50) [1, 1, 1, 0, 0]) (contK (cfg_law10_PlistEach_1 m_class_Slots m_plist_List m_plist_First) (⟨88, 8⟩ : Cx) (bodyOf Try.f50) [1, 1, 1, 0] (retK (cfg_law10_PlistEach_1 m_class_Slots m_plist_List m_plist_First) Try.f50 8 K)) J1)) J2)) := by
  refine loopK_So (fun (s_ : Int × (List Int)) => (mkEnv [(0, .ptr 0 0), (2, .ptr 2 0), (3, .ptr 3 0), (4, .ptr 4 0), (6, vi (q)), (7, vi (first)), (8, vi (f)), (9, .row 8), (10, vi ((s_.1)))])) (fun (s_ : Int × (List Int)) => [.pk 0 [ws, cur] (xs) [.row 5], .cells U [.row 6], .cells U2 [.row 9], .cells U3 [vb (c)], .cells U4 (e_layout_Layout l2), .row 0 (ws : List (Int)) Bool.true, .row 0 (inv : List (Int)) Bool.true, .row 0 (found : List (Int)) Bool.true, .row 0 (w3 : List (Int)) Bool.false, .row 0 ((s_.2) : List (Int)) Bool.false]) (sumK (fun (s_ : Int × Int × (List Int)) => J2 (mkEnv [(0, .ptr 0 0), (2, .ptr 2 0), (3, .ptr 3 0), (4, .ptr 4 0), (6, vi (q)), (7, vi ((s_.1))), (8, vi ((s_.2.1)))]) [.pk 0 [ws, cur] (xs) [.row 5], .cells U [.row 6], .cells U2 [.row 8], .cells U3 [vb (c)], .cells U4 (e_layout_Layout l2), .row 0 (ws : List (Int)) Bool.true, .row 0 (inv : List (Int)) Bool.true, .row 0 (found : List (Int)) Bool.true, .row 0 ((s_.2.2) : List (Int)) Bool.false]) (sumK (fun (s_ : Int × Bool × (List Int)) => J1 (mkEnv [(0, .ptr 0 0), (2, .ptr 2 0), (3, .ptr 3 0), (4, .ptr 4 0), (6, vi ((s_.1)))]) [.pk 0 [ws, cur] (xs) [.row 5], .cells U [.row 6], .cells U2 [.row 8], .cells U3 [vb ((s_.2.1))], .cells U4 (e_layout_Layout l2), .row 0 (ws : List (Int)) Bool.true, .row 0 (inv : List (Int)) Bool.true, .row 0 (found : List (Int)) Bool.true, .row 0 ((s_.2.2) : List (Int)) Bool.false]) (fun (x : (List Int) × Bool) => K (.tup []) [.pk 0 [ws, cur] xs [.row 5], .cells U [.row 6], .cells U2 [.row 8], .cells U3 [vb (x.2)], .cells U4 (e_layout_Layout l2), .row 0 ws true, .row 0 inv true, .row 0 found true, .row 0 (x.1) false]))) ?_ (iv, w4)
  intro s_ J3 h
  clear iv
  clear w4
  obtain ⟨iv, w4⟩ := s_
  refine Eq.mpr (nf_law10_PlistEach_1_L3 m_class_Slots m_plist_List m_plist_First ws cur xs right l2 inv found U U2 U3 U4 q c w first f w2 iv w3 w4 K J1 J2 J3) ?_
  have h : So (sb_law10_PlistEach_1_L3 (q) (first) (f) (w3) iv w4) _ := h
  unfold sb_law10_PlistEach_1_L3 at h
  revert h
  exact br_So (req_So (req_So (br_So (fun h => h) (req_So (req_So (br_So (fun h => h) (req_So (req_So (req_So (req_So (br_So (fun h => h) (req_So (req_So (req_So (req_So (fun h => h)))))))))))))))) (br_So (br_So (req_So (req_So (fun h => h))) (fun h => h)) (fun h => h))

theorem lpok_law10_PlistEach_1_L2 (ws : List Int) (cur : List Int) (xs : List Value) (right : Bool) (l2 : T_layout_Layout) (inv : List Int) (found : List Int) (U : TypeId) (U2 : TypeId) (U3 : TypeId) (U4 : TypeId) (q : Int) (c : Bool) (w : List Int) (first : Int) (f : Int) (w2 : List Int) (K : V → Heap → Prop) (J1 : Env → Heap → Prop) (hx : xs.length ≤ 2) : So (lp_law10_PlistEach_1_L2 (ws.length) (cur) (l2) (q) (c) (first, f, w2)) (sumK (fun (s_ : Int × Bool × (List Int)) => J1 (mkEnv [(0, .ptr 0 0), (2, .ptr 2 0), (3, .ptr 3 0), (4, .ptr 4 0), (6, vi ((s_.1)))]) [.pk 0 [ws, cur] (xs) [.row 5], .cells U [.row 6], .cells U2 [.row 8], .cells U3 [vb ((s_.2.1))], .cells U4 (e_layout_Layout l2), .row 0 (ws : List (Int)) Bool.true, .row 0 (inv : List (Int)) Bool.true, .row 0 (found : List (Int)) Bool.true, .row 0 ((s_.2.2) : List (Int)) Bool.false]) (fun (x : (List Int) × Bool) => K (.tup []) [.pk 0 [ws, cur] xs [.row 5], .cells U [.row 6], .cells U2 [.row 8], .cells U3 [vb (x.2)], .cells U4 (e_layout_Layout l2), .row 0 ws true, .row 0 inv true, .row 0 found true, .row 0 (x.1) false])) → Loop (cfg_law10_PlistEach_1 m_class_Slots m_plist_List m_plist_First) (⟨88, 8⟩ : Cx) (at_ (bodyOf Try.f50) [1, 1, 1, 0, 0, 1, 0, 0, 1, 0, 1, 0, 0]) (mkEnv [(0, .ptr 0 0), (2, .ptr 2 0), (3, .ptr 3 0), (4, .ptr 4 0), (6, vi (q)), (7, vi (first)), (8, vi (f))]) [.pk 0 [ws, cur] (xs) [.row 5], .cells U [.row 6], .cells U2 [.row 8], .cells U3 [vb (c)], .cells U4 (e_layout_Layout l2), .row 0 (ws : List (Int)) Bool.true, .row 0 (inv : List (Int)) Bool.true, .row 0 (found : List (Int)) Bool.true, .row 0 (w2 : List (Int)) Bool.false] (contK (cfg_law10_PlistEach_1 m_class_Slots m_plist_List m_plist_First) (⟨88, 8⟩ : Cx) (at_ (bodyOf Try.f50) [1, 1, 1, 0, 0]) [1, 0, 0, 1, 0, 1, 0] (roundK (cfg_law10_PlistEach_1 m_class_Slots m_plist_List m_plist_First) (⟨88, 8⟩ : Cx) (at_ (bodyOf Try.f50) [1, 1, 1, 0, 0]) (contK (cfg_law10_PlistEach_1 m_class_Slots m_plist_List m_plist_First) (⟨88, 8⟩ : Cx) (bodyOf Try.f50) [1, 1, 1, 0] (retK (cfg_law10_PlistEach_1 m_class_Slots m_plist_List m_plist_First) Try.f50 8 K)) J1)) := by
  refine loopK_So (fun (s_ : Int × Int × (List Int)) => (mkEnv [(0, .ptr 0 0), (2, .ptr 2 0), (3, .ptr 3 0), (4, .ptr 4 0), (6, vi (q)), (7, vi ((s_.1))), (8, vi ((s_.2.1)))])) (fun (s_ : Int × Int × (List Int)) => [.pk 0 [ws, cur] (xs) [.row 5], .cells U [.row 6], .cells U2 [.row 8], .cells U3 [vb (c)], .cells U4 (e_layout_Layout l2), .row 0 (ws : List (Int)) Bool.true, .row 0 (inv : List (Int)) Bool.true, .row 0 (found : List (Int)) Bool.true, .row 0 ((s_.2.2) : List (Int)) Bool.false]) (sumK (fun (s_ : Int × Bool × (List Int)) => J1 (mkEnv [(0, .ptr 0 0), (2, .ptr 2 0), (3, .ptr 3 0), (4, .ptr 4 0), (6, vi ((s_.1)))]) [.pk 0 [ws, cur] (xs) [.row 5], .cells U [.row 6], .cells U2 [.row 8], .cells U3 [vb ((s_.2.1))], .cells U4 (e_layout_Layout l2), .row 0 (ws : List (Int)) Bool.true, .row 0 (inv : List (Int)) Bool.true, .row 0 (found : List (Int)) Bool.true, .row 0 ((s_.2.2) : List (Int)) Bool.false]) (fun (x : (List Int) × Bool) => K (.tup []) [.pk 0 [ws, cur] xs [.row 5], .cells U [.row 6], .cells U2 [.row 8], .cells U3 [vb (x.2)], .cells U4 (e_layout_Layout l2), .row 0 ws true, .row 0 inv true, .row 0 found true, .row 0 (x.1) false])) ?_ (first, f, w2)
  intro s_ J2 h
  clear first
  clear f
  clear w2
  obtain ⟨first, f, w2⟩ := s_
  refine Eq.mpr (nf_law10_PlistEach_1_L2 m_class_Slots m_plist_List m_plist_First ws cur xs right l2 inv found U U2 U3 U4 q c w first f w2 K J1 J2) ?_
  have h : So (sb_law10_PlistEach_1_L2 (ws.length) (cur) (l2) (q) (c) first f w2) _ := h
  unfold sb_law10_PlistEach_1_L2 at h
  revert h
  exact bind_So fun y0 => br_So (and_So (by first | exact rfl | assumption | exact trivial | omega) (and_So (by first | exact rfl | assumption | exact trivial | omega) (bind_So fun y1 => lpok_law10_PlistEach_1_L3 ws cur xs right l2 inv found U U2 U3 U4 q c w first f w2 (0) (y1) (w2) K J1 J2 hx))) (br_So (and_So (by first | exact rfl | assumption | exact trivial | omega) (and_So (by first | exact rfl | assumption | exact trivial | omega) (bind_So fun y2 => fun h => h))) (fun h => h))

theorem lpok_law10_PlistEach_1_L1 (ws : List Int) (cur : List Int) (xs : List Value) (right : Bool) (l2 : T_layout_Layout) (inv : List Int) (found : List Int) (U : TypeId) (U2 : TypeId) (U3 : TypeId) (U4 : TypeId) (q : Int) (c : Bool) (w : List Int) (K : V → Heap → Prop) (hx : xs.length ≤ 2) : So (lp_law10_PlistEach_1_L1 (ws.length) (cur) (l2) (q, c, w)) (fun (x : (List Int) × Bool) => K (.tup []) [.pk 0 [ws, cur] xs [.row 5], .cells U [.row 6], .cells U2 [.row 8], .cells U3 [vb (x.2)], .cells U4 (e_layout_Layout l2), .row 0 ws true, .row 0 inv true, .row 0 found true, .row 0 (x.1) false]) → Loop (cfg_law10_PlistEach_1 m_class_Slots m_plist_List m_plist_First) (⟨88, 8⟩ : Cx) (at_ (bodyOf Try.f50) [1, 1, 1, 0, 0]) (mkEnv [(0, .ptr 0 0), (2, .ptr 2 0), (3, .ptr 3 0), (4, .ptr 4 0), (6, vi (q))]) [.pk 0 [ws, cur] (xs) [.row 5], .cells U [.row 6], .cells U2 [.row 8], .cells U3 [vb (c)], .cells U4 (e_layout_Layout l2), .row 0 (ws : List (Int)) Bool.true, .row 0 (inv : List (Int)) Bool.true, .row 0 (found : List (Int)) Bool.true, .row 0 (w : List (Int)) Bool.false] (contK (cfg_law10_PlistEach_1 m_class_Slots m_plist_List m_plist_First) (⟨88, 8⟩ : Cx) (bodyOf Try.f50) [1, 1, 1, 0] (retK (cfg_law10_PlistEach_1 m_class_Slots m_plist_List m_plist_First) Try.f50 8 K)) := by
  refine loopK_So (fun (s_ : Int × Bool × (List Int)) => (mkEnv [(0, .ptr 0 0), (2, .ptr 2 0), (3, .ptr 3 0), (4, .ptr 4 0), (6, vi ((s_.1)))])) (fun (s_ : Int × Bool × (List Int)) => [.pk 0 [ws, cur] (xs) [.row 5], .cells U [.row 6], .cells U2 [.row 8], .cells U3 [vb ((s_.2.1))], .cells U4 (e_layout_Layout l2), .row 0 (ws : List (Int)) Bool.true, .row 0 (inv : List (Int)) Bool.true, .row 0 (found : List (Int)) Bool.true, .row 0 ((s_.2.2) : List (Int)) Bool.false]) (fun (x : (List Int) × Bool) => K (.tup []) [.pk 0 [ws, cur] xs [.row 5], .cells U [.row 6], .cells U2 [.row 8], .cells U3 [vb (x.2)], .cells U4 (e_layout_Layout l2), .row 0 ws true, .row 0 inv true, .row 0 found true, .row 0 (x.1) false]) ?_ (q, c, w)
  intro s_ J1 h
  clear q
  clear c
  clear w
  obtain ⟨q, c, w⟩ := s_
  refine Eq.mpr (nf_law10_PlistEach_1_L1 m_class_Slots m_plist_List m_plist_First ws cur xs right l2 inv found U U2 U3 U4 q c w K J1) ?_
  have h : So (sb_law10_PlistEach_1_L1 (ws.length) (cur) (l2) q c w) _ := h
  unfold sb_law10_PlistEach_1_L1 at h
  revert h
  exact br_So (lpok_law10_PlistEach_1_L2 ws cur xs right l2 inv found U U2 U3 U4 q c w (-1) (1) (w) K J1 hx) (fun h => h)

theorem ok_law10_PlistEach_1 : SpecOK Try.prog elTT 50 (sp_law10_PlistEach_1 m_law10_PlistEach_1) := by
  refine spec_of_exF (cfg := (cfg_law10_PlistEach_1 m_class_Slots m_plist_List m_plist_First)) (cfg_ok rfl rfl rfl) (sig_cons ok_class_Slots (sig_cons ok_plist_List (sig_cons ok_plist_First sig_nil))) (fn := Try.f50) (by kernel_rfl) (by kernel_rfl) (by kernel_rfl) ?_
  intro args H K h
  change tr_law10_PlistEach_1 m_law10_PlistEach_1 args H K at h
  unfold tr_law10_PlistEach_1 at h
  replace h := aC_el h
  obtain ⟨a0, _, rfl, h⟩ := h
  replace h := aC_el h
  obtain ⟨a1, _, rfl, h⟩ := h
  replace h := aC_el h
  obtain ⟨a2, _, rfl, h⟩ := h
  replace h := aC_el h
  obtain ⟨a3, _, rfl, h⟩ := h
  replace h := aC_el h
  obtain ⟨a4, _, rfl, h⟩ := h
  replace h := aN_el h
  obtain ⟨rfl, h⟩ := h
  replace h := aPtr_el h
  obtain ⟨rfl, h⟩ := h
  replace h := aPtr_el h
  obtain ⟨rfl, h⟩ := h
  replace h := aPtr_el h
  obtain ⟨rfl, h⟩ := h
  replace h := aPtr_el h
  obtain ⟨rfl, h⟩ := h
  replace h := aPtr_el h
  obtain ⟨rfl, h⟩ := h
  replace h := aC_el h
  obtain ⟨b0, _, rfl, h⟩ := h
  replace h := aC_el h
  obtain ⟨b1, _, rfl, h⟩ := h
  replace h := aC_el h
  obtain ⟨b2, _, rfl, h⟩ := h
  replace h := aC_el h
  obtain ⟨b3, _, rfl, h⟩ := h
  replace h := aC_el h
  obtain ⟨b4, _, rfl, h⟩ := h
  replace h := aC_el h
  obtain ⟨b5, _, rfl, h⟩ := h
  replace h := aC_el h
  obtain ⟨b6, _, rfl, h⟩ := h
  replace h := aC_el h
  obtain ⟨b7, _, rfl, h⟩ := h
  replace h := aN_el h
  obtain ⟨rfl, h⟩ := h
  replace h := bView_el h
  obtain ⟨ws, cur, xs, rfl, h⟩ := h
  replace h := bCells_el h
  obtain ⟨U, c1, rfl, h⟩ := h
  replace h := aC_el h
  obtain ⟨d1_0, _, rfl, h⟩ := h
  replace h := aRow_el h
  obtain ⟨rfl, h⟩ := h
  replace h := aN_el h
  obtain ⟨rfl, h⟩ := h
  replace h := bCells_el h
  obtain ⟨U2, c2, rfl, h⟩ := h
  replace h := aC_el h
  obtain ⟨d2_0, _, rfl, h⟩ := h
  replace h := aRow_el h
  obtain ⟨rfl, h⟩ := h
  replace h := aN_el h
  obtain ⟨rfl, h⟩ := h
  replace h := bCells_el h
  obtain ⟨U3, c3, rfl, h⟩ := h
  replace h := aC_el h
  obtain ⟨d3_0, _, rfl, h⟩ := h
  replace h := aBool_el h
  obtain ⟨right, rfl, h⟩ := h
  replace h := aN_el h
  obtain ⟨rfl, h⟩ := h
  replace h := bCells_el h
  obtain ⟨U4, c4, rfl, h⟩ := h
  replace h := d_layout_Layout_el h
  obtain ⟨l2, rfl, h⟩ := h
  replace h := bRow_el h
  obtain ⟨(l : List Int), rfl, h⟩ := h
  replace h := bRow_el h
  obtain ⟨(inv : List Int), rfl, h⟩ := h
  replace h := bRow_el h
  obtain ⟨(found : List Int), rfl, h⟩ := h
  obtain ⟨rfl, hx, h⟩ := h
  refine Eq.mpr (nf_law10_PlistEach_1 m_class_Slots m_plist_List m_plist_First ws cur xs right l2 inv found U U2 U3 U4 K) ?_
  unfold m_law10_PlistEach_1 at h
  revert h
  exact req_So (lpok_law10_PlistEach_1_L1 ws cur xs right l2 inv found U U2 U3 U4 (0) (Bool.true) (List.replicate (Int.toNat (↑(List.length inv) : Int)) (0 : Int)) K hx)

theorem ok_law10_lives_1 : SpecOK Try.prog elTT 85 (sp_law10_lives_1 m_law10_lives_1) := by
  refine spec_of_exF (cfg := (cfg_law10_lives_1 m_plist_Link m_plist_List m_plist_Unlink)) (cfg_ok rfl rfl rfl) (sig_cons ok_plist_Link (sig_cons ok_plist_List (sig_cons ok_plist_Unlink sig_nil))) (fn := Try.f85) (by kernel_rfl) (by kernel_rfl) (by kernel_rfl) ?_
  intro args H K h
  change tr_law10_lives_1 m_law10_lives_1 args H K at h
  unfold tr_law10_lives_1 at h
  replace h := aC_el h
  obtain ⟨a0, _, rfl, h⟩ := h
  replace h := aC_el h
  obtain ⟨a1, _, rfl, h⟩ := h
  replace h := aC_el h
  obtain ⟨a2, _, rfl, h⟩ := h
  replace h := aC_el h
  obtain ⟨a3, _, rfl, h⟩ := h
  replace h := aN_el h
  obtain ⟨rfl, h⟩ := h
  replace h := aPtr_el h
  obtain ⟨rfl, h⟩ := h
  replace h := aPtr_el h
  obtain ⟨rfl, h⟩ := h
  replace h := aPtr_el h
  obtain ⟨rfl, h⟩ := h
  replace h := aPtr_el h
  obtain ⟨rfl, h⟩ := h
  replace h := aC_el h
  obtain ⟨b0, _, rfl, h⟩ := h
  replace h := aC_el h
  obtain ⟨b1, _, rfl, h⟩ := h
  replace h := aC_el h
  obtain ⟨b2, _, rfl, h⟩ := h
  replace h := aC_el h
  obtain ⟨b3, _, rfl, h⟩ := h
  replace h := aC_el h
  obtain ⟨b4, _, rfl, h⟩ := h
  replace h := aN_el h
  obtain ⟨rfl, h⟩ := h
  replace h := bView_el h
  obtain ⟨ws, cur, xs, rfl, h⟩ := h
  replace h := bCells_el h
  obtain ⟨U, c1, rfl, h⟩ := h
  replace h := d_layout_Layout_el h
  obtain ⟨l2, rfl, h⟩ := h
  replace h := bCells_el h
  obtain ⟨U2, c2, rfl, h⟩ := h
  replace h := aC_el h
  obtain ⟨d2_0, _, rfl, h⟩ := h
  replace h := aNilS_el h
  obtain ⟨rfl, h⟩ := h
  replace h := aN_el h
  obtain ⟨rfl, h⟩ := h
  replace h := bCells_el h
  obtain ⟨U3, c3, rfl, h⟩ := h
  replace h := aC_el h
  obtain ⟨d3_0, _, rfl, h⟩ := h
  replace h := aNilS_el h
  obtain ⟨rfl, h⟩ := h
  replace h := aN_el h
  obtain ⟨rfl, h⟩ := h
  replace h := bRow_el h
  obtain ⟨(l : List Int), rfl, h⟩ := h
  obtain ⟨rfl, hx, h⟩ := h
  refine Eq.mpr (nf_law10_lives_1 m_plist_Link m_plist_List m_plist_Unlink ws cur xs l2 U U2 U3 K) ?_
  unfold m_law10_lives_1 at h
  revert h
  exact and_So (by first | exact rfl | assumption | exact trivial | omega) (and_So (by first | exact rfl | assumption | exact trivial | omega) (bind_So fun y0 => and_So (by first | exact rfl | assumption | exact trivial | omega) (and_So (by first | exact rfl | assumption | exact trivial | omega) (bind_So fun y1 => and_So (by first | exact rfl | assumption | exact trivial | omega) (and_So (by first | exact rfl | assumption | exact trivial | omega) (bind_So fun y2 => and_So (by first | exact rfl | assumption | exact trivial | omega) (and_So (by first | exact rfl | assumption | exact trivial | omega) (bind_So fun y3 => and_So (by first | exact rfl | assumption | exact trivial | omega) (and_So (by first | exact rfl | assumption | exact trivial | omega) (bind_So fun y4 => fun h => h))))))))))

theorem lpok_law10_after_1_L1 (ws : List Int) (cur : List Int) (xs : List Value) (rv : T_assartref02_Layout) (l2 : T_layout_Layout) (inv : List Int) (acts : List (List Int)) (U : TypeId) (U2 : TypeId) (U3 : TypeId) (U4 : TypeId) (iv : Int) (cur2 : List Int) (w : List Int) (K : V → Heap → Prop) (hx : xs.length ≤ 2) : So (lp_law10_after_1_L1 (ws.length) (l2) (acts) (iv, cur2, w)) (fun (x : (List Int) × (List Int)) => K (.tup []) [.pk 0 [ws, x.1] xs [.row 5], .cells U (e_assartref02_Layout rv), .cells U2 [.row 8], .cells U3 [.row 7], .cells U4 (e_layout_Layout l2), .row 0 ws true, .row 0 inv true, .row 39 acts true, .row 0 (x.2) false]) → Loop (cfg_law10_after_1 m_law10_Where_skipped m_law10_done m_law10_Where_note) (⟨39, 8⟩ : Cx) (at_ (bodyOf Try.f86) [1, 1, 0, 0]) (mkEnv [(0, .ptr 0 0), (2, .ptr 2 0), (3, .ptr 3 0), (4, .ptr 4 0), (6, vi (iv))]) [.pk 0 [ws, cur2] (xs) [.row 5], .cells U (e_api_Config (T_assartref02_Layout.C rv)), .cells U2 [.row 8], .cells U3 [.row 7], .cells U4 (e_layout_Layout l2), .row 0 (ws : List (Int)) Bool.true, .row 0 (inv : List (Int)) Bool.true, .row 39 (acts : List (List Int)) Bool.true, .row 0 (w : List (Int)) Bool.false] (contK (cfg_law10_after_1 m_law10_Where_skipped m_law10_done m_law10_Where_note) (⟨39, 8⟩ : Cx) (bodyOf Try.f86) [1, 1, 0] (retK (cfg_law10_after_1 m_law10_Where_skipped m_law10_done m_law10_Where_note) Try.f86 8 K)) := by
  refine loopK_So (fun (s_ : Int × (List Int) × (List Int)) => (mkEnv [(0, .ptr 0 0), (2, .ptr 2 0), (3, .ptr 3 0), (4, .ptr 4 0), (6, vi ((s_.1)))])) (fun (s_ : Int × (List Int) × (List Int)) => [.pk 0 [ws, (s_.2.1)] (xs) [.row 5], .cells U (e_api_Config (T_assartref02_Layout.C rv)), .cells U2 [.row 8], .cells U3 [.row 7], .cells U4 (e_layout_Layout l2), .row 0 (ws : List (Int)) Bool.true, .row 0 (inv : List (Int)) Bool.true, .row 39 (acts : List (List Int)) Bool.true, .row 0 ((s_.2.2) : List (Int)) Bool.false]) (fun (x : (List Int) × (List Int)) => K (.tup []) [.pk 0 [ws, x.1] xs [.row 5], .cells U (e_assartref02_Layout rv), .cells U2 [.row 8], .cells U3 [.row 7], .cells U4 (e_layout_Layout l2), .row 0 ws true, .row 0 inv true, .row 39 acts true, .row 0 (x.2) false]) ?_ (iv, cur2, w)
  intro s_ J1 h
  clear iv
  clear cur2
  clear w
  obtain ⟨iv, cur2, w⟩ := s_
  refine Eq.mpr (nf_law10_after_1_L1 m_law10_Where_skipped m_law10_done m_law10_Where_note ws cur xs rv l2 inv acts U U2 U3 U4 iv cur2 w K J1) ?_
  have h : So (sb_law10_after_1_L1 (ws.length) (l2) (acts) iv cur2 w) _ := h
  unfold sb_law10_after_1_L1 at h
  revert h
  exact br_So (req_So (req_So (bind_So fun y0 => br_So (req_So (req_So (and_So (by first | exact rfl | assumption | exact trivial | omega) (and_So (by first | exact rfl | assumption | exact trivial | omega) (bind_So fun y1 => br_So (req_So (req_So (bind_So fun y2 => fun h => h))) (fun h => h)))))) (fun h => h)))) (fun h => h)

theorem ok_law10_after_1 : SpecOK Try.prog elTT 86 (sp_law10_after_1 m_law10_after_1) := by
  refine spec_of_exF (cfg := (cfg_law10_after_1 m_law10_Where_skipped m_law10_done m_law10_Where_note)) (cfg_ok rfl rfl rfl) (sig_cons ok_law10_Where_skipped (sig_cons ok_law10_done (sig_cons ok_law10_Where_note sig_nil))) (fn := Try.f86) (by kernel_rfl) (by kernel_rfl) (by kernel_rfl) ?_
  intro args H K h
  change tr_law10_after_1 m_law10_after_1 args H K at h
  unfold tr_law10_after_1 at h
  replace h := aC_el h
  obtain ⟨a0, _, rfl, h⟩ := h
  replace h := aC_el h
  obtain ⟨a1, _, rfl, h⟩ := h
  replace h := aC_el h
  obtain ⟨a2, _, rfl, h⟩ := h
  replace h := aC_el h
  obtain ⟨a3, _, rfl, h⟩ := h
  replace h := aC_el h
  obtain ⟨a4, _, rfl, h⟩ := h
  replace h := aN_el h
  obtain ⟨rfl, h⟩ := h
  replace h := aPtr_el h
  obtain ⟨rfl, h⟩ := h
  replace h := aPtr_el h
  obtain ⟨rfl, h⟩ := h
  replace h := aPtr_el h
  obtain ⟨rfl, h⟩ := h
  replace h := aPtr_el h
  obtain ⟨rfl, h⟩ := h
  replace h := aPtr_el h
  obtain ⟨rfl, h⟩ := h
  replace h := aC_el h
  obtain ⟨b0, _, rfl, h⟩ := h
  replace h := aC_el h
  obtain ⟨b1, _, rfl, h⟩ := h
  replace h := aC_el h
  obtain ⟨b2, _, rfl, h⟩ := h
  replace h := aC_el h
  obtain ⟨b3, _, rfl, h⟩ := h
  replace h := aC_el h
  obtain ⟨b4, _, rfl, h⟩ := h
  replace h := aC_el h
  obtain ⟨b5, _, rfl, h⟩ := h
  replace h := aC_el h
  obtain ⟨b6, _, rfl, h⟩ := h
  replace h := aC_el h
  obtain ⟨b7, _, rfl, h⟩ := h
  replace h := aN_el h
  obtain ⟨rfl, h⟩ := h
  replace h := bView_el h
  obtain ⟨ws, cur, xs, rfl, h⟩ := h
  replace h := bCells_el h
  obtain ⟨U, c1, rfl, h⟩ := h
  replace h := d_assartref02_Layout_el h
  obtain ⟨rv, rfl, h⟩ := h
  replace h := bCells_el h
  obtain ⟨U2, c2, rfl, h⟩ := h
  replace h := aC_el h
  obtain ⟨d2_0, _, rfl, h⟩ := h
  replace h := aRow_el h
  obtain ⟨rfl, h⟩ := h
  replace h := aN_el h
  obtain ⟨rfl, h⟩ := h
  replace h := bCells_el h
  obtain ⟨U3, c3, rfl, h⟩ := h
  replace h := aC_el h
  obtain ⟨d3_0, _, rfl, h⟩ := h
  replace h := aRow_el h
  obtain ⟨rfl, h⟩ := h
  replace h := aN_el h
  obtain ⟨rfl, h⟩ := h
  replace h := bCells_el h
  obtain ⟨U4, c4, rfl, h⟩ := h
  replace h := d_layout_Layout_el h
  obtain ⟨l2, rfl, h⟩ := h
  replace h := bRow_el h
  obtain ⟨(l : List Int), rfl, h⟩ := h
  replace h := bRow_el h
  obtain ⟨(inv : List Int), rfl, h⟩ := h
  replace h := bRow_el h
  obtain ⟨(acts : List (List Int)), rfl, h⟩ := h
  obtain ⟨rfl, hx, h⟩ := h
  refine Eq.mpr (nf_law10_after_1 m_law10_Where_skipped m_law10_done m_law10_Where_note ws cur xs rv l2 inv acts U U2 U3 U4 K) ?_
  unfold m_law10_after_1 at h
  revert h
  exact req_So (lpok_law10_after_1_L1 ws cur xs rv l2 inv acts U U2 U3 U4 (0) (cur) (List.replicate (Int.toNat (T_api_Config.Pages (T_assartref02_Layout.C rv))) (0 : Int)) K hx)

end Go.Rx
end

section
/- The programs of the laws of chapter 10, plainly. -/
namespace Go.Rx
open Go.Proofs

theorem after1_eq {d : T_api_Config} (h : RightC d) (inv : List Int) {acts : List (List Int)} (hl : acts.length ≤ 1000) {w : List Int} (hw : w = List.replicate (layC d).at_11.toNat 0) :
    ∃ w' inn ls, m_law10_after_1 w.length w ⟨d⟩ (layC d) inv acts = some (w', inn) ∧ VOK (layC d) w.length w' ∧ RepW (layC d).at_4 d.Pages w' inn ls := by
  have hpg := h.pages
  have hL := layC_ok h
  have v0 : VOK (layC d) w.length w := by rw [hw]; exact rep_VOK hL
  have r0 : RepW (layC d).at_4 d.Pages w (List.replicate d.Pages.toNat 0) (fun _ _ => []) := by rw [hw]; exact RepW.start hL
  unfold m_law10_after_1
  rw [decide_eq_true (show 0 ≤ d.Pages ∧ d.Pages ≤ d.Pages ∧ d.Pages ≤ 1048576 by omega), cond_true]
  obtain ⟨r, h1, h2⟩ := loopO_ind (step := fun s : Int × List Int × List Int => sb_law10_after_1_L1 w.length (layC d) acts s.1 s.2.1 s.2.2)
    (I := fun s => ∃ j : Nat, ∃ ls, j ≤ acts.length ∧ s.1 = j ∧ VOK (layC d) w.length s.2.1 ∧ RepW (layC d).at_4 d.Pages s.2.1 s.2.2 ls) (μ := fun s => acts.length - s.1.toNat)
    (fun r => ∃ ls, VOK (layC d) w.length r.1 ∧ RepW (layC d).at_4 d.Pages r.1 r.2 ls) (by
      rintro ⟨_, u, inn⟩ ⟨j, ls, hj, rfl, v, r⟩
      simp only at v r ⊢
      by_cases c : j < acts.length
      · have ho : offs (j : Int) 0 = (j : Int) := rfl
        unfold sb_law10_after_1_L1
        rw [decide_eq_true (show (j : Int) < (acts.length : Int) by omega), cond_true, inR_nat c, cond_true, ho, inR_nat c, cond_true, Int.toNat_natCast, act4 j c]
        obtain ⟨b, e1, e2⟩ := skipped_eq r.len ⟨acts[j].getD 0 0, acts[j].getD 1 0, acts[j].getD 2 0, acts[j].getD 3 0⟩
        rw [e1, Option.bind_some, wrap_succ (by omega)]
        cases b with
        | true =>
          exact .inl ⟨_, rfl, ⟨j + 1, ls, c, rfl, v, r⟩, by simp only; omega⟩
        | false =>
          have hm := e2 rfl
          rw [Bool.not_false, cond_true, cond_true, cond_true, done10_eq v r, Option.bind_some]
          have ga : GeoA (layC d).at_4 d.Pages u.length := by have := v.geoA; rw [v.len]; exact this
          obtain ⟨s1, s2⟩ := step10_rep ga r hm
          have v' : VOK (layC d) w.length (step10 (layC d).at_4 d.Pages ls u ⟨acts[j].getD 0 0, acts[j].getD 1 0, acts[j].getD 2 0, acts[j].getD 3 0⟩).2 := ⟨v.lay, by rw [step10_len]; exact v.len, v.all⟩
          have e0 : (layC d).c.Pages = d.Pages := rfl
          rw [e0]
          cases hb : (step10 (layC d).at_4 d.Pages ls u ⟨acts[j].getD 0 0, acts[j].getD 1 0, acts[j].getD 2 0, acts[j].getD 3 0⟩).1 with
          | true =>
            obtain ⟨inn', ls', n1, n2, _⟩ := s2 hb
            rw [cond_true, cond_true, cond_true, n1, Option.bind_some]
            exact .inl ⟨_, rfl, ⟨j + 1, ls', c, rfl, v', n2⟩, by simp only; omega⟩
          | false =>
            rw [cond_false]
            refine .inl ⟨_, rfl, ⟨j + 1, ls, c, rfl, v', ?_⟩, by simp only; omega⟩
            simp only
            rw [s1 hb]; exact r
      · unfold sb_law10_after_1_L1
        rw [decide_eq_false (by omega), cond_false]
        exact .inr ⟨_, rfl, ls, v, r⟩) (0, w, List.replicate d.Pages.toNat 0) ⟨0, _, by omega, rfl, v0, r0⟩
  obtain ⟨ls, h3, h4⟩ := h2
  exact ⟨r.1, r.2, ls, h1, h3, h4⟩

section
variable {L : T_layout_Layout} {nw : Nat} {cur inn : List Int} {ls : Int → Int → List Int}
theorem pList_rep (v : VOK L nw cur) (r : RepW L.at_4 L.c.Pages cur inn ls) (q f : Int) : m_plist_List nw cur L q f = some (lsOf ls q f) := by
  unfold lsOf
  by_cases k : isL q f
  · rw [if_pos k]; exact pList_eq v k (r.lst q f k)
  · rw [if_neg k]; exact pList_no v k
theorem lsOf_len (v : VOK L nw cur) (r : RepW L.at_4 L.c.Pages cur inn ls) (q f : Int) : (lsOf ls q f).length ≤ 256 := by
  have hpg := v.lay.pages
  unfold lsOf
  by_cases k : isL q f
  · rw [if_pos k]; have := (r.lst q f k).len (by omega); omega
  · rw [if_neg k]; simp

theorem out_loop {q f p : Int} {cut : Bool} {cur2 w w2 : List Int} (hw : w.length ≤ 1000) {x : Bool} {u : List Int} (hc : cut = decide (((w.filter (fun y => y != p)).length : Int) < (w.length : Int))) (h2 : w2.length = (w.filter (fun y => y != p)).length)
    (hu : m_plist_Unlink nw cur2 L p q f = some (x, u)) : lp_law10_PlistOut_1_L1 nw L q f p cut cur2 w w2 (0, 0) = some (u, !x) := by
  obtain ⟨r, h1, rfl⟩ := loopO_ind (step := fun s : Int × Int => sb_law10_PlistOut_1_L1 nw L q f p cut cur2 w w2 s.1 s.2)
    (I := fun s => ∃ i : Nat, i ≤ w.length ∧ s = ((((w.take i).filter (fun y => y != p)).length : Int), (i : Int))) (μ := fun s => w.length - s.2.toNat) (fun r => r = (u, !x)) (by
      rintro _ ⟨i, hi, rfl⟩
      simp only [sb_law10_PlistOut_1_L1]
      by_cases c : i < w.length
      · have ho : offs (i : Int) 0 = (i : Int) := rfl
        have hlen := List.length_filter_le (fun y => y != p) (w.take i)
        rw [List.length_take] at hlen
        have hs := filter_snoc c p
        rw [decide_eq_true (show (i : Int) < (w.length : Int) by omega), cond_true, inR_nat c, cond_true, ho, inR_nat c, cond_true, Int.toNat_natCast, wrap_succ (by omega), wrap_succ (by omega)]
        cases hb : (w.getD i 0 != p) with
        | true =>
          rw [hb, cond_true] at hs
          refine .inl ⟨_, rfl, ⟨i + 1, c, ?_⟩, by simp only; omega⟩
          rw [hs, List.length_append]; rfl
        | false =>
          rw [hb, cond_false, List.append_nil] at hs
          refine .inl ⟨_, rfl, ⟨i + 1, c, ?_⟩, by simp only; omega⟩
          rw [hs]
      · have e : i = w.length := by omega
        subst e
        rw [decide_eq_false (by omega), cond_false, List.take_length, hc, beq_self_eq_true, cond_true, h2, beq_self_eq_true, cond_true, hu]
        exact .inr ⟨_, rfl, rfl⟩) (0, 0) ⟨0, by omega, by simp⟩
  exact h1

theorem out1_eq (v : VOK L nw cur) (r : RepW L.at_4 L.c.Pages cur inn ls) {p : Int} (hp : 0 ≤ p ∧ p < L.c.Pages) (q f : Int) (right : Bool) :
    ∃ u, m_law10_PlistOut_1 nw cur L q f p right inn = some (u, true) ∧ u.length = cur.length ∧ (wd inn p = 0 → u = cur) := by
  have hpg := v.lay.pages
  have hlen := r.len
  have hwl := lsOf_len v r q f
  have hin : inR p inn.length = true := inR_int hp.1 (by omega)
  unfold m_law10_PlistOut_1
  rw [pList_rep v r, Option.bind_some, offs_nn hp.1, hin, cond_true, cond_true]
  have hwd : inn.getD p.toNat 0 = wd inn p := rfl
  rw [hwd]
  have Ul := fun p => Unlink_eq v (p := p) (c := q) (f := f) (xs := ls q f) (fun k => r.lst q f k)
  have Lk := Link_eq v (p := p) (c := q) (f := f) (xs := ls q f) (fun k => r.lst q f k)
  by_cases z : wd inn p = 0
  · have e : (wd inn p != 0) = false := by rw [z]; rfl
    rw [e, cond_false, Lk, Option.bind_some, Slots_eq]
    simp only [Option.bind_some]
    by_cases k : isL q f
    · have hn : p ∉ ls q f := fun m => by
        have := ((r.mem _ _ k _).1 m).2
        have := k.1; have := k.2; omega
      have g : Geo L.at_4 L.c.Pages cur.length (hdI (L.at_4 + 2 * L.c.Pages) q f) := by have := v.geoA.geo k; rw [v.len]; exact this
      obtain ⟨n1, n2⟩ := link_ok g (r.lst _ _ k) hp hn
      have v1 : VOK L nw (linkW L.at_4 L.c.Pages cur (hdI (L.at_4 + 2 * L.c.Pages) q f) p) := ⟨v.lay, by rw [linkW_len]; exact v.len, v.all⟩
      have elsOf : lsOf ls q f = ls q f := by unfold lsOf; rw [if_pos k]
      rw [elsOf] at hwl ⊢
      rw [if_pos ⟨k, hp⟩]
      simp only
      rw [pList_eq v1 k n1]
      simp only [Option.bind_some]
      have hk2 := k.2
      have U2 := Unlink_eq v1 (p := p) (c := q) (f := f) (fun _ => n1)
      rw [if_pos ⟨k, by simp⟩] at U2
      have g1 : Geo L.at_4 L.c.Pages (linkW L.at_4 L.c.Pages cur (hdI (L.at_4 + 2 * L.c.Pages) q f) p).length (hdI (L.at_4 + 2 * L.c.Pages) q f) := by rw [linkW_len]; exact g
      obtain ⟨m1, m2, m3, m4⟩ := unlink_ok g1 n1 (k := 0) (by simp)
      simp only [List.getD_cons_zero, List.eraseIdx_cons_zero] at m1 m2 m3 m4
      have v2 : VOK L nw (unlinkW L.at_4 L.c.Pages (linkW L.at_4 L.c.Pages cur (hdI (L.at_4 + 2 * L.c.Pages) q f) p) (hdI (L.at_4 + 2 * L.c.Pages) q f) p) := ⟨v.lay, by rw [unlinkW_len, linkW_len]; exact v.len, v.all⟩
      have e1 : (((p :: ls q f).length : Int) == IntKind.i64.wrap (((ls q f).length : Int) + 1)) = true := by
        rw [wrap_succ (by omega)]; simp
      rw [decide_eq_true (show slotsC q > 0 by omega), cond_true, decide_eq_true (show f ≥ 1 from hk2.1), cond_true, decide_eq_true hk2.2, beq_self_eq_true, cond_true, Bool.not_true, cond_false, e1, cond_true]
      have e2 : offs 0 0 = 0 := rfl
      rw [e2, inR_int (by omega) (by simp), cond_true, cond_true, List.getD_cons_zero, beq_self_eq_true, cond_true, U2, Option.bind_some]
      simp only
      rw [beq_self_eq_true, cond_true, pList_eq v2 k m1, Option.bind_some, Same_eq (by omega), Option.bind_some, decide_eq_true rfl]
      refine ⟨_, rfl, by rw [unlinkW_len, linkW_len], fun _ => ?_⟩
      have hnone := r.none p hp.1 hp.2 z
      have o : Off L.at_4 L.c.Pages cur (unlinkW L.at_4 L.c.Pages (linkW L.at_4 L.c.Pages cur (hdI (L.at_4 + 2 * L.c.Pages) q f) p) (hdI (L.at_4 + 2 * L.c.Pages) q f) p) (hdI (L.at_4 + 2 * L.c.Pages) q f) (p :: ls q f) :=
        ⟨by rw [unlinkW_len, linkW_len], fun b b0 b1 b2 => by rw [m2.off b b0 b1 b2, n2.off b b0 b1 b2]⟩
      exact m1.det (r.lst q f k) o (Off.refl _ _ _ _ _) (fun y hy hny => by
        rcases List.mem_cons.1 hy with rfl | hy
        · rw [m3, m4, hnone.1, hnone.2]; exact ⟨rfl, rfl⟩
        · exact (hny hy).elim)
    · have elsOf : lsOf ls q f = [] := by unfold lsOf; rw [if_neg k]
      rw [if_neg (fun x => k x.1)]
      simp only
      rw [pList_rep v r, elsOf]
      simp only [Option.bind_some, Ul]
      rw [if_neg (fun x => k x.1)]
      simp only [Option.bind_some]
      rw [pList_rep v r, elsOf]
      simp only [Option.bind_some]
      rw [Same_eq (by simp)]
      simp only [Option.bind_some, beq_self_eq_true, cond_true, decide_true]
      by_cases s1 : slotsC q > 0
      · rw [decide_eq_true s1, cond_true]
        by_cases s2 : f ≥ 1
        · have hq : 0 ≤ q ∧ q < 5 := by
            by_cases hq : 0 ≤ q ∧ q < 5
            · exact hq
            · exfalso
              have : slotsC q = 0 := by
                unfold slotsC
                rw [if_neg (by omega), if_neg (by omega), if_neg (by omega), if_neg (by omega), if_neg (by omega)]
              omega
          have s3 : ¬ f ≤ slotsC q := fun h => k ⟨hq, s2, h⟩
          rw [decide_eq_true s2, cond_true, decide_eq_false s3]
          exact ⟨_, rfl, rfl, fun _ => rfl⟩
        · rw [decide_eq_false s2, cond_false]
          exact ⟨_, rfl, rfl, fun _ => rfl⟩
      · rw [decide_eq_false s1, cond_false]
        exact ⟨_, rfl, rfl, fun _ => rfl⟩
  · have e : (wd inn p != 0) = true := by simpa using z
    rw [e, cond_true, Ul, Option.bind_some]
    by_cases k : isL q f
    · have elsOf : lsOf ls q f = ls q f := by unfold lsOf; rw [if_pos k]
      rw [elsOf] at hwl ⊢
      by_cases m : p ∈ ls q f
      · rw [if_pos ⟨k, m⟩]
        simp only
        obtain ⟨i, hi, rfl⟩ := mem_getD m
        have g : Geo L.at_4 L.c.Pages cur.length (hdI (L.at_4 + 2 * L.c.Pages) q f) := by have := v.geoA.geo k; rw [v.len]; exact this
        obtain ⟨n1, n2, n3, n4⟩ := unlink_ok g (r.lst _ _ k) hi
        have v1 : VOK L nw (unlinkW L.at_4 L.c.Pages cur (hdI (L.at_4 + 2 * L.c.Pages) q f) ((ls q f).getD i 0)) := ⟨v.lay, by rw [unlinkW_len]; exact v.len, v.all⟩
        have hnd := (r.lst _ _ k).nd
        have U2 := Unlink_eq v1 (p := (ls q f).getD i 0) (c := q) (f := f) (fun _ => n1)
        rw [if_neg (fun x => ((mem_erase_nd hnd hi _).1 x.2).2 rfl)] at U2
        have hel : ((ls q f).eraseIdx i).length = (ls q f).length - 1 := by rw [List.length_eraseIdx, if_pos hi]
        rw [pList_eq v1 k n1, Option.bind_some, out_loop (by omega) (by rw [filter_erase hnd hi, hel, decide_eq_true (by omega)]) (by rw [filter_erase hnd hi]) U2]
        exact ⟨_, rfl, unlinkW_len _ _ _ _ _, fun h => (z h).elim⟩
      · rw [if_neg (fun x => m x.2)]
        simp only
        rw [pList_rep v r, elsOf, Option.bind_some, out_loop (x := false) (u := cur) (by omega) (by rw [filter_not m, decide_eq_false (by omega)]) (by rw [filter_not m]) (by rw [Ul, if_neg (fun x => m x.2)])]
        exact ⟨_, rfl, rfl, fun _ => rfl⟩
    · have elsOf : lsOf ls q f = [] := by unfold lsOf; rw [if_neg k]
      rw [if_neg (fun x => k x.1)]
      simp only
      rw [pList_rep v r, elsOf, Option.bind_some, out_loop (x := false) (u := cur) (by simp) (by simp) (by simp) (by rw [Ul, if_neg (fun x => k x.1)])]
      exact ⟨_, rfl, rfl, fun _ => rfl⟩
end
end Go.Rx
end

section
/- Each page is in its list: the last program of chapter 10, plainly. -/
namespace Go.Rx
open Go.Proofs

section
variable {L : T_layout_Layout} {nw : Nat} {cur inn : List Int} {ls : Int → Int → List Int}

/-- Pages that were come by: in lists ahead, or among the first i of this one. -/
def Seen (ls : Int → Int → List Int) (q f : Int) (i : Nat) (p : Int) : Prop :=
  (∃ c' f', isL c' f' ∧ (c' < q ∨ (c' = q ∧ f' < f)) ∧ p ∈ ls c' f') ∨ (isL q f ∧ p ∈ (ls q f).take i)
structure FoundW (pg : Int) (inn w : List Int) (S : Int → Prop) : Prop where
  len : w.length = inn.length
  yes : ∀ p, 0 ≤ p → p < pg → S p → wd w p = wd inn p
  no : ∀ p, 0 ≤ p → p < pg → ¬ S p → wd w p = 0

theorem mem_take {xs : List Int} {i : Nat} {x : Int} (h : i < xs.length) : x ∈ xs.take (i + 1) ↔ x ∈ xs.take i ∨ x = xs.getD i 0 := by
  rw [take_snoc h, List.mem_append, List.mem_singleton]
theorem nd_take {xs : List Int} (nd : xs.Nodup) {i : Nat} (h : i < xs.length) : xs.getD i 0 ∉ xs.take i := by
  intro m
  obtain ⟨j, hj, e⟩ := mem_getD m
  rw [List.length_take] at hj
  have e2 : (xs.take i).getD j 0 = xs.getD j 0 := by simp [List.getD, List.getElem?_take, show j < i by omega]
  rw [e2] at e
  exact nd_ne nd (by omega) h (by omega) e

/-- The first page found so far. -/
def FirstSo (ls : Int → Int → List Int) (q f first : Int) : Prop :=
  (first = -1 ∧ firstF ls q 1 (slotsC q).toNat = firstF ls q f (slotsC q + 1 - f).toNat) ∨ (0 ≤ first ∧ firstF ls q 1 (slotsC q).toNat = first)

theorem each3 (v : VOK L nw cur) (r : RepW L.at_4 L.c.Pages cur inn ls) {q f first : Int} (k : isL q f) (hF : FirstSo ls q f first) {w : List Int} (hw : FoundW L.c.Pages inn w (Seen ls q f 0)) :
    ∃ first' w', lp_law10_PlistEach_1_L3 q first f (ls q f) (0, w) = some (.inl (first', f + 1, w')) ∧ FirstSo ls q (f + 1) first' ∧ FoundW L.c.Pages inn w' (Seen ls q f (ls q f).length) := by
  have hpg := v.lay.pages
  have hlen := r.len
  have hl := (r.lst q f k).len (by omega)
  have hk1 := k.1; have hk2 := k.2; have hs := slotsC_le q
  have hnd := (r.lst q f k).nd
  obtain ⟨rr, h1, first', w', rfl, h2, h3⟩ := loopO_ind (step := fun s : Int × List Int => sb_law10_PlistEach_1_L3 q first f (ls q f) s.1 s.2)
    (I := fun s => ∃ i : Nat, i ≤ (ls q f).length ∧ s.1 = i ∧ FoundW L.c.Pages inn s.2 (Seen ls q f i)) (μ := fun s => (ls q f).length - s.1.toNat)
    (fun rr => ∃ first' w', rr = .inl (first', f + 1, w') ∧ FirstSo ls q (f + 1) first' ∧ FoundW L.c.Pages inn w' (Seen ls q f (ls q f).length)) (by
      rintro ⟨_, u⟩ ⟨i, hi, rfl, hu⟩
      simp only at hu ⊢
      simp only [sb_law10_PlistEach_1_L3]
      by_cases c : i < (ls q f).length
      · have ho : offs (i : Int) 0 = (i : Int) := rfl
        have hx := (r.lst q f k).inn _ (getD_mem c)
        have hcode := ((r.mem q f k _).1 (getD_mem c)).2
        have hul := hu.len
        have hns : ¬ Seen ls q f i ((ls q f).getD i 0) := by
          rintro (⟨c', f', k', hlt, hm⟩ | ⟨_, hm⟩)
          · have h3 := ((r.mem c' f' k' _).1 hm).2
            have := code_inj k' k (by omega)
            omega
          · exact nd_take hnd c hm
        have hz : u.getD ((ls q f).getD i 0).toNat 0 = 0 := hu.no _ hx.1 hx.2 hns
        have ox : offs ((ls q f).getD i 0) 0 = (ls q f).getD i 0 := offs_nn hx.1
        have rx : inR ((ls q f).getD i 0) u.length = true := inR_int hx.1 (by omega)
        rw [decide_eq_true (show (i : Int) < ((ls q f).length : Int) by omega)]
        simp only [cond_true, ho, inR_nat c, Int.toNat_natCast, ox, rx, hz]
        rw [decide_eq_false (show ¬ (ls q f).getD i 0 < 0 by omega), cond_false, decide_eq_false (show ¬ (ls q f).getD i 0 ≥ (u.length : Int) by omega), cond_false, show ((0 : Int) != 0) = false from rfl, cond_false, wrap_succ (by omega), wrap_id (x := 100 * q) (by omega) (by omega), wrap_id (x := 100 * q + f) (by omega) (by omega)]
        refine .inl ⟨_, rfl, ⟨i + 1, c, rfl, ?_, ?_, ?_⟩, by simp only; omega⟩
        · rw [List.length_set]; exact hul
        · intro p p0 p1 hS
          rw [wd_set ⟨hx.1, by omega⟩ p0]
          by_cases e : p = (ls q f).getD i 0
          · rw [if_pos e, e, hcode]
          · rw [if_neg e]
            refine hu.yes p p0 p1 ?_
            rcases hS with hS | ⟨_, hS⟩
            · exact .inl hS
            · rcases (mem_take c).1 hS with hS | hS
              · exact .inr ⟨k, hS⟩
              · exact (e hS).elim
        · intro p p0 p1 hS
          rw [wd_set ⟨hx.1, by omega⟩ p0]
          by_cases e : p = (ls q f).getD i 0
          · exact (hS (.inr ⟨k, (mem_take c).2 (.inr e)⟩)).elim
          · rw [if_neg e]
            refine hu.no p p0 p1 (fun h => hS ?_)
            rcases h with h | ⟨_, h⟩
            · exact .inl h
            · exact .inr ⟨k, (mem_take c).2 (.inl h)⟩
      · have e : i = (ls q f).length := by omega
        subst e
        rw [decide_eq_false (by omega), cond_false, wrap_id (x := f + 1) (by omega) (by omega)]
        have hn : (slotsC q + 1 - f).toNat = (slotsC q + 1 - (f + 1)).toNat + 1 := by omega
        rcases hF with ⟨rfl, hF⟩ | ⟨h0, hF⟩
        · rw [decide_eq_true (by omega), cond_true]
          rw [hn] at hF
          simp only [firstF] at hF
          cases hxs : ls q f with
          | nil =>
            rw [hxs] at hF hu
            rw [decide_eq_false (by simp), cond_false]
            exact .inr ⟨_, rfl, _, _, rfl, .inl ⟨rfl, hF⟩, hu⟩
          | cons x t =>
            have hx := (r.lst q f k).inn x (by rw [hxs]; simp)
            rw [hxs] at hF hu
            rw [decide_eq_true (by simp), cond_true, inR_int (by omega) (by simp), cond_true, show offs 0 0 = 0 from rfl, inR_int (by omega) (by simp), cond_true, List.getD_cons_zero]
            exact .inr ⟨_, rfl, _, _, rfl, .inr ⟨hx.1, hF⟩, hu⟩
        · rw [decide_eq_false (by omega), cond_false]
          exact .inr ⟨_, rfl, _, _, rfl, .inr ⟨h0, hF⟩, hu⟩) (0, w) ⟨0, by omega, rfl, hw⟩
  exact ⟨first', w', h1, h2, h3⟩

theorem FoundW.congr {pg : Int} {inn w : List Int} {S S' : Int → Prop} (h : FoundW pg inn w S) (e : ∀ p, S p ↔ S' p) : FoundW pg inn w S' :=
  ⟨h.len, fun p p0 p1 s => h.yes p p0 p1 ((e p).2 s), fun p p0 p1 s => h.no p p0 p1 (fun x => s ((e p).1 x))⟩

theorem seen_next {q f : Int} (k : isL q f) (p : Int) : Seen ls q f (ls q f).length p ↔ Seen ls q (f + 1) 0 p := by
  unfold Seen
  rw [List.take_length]
  constructor
  · rintro (⟨c', f', k', h, m⟩ | ⟨_, m⟩)
    · exact .inl ⟨c', f', k', by omega, m⟩
    · exact .inl ⟨q, f, k, by omega, m⟩
  · rintro (⟨c', f', k', h, m⟩ | ⟨_, m⟩)
    · by_cases e : c' = q ∧ f' = f
      · obtain ⟨rfl, rfl⟩ := e; exact .inr ⟨k, m⟩
      · exact .inl ⟨c', f', k', by omega, m⟩
    · simp at m
theorem seen_class {q : Int} (p : Int) : Seen ls q (slotsC q + 1) 0 p ↔ Seen ls (q + 1) 1 0 p := by
  unfold Seen
  constructor
  · rintro (⟨c', f', k', h, m⟩ | ⟨_, m⟩)
    · exact .inl ⟨c', f', k', by omega, m⟩
    · simp at m
  · rintro (⟨c', f', k', h, m⟩ | ⟨_, m⟩)
    · refine .inl ⟨c', f', k', ?_, m⟩
      have := k'.2
      by_cases e : c' = q
      · right; exact ⟨e, by rw [e] at this; omega⟩
      · left; omega
    · simp at m

theorem each2 (v : VOK L nw cur) (r : RepW L.at_4 L.c.Pages cur inn ls) {q : Int} (hq : 0 ≤ q ∧ q < 5) {w : List Int} (hw : FoundW L.c.Pages inn w (Seen ls q 1 0)) :
    ∃ w', lp_law10_PlistEach_1_L2 nw cur L q true (-1, 1, w) = some (.inl (q + 1, true, w')) ∧ FoundW L.c.Pages inn w' (Seen ls (q + 1) 1 0) := by
  have hs := slotsC_le q
  obtain ⟨rr, h1, w', rfl, h2⟩ := loopO_ind (step := fun s : Int × Int × List Int => sb_law10_PlistEach_1_L2 nw cur L q true s.1 s.2.1 s.2.2)
    (I := fun s => 1 ≤ s.2.1 ∧ s.2.1 ≤ slotsC q + 1 ∧ FirstSo ls q s.2.1 s.1 ∧ FoundW L.c.Pages inn s.2.2 (Seen ls q s.2.1 0)) (μ := fun s => (slotsC q + 1 - s.2.1).toNat)
    (fun rr => ∃ w', rr = .inl (q + 1, true, w') ∧ FoundW L.c.Pages inn w' (Seen ls (q + 1) 1 0)) (by
      rintro ⟨first, f, u⟩ ⟨i1, i2, i3, i4⟩
      simp only at i1 i2 i3 i4 ⊢
      simp only [sb_law10_PlistEach_1_L2, Slots_eq, Option.bind_some]
      by_cases c : f ≤ slotsC q
      · have k : isL q f := ⟨hq, i1, c⟩
        obtain ⟨first', w', a1, a2, a3⟩ := each3 v r k i3 i4
        have e : lsOf ls q f = ls q f := by unfold lsOf; rw [if_pos k]
        rw [decide_eq_true c, cond_true, pList_rep v r, e, Option.bind_some, a1]
        exact .inl ⟨_, rfl, ⟨by simp only; omega, by simp only; omega, a2, a3.congr (seen_next k)⟩, by simp only; omega⟩
      · have e : f = slotsC q + 1 := by omega
        subst e
        rw [decide_eq_false c, cond_false, cond_true, pFirst_eq v (fun f k => r.lst q f k), Option.bind_some, wrap_id (by omega) (by omega)]
        have hfi : firstF ls q 1 (slotsC q).toNat = first := by
          rcases i3 with ⟨rfl, h⟩ | ⟨_, h⟩
          · rw [h, show (slotsC q + 1 - (slotsC q + 1)).toNat = 0 by omega]; rfl
          · exact h
        rw [hfi, beq_self_eq_true]
        exact .inr ⟨_, rfl, _, rfl, i4.congr seen_class⟩) (-1, 1, w) ⟨by simp only; omega, by simp only; omega, .inl ⟨rfl, by simp only; congr 1; omega⟩, hw⟩
  exact ⟨w', h1, h2⟩

theorem each_eq (v : VOK L nw cur) (r : RepW L.at_4 L.c.Pages cur inn ls) (right : Bool) (found : List Int) : m_law10_PlistEach_1 nw cur right L inn found = some (inn, true) := by
  have hpg := v.lay.pages
  have hlen := r.len
  unfold m_law10_PlistEach_1
  rw [decide_eq_true (by omega), cond_true]
  have hz : ∀ (n : Nat) (b : Int), wd (List.replicate n 0) b = 0 := fun n b => by
    simp [wd, List.getD, List.getElem?_replicate]; split <;> rfl
  obtain ⟨rr, h1, w', rfl, h2⟩ := loopO_ind (step := fun s : Int × Bool × List Int => sb_law10_PlistEach_1_L1 nw cur L s.1 s.2.1 s.2.2)
    (I := fun s => 0 ≤ s.1 ∧ s.1 ≤ 5 ∧ s.2.1 = true ∧ FoundW L.c.Pages inn s.2.2 (Seen ls s.1 1 0)) (μ := fun s => (5 - s.1).toNat)
    (fun rr => ∃ w', rr = (w', true) ∧ FoundW L.c.Pages inn w' (Seen ls 5 1 0)) (by
      rintro ⟨q, c, u⟩ ⟨i1, i2, i3, i4⟩
      simp only at i1 i2 i3 i4 ⊢
      subst i3
      simp only [sb_law10_PlistEach_1_L1]
      by_cases c : q < 5
      · obtain ⟨w', a1, a2⟩ := each2 v r ⟨i1, c⟩ i4
        rw [decide_eq_true c, cond_true, a1]
        exact .inl ⟨_, rfl, ⟨by simp only; omega, by simp only; omega, rfl, a2⟩, by simp only; omega⟩
      · have e : q = 5 := by omega
        subst e
        rw [decide_eq_false c, cond_false]
        exact .inr ⟨_, rfl, _, rfl, i4⟩) (0, true, List.replicate (Int.toNat (inn.length : Int)) 0) ⟨by omega, by omega, rfl, by simp, fun p p0 p1 s => by
        exfalso
        rcases s with ⟨c', f', k', h, m⟩ | ⟨_, m⟩
        · have := k'.1; have := k'.2; omega
        · simp at m, fun p p0 p1 s => hz _ _⟩
  have e : w' = inn := wd_ext h2.len (fun b hb => by
    by_cases c : b < L.c.Pages
    · rcases r.some b hb c with h | ⟨c', f', k', h⟩
      · by_cases s : Seen ls 5 1 0 b
        · exact h2.yes b hb c s
        · rw [h2.no b hb c s, h]
      · have hm : b ∈ ls c' f' := (r.mem c' f' k' b).2 ⟨⟨hb, c⟩, h⟩
        exact h2.yes b hb c (.inl ⟨c', f', k', by have := k'.1; omega, hm⟩)
    · have hwl := h2.len
      have o1 : wd w' b = 0 := by simp [wd, List.getD, show w'.length ≤ b.toNat by omega]
      have o2 : wd inn b = 0 := by simp [wd, List.getD, show inn.length ≤ b.toNat by omega]
      rw [o1, o2])
  rw [e] at h1
  exact h1
end
end Go.Rx
end

section
/- view.Do, by which program it runs. -/
namespace Go.Rx
theorem Req_el {b : Bool} {A : Prop} (h : Req b A) : b = true ∧ A := by
  cases b with
  | true => exact ⟨rfl, h⟩
  | false => exact h.elim
/-- view.Do by which program it runs. -/
def altD (g : FuncId) (s t : Spec) : Spec := ⟨fun args H K => match args with
  | [_, .fn f _] => bif Nat.beq f g then s.tr args H K else t.tr args H K
  | _ => False, true⟩
theorem altD_ok {P : Program} {e : ET} {n g : FuncId} {s t : Spec} (hs : SpecOK P e n s) (ht : SpecOK P e n t) : SpecOK P e n (altD g s t) := by
  refine ⟨hs.1, fun args H K h => ?_⟩
  unfold altD at h
  simp only at h
  split at h
  · rename_i f _
    cases hb : Nat.beq f g with
    | true => rw [hb] at h; exact hs.2 _ H K h
    | false => rw [hb] at h; exact ht.2 _ H K h
  · exact h.elim
/-- A function by which function it is handed. -/
def altP (p : Nat) (g : FuncId) (s t : Spec) : Spec := ⟨fun args H K => match args[p]? with
  | some (.fn f _) => bif Nat.beq f g then s.tr args H K else t.tr args H K
  | _ => False, s.ro⟩
theorem altP_ok {P : Program} {e : ET} {n g : FuncId} {p : Nat} {s t : Spec} (hs : SpecOK P e n s) (ht : SpecOK P e n t) : SpecOK P e n (altP p g s t) := by
  refine ⟨hs.1, fun args H K h => ?_⟩
  unfold altP at h
  simp only at h
  split at h
  · rename_i f _ _
    cases hb : Nat.beq f g with
    | true => rw [hb] at h; exact hs.2 _ H K h
    | false => rw [hb] at h; exact ht.2 _ H K h
  · exact h.elim
end Go.Rx
end

section
/- view.Do of the programs of chapter 10. -/
namespace Go.Rx
open Go.Proofs
set_option maxRecDepth 100000
set_option maxHeartbeats 4000000
def tr_do_law10_PlistAgree_1 (m_ : Nat → (List Int) → T_layout_Layout → Int → Int → Option ((List Int))) (args : List V) (H : Heap) (K : V → Heap → Prop) : Prop :=
  aC args fun a0 r => aC r fun a1 r => aN r <| aRow 0 a0 <| aFn 36 a1 fun cs => aC cs fun p0 r => aC r fun p1 r => aC r fun p2 r => aC r fun p3 r => aN r <| aPtr 1 p0 <| aPtr 2 p1 <| aPtr 3 p2 <| aPtr 4 p3 <| aC H fun b5 r => aC r fun b1 r => aC r fun b2 r => aC r fun b3 r => aC r fun b4 r => aN r <| bRow 0 true b5 fun (ws : List Int) => bCells b1 fun U c1 => d_layout_Layout c1 fun l2 => bCells b2 fun U2 c2 => aC c2 fun d2_0 r => aInt d2_0 fun q => aN r <| bCells b3 fun U3 c3 => aC c3 fun d3_0 r => aInt d3_0 fun f => aN r <| bCells b4 fun U4 c4 => aC c4 fun d4_0 r => aNilS d4_0 <| aN r <| Req (Nat.ble ws.length 1048576) (So (m_ (ws.length) ws l2 q f) fun x => ∀ nd : List Pr, K (.tup [.row 5, .row 6, vi 0]) [.row 0 ws true, .cells U (e_layout_Layout l2), .cells U2 [vi q], .cells U3 [vi f], .cells U4 [.row 7], .row 0 (ws) false, .row 2 nd false, .row 0 (x) false])
def sp_do_law10_PlistAgree_1 (m_ : Nat → (List Int) → T_layout_Layout → Int → Int → Option ((List Int))) : Spec := ⟨tr_do_law10_PlistAgree_1 m_, (true : Bool)⟩
noncomputable def cfgDo_law10_PlistAgree_1 (m_ : Nat → (List Int) → T_layout_Layout → Int → Int → Option ((List Int))) : Cfg := cfgDo 36 (sp_law10_PlistAgree_1 m_) [(0, none), (7, none), (10, none), (31, none), (32, none), (33, none)]

def tr_do_law10_PlistOut_1 (m_ : Nat → (List Int) → T_layout_Layout → Int → Int → Int → Bool → (List Int) → Option ((List Int) × Bool)) (args : List V) (H : Heap) (K : V → Heap → Prop) : Prop :=
  aC args fun a0 r => aC r fun a1 r => aN r <| aRow 0 a0 <| aFn 38 a1 fun cs => aC cs fun p0 r => aC r fun p1 r => aC r fun p2 r => aC r fun p3 r => aC r fun p4 r => aC r fun p5 r => aN r <| aPtr 1 p0 <| aPtr 2 p1 <| aPtr 3 p2 <| aPtr 4 p3 <| aPtr 5 p4 <| aPtr 6 p5 <| aC H fun b7 r => aC r fun b1 r => aC r fun b2 r => aC r fun b3 r => aC r fun b4 r => aC r fun b5 r => aC r fun b6 r => aC r fun b8 r => aN r <| bRow 0 true b7 fun (ws : List Int) => bCells b1 fun U c1 => d_layout_Layout c1 fun l2 => bCells b2 fun U2 c2 => aC c2 fun d2_0 r => aInt d2_0 fun q => aN r <| bCells b3 fun U3 c3 => aC c3 fun d3_0 r => aInt d3_0 fun f => aN r <| bCells b4 fun U4 c4 => aC c4 fun d4_0 r => aRow 7 d4_0 <| aN r <| bCells b5 fun U5 c5 => aC c5 fun d5_0 r => aInt d5_0 fun p => aN r <| bCells b6 fun U6 c6 => aC c6 fun d6_0 r => aBool d6_0 fun right => aN r <| bRow 0 true b8 fun (inv : List Int) => Req (Nat.ble ws.length 1048576) (So (m_ (ws.length) ws l2 q f p right inv) fun x => ∀ nd : List Pr, K (.tup [.row 8, .row 9, vi 0]) [.row 0 ws true, .cells U (e_layout_Layout l2), .cells U2 [vi q], .cells U3 [vi f], .cells U4 [.row 7], .cells U5 [vi p], .cells U6 [vb (x.2)], .row 0 inv true, .row 0 (x.1) false, .row 2 nd false])
def sp_do_law10_PlistOut_1 (m_ : Nat → (List Int) → T_layout_Layout → Int → Int → Int → Bool → (List Int) → Option ((List Int) × Bool)) : Spec := ⟨tr_do_law10_PlistOut_1 m_, (true : Bool)⟩
noncomputable def cfgDo_law10_PlistOut_1 (m_ : Nat → (List Int) → T_layout_Layout → Int → Int → Int → Bool → (List Int) → Option ((List Int) × Bool)) : Cfg := cfgDo 38 (sp_law10_PlistOut_1 m_) [(0, none), (7, none), (10, none), (31, none), (32, none), (33, none)]

def tr_do_law10_PlistPlays_1 (m_ : Nat → (List Int) → T_layout_Layout → T_assartlaw10_Act → Bool → Int → Int → Option ((List Int) × Bool × (List Int) × Int)) (args : List V) (H : Heap) (K : V → Heap → Prop) : Prop :=
  aC args fun a0 r => aC r fun a1 r => aN r <| aRow 0 a0 <| aFn 43 a1 fun cs => aC cs fun p0 r => aC r fun p1 r => aC r fun p2 r => aC r fun p3 r => aC r fun p4 r => aC r fun p5 r => aN r <| aPtr 1 p0 <| aPtr 2 p1 <| aPtr 3 p2 <| aPtr 4 p3 <| aPtr 5 p4 <| aPtr 6 p5 <| aC H fun b7 r => aC r fun b1 r => aC r fun b2 r => aC r fun b3 r => aC r fun b4 r => aC r fun b5 r => aC r fun b6 r => aN r <| bRow 0 true b7 fun (ws : List Int) => bCells b1 fun U c1 => d_layout_Layout c1 fun l2 => bCells b2 fun U2 c2 => d_assartlaw10_Act c2 fun a => bCells b3 fun U3 c3 => aC c3 fun d3_0 r => aBool d3_0 fun xv => aN r <| bCells b4 fun U4 c4 => aC c4 fun d4_0 r => aNilS d4_0 <| aN r <| bCells b5 fun U5 c5 => aC c5 fun d5_0 r => aInt d5_0 fun q => aN r <| bCells b6 fun U6 c6 => aC c6 fun d6_0 r => aInt d6_0 fun first => aN r <| Req (Nat.ble ws.length 1048576) (So (m_ (ws.length) ws l2 a xv q first) fun x => ∀ nd : List Pr, K (.tup [.row 7, .row 8, vi 0]) [.row 0 ws true, .cells U (e_layout_Layout l2), .cells U2 (e_assartlaw10_Act a), .cells U3 [vb (x.2.1)], .cells U4 [.row 9], .cells U5 [vi q], .cells U6 [vi (x.2.2.2)], .row 0 (x.1) false, .row 2 nd false, .row 0 (x.2.2.1) false])
def sp_do_law10_PlistPlays_1 (m_ : Nat → (List Int) → T_layout_Layout → T_assartlaw10_Act → Bool → Int → Int → Option ((List Int) × Bool × (List Int) × Int)) : Spec := ⟨tr_do_law10_PlistPlays_1 m_, (true : Bool)⟩
noncomputable def cfgDo_law10_PlistPlays_1 (m_ : Nat → (List Int) → T_layout_Layout → T_assartlaw10_Act → Bool → Int → Int → Option ((List Int) × Bool × (List Int) × Int)) : Cfg := cfgDo 43 (sp_law10_PlistPlays_1 m_) [(0, none), (7, none), (10, none), (31, none), (32, none), (33, none)]

def tr_do_law10_PlistEach_1 (m_ : Nat → (List Int) → Bool → T_layout_Layout → (List Int) → (List Int) → Option ((List Int) × Bool)) (args : List V) (H : Heap) (K : V → Heap → Prop) : Prop :=
  aC args fun a0 r => aC r fun a1 r => aN r <| aRow 0 a0 <| aFn 50 a1 fun cs => aC cs fun p0 r => aC r fun p1 r => aC r fun p2 r => aC r fun p3 r => aN r <| aPtr 1 p0 <| aPtr 2 p1 <| aPtr 3 p2 <| aPtr 4 p3 <| aC H fun b5 r => aC r fun b1 r => aC r fun b2 r => aC r fun b3 r => aC r fun b4 r => aC r fun b6 r => aC r fun b7 r => aN r <| bRow 0 true b5 fun (ws : List Int) => bCells b1 fun U c1 => aC c1 fun d1_0 r => aRow 5 d1_0 <| aN r <| bCells b2 fun U2 c2 => aC c2 fun d2_0 r => aRow 6 d2_0 <| aN r <| bCells b3 fun U3 c3 => aC c3 fun d3_0 r => aBool d3_0 fun right => aN r <| bCells b4 fun U4 c4 => d_layout_Layout c4 fun l2 => bRow 0 true b6 fun (inv : List Int) => bRow 0 true b7 fun (found : List Int) => Req (Nat.ble ws.length 1048576) (So (m_ (ws.length) ws right l2 inv found) fun x => ∀ nd : List Pr, K (.tup [.row 7, .row 8, vi 0]) [.row 0 ws true, .cells U [.row 5], .cells U2 [.row 9], .cells U3 [vb (x.2)], .cells U4 (e_layout_Layout l2), .row 0 inv true, .row 0 found true, .row 0 (ws) false, .row 2 nd false, .row 0 (x.1) false])
def sp_do_law10_PlistEach_1 (m_ : Nat → (List Int) → Bool → T_layout_Layout → (List Int) → (List Int) → Option ((List Int) × Bool)) : Spec := ⟨tr_do_law10_PlistEach_1 m_, (true : Bool)⟩
noncomputable def cfgDo_law10_PlistEach_1 (m_ : Nat → (List Int) → Bool → T_layout_Layout → (List Int) → (List Int) → Option ((List Int) × Bool)) : Cfg := cfgDo 50 (sp_law10_PlistEach_1 m_) [(0, none), (7, none), (10, none), (31, none), (32, none), (33, none)]

def tr_do_law10_lives_1 (m_ : Nat → (List Int) → T_layout_Layout → Option ((List Int) × (List Int) × (List Int))) (args : List V) (H : Heap) (K : V → Heap → Prop) : Prop :=
  aC args fun a0 r => aC r fun a1 r => aN r <| aRow 0 a0 <| aFn 85 a1 fun cs => aC cs fun p0 r => aC r fun p1 r => aC r fun p2 r => aN r <| aPtr 1 p0 <| aPtr 2 p1 <| aPtr 3 p2 <| aC H fun b4 r => aC r fun b1 r => aC r fun b2 r => aC r fun b3 r => aN r <| bRow 0 true b4 fun (ws : List Int) => bCells b1 fun U c1 => d_layout_Layout c1 fun l2 => bCells b2 fun U2 c2 => aC c2 fun d2_0 r => aNilS d2_0 <| aN r <| bCells b3 fun U3 c3 => aC c3 fun d3_0 r => aNilS d3_0 <| aN r <| Req (Nat.ble ws.length 1048576) (So (m_ (ws.length) ws l2) fun x => ∀ nd : List Pr, K (.tup [.row 4, .row 5, vi 0]) [.row 0 ws true, .cells U (e_layout_Layout l2), .cells U2 [.row 6], .cells U3 [.row 7], .row 0 (x.1) false, .row 2 nd false, .row 0 (x.2.1) false, .row 0 (x.2.2) false])
def sp_do_law10_lives_1 (m_ : Nat → (List Int) → T_layout_Layout → Option ((List Int) × (List Int) × (List Int))) : Spec := ⟨tr_do_law10_lives_1 m_, (true : Bool)⟩
noncomputable def cfgDo_law10_lives_1 (m_ : Nat → (List Int) → T_layout_Layout → Option ((List Int) × (List Int) × (List Int))) : Cfg := cfgDo 85 (sp_law10_lives_1 m_) [(0, none), (7, none), (10, none), (31, none), (32, none), (33, none)]

def tr_do_law10_after_1 (m_ : Nat → (List Int) → T_assartref02_Layout → T_layout_Layout → (List Int) → (List (List Int)) → Option ((List Int) × (List Int))) (args : List V) (H : Heap) (K : V → Heap → Prop) : Prop :=
  aC args fun a0 r => aC r fun a1 r => aN r <| aRow 0 a0 <| aFn 86 a1 fun cs => aC cs fun p0 r => aC r fun p1 r => aC r fun p2 r => aC r fun p3 r => aN r <| aPtr 1 p0 <| aPtr 2 p1 <| aPtr 3 p2 <| aPtr 4 p3 <| aC H fun b5 r => aC r fun b1 r => aC r fun b2 r => aC r fun b3 r => aC r fun b4 r => aC r fun b6 r => aC r fun b7 r => aN r <| bRow 0 true b5 fun (ws : List Int) => bCells b1 fun U c1 => d_assartref02_Layout c1 fun rv => bCells b2 fun U2 c2 => aC c2 fun d2_0 r => aRow 5 d2_0 <| aN r <| bCells b3 fun U3 c3 => aC c3 fun d3_0 r => aRow 6 d3_0 <| aN r <| bCells b4 fun U4 c4 => d_layout_Layout c4 fun l2 => bRow 0 true b6 fun (inv : List Int) => bRow 39 true b7 fun (acts : List (List Int)) => Req (Nat.ble ws.length 1048576) (So (m_ (ws.length) ws rv l2 inv acts) fun x => ∀ nd : List Pr, K (.tup [.row 7, .row 8, vi 0]) [.row 0 ws true, .cells U (e_assartref02_Layout rv), .cells U2 [.row 9], .cells U3 [.row 6], .cells U4 (e_layout_Layout l2), .row 0 inv true, .row 39 acts true, .row 0 (x.1) false, .row 2 nd false, .row 0 (x.2) false])
def sp_do_law10_after_1 (m_ : Nat → (List Int) → T_assartref02_Layout → T_layout_Layout → (List Int) → (List (List Int)) → Option ((List Int) × (List Int))) : Spec := ⟨tr_do_law10_after_1 m_, (true : Bool)⟩
noncomputable def cfgDo_law10_after_1 (m_ : Nat → (List Int) → T_assartref02_Layout → T_layout_Layout → (List Int) → (List (List Int)) → Option ((List Int) × (List Int))) : Cfg := cfgDo 86 (sp_law10_after_1 m_) [(0, none), (7, none), (10, none), (31, none), (32, none), (33, none)]

theorem nf_do_law10_PlistAgree_1 (m_ : Nat → (List Int) → T_layout_Layout → Int → Int → Option ((List Int))) (ws : List Int) (l2 : T_layout_Layout) (q : Int) (f : Int) (U : TypeId) (U2 : TypeId) (U3 : TypeId) (U4 : TypeId) (K : V → Heap → Prop) : (exF (cfgDo_law10_PlistAgree_1 m_) Try.f16 [.row 0, .fn 36 [.ptr 1 0, .ptr 2 0, .ptr 3 0, .ptr 4 0]] [.row 0 ws true, .cells U (e_layout_Layout l2), .cells U2 [vi q], .cells U3 [vi f], .cells U4 [.ext (.slice none 0 0)]] K) = (
    Req (Decidable.decide (List.length ws ≤ 1048576)) ((∀ (y0 : Go.Value), (((ws = ws) ∧ (((1 ≤ 2) ∧ (So (m_ (List.length ws) ws l2 q f) (fun (y1 : List Int) => (((y0 = y0) ∧ ((∀ (y2 : Int → Option Int), ((∀ (y3 : Nat), ((∀ (y4 : List Pr), ((∀ (y5 : List (List Int)), (((ViewOK ws ws y2 y4 y5) → (Req (Nat.ble (List.length y5) 1048576) (Req (Decidable.decide (0 + List.length ws ≤ 1048576)) (Loop (cfgDo_law10_PlistAgree_1 m_) (⟨54, 5⟩ : Cx) (at_ (bodyOf Try.f16) [1, 1, 1, 1, 1, 1, 0, 1, 0, 0]) (mkEnv [(0, .row 0), (7, .ptr 5 0), (10, .row 6), (31, .row 7), (32, vi ((↑(List.length (List.map prOf y5)) : Int))), (33, vi (0))]) [.row 0 (ws : List (Int)) Bool.true, .cells U (e_layout_Layout l2), .cells U2 [vi (q)], .cells U3 [vi (f)], .cells U4 [.row 8], .cells 0 [.row 0, .mp 9, .row 10], .row 0 (ws : List (Int)) Bool.false, .row 2 (List.map prOf y5 : List (Pr)) Bool.false, .row 0 (y1 : List (Int)) Bool.false, .map (y2) (y3), .row 2 (y4 : List (Pr)) Bool.false] (contK (cfgDo_law10_PlistAgree_1 m_) (⟨54, 5⟩ : Cx) (bodyOf Try.f16) [1, 1, 1, 1, 1, 1, 0, 1, 0] (retK (cfgDo_law10_PlistAgree_1 m_) Try.f16 5 K)))))))))))))))))))))))))) := by
  kernel_rfl

theorem nf_do_law10_PlistAgree_1_r (m_ : Nat → (List Int) → T_layout_Layout → Int → Int → Option ((List Int))) (ws : List Int) (l2 : T_layout_Layout) (q : Int) (f : Int) (U : TypeId) (U2 : TypeId) (U3 : TypeId) (U4 : TypeId) (x : (List Int)) (now_ : List Int) (ps_ : List Pr) (nd_ : List Pr) (mm_ : Int → Option Int) (mn_ : Nat) (len_ : Int) (j_ : Int) (K : V → Heap → Prop) (J1 : Env → Heap → Prop) : (ex (cfgDo_law10_PlistAgree_1 m_) (⟨54, 5⟩ : Cx) (at_ (bodyOf Try.f16) [1, 1, 1, 1, 1, 1, 0, 1, 0, 0]) (mkEnv [(0, .row 0), (7, .ptr 5 0), (10, .row 6), (31, .row 7), (32, vi len_), (33, vi j_)]) [.row 0 ws true, .cells U (e_layout_Layout l2), .cells U2 [vi q], .cells U3 [vi f], .cells U4 [.row 8], .cells 0 [.row 0, .mp 9, .row 10], .row 0 now_ false, .row 2 ps_ false, .row 0 (x) false, .map mm_ mn_, .row 2 nd_ false] (roundK (cfgDo_law10_PlistAgree_1 m_) (⟨54, 5⟩ : Cx) (at_ (bodyOf Try.f16) [1, 1, 1, 1, 1, 1, 0, 1, 0, 0]) (contK (cfgDo_law10_PlistAgree_1 m_) (⟨54, 5⟩ : Cx) (bodyOf Try.f16) [1, 1, 1, 1, 1, 1, 0, 1, 0] (retK (cfgDo_law10_PlistAgree_1 m_) Try.f16 5 K)) J1)) = (
    br (Decidable.decide (j_ < len_)) (Req (inR j_ (List.length ps_)) (Req (inR (offs j_ 0) (List.length ps_)) (br (Decidable.decide (Pr.Addr (List.getD ps_ (Int.toNat (offs j_ 0)) (Pr.mk 0 0)) ≥ (↑(List.length ws) : Int))) (K (.tup [.row 5, .row 6, vi (3)]) [.row 0 (ws : List (Int)) Bool.true, .cells U (e_layout_Layout l2), .cells U2 [vi (q)], .cells U3 [vi (f)], .cells U4 [.row 7], .row 0 ([] : List (Int)) Bool.false, .row 2 ([] : List (Pr)) Bool.false, .row 0 (x : List (Int)) Bool.false]) (Req (inR (Pr.Addr (List.getD ps_ (Int.toNat (offs j_ 0)) (Pr.mk 0 0))) (List.length now_)) (Req (inR (offs (Pr.Addr (List.getD ps_ (Int.toNat (offs j_ 0)) (Pr.mk 0 0))) 0) (List.length now_)) (J1 (mkEnv [(0, .row 0), (7, .ptr 5 0), (10, .row 6), (31, .row 7), (32, vi (len_)), (33, vi (IntKind.wrap IntKind.i64 (j_ + 1)))]) [.row 0 (ws : List (Int)) Bool.true, .cells U (e_layout_Layout l2), .cells U2 [vi (q)], .cells U3 [vi (f)], .cells U4 [.row 8], .cells 0 [.row 0, .mp 9, .row 10], .row 0 (List.set now_ (Int.toNat (offs (Pr.Addr (List.getD ps_ (Int.toNat (offs j_ 0)) (Pr.mk 0 0))) 0)) (Pr.Val (List.getD ps_ (Int.toNat (offs j_ 0)) (Pr.mk 0 0))) : List (Int)) Bool.false, .row 2 (ps_ : List (Pr)) Bool.false, .row 0 (x : List (Int)) Bool.false, .map (mm_) (mn_), .row 2 (nd_ : List (Pr)) Bool.false])))))) (K (.tup [.row 5, .row 6, vi (0)]) [.row 0 (ws : List (Int)) Bool.true, .cells U (e_layout_Layout l2), .cells U2 [vi (q)], .cells U3 [vi (f)], .cells U4 [.row 7], .row 0 (now_ : List (Int)) Bool.false, .row 2 (nd_ : List (Pr)) Bool.false, .row 0 (x : List (Int)) Bool.false])) := by
  kernel_rfl

theorem nf_do_law10_PlistOut_1 (m_ : Nat → (List Int) → T_layout_Layout → Int → Int → Int → Bool → (List Int) → Option ((List Int) × Bool)) (ws : List Int) (l2 : T_layout_Layout) (q : Int) (f : Int) (p : Int) (right : Bool) (inv : List Int) (U : TypeId) (U2 : TypeId) (U3 : TypeId) (U4 : TypeId) (U5 : TypeId) (U6 : TypeId) (K : V → Heap → Prop) : (exF (cfgDo_law10_PlistOut_1 m_) Try.f16 [.row 0, .fn 38 [.ptr 1 0, .ptr 2 0, .ptr 3 0, .ptr 4 0, .ptr 5 0, .ptr 6 0]] [.row 0 ws true, .cells U (e_layout_Layout l2), .cells U2 [vi q], .cells U3 [vi f], .cells U4 [.row 7], .cells U5 [vi p], .cells U6 [vb right], .row 0 inv true] K) = (
    Req (Decidable.decide (List.length ws ≤ 1048576)) ((∀ (y0 : Go.Value), (((ws = ws) ∧ (((1 ≤ 2) ∧ (So (m_ (List.length ws) ws l2 q f p right inv) (fun (y1 : List Int × Bool) => (((y0 = y0) ∧ ((∀ (y2 : Int → Option Int), ((∀ (y3 : Nat), ((∀ (y4 : List Pr), ((∀ (y5 : List (List Int)), (((ViewOK ws (Prod.fst y1) y2 y4 y5) → (Req (Nat.ble (List.length y5) 1048576) (Req (Decidable.decide (0 + List.length ws ≤ 1048576)) (Loop (cfgDo_law10_PlistOut_1 m_) (⟨54, 8⟩ : Cx) (at_ (bodyOf Try.f16) [1, 1, 1, 1, 1, 1, 0, 1, 0, 0]) (mkEnv [(0, .row 0), (7, .ptr 8 0), (10, .row 9), (31, .row 10), (32, vi ((↑(List.length (List.map prOf y5)) : Int))), (33, vi (0))]) [.row 0 (ws : List (Int)) Bool.true, .cells U (e_layout_Layout l2), .cells U2 [vi (q)], .cells U3 [vi (f)], .cells U4 [.row 7], .cells U5 [vi (p)], .cells U6 [vb (Prod.snd y1)], .row 0 (inv : List (Int)) Bool.true, .cells 0 [.row 0, .mp 11, .row 12], .row 0 (ws : List (Int)) Bool.false, .row 2 (List.map prOf y5 : List (Pr)) Bool.false, .map (y2) (y3), .row 2 (y4 : List (Pr)) Bool.false] (contK (cfgDo_law10_PlistOut_1 m_) (⟨54, 8⟩ : Cx) (bodyOf Try.f16) [1, 1, 1, 1, 1, 1, 0, 1, 0] (retK (cfgDo_law10_PlistOut_1 m_) Try.f16 8 K)))))))))))))))))))))))))) := by
  kernel_rfl

theorem nf_do_law10_PlistOut_1_r (m_ : Nat → (List Int) → T_layout_Layout → Int → Int → Int → Bool → (List Int) → Option ((List Int) × Bool)) (ws : List Int) (l2 : T_layout_Layout) (q : Int) (f : Int) (p : Int) (right : Bool) (inv : List Int) (U : TypeId) (U2 : TypeId) (U3 : TypeId) (U4 : TypeId) (U5 : TypeId) (U6 : TypeId) (x : (List Int) × Bool) (now_ : List Int) (ps_ : List Pr) (nd_ : List Pr) (mm_ : Int → Option Int) (mn_ : Nat) (len_ : Int) (j_ : Int) (K : V → Heap → Prop) (J1 : Env → Heap → Prop) : (ex (cfgDo_law10_PlistOut_1 m_) (⟨54, 8⟩ : Cx) (at_ (bodyOf Try.f16) [1, 1, 1, 1, 1, 1, 0, 1, 0, 0]) (mkEnv [(0, .row 0), (7, .ptr 8 0), (10, .row 9), (31, .row 10), (32, vi len_), (33, vi j_)]) [.row 0 ws true, .cells U (e_layout_Layout l2), .cells U2 [vi q], .cells U3 [vi f], .cells U4 [.row 7], .cells U5 [vi p], .cells U6 [vb (x.2)], .row 0 inv true, .cells 0 [.row 0, .mp 11, .row 12], .row 0 now_ false, .row 2 ps_ false, .map mm_ mn_, .row 2 nd_ false] (roundK (cfgDo_law10_PlistOut_1 m_) (⟨54, 8⟩ : Cx) (at_ (bodyOf Try.f16) [1, 1, 1, 1, 1, 1, 0, 1, 0, 0]) (contK (cfgDo_law10_PlistOut_1 m_) (⟨54, 8⟩ : Cx) (bodyOf Try.f16) [1, 1, 1, 1, 1, 1, 0, 1, 0] (retK (cfgDo_law10_PlistOut_1 m_) Try.f16 8 K)) J1)) = (
    br (Decidable.decide (j_ < len_)) (Req (inR j_ (List.length ps_)) (Req (inR (offs j_ 0) (List.length ps_)) (br (Decidable.decide (Pr.Addr (List.getD ps_ (Int.toNat (offs j_ 0)) (Pr.mk 0 0)) ≥ (↑(List.length ws) : Int))) (K (.tup [.row 8, .row 9, vi (3)]) [.row 0 (ws : List (Int)) Bool.true, .cells U (e_layout_Layout l2), .cells U2 [vi (q)], .cells U3 [vi (f)], .cells U4 [.row 7], .cells U5 [vi (p)], .cells U6 [vb (Prod.snd x)], .row 0 (inv : List (Int)) Bool.true, .row 0 ([] : List (Int)) Bool.false, .row 2 ([] : List (Pr)) Bool.false]) (Req (inR (Pr.Addr (List.getD ps_ (Int.toNat (offs j_ 0)) (Pr.mk 0 0))) (List.length now_)) (Req (inR (offs (Pr.Addr (List.getD ps_ (Int.toNat (offs j_ 0)) (Pr.mk 0 0))) 0) (List.length now_)) (J1 (mkEnv [(0, .row 0), (7, .ptr 8 0), (10, .row 9), (31, .row 10), (32, vi (len_)), (33, vi (IntKind.wrap IntKind.i64 (j_ + 1)))]) [.row 0 (ws : List (Int)) Bool.true, .cells U (e_layout_Layout l2), .cells U2 [vi (q)], .cells U3 [vi (f)], .cells U4 [.row 7], .cells U5 [vi (p)], .cells U6 [vb (Prod.snd x)], .row 0 (inv : List (Int)) Bool.true, .cells 0 [.row 0, .mp 11, .row 12], .row 0 (List.set now_ (Int.toNat (offs (Pr.Addr (List.getD ps_ (Int.toNat (offs j_ 0)) (Pr.mk 0 0))) 0)) (Pr.Val (List.getD ps_ (Int.toNat (offs j_ 0)) (Pr.mk 0 0))) : List (Int)) Bool.false, .row 2 (ps_ : List (Pr)) Bool.false, .map (mm_) (mn_), .row 2 (nd_ : List (Pr)) Bool.false])))))) (K (.tup [.row 8, .row 9, vi (0)]) [.row 0 (ws : List (Int)) Bool.true, .cells U (e_layout_Layout l2), .cells U2 [vi (q)], .cells U3 [vi (f)], .cells U4 [.row 7], .cells U5 [vi (p)], .cells U6 [vb (Prod.snd x)], .row 0 (inv : List (Int)) Bool.true, .row 0 (now_ : List (Int)) Bool.false, .row 2 (nd_ : List (Pr)) Bool.false])) := by
  kernel_rfl

theorem nf_do_law10_PlistPlays_1 (m_ : Nat → (List Int) → T_layout_Layout → T_assartlaw10_Act → Bool → Int → Int → Option ((List Int) × Bool × (List Int) × Int)) (ws : List Int) (l2 : T_layout_Layout) (a : T_assartlaw10_Act) (xv : Bool) (q : Int) (first : Int) (U : TypeId) (U2 : TypeId) (U3 : TypeId) (U4 : TypeId) (U5 : TypeId) (U6 : TypeId) (K : V → Heap → Prop) : (exF (cfgDo_law10_PlistPlays_1 m_) Try.f16 [.row 0, .fn 43 [.ptr 1 0, .ptr 2 0, .ptr 3 0, .ptr 4 0, .ptr 5 0, .ptr 6 0]] [.row 0 ws true, .cells U (e_layout_Layout l2), .cells U2 (e_assartlaw10_Act a), .cells U3 [vb xv], .cells U4 [.ext (.slice none 0 0)], .cells U5 [vi q], .cells U6 [vi first]] K) = (
    Req (Decidable.decide (List.length ws ≤ 1048576)) ((∀ (y0 : Go.Value), (((ws = ws) ∧ (((1 ≤ 2) ∧ (So (m_ (List.length ws) ws l2 a xv q first) (fun (y1 : List Int × Bool × List Int × Int) => (((y0 = y0) ∧ ((∀ (y2 : Int → Option Int), ((∀ (y3 : Nat), ((∀ (y4 : List Pr), ((∀ (y5 : List (List Int)), (((ViewOK ws (Prod.fst y1) y2 y4 y5) → (Req (Nat.ble (List.length y5) 1048576) (Req (Decidable.decide (0 + List.length ws ≤ 1048576)) (Loop (cfgDo_law10_PlistPlays_1 m_) (⟨54, 7⟩ : Cx) (at_ (bodyOf Try.f16) [1, 1, 1, 1, 1, 1, 0, 1, 0, 0]) (mkEnv [(0, .row 0), (7, .ptr 7 0), (10, .row 8), (31, .row 9), (32, vi ((↑(List.length (List.map prOf y5)) : Int))), (33, vi (0))]) [.row 0 (ws : List (Int)) Bool.true, .cells U (e_layout_Layout l2), .cells U2 (e_assartlaw10_Act a), .cells U3 [vb (Prod.fst (Prod.snd y1))], .cells U4 [.row 10], .cells U5 [vi (q)], .cells U6 [vi (Prod.snd (Prod.snd (Prod.snd y1)))], .cells 0 [.row 0, .mp 11, .row 12], .row 0 (ws : List (Int)) Bool.false, .row 2 (List.map prOf y5 : List (Pr)) Bool.false, .row 0 (Prod.fst (Prod.snd (Prod.snd y1)) : List (Int)) Bool.false, .map (y2) (y3), .row 2 (y4 : List (Pr)) Bool.false] (contK (cfgDo_law10_PlistPlays_1 m_) (⟨54, 7⟩ : Cx) (bodyOf Try.f16) [1, 1, 1, 1, 1, 1, 0, 1, 0] (retK (cfgDo_law10_PlistPlays_1 m_) Try.f16 7 K)))))))))))))))))))))))))) := by
  kernel_rfl

theorem nf_do_law10_PlistPlays_1_r (m_ : Nat → (List Int) → T_layout_Layout → T_assartlaw10_Act → Bool → Int → Int → Option ((List Int) × Bool × (List Int) × Int)) (ws : List Int) (l2 : T_layout_Layout) (a : T_assartlaw10_Act) (xv : Bool) (q : Int) (first : Int) (U : TypeId) (U2 : TypeId) (U3 : TypeId) (U4 : TypeId) (U5 : TypeId) (U6 : TypeId) (x : (List Int) × Bool × (List Int) × Int) (now_ : List Int) (ps_ : List Pr) (nd_ : List Pr) (mm_ : Int → Option Int) (mn_ : Nat) (len_ : Int) (j_ : Int) (K : V → Heap → Prop) (J1 : Env → Heap → Prop) : (ex (cfgDo_law10_PlistPlays_1 m_) (⟨54, 7⟩ : Cx) (at_ (bodyOf Try.f16) [1, 1, 1, 1, 1, 1, 0, 1, 0, 0]) (mkEnv [(0, .row 0), (7, .ptr 7 0), (10, .row 8), (31, .row 9), (32, vi len_), (33, vi j_)]) [.row 0 ws true, .cells U (e_layout_Layout l2), .cells U2 (e_assartlaw10_Act a), .cells U3 [vb (x.2.1)], .cells U4 [.row 10], .cells U5 [vi q], .cells U6 [vi (x.2.2.2)], .cells 0 [.row 0, .mp 11, .row 12], .row 0 now_ false, .row 2 ps_ false, .row 0 (x.2.2.1) false, .map mm_ mn_, .row 2 nd_ false] (roundK (cfgDo_law10_PlistPlays_1 m_) (⟨54, 7⟩ : Cx) (at_ (bodyOf Try.f16) [1, 1, 1, 1, 1, 1, 0, 1, 0, 0]) (contK (cfgDo_law10_PlistPlays_1 m_) (⟨54, 7⟩ : Cx) (bodyOf Try.f16) [1, 1, 1, 1, 1, 1, 0, 1, 0] (retK (cfgDo_law10_PlistPlays_1 m_) Try.f16 7 K)) J1)) = (
    br (Decidable.decide (j_ < len_)) (Req (inR j_ (List.length ps_)) (Req (inR (offs j_ 0) (List.length ps_)) (br (Decidable.decide (Pr.Addr (List.getD ps_ (Int.toNat (offs j_ 0)) (Pr.mk 0 0)) ≥ (↑(List.length ws) : Int))) (K (.tup [.row 7, .row 8, vi (3)]) [.row 0 (ws : List (Int)) Bool.true, .cells U (e_layout_Layout l2), .cells U2 (e_assartlaw10_Act a), .cells U3 [vb (Prod.fst (Prod.snd x))], .cells U4 [.row 9], .cells U5 [vi (q)], .cells U6 [vi (Prod.snd (Prod.snd (Prod.snd x)))], .row 0 ([] : List (Int)) Bool.false, .row 2 ([] : List (Pr)) Bool.false, .row 0 (Prod.fst (Prod.snd (Prod.snd x)) : List (Int)) Bool.false]) (Req (inR (Pr.Addr (List.getD ps_ (Int.toNat (offs j_ 0)) (Pr.mk 0 0))) (List.length now_)) (Req (inR (offs (Pr.Addr (List.getD ps_ (Int.toNat (offs j_ 0)) (Pr.mk 0 0))) 0) (List.length now_)) (J1 (mkEnv [(0, .row 0), (7, .ptr 7 0), (10, .row 8), (31, .row 9), (32, vi (len_)), (33, vi (IntKind.wrap IntKind.i64 (j_ + 1)))]) [.row 0 (ws : List (Int)) Bool.true, .cells U (e_layout_Layout l2), .cells U2 (e_assartlaw10_Act a), .cells U3 [vb (Prod.fst (Prod.snd x))], .cells U4 [.row 10], .cells U5 [vi (q)], .cells U6 [vi (Prod.snd (Prod.snd (Prod.snd x)))], .cells 0 [.row 0, .mp 11, .row 12], .row 0 (List.set now_ (Int.toNat (offs (Pr.Addr (List.getD ps_ (Int.toNat (offs j_ 0)) (Pr.mk 0 0))) 0)) (Pr.Val (List.getD ps_ (Int.toNat (offs j_ 0)) (Pr.mk 0 0))) : List (Int)) Bool.false, .row 2 (ps_ : List (Pr)) Bool.false, .row 0 (Prod.fst (Prod.snd (Prod.snd x)) : List (Int)) Bool.false, .map (mm_) (mn_), .row 2 (nd_ : List (Pr)) Bool.false])))))) (K (.tup [.row 7, .row 8, vi (0)]) [.row 0 (ws : List (Int)) Bool.true, .cells U (e_layout_Layout l2), .cells U2 (e_assartlaw10_Act a), .cells U3 [vb (Prod.fst (Prod.snd x))], .cells U4 [.row 9], .cells U5 [vi (q)], .cells U6 [vi (Prod.snd (Prod.snd (Prod.snd x)))], .row 0 (now_ : List (Int)) Bool.false, .row 2 (nd_ : List (Pr)) Bool.false, .row 0 (Prod.fst (Prod.snd (Prod.snd x)) : List (Int)) Bool.false])) := by
  kernel_rfl

theorem nf_do_law10_PlistEach_1 (m_ : Nat → (List Int) → Bool → T_layout_Layout → (List Int) → (List Int) → Option ((List Int) × Bool)) (ws : List Int) (right : Bool) (l2 : T_layout_Layout) (inv : List Int) (found : List Int) (U : TypeId) (U2 : TypeId) (U3 : TypeId) (U4 : TypeId) (K : V → Heap → Prop) : (exF (cfgDo_law10_PlistEach_1 m_) Try.f16 [.row 0, .fn 50 [.ptr 1 0, .ptr 2 0, .ptr 3 0, .ptr 4 0]] [.row 0 ws true, .cells U [.row 5], .cells U2 [.row 6], .cells U3 [vb right], .cells U4 (e_layout_Layout l2), .row 0 inv true, .row 0 found true] K) = (
    Req (Decidable.decide (List.length ws ≤ 1048576)) ((∀ (y0 : Go.Value), (((ws = ws) ∧ (((1 ≤ 2) ∧ (So (m_ (List.length ws) ws right l2 inv found) (fun (y1 : List Int × Bool) => (((y0 = y0) ∧ ((∀ (y2 : Int → Option Int), ((∀ (y3 : Nat), ((∀ (y4 : List Pr), ((∀ (y5 : List (List Int)), (((ViewOK ws ws y2 y4 y5) → (Req (Nat.ble (List.length y5) 1048576) (Req (Decidable.decide (0 + List.length ws ≤ 1048576)) (Loop (cfgDo_law10_PlistEach_1 m_) (⟨54, 7⟩ : Cx) (at_ (bodyOf Try.f16) [1, 1, 1, 1, 1, 1, 0, 1, 0, 0]) (mkEnv [(0, .row 0), (7, .ptr 7 0), (10, .row 8), (31, .row 9), (32, vi ((↑(List.length (List.map prOf y5)) : Int))), (33, vi (0))]) [.row 0 (ws : List (Int)) Bool.true, .cells U [.row 5], .cells U2 [.row 10], .cells U3 [vb (Prod.snd y1)], .cells U4 (e_layout_Layout l2), .row 0 (inv : List (Int)) Bool.true, .row 0 (found : List (Int)) Bool.true, .cells 0 [.row 0, .mp 11, .row 12], .row 0 (ws : List (Int)) Bool.false, .row 2 (List.map prOf y5 : List (Pr)) Bool.false, .row 0 (Prod.fst y1 : List (Int)) Bool.false, .map (y2) (y3), .row 2 (y4 : List (Pr)) Bool.false] (contK (cfgDo_law10_PlistEach_1 m_) (⟨54, 7⟩ : Cx) (bodyOf Try.f16) [1, 1, 1, 1, 1, 1, 0, 1, 0] (retK (cfgDo_law10_PlistEach_1 m_) Try.f16 7 K)))))))))))))))))))))))))) := by
  kernel_rfl

theorem nf_do_law10_PlistEach_1_r (m_ : Nat → (List Int) → Bool → T_layout_Layout → (List Int) → (List Int) → Option ((List Int) × Bool)) (ws : List Int) (right : Bool) (l2 : T_layout_Layout) (inv : List Int) (found : List Int) (U : TypeId) (U2 : TypeId) (U3 : TypeId) (U4 : TypeId) (x : (List Int) × Bool) (now_ : List Int) (ps_ : List Pr) (nd_ : List Pr) (mm_ : Int → Option Int) (mn_ : Nat) (len_ : Int) (j_ : Int) (K : V → Heap → Prop) (J1 : Env → Heap → Prop) : (ex (cfgDo_law10_PlistEach_1 m_) (⟨54, 7⟩ : Cx) (at_ (bodyOf Try.f16) [1, 1, 1, 1, 1, 1, 0, 1, 0, 0]) (mkEnv [(0, .row 0), (7, .ptr 7 0), (10, .row 8), (31, .row 9), (32, vi len_), (33, vi j_)]) [.row 0 ws true, .cells U [.row 5], .cells U2 [.row 10], .cells U3 [vb (x.2)], .cells U4 (e_layout_Layout l2), .row 0 inv true, .row 0 found true, .cells 0 [.row 0, .mp 11, .row 12], .row 0 now_ false, .row 2 ps_ false, .row 0 (x.1) false, .map mm_ mn_, .row 2 nd_ false] (roundK (cfgDo_law10_PlistEach_1 m_) (⟨54, 7⟩ : Cx) (at_ (bodyOf Try.f16) [1, 1, 1, 1, 1, 1, 0, 1, 0, 0]) (contK (cfgDo_law10_PlistEach_1 m_) (⟨54, 7⟩ : Cx) (bodyOf Try.f16) [1, 1, 1, 1, 1, 1, 0, 1, 0] (retK (cfgDo_law10_PlistEach_1 m_) Try.f16 7 K)) J1)) = (
    br (Decidable.decide (j_ < len_)) (Req (inR j_ (List.length ps_)) (Req (inR (offs j_ 0) (List.length ps_)) (br (Decidable.decide (Pr.Addr (List.getD ps_ (Int.toNat (offs j_ 0)) (Pr.mk 0 0)) ≥ (↑(List.length ws) : Int))) (K (.tup [.row 7, .row 8, vi (3)]) [.row 0 (ws : List (Int)) Bool.true, .cells U [.row 5], .cells U2 [.row 9], .cells U3 [vb (Prod.snd x)], .cells U4 (e_layout_Layout l2), .row 0 (inv : List (Int)) Bool.true, .row 0 (found : List (Int)) Bool.true, .row 0 ([] : List (Int)) Bool.false, .row 2 ([] : List (Pr)) Bool.false, .row 0 (Prod.fst x : List (Int)) Bool.false]) (Req (inR (Pr.Addr (List.getD ps_ (Int.toNat (offs j_ 0)) (Pr.mk 0 0))) (List.length now_)) (Req (inR (offs (Pr.Addr (List.getD ps_ (Int.toNat (offs j_ 0)) (Pr.mk 0 0))) 0) (List.length now_)) (J1 (mkEnv [(0, .row 0), (7, .ptr 7 0), (10, .row 8), (31, .row 9), (32, vi (len_)), (33, vi (IntKind.wrap IntKind.i64 (j_ + 1)))]) [.row 0 (ws : List (Int)) Bool.true, .cells U [.row 5], .cells U2 [.row 10], .cells U3 [vb (Prod.snd x)], .cells U4 (e_layout_Layout l2), .row 0 (inv : List (Int)) Bool.true, .row 0 (found : List (Int)) Bool.true, .cells 0 [.row 0, .mp 11, .row 12], .row 0 (List.set now_ (Int.toNat (offs (Pr.Addr (List.getD ps_ (Int.toNat (offs j_ 0)) (Pr.mk 0 0))) 0)) (Pr.Val (List.getD ps_ (Int.toNat (offs j_ 0)) (Pr.mk 0 0))) : List (Int)) Bool.false, .row 2 (ps_ : List (Pr)) Bool.false, .row 0 (Prod.fst x : List (Int)) Bool.false, .map (mm_) (mn_), .row 2 (nd_ : List (Pr)) Bool.false])))))) (K (.tup [.row 7, .row 8, vi (0)]) [.row 0 (ws : List (Int)) Bool.true, .cells U [.row 5], .cells U2 [.row 9], .cells U3 [vb (Prod.snd x)], .cells U4 (e_layout_Layout l2), .row 0 (inv : List (Int)) Bool.true, .row 0 (found : List (Int)) Bool.true, .row 0 (now_ : List (Int)) Bool.false, .row 2 (nd_ : List (Pr)) Bool.false, .row 0 (Prod.fst x : List (Int)) Bool.false])) := by
  kernel_rfl

theorem nf_do_law10_lives_1 (m_ : Nat → (List Int) → T_layout_Layout → Option ((List Int) × (List Int) × (List Int))) (ws : List Int) (l2 : T_layout_Layout) (U : TypeId) (U2 : TypeId) (U3 : TypeId) (K : V → Heap → Prop) : (exF (cfgDo_law10_lives_1 m_) Try.f16 [.row 0, .fn 85 [.ptr 1 0, .ptr 2 0, .ptr 3 0]] [.row 0 ws true, .cells U (e_layout_Layout l2), .cells U2 [.ext (.slice none 0 0)], .cells U3 [.ext (.slice none 0 0)]] K) = (
    Req (Decidable.decide (List.length ws ≤ 1048576)) ((∀ (y0 : Go.Value), (((ws = ws) ∧ (((1 ≤ 2) ∧ (So (m_ (List.length ws) ws l2) (fun (y1 : List Int × List Int × List Int) => (((y0 = y0) ∧ ((∀ (y2 : Int → Option Int), ((∀ (y3 : Nat), ((∀ (y4 : List Pr), ((∀ (y5 : List (List Int)), (((ViewOK ws (Prod.fst y1) y2 y4 y5) → (Req (Nat.ble (List.length y5) 1048576) (Req (Decidable.decide (0 + List.length ws ≤ 1048576)) (Loop (cfgDo_law10_lives_1 m_) (⟨54, 4⟩ : Cx) (at_ (bodyOf Try.f16) [1, 1, 1, 1, 1, 1, 0, 1, 0, 0]) (mkEnv [(0, .row 0), (7, .ptr 4 0), (10, .row 5), (31, .row 6), (32, vi ((↑(List.length (List.map prOf y5)) : Int))), (33, vi (0))]) [.row 0 (ws : List (Int)) Bool.true, .cells U (e_layout_Layout l2), .cells U2 [.row 7], .cells U3 [.row 8], .cells 0 [.row 0, .mp 9, .row 10], .row 0 (ws : List (Int)) Bool.false, .row 2 (List.map prOf y5 : List (Pr)) Bool.false, .row 0 (Prod.fst (Prod.snd y1) : List (Int)) Bool.false, .row 0 (Prod.snd (Prod.snd y1) : List (Int)) Bool.false, .map (y2) (y3), .row 2 (y4 : List (Pr)) Bool.false] (contK (cfgDo_law10_lives_1 m_) (⟨54, 4⟩ : Cx) (bodyOf Try.f16) [1, 1, 1, 1, 1, 1, 0, 1, 0] (retK (cfgDo_law10_lives_1 m_) Try.f16 4 K)))))))))))))))))))))))))) := by
  kernel_rfl

theorem nf_do_law10_lives_1_r (m_ : Nat → (List Int) → T_layout_Layout → Option ((List Int) × (List Int) × (List Int))) (ws : List Int) (l2 : T_layout_Layout) (U : TypeId) (U2 : TypeId) (U3 : TypeId) (x : (List Int) × (List Int) × (List Int)) (now_ : List Int) (ps_ : List Pr) (nd_ : List Pr) (mm_ : Int → Option Int) (mn_ : Nat) (len_ : Int) (j_ : Int) (K : V → Heap → Prop) (J1 : Env → Heap → Prop) : (ex (cfgDo_law10_lives_1 m_) (⟨54, 4⟩ : Cx) (at_ (bodyOf Try.f16) [1, 1, 1, 1, 1, 1, 0, 1, 0, 0]) (mkEnv [(0, .row 0), (7, .ptr 4 0), (10, .row 5), (31, .row 6), (32, vi len_), (33, vi j_)]) [.row 0 ws true, .cells U (e_layout_Layout l2), .cells U2 [.row 7], .cells U3 [.row 8], .cells 0 [.row 0, .mp 9, .row 10], .row 0 now_ false, .row 2 ps_ false, .row 0 (x.2.1) false, .row 0 (x.2.2) false, .map mm_ mn_, .row 2 nd_ false] (roundK (cfgDo_law10_lives_1 m_) (⟨54, 4⟩ : Cx) (at_ (bodyOf Try.f16) [1, 1, 1, 1, 1, 1, 0, 1, 0, 0]) (contK (cfgDo_law10_lives_1 m_) (⟨54, 4⟩ : Cx) (bodyOf Try.f16) [1, 1, 1, 1, 1, 1, 0, 1, 0] (retK (cfgDo_law10_lives_1 m_) Try.f16 4 K)) J1)) = (
    br (Decidable.decide (j_ < len_)) (Req (inR j_ (List.length ps_)) (Req (inR (offs j_ 0) (List.length ps_)) (br (Decidable.decide (Pr.Addr (List.getD ps_ (Int.toNat (offs j_ 0)) (Pr.mk 0 0)) ≥ (↑(List.length ws) : Int))) (K (.tup [.row 4, .row 5, vi (3)]) [.row 0 (ws : List (Int)) Bool.true, .cells U (e_layout_Layout l2), .cells U2 [.row 6], .cells U3 [.row 7], .row 0 ([] : List (Int)) Bool.false, .row 2 ([] : List (Pr)) Bool.false, .row 0 (Prod.fst (Prod.snd x) : List (Int)) Bool.false, .row 0 (Prod.snd (Prod.snd x) : List (Int)) Bool.false]) (Req (inR (Pr.Addr (List.getD ps_ (Int.toNat (offs j_ 0)) (Pr.mk 0 0))) (List.length now_)) (Req (inR (offs (Pr.Addr (List.getD ps_ (Int.toNat (offs j_ 0)) (Pr.mk 0 0))) 0) (List.length now_)) (J1 (mkEnv [(0, .row 0), (7, .ptr 4 0), (10, .row 5), (31, .row 6), (32, vi (len_)), (33, vi (IntKind.wrap IntKind.i64 (j_ + 1)))]) [.row 0 (ws : List (Int)) Bool.true, .cells U (e_layout_Layout l2), .cells U2 [.row 7], .cells U3 [.row 8], .cells 0 [.row 0, .mp 9, .row 10], .row 0 (List.set now_ (Int.toNat (offs (Pr.Addr (List.getD ps_ (Int.toNat (offs j_ 0)) (Pr.mk 0 0))) 0)) (Pr.Val (List.getD ps_ (Int.toNat (offs j_ 0)) (Pr.mk 0 0))) : List (Int)) Bool.false, .row 2 (ps_ : List (Pr)) Bool.false, .row 0 (Prod.fst (Prod.snd x) : List (Int)) Bool.false, .row 0 (Prod.snd (Prod.snd x) : List (Int)) Bool.false, .map (mm_) (mn_), .row 2 (nd_ : List (Pr)) Bool.false])))))) (K (.tup [.row 4, .row 5, vi (0)]) [.row 0 (ws : List (Int)) Bool.true, .cells U (e_layout_Layout l2), .cells U2 [.row 6], .cells U3 [.row 7], .row 0 (now_ : List (Int)) Bool.false, .row 2 (nd_ : List (Pr)) Bool.false, .row 0 (Prod.fst (Prod.snd x) : List (Int)) Bool.false, .row 0 (Prod.snd (Prod.snd x) : List (Int)) Bool.false])) := by
  kernel_rfl

theorem nf_do_law10_after_1 (m_ : Nat → (List Int) → T_assartref02_Layout → T_layout_Layout → (List Int) → (List (List Int)) → Option ((List Int) × (List Int))) (ws : List Int) (rv : T_assartref02_Layout) (l2 : T_layout_Layout) (inv : List Int) (acts : List (List Int)) (U : TypeId) (U2 : TypeId) (U3 : TypeId) (U4 : TypeId) (K : V → Heap → Prop) : (exF (cfgDo_law10_after_1 m_) Try.f16 [.row 0, .fn 86 [.ptr 1 0, .ptr 2 0, .ptr 3 0, .ptr 4 0]] [.row 0 ws true, .cells U (e_assartref02_Layout rv), .cells U2 [.row 5], .cells U3 [.row 6], .cells U4 (e_layout_Layout l2), .row 0 inv true, .row 39 acts true] K) = (
    Req (Decidable.decide (List.length ws ≤ 1048576)) ((∀ (y0 : Go.Value), (((ws = ws) ∧ (((1 ≤ 2) ∧ (So (m_ (List.length ws) ws rv l2 inv acts) (fun (y1 : List Int × List Int) => (((y0 = y0) ∧ ((∀ (y2 : Int → Option Int), ((∀ (y3 : Nat), ((∀ (y4 : List Pr), ((∀ (y5 : List (List Int)), (((ViewOK ws (Prod.fst y1) y2 y4 y5) → (Req (Nat.ble (List.length y5) 1048576) (Req (Decidable.decide (0 + List.length ws ≤ 1048576)) (Loop (cfgDo_law10_after_1 m_) (⟨54, 7⟩ : Cx) (at_ (bodyOf Try.f16) [1, 1, 1, 1, 1, 1, 0, 1, 0, 0]) (mkEnv [(0, .row 0), (7, .ptr 7 0), (10, .row 8), (31, .row 9), (32, vi ((↑(List.length (List.map prOf y5)) : Int))), (33, vi (0))]) [.row 0 (ws : List (Int)) Bool.true, .cells U (e_api_Config (T_assartref02_Layout.C rv)), .cells U2 [.row 10], .cells U3 [.row 6], .cells U4 (e_layout_Layout l2), .row 0 (inv : List (Int)) Bool.true, .row 39 (acts : List (List Int)) Bool.true, .cells 0 [.row 0, .mp 11, .row 12], .row 0 (ws : List (Int)) Bool.false, .row 2 (List.map prOf y5 : List (Pr)) Bool.false, .row 0 (Prod.snd y1 : List (Int)) Bool.false, .map (y2) (y3), .row 2 (y4 : List (Pr)) Bool.false] (contK (cfgDo_law10_after_1 m_) (⟨54, 7⟩ : Cx) (bodyOf Try.f16) [1, 1, 1, 1, 1, 1, 0, 1, 0] (retK (cfgDo_law10_after_1 m_) Try.f16 7 K)))))))))))))))))))))))))) := by
  kernel_rfl

theorem nf_do_law10_after_1_r (m_ : Nat → (List Int) → T_assartref02_Layout → T_layout_Layout → (List Int) → (List (List Int)) → Option ((List Int) × (List Int))) (ws : List Int) (rv : T_assartref02_Layout) (l2 : T_layout_Layout) (inv : List Int) (acts : List (List Int)) (U : TypeId) (U2 : TypeId) (U3 : TypeId) (U4 : TypeId) (x : (List Int) × (List Int)) (now_ : List Int) (ps_ : List Pr) (nd_ : List Pr) (mm_ : Int → Option Int) (mn_ : Nat) (len_ : Int) (j_ : Int) (K : V → Heap → Prop) (J1 : Env → Heap → Prop) : (ex (cfgDo_law10_after_1 m_) (⟨54, 7⟩ : Cx) (at_ (bodyOf Try.f16) [1, 1, 1, 1, 1, 1, 0, 1, 0, 0]) (mkEnv [(0, .row 0), (7, .ptr 7 0), (10, .row 8), (31, .row 9), (32, vi len_), (33, vi j_)]) [.row 0 ws true, .cells U (e_assartref02_Layout rv), .cells U2 [.row 10], .cells U3 [.row 6], .cells U4 (e_layout_Layout l2), .row 0 inv true, .row 39 acts true, .cells 0 [.row 0, .mp 11, .row 12], .row 0 now_ false, .row 2 ps_ false, .row 0 (x.2) false, .map mm_ mn_, .row 2 nd_ false] (roundK (cfgDo_law10_after_1 m_) (⟨54, 7⟩ : Cx) (at_ (bodyOf Try.f16) [1, 1, 1, 1, 1, 1, 0, 1, 0, 0]) (contK (cfgDo_law10_after_1 m_) (⟨54, 7⟩ : Cx) (bodyOf Try.f16) [1, 1, 1, 1, 1, 1, 0, 1, 0] (retK (cfgDo_law10_after_1 m_) Try.f16 7 K)) J1)) = (
    br (Decidable.decide (j_ < len_)) (Req (inR j_ (List.length ps_)) (Req (inR (offs j_ 0) (List.length ps_)) (br (Decidable.decide (Pr.Addr (List.getD ps_ (Int.toNat (offs j_ 0)) (Pr.mk 0 0)) ≥ (↑(List.length ws) : Int))) (K (.tup [.row 7, .row 8, vi (3)]) [.row 0 (ws : List (Int)) Bool.true, .cells U (e_api_Config (T_assartref02_Layout.C rv)), .cells U2 [.row 9], .cells U3 [.row 6], .cells U4 (e_layout_Layout l2), .row 0 (inv : List (Int)) Bool.true, .row 39 (acts : List (List Int)) Bool.true, .row 0 ([] : List (Int)) Bool.false, .row 2 ([] : List (Pr)) Bool.false, .row 0 (Prod.snd x : List (Int)) Bool.false]) (Req (inR (Pr.Addr (List.getD ps_ (Int.toNat (offs j_ 0)) (Pr.mk 0 0))) (List.length now_)) (Req (inR (offs (Pr.Addr (List.getD ps_ (Int.toNat (offs j_ 0)) (Pr.mk 0 0))) 0) (List.length now_)) (J1 (mkEnv [(0, .row 0), (7, .ptr 7 0), (10, .row 8), (31, .row 9), (32, vi (len_)), (33, vi (IntKind.wrap IntKind.i64 (j_ + 1)))]) [.row 0 (ws : List (Int)) Bool.true, .cells U (e_api_Config (T_assartref02_Layout.C rv)), .cells U2 [.row 10], .cells U3 [.row 6], .cells U4 (e_layout_Layout l2), .row 0 (inv : List (Int)) Bool.true, .row 39 (acts : List (List Int)) Bool.true, .cells 0 [.row 0, .mp 11, .row 12], .row 0 (List.set now_ (Int.toNat (offs (Pr.Addr (List.getD ps_ (Int.toNat (offs j_ 0)) (Pr.mk 0 0))) 0)) (Pr.Val (List.getD ps_ (Int.toNat (offs j_ 0)) (Pr.mk 0 0))) : List (Int)) Bool.false, .row 2 (ps_ : List (Pr)) Bool.false, .row 0 (Prod.snd x : List (Int)) Bool.false, .map (mm_) (mn_), .row 2 (nd_ : List (Pr)) Bool.false])))))) (K (.tup [.row 7, .row 8, vi (0)]) [.row 0 (ws : List (Int)) Bool.true, .cells U (e_api_Config (T_assartref02_Layout.C rv)), .cells U2 [.row 9], .cells U3 [.row 6], .cells U4 (e_layout_Layout l2), .row 0 (inv : List (Int)) Bool.true, .row 39 (acts : List (List Int)) Bool.true, .row 0 (now_ : List (Int)) Bool.false, .row 2 (nd_ : List (Pr)) Bool.false, .row 0 (Prod.snd x : List (Int)) Bool.false])) := by
  kernel_rfl

attribute [local irreducible] Loop ex exF contK roundK retK at_ bodyOf mkEnv

theorem okdo_law10_PlistAgree_1 {m_ : Nat → (List Int) → T_layout_Layout → Int → Int → Option ((List Int))} (hm : SpecOK Try.prog elTT 36 (sp_law10_PlistAgree_1 m_)) : SpecOK Try.prog elTT 16 (sp_do_law10_PlistAgree_1 m_) := by
  refine spec_of_exF (cfg := cfgDo_law10_PlistAgree_1 m_) (cfg_ok rfl rfl rfl) (sigDo_ok hm) (fn := Try.f16) (by kernel_rfl) (by kernel_rfl) (by kernel_rfl) ?_
  intro args H K h
  change tr_do_law10_PlistAgree_1 m_ args H K at h
  unfold tr_do_law10_PlistAgree_1 at h
  replace h := aC_el h
  obtain ⟨a0, _, rfl, h⟩ := h
  replace h := aC_el h
  obtain ⟨a1, _, rfl, h⟩ := h
  replace h := aN_el h
  obtain ⟨rfl, h⟩ := h
  replace h := aRow_el h
  obtain ⟨rfl, h⟩ := h
  replace h := aFn_el h
  obtain ⟨cs, rfl, h⟩ := h
  replace h := aC_el h
  obtain ⟨p0, _, rfl, h⟩ := h
  replace h := aC_el h
  obtain ⟨p1, _, rfl, h⟩ := h
  replace h := aC_el h
  obtain ⟨p2, _, rfl, h⟩ := h
  replace h := aC_el h
  obtain ⟨p3, _, rfl, h⟩ := h
  replace h := aN_el h
  obtain ⟨rfl, h⟩ := h
  replace h := aPtr_el h
  obtain ⟨rfl, h⟩ := h
  replace h := aPtr_el h
  obtain ⟨rfl, h⟩ := h
  replace h := aPtr_el h
  obtain ⟨rfl, h⟩ := h
  replace h := aPtr_el h
  obtain ⟨rfl, h⟩ := h
  replace h := aC_el h
  obtain ⟨b5, _, rfl, h⟩ := h
  replace h := aC_el h
  obtain ⟨b1, _, rfl, h⟩ := h
  replace h := aC_el h
  obtain ⟨b2, _, rfl, h⟩ := h
  replace h := aC_el h
  obtain ⟨b3, _, rfl, h⟩ := h
  replace h := aC_el h
  obtain ⟨b4, _, rfl, h⟩ := h
  replace h := aN_el h
  obtain ⟨rfl, h⟩ := h
  replace h := bRow_el h
  obtain ⟨(ws : List Int), rfl, h⟩ := h
  replace h := bCells_el h
  obtain ⟨U, c1, rfl, h⟩ := h
  replace h := d_layout_Layout_el h
  obtain ⟨l2, rfl, h⟩ := h
  replace h := bCells_el h
  obtain ⟨U2, c2, rfl, h⟩ := h
  replace h := aC_el h
  obtain ⟨d2_0, _, rfl, h⟩ := h
  replace h := aInt_el h
  obtain ⟨q, rfl, h⟩ := h
  replace h := aN_el h
  obtain ⟨rfl, h⟩ := h
  replace h := bCells_el h
  obtain ⟨U3, c3, rfl, h⟩ := h
  replace h := aC_el h
  obtain ⟨d3_0, _, rfl, h⟩ := h
  replace h := aInt_el h
  obtain ⟨f, rfl, h⟩ := h
  replace h := aN_el h
  obtain ⟨rfl, h⟩ := h
  replace h := bCells_el h
  obtain ⟨U4, c4, rfl, h⟩ := h
  replace h := aC_el h
  obtain ⟨d4_0, _, rfl, h⟩ := h
  replace h := aNilS_el h
  obtain ⟨rfl, h⟩ := h
  replace h := aN_el h
  obtain ⟨rfl, h⟩ := h
  replace h := Req_el h
  obtain ⟨hsm, h⟩ := h
  have hsm := Nat.le_of_ble_eq_true hsm
  refine Eq.mpr (nf_do_law10_PlistAgree_1 m_ ws l2 q f U U2 U3 U4 K) (Req_intro (by simpa using hsm) fun y => ⟨rfl, by decide, ?_⟩)
  refine So_imp h fun x hk => ?_
  refine ⟨rfl, fun mm mn nd its hv => Req_intro (Nat.ble_eq_true_of_le (by have := view_its hv; omega)) (Req_intro (decide_eq_true (by omega)) ?_)⟩
  have hlen := view_its hv
  refine loop_ind (σ := Nat) (fun j => (mkEnv [(0, .row 0), (7, .ptr 5 0), (10, .row 6), (31, .row 7), (32, vi ((its.map prOf).length : Int)), (33, vi ((j : Nat) : Int))]))
    (fun j => [.row 0 ws true, .cells U (e_layout_Layout l2), .cells U2 [vi q], .cells U3 [vi f], .cells U4 [.row 8], .cells 0 [.row 0, .mp 9, .row 10], .row 0 (nowN ws its j) false, .row 2 (its.map prOf) false, .row 0 (x) false, .map mm mn, .row 2 nd false]) (fun j => j ≤ its.length) (fun j => its.length - j) ?_ 0 (Nat.zero_le _)
  intro j hj J hJ
  refine Eq.mpr (nf_do_law10_PlistAgree_1_r m_ ws l2 q f U U2 U3 U4 x (nowN ws its j) (its.map prOf) nd mm mn _ j K J) (br_intro (fun h1 => ?_) (fun h1 => ?_))
  · have h1 : j < its.length := by simpa using h1
    have h1' : j < (its.map prOf).length := by simpa using h1
    obtain ⟨p1, p2⟩ := pr_in hv h1
    have hnx := hJ (j + 1) h1 (by omega)
    simp only [offs_nat, inR_nat h1', Req_true, Int.toNat_natCast, wrap_succ (show j ≤ 4611686018427387904 by omega), prs_get h1]
    simp only [nowN] at hnx
    generalize prOf (its.getD j []) = p at *
    have hoff : offs p.Addr 0 = p.Addr := by
      have e : p.Addr = ((p.Addr.toNat : Nat) : Int) := by omega
      rw [e]; rfl
    have hin : inR p.Addr (nowN ws its j).length = true := by rw [nowN_len]; exact inR_int p1 p2
    refine br_false (decide_eq_false (by omega)) (Req_intro hin (Req_intro (by rw [hoff]; exact hin) ?_))
    rw [hoff]
    exact hnx
  · have h1 : j = its.length := by simp at h1; omega
    subst h1
    rw [nowN_all hv]
    exact hk nd

theorem okdo_law10_PlistOut_1 {m_ : Nat → (List Int) → T_layout_Layout → Int → Int → Int → Bool → (List Int) → Option ((List Int) × Bool)} (hm : SpecOK Try.prog elTT 38 (sp_law10_PlistOut_1 m_)) : SpecOK Try.prog elTT 16 (sp_do_law10_PlistOut_1 m_) := by
  refine spec_of_exF (cfg := cfgDo_law10_PlistOut_1 m_) (cfg_ok rfl rfl rfl) (sigDo_ok hm) (fn := Try.f16) (by kernel_rfl) (by kernel_rfl) (by kernel_rfl) ?_
  intro args H K h
  change tr_do_law10_PlistOut_1 m_ args H K at h
  unfold tr_do_law10_PlistOut_1 at h
  replace h := aC_el h
  obtain ⟨a0, _, rfl, h⟩ := h
  replace h := aC_el h
  obtain ⟨a1, _, rfl, h⟩ := h
  replace h := aN_el h
  obtain ⟨rfl, h⟩ := h
  replace h := aRow_el h
  obtain ⟨rfl, h⟩ := h
  replace h := aFn_el h
  obtain ⟨cs, rfl, h⟩ := h
  replace h := aC_el h
  obtain ⟨p0, _, rfl, h⟩ := h
  replace h := aC_el h
  obtain ⟨p1, _, rfl, h⟩ := h
  replace h := aC_el h
  obtain ⟨p2, _, rfl, h⟩ := h
  replace h := aC_el h
  obtain ⟨p3, _, rfl, h⟩ := h
  replace h := aC_el h
  obtain ⟨p4, _, rfl, h⟩ := h
  replace h := aC_el h
  obtain ⟨p5, _, rfl, h⟩ := h
  replace h := aN_el h
  obtain ⟨rfl, h⟩ := h
  replace h := aPtr_el h
  obtain ⟨rfl, h⟩ := h
  replace h := aPtr_el h
  obtain ⟨rfl, h⟩ := h
  replace h := aPtr_el h
  obtain ⟨rfl, h⟩ := h
  replace h := aPtr_el h
  obtain ⟨rfl, h⟩ := h
  replace h := aPtr_el h
  obtain ⟨rfl, h⟩ := h
  replace h := aPtr_el h
  obtain ⟨rfl, h⟩ := h
  replace h := aC_el h
  obtain ⟨b7, _, rfl, h⟩ := h
  replace h := aC_el h
  obtain ⟨b1, _, rfl, h⟩ := h
  replace h := aC_el h
  obtain ⟨b2, _, rfl, h⟩ := h
  replace h := aC_el h
  obtain ⟨b3, _, rfl, h⟩ := h
  replace h := aC_el h
  obtain ⟨b4, _, rfl, h⟩ := h
  replace h := aC_el h
  obtain ⟨b5, _, rfl, h⟩ := h
  replace h := aC_el h
  obtain ⟨b6, _, rfl, h⟩ := h
  replace h := aC_el h
  obtain ⟨b8, _, rfl, h⟩ := h
  replace h := aN_el h
  obtain ⟨rfl, h⟩ := h
  replace h := bRow_el h
  obtain ⟨(ws : List Int), rfl, h⟩ := h
  replace h := bCells_el h
  obtain ⟨U, c1, rfl, h⟩ := h
  replace h := d_layout_Layout_el h
  obtain ⟨l2, rfl, h⟩ := h
  replace h := bCells_el h
  obtain ⟨U2, c2, rfl, h⟩ := h
  replace h := aC_el h
  obtain ⟨d2_0, _, rfl, h⟩ := h
  replace h := aInt_el h
  obtain ⟨q, rfl, h⟩ := h
  replace h := aN_el h
  obtain ⟨rfl, h⟩ := h
  replace h := bCells_el h
  obtain ⟨U3, c3, rfl, h⟩ := h
  replace h := aC_el h
  obtain ⟨d3_0, _, rfl, h⟩ := h
  replace h := aInt_el h
  obtain ⟨f, rfl, h⟩ := h
  replace h := aN_el h
  obtain ⟨rfl, h⟩ := h
  replace h := bCells_el h
  obtain ⟨U4, c4, rfl, h⟩ := h
  replace h := aC_el h
  obtain ⟨d4_0, _, rfl, h⟩ := h
  replace h := aRow_el h
  obtain ⟨rfl, h⟩ := h
  replace h := aN_el h
  obtain ⟨rfl, h⟩ := h
  replace h := bCells_el h
  obtain ⟨U5, c5, rfl, h⟩ := h
  replace h := aC_el h
  obtain ⟨d5_0, _, rfl, h⟩ := h
  replace h := aInt_el h
  obtain ⟨p, rfl, h⟩ := h
  replace h := aN_el h
  obtain ⟨rfl, h⟩ := h
  replace h := bCells_el h
  obtain ⟨U6, c6, rfl, h⟩ := h
  replace h := aC_el h
  obtain ⟨d6_0, _, rfl, h⟩ := h
  replace h := aBool_el h
  obtain ⟨right, rfl, h⟩ := h
  replace h := aN_el h
  obtain ⟨rfl, h⟩ := h
  replace h := bRow_el h
  obtain ⟨(inv : List Int), rfl, h⟩ := h
  replace h := Req_el h
  obtain ⟨hsm, h⟩ := h
  have hsm := Nat.le_of_ble_eq_true hsm
  refine Eq.mpr (nf_do_law10_PlistOut_1 m_ ws l2 q f p right inv U U2 U3 U4 U5 U6 K) (Req_intro (by simpa using hsm) fun y => ⟨rfl, by decide, ?_⟩)
  refine So_imp h fun x hk => ?_
  refine ⟨rfl, fun mm mn nd its hv => Req_intro (Nat.ble_eq_true_of_le (by have := view_its hv; omega)) (Req_intro (decide_eq_true (by omega)) ?_)⟩
  have hlen := view_its hv
  refine loop_ind (σ := Nat) (fun j => (mkEnv [(0, .row 0), (7, .ptr 8 0), (10, .row 9), (31, .row 10), (32, vi ((its.map prOf).length : Int)), (33, vi ((j : Nat) : Int))]))
    (fun j => [.row 0 ws true, .cells U (e_layout_Layout l2), .cells U2 [vi q], .cells U3 [vi f], .cells U4 [.row 7], .cells U5 [vi p], .cells U6 [vb (x.2)], .row 0 inv true, .cells 0 [.row 0, .mp 11, .row 12], .row 0 (nowN ws its j) false, .row 2 (its.map prOf) false, .map mm mn, .row 2 nd false]) (fun j => j ≤ its.length) (fun j => its.length - j) ?_ 0 (Nat.zero_le _)
  intro j hj J hJ
  refine Eq.mpr (nf_do_law10_PlistOut_1_r m_ ws l2 q f p right inv U U2 U3 U4 U5 U6 x (nowN ws its j) (its.map prOf) nd mm mn _ j K J) (br_intro (fun h1 => ?_) (fun h1 => ?_))
  · have h1 : j < its.length := by simpa using h1
    have h1' : j < (its.map prOf).length := by simpa using h1
    obtain ⟨p1, p2⟩ := pr_in hv h1
    have hnx := hJ (j + 1) h1 (by omega)
    simp only [offs_nat, inR_nat h1', Req_true, Int.toNat_natCast, wrap_succ (show j ≤ 4611686018427387904 by omega), prs_get h1]
    simp only [nowN] at hnx
    generalize prOf (its.getD j []) = p at *
    have hoff : offs p.Addr 0 = p.Addr := by
      have e : p.Addr = ((p.Addr.toNat : Nat) : Int) := by omega
      rw [e]; rfl
    have hin : inR p.Addr (nowN ws its j).length = true := by rw [nowN_len]; exact inR_int p1 p2
    refine br_false (decide_eq_false (by omega)) (Req_intro hin (Req_intro (by rw [hoff]; exact hin) ?_))
    rw [hoff]
    exact hnx
  · have h1 : j = its.length := by simp at h1; omega
    subst h1
    rw [nowN_all hv]
    exact hk nd

theorem okdo_law10_PlistPlays_1 {m_ : Nat → (List Int) → T_layout_Layout → T_assartlaw10_Act → Bool → Int → Int → Option ((List Int) × Bool × (List Int) × Int)} (hm : SpecOK Try.prog elTT 43 (sp_law10_PlistPlays_1 m_)) : SpecOK Try.prog elTT 16 (sp_do_law10_PlistPlays_1 m_) := by
  refine spec_of_exF (cfg := cfgDo_law10_PlistPlays_1 m_) (cfg_ok rfl rfl rfl) (sigDo_ok hm) (fn := Try.f16) (by kernel_rfl) (by kernel_rfl) (by kernel_rfl) ?_
  intro args H K h
  change tr_do_law10_PlistPlays_1 m_ args H K at h
  unfold tr_do_law10_PlistPlays_1 at h
  replace h := aC_el h
  obtain ⟨a0, _, rfl, h⟩ := h
  replace h := aC_el h
  obtain ⟨a1, _, rfl, h⟩ := h
  replace h := aN_el h
  obtain ⟨rfl, h⟩ := h
  replace h := aRow_el h
  obtain ⟨rfl, h⟩ := h
  replace h := aFn_el h
  obtain ⟨cs, rfl, h⟩ := h
  replace h := aC_el h
  obtain ⟨p0, _, rfl, h⟩ := h
  replace h := aC_el h
  obtain ⟨p1, _, rfl, h⟩ := h
  replace h := aC_el h
  obtain ⟨p2, _, rfl, h⟩ := h
  replace h := aC_el h
  obtain ⟨p3, _, rfl, h⟩ := h
  replace h := aC_el h
  obtain ⟨p4, _, rfl, h⟩ := h
  replace h := aC_el h
  obtain ⟨p5, _, rfl, h⟩ := h
  replace h := aN_el h
  obtain ⟨rfl, h⟩ := h
  replace h := aPtr_el h
  obtain ⟨rfl, h⟩ := h
  replace h := aPtr_el h
  obtain ⟨rfl, h⟩ := h
  replace h := aPtr_el h
  obtain ⟨rfl, h⟩ := h
  replace h := aPtr_el h
  obtain ⟨rfl, h⟩ := h
  replace h := aPtr_el h
  obtain ⟨rfl, h⟩ := h
  replace h := aPtr_el h
  obtain ⟨rfl, h⟩ := h
  replace h := aC_el h
  obtain ⟨b7, _, rfl, h⟩ := h
  replace h := aC_el h
  obtain ⟨b1, _, rfl, h⟩ := h
  replace h := aC_el h
  obtain ⟨b2, _, rfl, h⟩ := h
  replace h := aC_el h
  obtain ⟨b3, _, rfl, h⟩ := h
  replace h := aC_el h
  obtain ⟨b4, _, rfl, h⟩ := h
  replace h := aC_el h
  obtain ⟨b5, _, rfl, h⟩ := h
  replace h := aC_el h
  obtain ⟨b6, _, rfl, h⟩ := h
  replace h := aN_el h
  obtain ⟨rfl, h⟩ := h
  replace h := bRow_el h
  obtain ⟨(ws : List Int), rfl, h⟩ := h
  replace h := bCells_el h
  obtain ⟨U, c1, rfl, h⟩ := h
  replace h := d_layout_Layout_el h
  obtain ⟨l2, rfl, h⟩ := h
  replace h := bCells_el h
  obtain ⟨U2, c2, rfl, h⟩ := h
  replace h := d_assartlaw10_Act_el h
  obtain ⟨a, rfl, h⟩ := h
  replace h := bCells_el h
  obtain ⟨U3, c3, rfl, h⟩ := h
  replace h := aC_el h
  obtain ⟨d3_0, _, rfl, h⟩ := h
  replace h := aBool_el h
  obtain ⟨xv, rfl, h⟩ := h
  replace h := aN_el h
  obtain ⟨rfl, h⟩ := h
  replace h := bCells_el h
  obtain ⟨U4, c4, rfl, h⟩ := h
  replace h := aC_el h
  obtain ⟨d4_0, _, rfl, h⟩ := h
  replace h := aNilS_el h
  obtain ⟨rfl, h⟩ := h
  replace h := aN_el h
  obtain ⟨rfl, h⟩ := h
  replace h := bCells_el h
  obtain ⟨U5, c5, rfl, h⟩ := h
  replace h := aC_el h
  obtain ⟨d5_0, _, rfl, h⟩ := h
  replace h := aInt_el h
  obtain ⟨q, rfl, h⟩ := h
  replace h := aN_el h
  obtain ⟨rfl, h⟩ := h
  replace h := bCells_el h
  obtain ⟨U6, c6, rfl, h⟩ := h
  replace h := aC_el h
  obtain ⟨d6_0, _, rfl, h⟩ := h
  replace h := aInt_el h
  obtain ⟨first, rfl, h⟩ := h
  replace h := aN_el h
  obtain ⟨rfl, h⟩ := h
  replace h := Req_el h
  obtain ⟨hsm, h⟩ := h
  have hsm := Nat.le_of_ble_eq_true hsm
  refine Eq.mpr (nf_do_law10_PlistPlays_1 m_ ws l2 a xv q first U U2 U3 U4 U5 U6 K) (Req_intro (by simpa using hsm) fun y => ⟨rfl, by decide, ?_⟩)
  refine So_imp h fun x hk => ?_
  refine ⟨rfl, fun mm mn nd its hv => Req_intro (Nat.ble_eq_true_of_le (by have := view_its hv; omega)) (Req_intro (decide_eq_true (by omega)) ?_)⟩
  have hlen := view_its hv
  refine loop_ind (σ := Nat) (fun j => (mkEnv [(0, .row 0), (7, .ptr 7 0), (10, .row 8), (31, .row 9), (32, vi ((its.map prOf).length : Int)), (33, vi ((j : Nat) : Int))]))
    (fun j => [.row 0 ws true, .cells U (e_layout_Layout l2), .cells U2 (e_assartlaw10_Act a), .cells U3 [vb (x.2.1)], .cells U4 [.row 10], .cells U5 [vi q], .cells U6 [vi (x.2.2.2)], .cells 0 [.row 0, .mp 11, .row 12], .row 0 (nowN ws its j) false, .row 2 (its.map prOf) false, .row 0 (x.2.2.1) false, .map mm mn, .row 2 nd false]) (fun j => j ≤ its.length) (fun j => its.length - j) ?_ 0 (Nat.zero_le _)
  intro j hj J hJ
  refine Eq.mpr (nf_do_law10_PlistPlays_1_r m_ ws l2 a xv q first U U2 U3 U4 U5 U6 x (nowN ws its j) (its.map prOf) nd mm mn _ j K J) (br_intro (fun h1 => ?_) (fun h1 => ?_))
  · have h1 : j < its.length := by simpa using h1
    have h1' : j < (its.map prOf).length := by simpa using h1
    obtain ⟨p1, p2⟩ := pr_in hv h1
    have hnx := hJ (j + 1) h1 (by omega)
    simp only [offs_nat, inR_nat h1', Req_true, Int.toNat_natCast, wrap_succ (show j ≤ 4611686018427387904 by omega), prs_get h1]
    simp only [nowN] at hnx
    generalize prOf (its.getD j []) = p at *
    have hoff : offs p.Addr 0 = p.Addr := by
      have e : p.Addr = ((p.Addr.toNat : Nat) : Int) := by omega
      rw [e]; rfl
    have hin : inR p.Addr (nowN ws its j).length = true := by rw [nowN_len]; exact inR_int p1 p2
    refine br_false (decide_eq_false (by omega)) (Req_intro hin (Req_intro (by rw [hoff]; exact hin) ?_))
    rw [hoff]
    exact hnx
  · have h1 : j = its.length := by simp at h1; omega
    subst h1
    rw [nowN_all hv]
    exact hk nd

theorem okdo_law10_PlistEach_1 {m_ : Nat → (List Int) → Bool → T_layout_Layout → (List Int) → (List Int) → Option ((List Int) × Bool)} (hm : SpecOK Try.prog elTT 50 (sp_law10_PlistEach_1 m_)) : SpecOK Try.prog elTT 16 (sp_do_law10_PlistEach_1 m_) := by
  refine spec_of_exF (cfg := cfgDo_law10_PlistEach_1 m_) (cfg_ok rfl rfl rfl) (sigDo_ok hm) (fn := Try.f16) (by kernel_rfl) (by kernel_rfl) (by kernel_rfl) ?_
  intro args H K h
  change tr_do_law10_PlistEach_1 m_ args H K at h
  unfold tr_do_law10_PlistEach_1 at h
  replace h := aC_el h
  obtain ⟨a0, _, rfl, h⟩ := h
  replace h := aC_el h
  obtain ⟨a1, _, rfl, h⟩ := h
  replace h := aN_el h
  obtain ⟨rfl, h⟩ := h
  replace h := aRow_el h
  obtain ⟨rfl, h⟩ := h
  replace h := aFn_el h
  obtain ⟨cs, rfl, h⟩ := h
  replace h := aC_el h
  obtain ⟨p0, _, rfl, h⟩ := h
  replace h := aC_el h
  obtain ⟨p1, _, rfl, h⟩ := h
  replace h := aC_el h
  obtain ⟨p2, _, rfl, h⟩ := h
  replace h := aC_el h
  obtain ⟨p3, _, rfl, h⟩ := h
  replace h := aN_el h
  obtain ⟨rfl, h⟩ := h
  replace h := aPtr_el h
  obtain ⟨rfl, h⟩ := h
  replace h := aPtr_el h
  obtain ⟨rfl, h⟩ := h
  replace h := aPtr_el h
  obtain ⟨rfl, h⟩ := h
  replace h := aPtr_el h
  obtain ⟨rfl, h⟩ := h
  replace h := aC_el h
  obtain ⟨b5, _, rfl, h⟩ := h
  replace h := aC_el h
  obtain ⟨b1, _, rfl, h⟩ := h
  replace h := aC_el h
  obtain ⟨b2, _, rfl, h⟩ := h
  replace h := aC_el h
  obtain ⟨b3, _, rfl, h⟩ := h
  replace h := aC_el h
  obtain ⟨b4, _, rfl, h⟩ := h
  replace h := aC_el h
  obtain ⟨b6, _, rfl, h⟩ := h
  replace h := aC_el h
  obtain ⟨b7, _, rfl, h⟩ := h
  replace h := aN_el h
  obtain ⟨rfl, h⟩ := h
  replace h := bRow_el h
  obtain ⟨(ws : List Int), rfl, h⟩ := h
  replace h := bCells_el h
  obtain ⟨U, c1, rfl, h⟩ := h
  replace h := aC_el h
  obtain ⟨d1_0, _, rfl, h⟩ := h
  replace h := aRow_el h
  obtain ⟨rfl, h⟩ := h
  replace h := aN_el h
  obtain ⟨rfl, h⟩ := h
  replace h := bCells_el h
  obtain ⟨U2, c2, rfl, h⟩ := h
  replace h := aC_el h
  obtain ⟨d2_0, _, rfl, h⟩ := h
  replace h := aRow_el h
  obtain ⟨rfl, h⟩ := h
  replace h := aN_el h
  obtain ⟨rfl, h⟩ := h
  replace h := bCells_el h
  obtain ⟨U3, c3, rfl, h⟩ := h
  replace h := aC_el h
  obtain ⟨d3_0, _, rfl, h⟩ := h
  replace h := aBool_el h
  obtain ⟨right, rfl, h⟩ := h
  replace h := aN_el h
  obtain ⟨rfl, h⟩ := h
  replace h := bCells_el h
  obtain ⟨U4, c4, rfl, h⟩ := h
  replace h := d_layout_Layout_el h
  obtain ⟨l2, rfl, h⟩ := h
  replace h := bRow_el h
  obtain ⟨(inv : List Int), rfl, h⟩ := h
  replace h := bRow_el h
  obtain ⟨(found : List Int), rfl, h⟩ := h
  replace h := Req_el h
  obtain ⟨hsm, h⟩ := h
  have hsm := Nat.le_of_ble_eq_true hsm
  refine Eq.mpr (nf_do_law10_PlistEach_1 m_ ws right l2 inv found U U2 U3 U4 K) (Req_intro (by simpa using hsm) fun y => ⟨rfl, by decide, ?_⟩)
  refine So_imp h fun x hk => ?_
  refine ⟨rfl, fun mm mn nd its hv => Req_intro (Nat.ble_eq_true_of_le (by have := view_its hv; omega)) (Req_intro (decide_eq_true (by omega)) ?_)⟩
  have hlen := view_its hv
  refine loop_ind (σ := Nat) (fun j => (mkEnv [(0, .row 0), (7, .ptr 7 0), (10, .row 8), (31, .row 9), (32, vi ((its.map prOf).length : Int)), (33, vi ((j : Nat) : Int))]))
    (fun j => [.row 0 ws true, .cells U [.row 5], .cells U2 [.row 10], .cells U3 [vb (x.2)], .cells U4 (e_layout_Layout l2), .row 0 inv true, .row 0 found true, .cells 0 [.row 0, .mp 11, .row 12], .row 0 (nowN ws its j) false, .row 2 (its.map prOf) false, .row 0 (x.1) false, .map mm mn, .row 2 nd false]) (fun j => j ≤ its.length) (fun j => its.length - j) ?_ 0 (Nat.zero_le _)
  intro j hj J hJ
  refine Eq.mpr (nf_do_law10_PlistEach_1_r m_ ws right l2 inv found U U2 U3 U4 x (nowN ws its j) (its.map prOf) nd mm mn _ j K J) (br_intro (fun h1 => ?_) (fun h1 => ?_))
  · have h1 : j < its.length := by simpa using h1
    have h1' : j < (its.map prOf).length := by simpa using h1
    obtain ⟨p1, p2⟩ := pr_in hv h1
    have hnx := hJ (j + 1) h1 (by omega)
    simp only [offs_nat, inR_nat h1', Req_true, Int.toNat_natCast, wrap_succ (show j ≤ 4611686018427387904 by omega), prs_get h1]
    simp only [nowN] at hnx
    generalize prOf (its.getD j []) = p at *
    have hoff : offs p.Addr 0 = p.Addr := by
      have e : p.Addr = ((p.Addr.toNat : Nat) : Int) := by omega
      rw [e]; rfl
    have hin : inR p.Addr (nowN ws its j).length = true := by rw [nowN_len]; exact inR_int p1 p2
    refine br_false (decide_eq_false (by omega)) (Req_intro hin (Req_intro (by rw [hoff]; exact hin) ?_))
    rw [hoff]
    exact hnx
  · have h1 : j = its.length := by simp at h1; omega
    subst h1
    rw [nowN_all hv]
    exact hk nd

theorem okdo_law10_lives_1 {m_ : Nat → (List Int) → T_layout_Layout → Option ((List Int) × (List Int) × (List Int))} (hm : SpecOK Try.prog elTT 85 (sp_law10_lives_1 m_)) : SpecOK Try.prog elTT 16 (sp_do_law10_lives_1 m_) := by
  refine spec_of_exF (cfg := cfgDo_law10_lives_1 m_) (cfg_ok rfl rfl rfl) (sigDo_ok hm) (fn := Try.f16) (by kernel_rfl) (by kernel_rfl) (by kernel_rfl) ?_
  intro args H K h
  change tr_do_law10_lives_1 m_ args H K at h
  unfold tr_do_law10_lives_1 at h
  replace h := aC_el h
  obtain ⟨a0, _, rfl, h⟩ := h
  replace h := aC_el h
  obtain ⟨a1, _, rfl, h⟩ := h
  replace h := aN_el h
  obtain ⟨rfl, h⟩ := h
  replace h := aRow_el h
  obtain ⟨rfl, h⟩ := h
  replace h := aFn_el h
  obtain ⟨cs, rfl, h⟩ := h
  replace h := aC_el h
  obtain ⟨p0, _, rfl, h⟩ := h
  replace h := aC_el h
  obtain ⟨p1, _, rfl, h⟩ := h
  replace h := aC_el h
  obtain ⟨p2, _, rfl, h⟩ := h
  replace h := aN_el h
  obtain ⟨rfl, h⟩ := h
  replace h := aPtr_el h
  obtain ⟨rfl, h⟩ := h
  replace h := aPtr_el h
  obtain ⟨rfl, h⟩ := h
  replace h := aPtr_el h
  obtain ⟨rfl, h⟩ := h
  replace h := aC_el h
  obtain ⟨b4, _, rfl, h⟩ := h
  replace h := aC_el h
  obtain ⟨b1, _, rfl, h⟩ := h
  replace h := aC_el h
  obtain ⟨b2, _, rfl, h⟩ := h
  replace h := aC_el h
  obtain ⟨b3, _, rfl, h⟩ := h
  replace h := aN_el h
  obtain ⟨rfl, h⟩ := h
  replace h := bRow_el h
  obtain ⟨(ws : List Int), rfl, h⟩ := h
  replace h := bCells_el h
  obtain ⟨U, c1, rfl, h⟩ := h
  replace h := d_layout_Layout_el h
  obtain ⟨l2, rfl, h⟩ := h
  replace h := bCells_el h
  obtain ⟨U2, c2, rfl, h⟩ := h
  replace h := aC_el h
  obtain ⟨d2_0, _, rfl, h⟩ := h
  replace h := aNilS_el h
  obtain ⟨rfl, h⟩ := h
  replace h := aN_el h
  obtain ⟨rfl, h⟩ := h
  replace h := bCells_el h
  obtain ⟨U3, c3, rfl, h⟩ := h
  replace h := aC_el h
  obtain ⟨d3_0, _, rfl, h⟩ := h
  replace h := aNilS_el h
  obtain ⟨rfl, h⟩ := h
  replace h := aN_el h
  obtain ⟨rfl, h⟩ := h
  replace h := Req_el h
  obtain ⟨hsm, h⟩ := h
  have hsm := Nat.le_of_ble_eq_true hsm
  refine Eq.mpr (nf_do_law10_lives_1 m_ ws l2 U U2 U3 K) (Req_intro (by simpa using hsm) fun y => ⟨rfl, by decide, ?_⟩)
  refine So_imp h fun x hk => ?_
  refine ⟨rfl, fun mm mn nd its hv => Req_intro (Nat.ble_eq_true_of_le (by have := view_its hv; omega)) (Req_intro (decide_eq_true (by omega)) ?_)⟩
  have hlen := view_its hv
  refine loop_ind (σ := Nat) (fun j => (mkEnv [(0, .row 0), (7, .ptr 4 0), (10, .row 5), (31, .row 6), (32, vi ((its.map prOf).length : Int)), (33, vi ((j : Nat) : Int))]))
    (fun j => [.row 0 ws true, .cells U (e_layout_Layout l2), .cells U2 [.row 7], .cells U3 [.row 8], .cells 0 [.row 0, .mp 9, .row 10], .row 0 (nowN ws its j) false, .row 2 (its.map prOf) false, .row 0 (x.2.1) false, .row 0 (x.2.2) false, .map mm mn, .row 2 nd false]) (fun j => j ≤ its.length) (fun j => its.length - j) ?_ 0 (Nat.zero_le _)
  intro j hj J hJ
  refine Eq.mpr (nf_do_law10_lives_1_r m_ ws l2 U U2 U3 x (nowN ws its j) (its.map prOf) nd mm mn _ j K J) (br_intro (fun h1 => ?_) (fun h1 => ?_))
  · have h1 : j < its.length := by simpa using h1
    have h1' : j < (its.map prOf).length := by simpa using h1
    obtain ⟨p1, p2⟩ := pr_in hv h1
    have hnx := hJ (j + 1) h1 (by omega)
    simp only [offs_nat, inR_nat h1', Req_true, Int.toNat_natCast, wrap_succ (show j ≤ 4611686018427387904 by omega), prs_get h1]
    simp only [nowN] at hnx
    generalize prOf (its.getD j []) = p at *
    have hoff : offs p.Addr 0 = p.Addr := by
      have e : p.Addr = ((p.Addr.toNat : Nat) : Int) := by omega
      rw [e]; rfl
    have hin : inR p.Addr (nowN ws its j).length = true := by rw [nowN_len]; exact inR_int p1 p2
    refine br_false (decide_eq_false (by omega)) (Req_intro hin (Req_intro (by rw [hoff]; exact hin) ?_))
    rw [hoff]
    exact hnx
  · have h1 : j = its.length := by simp at h1; omega
    subst h1
    rw [nowN_all hv]
    exact hk nd

theorem okdo_law10_after_1 {m_ : Nat → (List Int) → T_assartref02_Layout → T_layout_Layout → (List Int) → (List (List Int)) → Option ((List Int) × (List Int))} (hm : SpecOK Try.prog elTT 86 (sp_law10_after_1 m_)) : SpecOK Try.prog elTT 16 (sp_do_law10_after_1 m_) := by
  refine spec_of_exF (cfg := cfgDo_law10_after_1 m_) (cfg_ok rfl rfl rfl) (sigDo_ok hm) (fn := Try.f16) (by kernel_rfl) (by kernel_rfl) (by kernel_rfl) ?_
  intro args H K h
  change tr_do_law10_after_1 m_ args H K at h
  unfold tr_do_law10_after_1 at h
  replace h := aC_el h
  obtain ⟨a0, _, rfl, h⟩ := h
  replace h := aC_el h
  obtain ⟨a1, _, rfl, h⟩ := h
  replace h := aN_el h
  obtain ⟨rfl, h⟩ := h
  replace h := aRow_el h
  obtain ⟨rfl, h⟩ := h
  replace h := aFn_el h
  obtain ⟨cs, rfl, h⟩ := h
  replace h := aC_el h
  obtain ⟨p0, _, rfl, h⟩ := h
  replace h := aC_el h
  obtain ⟨p1, _, rfl, h⟩ := h
  replace h := aC_el h
  obtain ⟨p2, _, rfl, h⟩ := h
  replace h := aC_el h
  obtain ⟨p3, _, rfl, h⟩ := h
  replace h := aN_el h
  obtain ⟨rfl, h⟩ := h
  replace h := aPtr_el h
  obtain ⟨rfl, h⟩ := h
  replace h := aPtr_el h
  obtain ⟨rfl, h⟩ := h
  replace h := aPtr_el h
  obtain ⟨rfl, h⟩ := h
  replace h := aPtr_el h
  obtain ⟨rfl, h⟩ := h
  replace h := aC_el h
  obtain ⟨b5, _, rfl, h⟩ := h
  replace h := aC_el h
  obtain ⟨b1, _, rfl, h⟩ := h
  replace h := aC_el h
  obtain ⟨b2, _, rfl, h⟩ := h
  replace h := aC_el h
  obtain ⟨b3, _, rfl, h⟩ := h
  replace h := aC_el h
  obtain ⟨b4, _, rfl, h⟩ := h
  replace h := aC_el h
  obtain ⟨b6, _, rfl, h⟩ := h
  replace h := aC_el h
  obtain ⟨b7, _, rfl, h⟩ := h
  replace h := aN_el h
  obtain ⟨rfl, h⟩ := h
  replace h := bRow_el h
  obtain ⟨(ws : List Int), rfl, h⟩ := h
  replace h := bCells_el h
  obtain ⟨U, c1, rfl, h⟩ := h
  replace h := d_assartref02_Layout_el h
  obtain ⟨rv, rfl, h⟩ := h
  replace h := bCells_el h
  obtain ⟨U2, c2, rfl, h⟩ := h
  replace h := aC_el h
  obtain ⟨d2_0, _, rfl, h⟩ := h
  replace h := aRow_el h
  obtain ⟨rfl, h⟩ := h
  replace h := aN_el h
  obtain ⟨rfl, h⟩ := h
  replace h := bCells_el h
  obtain ⟨U3, c3, rfl, h⟩ := h
  replace h := aC_el h
  obtain ⟨d3_0, _, rfl, h⟩ := h
  replace h := aRow_el h
  obtain ⟨rfl, h⟩ := h
  replace h := aN_el h
  obtain ⟨rfl, h⟩ := h
  replace h := bCells_el h
  obtain ⟨U4, c4, rfl, h⟩ := h
  replace h := d_layout_Layout_el h
  obtain ⟨l2, rfl, h⟩ := h
  replace h := bRow_el h
  obtain ⟨(inv : List Int), rfl, h⟩ := h
  replace h := bRow_el h
  obtain ⟨(acts : List (List Int)), rfl, h⟩ := h
  replace h := Req_el h
  obtain ⟨hsm, h⟩ := h
  have hsm := Nat.le_of_ble_eq_true hsm
  refine Eq.mpr (nf_do_law10_after_1 m_ ws rv l2 inv acts U U2 U3 U4 K) (Req_intro (by simpa using hsm) fun y => ⟨rfl, by decide, ?_⟩)
  refine So_imp h fun x hk => ?_
  refine ⟨rfl, fun mm mn nd its hv => Req_intro (Nat.ble_eq_true_of_le (by have := view_its hv; omega)) (Req_intro (decide_eq_true (by omega)) ?_)⟩
  have hlen := view_its hv
  refine loop_ind (σ := Nat) (fun j => (mkEnv [(0, .row 0), (7, .ptr 7 0), (10, .row 8), (31, .row 9), (32, vi ((its.map prOf).length : Int)), (33, vi ((j : Nat) : Int))]))
    (fun j => [.row 0 ws true, .cells U (e_assartref02_Layout rv), .cells U2 [.row 10], .cells U3 [.row 6], .cells U4 (e_layout_Layout l2), .row 0 inv true, .row 39 acts true, .cells 0 [.row 0, .mp 11, .row 12], .row 0 (nowN ws its j) false, .row 2 (its.map prOf) false, .row 0 (x.2) false, .map mm mn, .row 2 nd false]) (fun j => j ≤ its.length) (fun j => its.length - j) ?_ 0 (Nat.zero_le _)
  intro j hj J hJ
  refine Eq.mpr (nf_do_law10_after_1_r m_ ws rv l2 inv acts U U2 U3 U4 x (nowN ws its j) (its.map prOf) nd mm mn _ j K J) (br_intro (fun h1 => ?_) (fun h1 => ?_))
  · have h1 : j < its.length := by simpa using h1
    have h1' : j < (its.map prOf).length := by simpa using h1
    obtain ⟨p1, p2⟩ := pr_in hv h1
    have hnx := hJ (j + 1) h1 (by omega)
    simp only [offs_nat, inR_nat h1', Req_true, Int.toNat_natCast, wrap_succ (show j ≤ 4611686018427387904 by omega), prs_get h1]
    simp only [nowN] at hnx
    generalize prOf (its.getD j []) = p at *
    have hoff : offs p.Addr 0 = p.Addr := by
      have e : p.Addr = ((p.Addr.toNat : Nat) : Int) := by omega
      rw [e]; rfl
    have hin : inR p.Addr (nowN ws its j).length = true := by rw [nowN_len]; exact inR_int p1 p2
    refine br_false (decide_eq_false (by omega)) (Req_intro hin (Req_intro (by rw [hoff]; exact hin) ?_))
    rw [hoff]
    exact hnx
  · have h1 : j = its.length := by simp at h1; omega
    subst h1
    rw [nowN_all hv]
    exact hk nd

end Go.Rx
end
