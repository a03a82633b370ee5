/- A call of a function, whose own text knows its blocks by other numbers. -/
import Derived.Test.YtimebkgadobpoaaRx5
namespace Go.Rx

variable {cfg : Cfg} {lk : Option (Blk → Bool)} {H : Heap} {ρ : List Value} {F : Nat → List Nat} {w : World}

theorem idx_spec : ∀ {ids : List Nat} {i p : Nat}, idx ids i = some p → ids[p]? = some i
  | [], i, p, h => by simp [idx] at h
  | a :: r, i, p, h => by
    simp only [idx] at h
    cases e : Nat.beq a i with
    | true => rw [e] at h; injection h with h; subst h; rw [Nat.eq_of_beq_eq_true e]; rfl
    | false =>
      rw [e] at h
      simp only [cond_false] at h
      split at h
      · rename_i q hq; injection h with h; subst h; simpa using idx_spec hq
      · cases h

theorem mem_spec : ∀ {ids : List Nat} {i : Nat}, mem i ids = false → ∀ p : Nat, ids[p]? ≠ some i
  | [], i, _, p, h => by simp at h
  | a :: r, i, hm, p, h => by
    simp only [mem, Bool.or_eq_false_iff] at hm
    cases p with
    | zero => simp at h; subst h; simp at hm
    | succ p => simp at h; exact mem_spec hm.2 p h

theorem nodup_spec : ∀ {ids : List Nat}, nodup ids = true → ∀ (p q i : Nat), ids[p]? = some i → ids[q]? = some i → p = q
  | [], _, p, q, i, h, _ => by simp at h
  | a :: r, hn, p, q, i, h, k => by
    simp only [nodup, Bool.and_eq_true, Bool.not_eq_true'] at hn
    cases p with
    | zero =>
      simp at h; subst h
      cases q with
      | zero => rfl
      | succ q => simp at k; exact absurd k (mem_spec hn.1 q)
    | succ p =>
      simp at h
      cases q with
      | zero => simp at k; subst k; exact absurd h (mem_spec hn.1 p)
      | succ q => simp at k; rw [nodup_spec hn.2 p q i h k]

theorem idx_none : ∀ {ids : List Nat} {i : Nat}, idx ids i = none → ∀ p : Nat, ids[p]? ≠ some i
  | [], i, _, p, h => by simp at h
  | a :: r, i, hm, p, h => by
    simp only [idx] at hm
    cases e : Nat.beq a i with
    | true => rw [e] at hm; cases hm
    | false =>
      rw [e] at hm
      simp only [cond_false] at hm
      split at hm
      · cases hm
      · rename_i hq
        cases p with
        | zero => simp at h; subst h; simp at e
        | succ p => simp at h; exact idx_none hq p h

theorem idx_complete {ids : List Nat} (hn : nodup ids = true) {i p : Nat} (h : ids[p]? = some i) : idx ids i = some p := by
  cases e : idx ids i with
  | none => exact absurd h (idx_none e p)
  | some q => rw [nodup_spec hn p q i h (idx_spec e)]

/-! Renaming. -/
mutual
theorem ren_den {ρ ρ' : List Value} {f : Nat → Option Nat} (hf : ∀ i j, f i = some j → ρ'[j]? = ρ[i]?) : ∀ (v v' : V), v.ren f = some v' → v'.den ρ' = v.den ρ
  | .ext v, v', e => by simp only [V.ren, Option.some.injEq] at e; subst e; rfl
  | .junk, v', e => by simp only [V.ren, Option.some.injEq] at e; subst e; rfl
  | .ptr i o, v', e => by
    simp only [V.ren] at e
    split at e
    · rename_i j hj; injection e with e; subst e; simp only [V.den, hf i j hj]
    · cases e
  | .eptr i n lo m o, v', e => by
    simp only [V.ren] at e
    split at e
    · rename_i j hj; injection e with e; subst e; simp only [V.den, hf i j hj]
    · cases e
  | .row i, v', e => by
    simp only [V.ren] at e
    split at e
    · rename_i j hj; injection e with e; subst e; simp only [V.den, hf i j hj]
    · cases e
  | .sub i a n m, v', e => by
    simp only [V.ren] at e
    split at e
    · rename_i j hj; injection e with e; subst e; simp only [V.den, hf i j hj]
    · cases e
  | .asl i o n c, v', e => by
    simp only [V.ren] at e
    split at e
    · rename_i j hj; injection e with e; subst e; simp only [V.den, hf i j hj]
    · cases e
  | .mp i, v', e => by
    simp only [V.ren] at e
    split at e
    · rename_i j hj; injection e with e; subst e; simp only [V.den, hf i j hj]
    · cases e
  | .mth g x, v', e => by
    simp only [V.ren] at e
    split at e
    · rename_i x' hx; injection e with e; subst e; simp only [V.den, ren_den hf x x' hx]
    · cases e
  | .fn g cs, v', e => by
    simp only [V.ren] at e
    split at e
    · rename_i cs' hcs; injection e with e; subst e; simp only [V.den, renL_den hf cs cs' hcs]
    · cases e
  | .agg cs, v', e => by
    simp only [V.ren] at e
    split at e
    · rename_i cs' hcs; injection e with e; subst e; simp only [V.den, renL_den hf cs cs' hcs]
    · cases e
  | .tup cs, v', e => by
    simp only [V.ren] at e
    split at e
    · rename_i cs' hcs; injection e with e; subst e; simp only [V.den, renL_den hf cs cs' hcs]
    · cases e
theorem renL_den {ρ ρ' : List Value} {f : Nat → Option Nat} (hf : ∀ i j, f i = some j → ρ'[j]? = ρ[i]?) : ∀ (vs vs' : List V), renL f vs = some vs' → denL ρ' vs' = denL ρ vs
  | [], vs', e => by simp only [renL, Option.some.injEq] at e; subst e; rfl
  | v :: r, vs', e => by
    simp only [renL] at e
    split at e
    · rename_i v1 r1 hv hr
      injection e with e
      subst e
      simp only [denL, ren_den hf v v1 hv, renL_den hf r r1 hr]
    · cases e
end

theorem ren_junk {f : Nat → Option Nat} {v v' : V} (h : v.ren f = some v') : v = .junk → v' = .junk := by
  rintro rfl
  simp only [V.ren, Option.some.injEq] at h
  exact h.symm

theorem ren_rel {ρ ρ' : List Value} {f : Nat → Option Nat} (hf : ∀ i j, f i = some j → ρ'[j]? = ρ[i]?) {v v' : V} {x : Value} (h : v.ren f = some v') (hx : Rel ρ v x) : Rel ρ' v' x := by
  rcases hx with e | e
  · exact .inl (ren_junk h e)
  · exact .inr (by rw [ren_den hf v v' h]; exact e)

theorem Blk.ren_holds {ρ ρ' : List Value} {f : Nat → Option Nat} (hf : ∀ i j, f i = some j → ρ'[j]? = ρ[i]?) {b b' : Blk} {x : Value} {G : List Nat} (h : b.ren f = some b') (hh : b.holds cfg.elT ρ w x G) : b'.holds cfg.elT ρ' w x G := by
  cases b with
  | dead => simp only [Blk.ren, Option.some.injEq] at h; subst h; exact hh
  | cells T cs =>
    simp only [Blk.ren] at h
    split at h
    · rename_i cs' hcs
      injection h with h
      subst h
      obtain ⟨g, vs, h1, h2, h3, h4⟩ := hh
      exact ⟨g, vs, h1, h2, by rw [renL_den hf cs cs' hcs]; exact h3, h4⟩
    · cases h
  | row t l ro =>
    simp only [Blk.ren, Option.some.injEq] at h
    subst h
    cases ro with
    | true => exact hh
    | false => exact hh
  | map m n => simp only [Blk.ren, Option.some.injEq] at h; subst h; exact hh
  | iter m left n c => simp only [Blk.ren, Option.some.injEq] at h; subst h; exact hh
  | pk tg st => simp only [Blk.ren, Option.some.injEq] at h; subst h; exact hh

theorem Blk.ren_writable {f : Nat → Option Nat} {b b' : Blk} (h : b.ren f = some b') : b'.writable = b.writable := by
  cases b with
  | dead => simp only [Blk.ren, Option.some.injEq] at h; subst h; rfl
  | cells T cs =>
    simp only [Blk.ren] at h
    split at h
    · injection h with h; subst h; rfl
    · cases h
  | row t l ro => simp only [Blk.ren, Option.some.injEq] at h; subst h; rfl
  | map m n => simp only [Blk.ren, Option.some.injEq] at h; subst h; rfl
  | iter m left n c => simp only [Blk.ren, Option.some.injEq] at h; subst h; rfl
  | pk tg st => simp only [Blk.ren, Option.some.injEq] at h; subst h; rfl

theorem sel_spec {f : Nat → Option Nat} : ∀ {ids : List Nat} {Hc : Heap}, sel H f ids = some Hc → Hc.length = ids.length ∧
    ∀ (p : Nat) (c : Blk), Hc[p]? = some c → ∃ i b, ids[p]? = some i ∧ H[i]? = some b ∧ b.ren f = some c
  | [], Hc, h => by simp only [sel, Option.some.injEq] at h; subst h; exact ⟨rfl, fun p c hc => by simp at hc⟩
  | i :: r, Hc, h => by
    simp only [sel] at h
    split at h
    · rename_i b bs hb hbs
      split at h
      · rename_i b' hb'
        injection h with h
        subst h
        obtain ⟨h1, h2⟩ := sel_spec hbs
        refine ⟨by simp [h1], fun p c hc => ?_⟩
        cases p with
        | zero => simp at hc; subst hc; exact ⟨i, b, rfl, hb, hb'⟩
        | succ p => simp at hc; obtain ⟨j, b2, h3, h4, h5⟩ := h2 p c hc; exact ⟨j, b2, by simpa using h3, h4, h5⟩
      · cases h
    · cases h

theorem selB_spec {f : Nat → Option Nat} : ∀ {bs cs : Heap}, selB f bs = some cs → cs.length = bs.length ∧ ∀ (p : Nat) (c : Blk), cs[p]? = some c → ∃ b, bs[p]? = some b ∧ b.ren f = some c
  | [], cs, h => by simp only [selB, Option.some.injEq] at h; subst h; exact ⟨rfl, fun p c hc => by simp at hc⟩
  | b :: r, cs, h => by
    simp only [selB] at h
    split at h
    · rename_i b' r' hb hr
      injection h with h
      subst h
      obtain ⟨h1, h2⟩ := selB_spec hr
      refine ⟨by simp [h1], fun p c hc => ?_⟩
      cases p with
      | zero => simp at hc; subst hc; exact ⟨b, rfl, hb⟩
      | succ p => simp at hc; obtain ⟨b2, h3, h4⟩ := h2 p c hc; exact ⟨b2, by simpa using h3, h4⟩
    · cases h

theorem mergeB_len (ids : List Nat) (hc bs : Heap) : ∀ (n : Nat) (H : Heap), (mergeB ids hc bs n H).length = H.length
  | _, [] => rfl
  | n, b :: r => by simp [mergeB, mergeB_len ids hc bs (n + 1) r]

theorem mergeB_spec (ids : List Nat) (hc bs : Heap) : ∀ (n : Nat) (H : Heap) (j : Nat) (c : Blk), (mergeB ids hc bs n H)[j]? = some c →
    ∃ b, H[j]? = some b ∧ ((c = b ∧ ∀ p d, idx ids (n + j) = some p → hc[p]? = some d → d.writable = false) ∨ ∃ p d, idx ids (n + j) = some p ∧ hc[p]? = some d ∧ d.writable = true ∧ c = bs.getD p .dead)
  | _, [], j, c, h => by simp [mergeB] at h
  | n, b :: r, 0, c, h => by
    simp only [mergeB, List.getElem?_cons_zero, Option.some.injEq] at h
    refine ⟨b, rfl, ?_⟩
    rw [Nat.add_zero]
    split at h
    · rename_i p hp
      split at h
      · rename_i d hd
        cases hw : d.writable with
        | true => rw [hw] at h; exact .inr ⟨p, d, hp, hd, hw, h.symm⟩
        | false => rw [hw] at h; exact .inl ⟨h.symm, fun q e hq he => by rw [hp] at hq; injection hq with hq; subst hq; rw [hd] at he; injection he with he; subst he; exact hw⟩
      · rename_i hd; exact .inl ⟨h.symm, fun q e hq he => by rw [hp] at hq; injection hq with hq; subst hq; rw [hd] at he; cases he⟩
    · rename_i hp; exact .inl ⟨h.symm, fun q e hq he => by rw [hp] at hq; cases hq⟩
  | n, b :: r, j + 1, c, h => by
    simp only [mergeB, List.getElem?_cons_succ] at h
    obtain ⟨b', h1, h2⟩ := mergeB_spec ids hc bs (n + 1) r j c h
    refine ⟨b', by simpa using h1, ?_⟩
    rw [show n + (j + 1) = n + 1 + j by omega]
    exact h2

theorem ownB_spec : ∀ {hc bs : Heap}, ownB hc bs = true → ∀ (p : Nat) (b : Blk), bs[p]? = some b → (∀ c, hc[p]? = some c → c.writable = true) → notRO b = true
  | _, [], _, p, b, hb, _ => by simp at hb
  | c :: hc, b' :: bs, h, p, b, hb, hc' => by
    simp only [ownB, Bool.and_eq_true] at h
    cases p with
    | zero =>
      simp at hb; subst hb
      have hw := hc' c (by simp)
      rw [hw] at h
      exact h.1
    | succ p => simp at hb; exact ownB_spec h.2 p b hb (fun c hc => hc' c (by simpa using hc))
  | [], b' :: bs, h, p, b, hb, hc' => by
    simp only [ownB, Bool.and_eq_true] at h
    cases p with
    | zero => simp at hb; subst hb; exact h.1
    | succ p => simp at hb; exact ownB_spec h.2 p b hb (fun c hc => by simp at hc)

/-- A block that is seen as one who only reads sees it. -/
theorem toRO_holds {elT : ET} {b : Blk} {x : Value} {G : List Nat} (h : b.holds elT ρ w x G) : (toRO b).holds elT ρ w x G := by
  cases b with
  | dead => exact h
  | cells T cs => exact h
  | row t l ro =>
    obtain ⟨a, cap, h1, h2, h3, h4, h5⟩ := row_val (cfg := ⟨default, fun _ => none, elT, fun _ => none, fun _ => none, fun _ => none, fun _ => none, fun _ => none, fun _ => false, fun _ => none⟩) h
    exact ⟨a, cap, h1, h2, h3, h4, h5⟩
  | map m n => exact h
  | iter m left n c => exact h
  | pk tg st => exact h

theorem toRO_writable {b : Blk} (h : (toRO b).writable = true) : b.writable = true := by
  cases b with
  | dead => exact h
  | cells T cs => rfl
  | row t l ro => cases h
  | map m n => rfl
  | iter m left n c => rfl
  | pk tg st => rfl

theorem roB_get {ro : Bool} {Hc : Heap} {p : Nat} {c : Blk} (h : (roB ro Hc)[p]? = some c) : ∃ d, Hc[p]? = some d ∧ (c.writable = true → d.writable = true) ∧ ∀ (elT : ET) (ρ : List Value) (w : World) (x : Value) (G : List Nat), d.holds elT ρ w x G → c.holds elT ρ w x G := by
  unfold roB at h
  cases ro with
  | true =>
    simp only [List.getElem?_map, Option.map_eq_some_iff] at h
    obtain ⟨d, hd, rfl⟩ := h
    exact ⟨d, hd, toRO_writable, fun elT ρ w x G h => toRO_holds h⟩
  | false => exact ⟨c, h, id, fun _ _ _ _ _ h => h⟩

theorem roB_len {ro : Bool} {Hc : Heap} : (roB ro Hc).length = Hc.length := by unfold roB; cases ro <;> simp

/-- A new block that nobody writes, in memory that is there. -/
theorem Step.pushRO (hs : Sat cfg.elT ρ F H w) {b : Blk} {x : Value} {G : List Nat} (hb0 : b.writable = false)
    (hG : ∀ n ∈ G, n < w.heap.size ∧ (∀ (j : Nat) (c : Blk), H[j]? = some c → c.writable = true → n ∉ F j) ∧ ∃ (j : Nat) (c : Blk), H[j]? = some c ∧ n ∈ F j) (hb : b.holds cfg.elT (ρ ++ [x]) w x G) :
    Step cfg lk ρ F H w (ρ ++ [x]) (fset F H.length G) (H ++ [b]) w := by
  have hne : ∀ (i : Nat) (c : Blk), H[i]? = some c → i ≠ H.length := fun i c hc => by have := (List.getElem?_eq_some_iff.1 hc).1; omega
  refine ⟨Le.append ρ [x], ⟨by simp [hs.len], fun i c y hc hy => ?_, fun i c hc n hn => ?_, fun i j c d hc hd hij hw n hn => ?_⟩,
    ⟨rfl, rfl, rfl, Nat.le_refl _, fun _ _ _ => rfl, fun i c hc hw n hn => ?_, fun i c hc n hn => ?_⟩, fun f hf i c hc hfc => ⟨?_, ?_, fun n hn => rfl⟩⟩
  · rcases push_get hc with ⟨hi, hc'⟩ | ⟨rfl, rfl⟩
    · have hi' : i < ρ.length := by rw [hs.len]; exact hi
      rw [List.getElem?_append_left hi'] at hy
      simp only [fset, Nat.ne_of_lt hi, if_false]
      exact Blk.holds_le (Le.append ρ [x]) (fun n hn => rfl) c (hs.each i c y hc' hy)
    · rw [← hs.len] at hy
      simp at hy
      subst hy
      simp only [fset, if_true]
      exact hb
  · rcases push_get hc with ⟨hi, hc'⟩ | ⟨rfl, rfl⟩
    · simp only [fset, Nat.ne_of_lt hi, if_false] at hn
      exact hs.lt i c hc' n hn
    · simp only [fset, if_true] at hn
      exact (hG n hn).1
  · rcases push_get hc with ⟨hi, hc'⟩ | ⟨rfl, rfl⟩
    · simp only [fset, Nat.ne_of_lt hi, if_false] at hn
      rcases push_get hd with ⟨hj, hd'⟩ | ⟨rfl, rfl⟩
      · simp only [fset, Nat.ne_of_lt hj, if_false]
        exact hs.disj i j c d hc' hd' hij hw n hn
      · simp only [fset, if_true]
        intro hm
        exact (hG n hm).2.1 i c hc' hw hn
    · rw [hb0] at hw; cases hw
  · rcases push_get hc with ⟨hi, hc'⟩ | ⟨rfl, rfl⟩
    · simp only [fset, Nat.ne_of_lt hi, if_false] at hn
      exact .inr ⟨i, c, hc', hw, hn⟩
    · rw [hb0] at hw; cases hw
  · rcases push_get hc with ⟨hi, hc'⟩ | ⟨rfl, rfl⟩
    · simp only [fset, Nat.ne_of_lt hi, if_false] at hn
      exact .inr ⟨i, c, hc', hn⟩
    · simp only [fset, if_true] at hn
      obtain ⟨j, c, h1, h2⟩ := (hG n hn).2.2
      exact .inr ⟨j, c, h1, h2⟩
  · rw [List.getElem?_append_left (List.getElem?_eq_some_iff.1 hc).1]; exact hc
  · simp only [fset, hne i c hc, if_false]

theorem roify_sound {v : V} {x : Value} {K : V → Heap → Prop} (h : roify H v K) (hx : v.den ρ = some x) (hs : Sat cfg.elT ρ F H w) :
    ∃ v' ρ' F' H', K v' H' ∧ v'.den ρ' = some x ∧ Step cfg lk ρ F H w ρ' F' H' w := by
  unfold roify at h
  split at h
  · rename_i i lo n m
    split at h
    · rename_i t l ro hH
      cases hc : (ro && Nat.beq m (elM t)) with
      | false => rw [hc] at h; exact ⟨_, ρ, F, H, h, hx, .refl hs⟩
      | true =>
        rw [hc] at h
        simp only [Bool.and_eq_true] at hc
        obtain ⟨hro, hm⟩ := hc
        obtain rfl := Nat.eq_of_beq_eq_true hm
        subst hro
        have hr := Req_elim h
        have hq : lo + n ≤ l.length := by simpa using hr.1
        obtain ⟨ad, len, cap, hb, rfl⟩ := den_sub (.inr hx)
        have hh := hs.each i _ _ hH hb
        obtain ⟨ad', cap', e, h1, h2, h3, h4⟩ := row_val hh
        injection e with e1 e2 e3
        subst e1; subst e2; subst e3
        have hlen : ((l.drop lo).take n).length = n := by simp; omega
        refine ⟨_, _, _, _, hr.2, ?_, Step.pushRO hs (x := .slice (if cap = lo then ad else ad.map (·.add (lo * elM t))) n (cap - lo)) (G := F i) rfl (fun q hq' => ⟨hs.lt i _ hH q hq', fun j c hc hcw hm => ?_, i, _, hH, hq'⟩) ?_⟩
        · simp only [V.den, get_new hs]
        · have hne : j ≠ i := fun e => by subst e; rw [hH] at hc; injection hc with hc; subst hc; cases hcw
          exact hs.disj j i c _ hc hH hne hcw q hm hq'
        · refine ⟨_, _, by rw [hlen], by rw [hlen]; omega, by omega, fun hno => ?_, fun j y hj => ?_⟩
          · cases ad with
            | none => have := h3 rfl; omega
            | some a => split at hno <;> simp at hno
          · rw [flat_take, flat_drop, List.getElem?_take] at hj
            split at hj
            · rename_i hjl
              rw [List.getElem?_drop] at hj
              obtain ⟨a, e, hF, hc⟩ := h4 _ y hj
              subst e
              have hn : 0 < n := by
                rcases Nat.eq_zero_or_pos n with h0 | h0
                · subst h0; simp at hjl
                · exact h0
              have hne : ¬ cap = lo := by omega
              refine ⟨a.add (lo * elM t), by rw [if_neg hne]; rfl, ?_, by rw [add_add]; exact hc⟩
              have : (a.add (lo * elM t)).block = a.block := by unfold Addr.add; split <;> rfl
              rw [this]; exact hF
            · cases hj
    · exact h.elim
  · exact ⟨_, ρ, F, H, h, hx, .refl hs⟩

theorem roifyL_sound : ∀ {vs : List V} {H : Heap} {ρ : List Value} {F : Nat → List Nat} {xs : List Value} {K : List V → Heap → Prop}, roifyL vs H K → denL ρ vs = some xs → Sat cfg.elT ρ F H w →
    ∃ vs' ρ' F' H', K vs' H' ∧ denL ρ' vs' = some xs ∧ Step cfg lk ρ F H w ρ' F' H' w
  | [], H, ρ, F, xs, K, h, hx, hs => ⟨[], ρ, F, H, h, hx, .refl hs⟩
  | v :: r, H, ρ, F, xs, K, h, hx, hs => by
    simp only [denL] at hx
    cases hv : v.den ρ with
    | none => simp [hv] at hx
    | some x =>
      cases hr : denL ρ r with
      | none => simp [hv, hr] at hx
      | some ys =>
        simp only [hv, hr] at hx; injection hx with hx; subst hx
        obtain ⟨v', ρ1, F1, H1, h1, h2, st1⟩ := roify_sound (lk := lk) h hv hs
        obtain ⟨vs', ρ2, F2, H2, g1, g2, st2⟩ := roifyL_sound h1 (denL_le st1.le r ys hr) st1.sat
        exact ⟨v' :: vs', ρ2, F2, H2, g1, by simp only [denL, den_le st2.le v' x h2, g2], st1.trans st2⟩


/-- A function's contract: what its transformer says is so, of every call, whatever else stands in memory. -/
def SpecOK (P : Program) (elT : ET) (g : FuncId) (s : Spec) : Prop :=
  (∃ fn, P.funcs[g]? = some fn ∧ (fn.name == "runtime.NumGoroutine") = false ∧ fn.body.isNone = false) ∧
  ∀ (args : List V) (H : Heap) (K : V → Heap → Prop), s.tr args H K → ∀ (ρ : List Value) (F : Nat → List Nat) (w : World) (vals : List Value), denL ρ args = some vals → Sat elT ρ F H w →
    Calls P g vals.toArray w fun e w' => ∃ v x ρ' F' H', e = .returned x ∧ K v H' ∧ Rel ρ' v x ∧ Le ρ ρ' ∧ Sat elT ρ' F' H' w' ∧ Fr H F w H' F' w'

theorem allFree_spec : ∀ {Hc : Heap}, allFree lk Hc = true → ∀ (p : Nat) (c : Blk), Hc[p]? = some c → c.writable = true → mayWrite lk c = true
  | [], _, p, c, hc, _ => by simp at hc
  | b :: r, h, p, c, hc, hw => by
    simp only [allFree, Bool.and_eq_true, Bool.or_eq_true, Bool.not_eq_true'] at h
    cases p with
    | zero => simp at hc; subst hc; rcases h.1 with h | h <;> simp_all
    | succ p => simp at hc; exact allFree_spec h.2 p c hc hw

/-- Locks look at kinds alone: renaming does not matter. -/
def LkOK (lk : Option (Blk → Bool)) : Prop := ∀ f, lk = some f → ∀ (g : Nat → Option Nat) (b c : Blk), b.ren g = some c → f c = f b

theorem callC_sound (hlk : LkOK lk) {g : FuncId} {s : Spec} (hspec : SpecOK cfg.P cfg.elT g s) {args : List V} {vals : List Value} {K : V → Heap → Prop} (h : callC s args H lk K) (hx : denL ρ args = some vals) (hs : Sat cfg.elT ρ F H w) :
    Calls cfg.P g vals.toArray w fun e w' => ∃ v x ρ' F' H', e = .returned x ∧ K v H' ∧ Rel ρ' v x ∧ Step cfg lk ρ F H w ρ' F' H' w' := by
  unfold callC at h
  obtain ⟨as, ρ0, F0, H0, h, hx0, st0⟩ := roifyL_sound (lk := lk) h hx hs
  have hs0 := st0.sat
  generalize hids : reach H0 3 (addNew [] (idsL as)) = ids at h
  simp only at h
  split at h
  · rename_i as' H1 hren hsel
    have hc := cond_elim h
    have hc1 := hc.1
    simp only [Bool.and_eq_true] at hc1
    obtain ⟨hnd, hfree⟩ := hc1
    have hh := hc.2
    clear h hc
    obtain ⟨hlen1, hget1⟩ := sel_spec hsel
    generalize hHc : roB s.ro H1 = Hc at hh hfree
    have hlen : Hc.length = ids.length := by rw [← hHc, roB_len, hlen1]
    -- the callee's view
    have hρc : ∀ i j, idx ids i = some j → (ids.map fun i => ρ0.getD i undef)[j]? = ρ0[i]? := by
      intro i j hij
      have hj := idx_spec hij
      have hjl : j < ids.length := (List.getElem?_eq_some_iff.1 hj).1
      have hjc : j < H1.length := by rw [hlen1]; exact hjl
      obtain ⟨i', b, e1, e2, _⟩ := hget1 j _ (List.getElem?_eq_getElem hjc)
      rw [hj] at e1; injection e1 with e1; subst e1
      have hil : i < ρ0.length := by rw [hs0.len]; exact (List.getElem?_eq_some_iff.1 e2).1
      rw [List.getElem?_map, hj]
      simp [List.getD, List.getElem?_eq_getElem hil]
    have hget : ∀ (p : Nat) (c : Blk), Hc[p]? = some c → ∃ (i : Nat) (b : Blk), ids[p]? = some i ∧ H0[i]? = some b ∧ (c.writable = true → b.writable = true) ∧
        ∀ (x : Value) (G : List Nat), b.holds cfg.elT ρ0 w x G → c.holds cfg.elT (ids.map fun i => ρ0.getD i undef) w x G := by
      intro p c hcp
      rw [← hHc] at hcp
      obtain ⟨d, hd, hdw, hdh⟩ := roB_get hcp
      obtain ⟨i, b, e1, e2, e3⟩ := hget1 p d hd
      exact ⟨i, b, e1, e2, fun hw => by rw [← Blk.ren_writable e3]; exact hdw hw, fun x G hb => hdh _ _ _ _ _ (Blk.ren_holds hρc e3 hb)⟩
    have hsat : Sat cfg.elT (ids.map fun i => ρ0.getD i undef) (fun p => F0 (ids.getD p 0)) Hc w := by
      refine ⟨by simp [hlen], fun p c y hcp hy => ?_, fun p c hcp n hn => ?_, fun p q c d hcp hdq hpq hw n hn => ?_⟩
      · obtain ⟨i, b, e1, e2, _, e3⟩ := hget p c hcp
        have hp := hρc i p (idx_complete hnd e1)
        rw [hy] at hp
        have hgd : ids.getD p 0 = i := by simp [List.getD, e1]
        show c.holds cfg.elT _ w y (F0 (ids.getD p 0))
        rw [hgd]
        exact e3 y _ (hs0.each i b y e2 hp.symm)
      · obtain ⟨i, b, e1, e2, _⟩ := hget p c hcp
        have hgd : ids.getD p 0 = i := by simp [List.getD, e1]
        simp only [hgd] at hn
        exact hs0.lt i b e2 n hn
      · obtain ⟨i, b, e1, e2, e3, _⟩ := hget p c hcp
        obtain ⟨j, b2, f1, f2, _⟩ := hget q d hdq
        have hgd : ids.getD p 0 = i := by simp [List.getD, e1]
        have hgd2 : ids.getD q 0 = j := by simp [List.getD, f1]
        simp only [hgd] at hn
        simp only [hgd2]
        exact hs0.disj i j b b2 e2 f2 (fun e => by subst e; exact hpq (nodup_spec hnd p q i e1 f1)) (e3 hw) n hn
    have hden : denL (ids.map fun i => ρ0.getD i undef) as' = some vals := by rw [renL_den hρc as as' hren]; exact hx0
    refine (hspec.2 as' Hc _ hh _ _ w vals hden hsat).mono ?_
    rintro e w' ⟨v, x, ρ', F', H', rfl, hK, hrel, hle, hs', hfr⟩
    split at hK
    · rename_i v' Hb hv' hHb
      have hk := cond_elim hK
      have hk1 := hk.1
      simp only [Bool.and_eq_true] at hk1
      have hll := Nat.le_of_ble_eq_true hk1.1
      have hown := hk1.2
      obtain ⟨hlenB, hgetB⟩ := selB_spec hHb
      have hl' : ids.length ≤ H'.length := by rw [← hlenB]; exact hll
      have hback : ∀ i j, backOf H0.length ids i = some j → (ρ0 ++ ρ'.drop ids.length)[j]? = ρ'[i]? := by
        intro i j hij
        unfold backOf at hij
        split at hij
        · rename_i j' hj'
          injection hij with hij; subst hij
          have hi := idx_complete hnd hj'
          have hp := hρc j' i hi
          have hil : i < ids.length := (List.getElem?_eq_some_iff.1 hj').1
          obtain ⟨i', b, e1, e2, _⟩ := hget i _ (List.getElem?_eq_getElem (by rw [hlen]; exact hil))
          rw [hj'] at e1; injection e1 with e1; subst e1
          have hjl : j' < ρ0.length := by rw [hs0.len]; exact (List.getElem?_eq_some_iff.1 e2).1
          rw [List.getElem?_append_left hjl]
          rw [List.getElem?_eq_getElem hjl] at hp ⊢
          exact (hle i _ hp).symm
        · rename_i hnone
          injection hij with hij; subst hij
          have hil : ids.length ≤ i := by
            rcases Nat.lt_or_ge i ids.length with h | h
            · rw [List.getElem?_eq_getElem h] at hnone; cases hnone
            · exact h
          rw [List.getElem?_append_right (by rw [hs0.len]; omega), List.getElem?_drop, hs0.len]
          congr 1
          omega
      -- which of the callee's blocks it could write, or made
      let mine : Nat → Prop := fun p => ∀ c, Hc[p]? = some c → c.writable = true
      let F2 : Nat → List Nat := fun j => if j < H0.length then (match idx ids j with
        | some p => (match Hc[p]? with | some b => if b.writable = true then F' p else F0 j | none => F0 j)
        | none => F0 j) else F' (j - H0.length + ids.length)
      have hcases : ∀ (j : Nat) (c : Blk), (mergeB ids Hc Hb 0 H0 ++ Hb.drop ids.length)[j]? = some c →
          (j < H0.length ∧ H0[j]? = some c ∧ F2 j = F0 j ∧ (∀ (p : Nat) (d : Blk), ids[p]? = some j → Hc[p]? = some d → d.writable = false)) ∨
          (∃ p b, H'[p]? = some b ∧ b.ren (backOf H0.length ids) = some c ∧ F2 j = F' p ∧ (ρ0 ++ ρ'.drop ids.length)[j]? = ρ'[p]? ∧ backOf H0.length ids p = some j ∧ notRO c = true) := by
        intro j c hc
        by_cases hj : j < H0.length
        · rw [List.getElem?_append_left (by rw [mergeB_len]; exact hj)] at hc
          obtain ⟨b, hb, hor⟩ := mergeB_spec ids Hc Hb 0 H0 j c hc
          rw [Nat.zero_add] at hor
          rcases hor with ⟨rfl, hor⟩ | ⟨p, d, hp, hd, hw, rfl⟩
          · refine .inl ⟨hj, hb, ?_, fun p d hp hd => hor p d (idx_complete hnd hp) hd⟩
            simp only [F2, hj, if_true]
            cases hi : idx ids j with
            | none => rfl
            | some p =>
              cases hd : Hc[p]? with
              | none => simp [hd]
              | some d => simp [hd, hor p d hi hd]
          · have hpi := idx_spec hp
            have hpl : p < ids.length := (List.getElem?_eq_some_iff.1 hpi).1
            have hpb : p < Hb.length := by omega
            have hbp : Hb.getD p .dead = Hb[p] := by simp [List.getD, List.getElem?_eq_getElem hpb]
            obtain ⟨b2, h1, h2⟩ := hgetB p _ (List.getElem?_eq_getElem hpb)
            have hbk : backOf H0.length ids p = some j := by unfold backOf; rw [hpi]
            refine .inr ⟨p, b2, h1, by rw [hbp]; exact h2, ?_, hback p j hbk, hbk, ?_⟩
            · simp only [F2, hj, if_true, hp, hd, hw]
            · rw [hbp]
              exact ownB_spec hown p _ (List.getElem?_eq_getElem hpb) (fun c hc => by rw [hd] at hc; injection hc with hc; subst hc; exact hw)
        · have hj' : H0.length ≤ j := by omega
          rw [List.getElem?_append_right (by rw [mergeB_len]; exact hj'), mergeB_len, List.getElem?_drop] at hc
          obtain ⟨b2, h1, h2⟩ := hgetB _ c hc
          have hbk : backOf H0.length ids (ids.length + (j - H0.length)) = some j := by
            unfold backOf
            rw [List.getElem?_eq_none (by omega)]
            show some (H0.length + (ids.length + (j - H0.length) - ids.length)) = some j
            rw [Nat.add_sub_cancel_left, Nat.add_sub_cancel' hj']
          refine .inr ⟨_, b2, h1, h2, ?_, hback _ j hbk, hbk, ownB_spec hown _ c hc (fun d hd => ?_)⟩
          · simp only [F2, hj, if_false]
            congr 1
            omega
          · have := (List.getElem?_eq_some_iff.1 hd).1
            omega
      -- old memory that the callee could not write
      have hold : ∀ (j : Nat) (c : Blk), H0[j]? = some c → (∀ (p : Nat) (d : Blk), ids[p]? = some j → Hc[p]? = some d → d.writable = false) → ∀ n ∈ F0 j, w'.heap[n]? = w.heap[n]? := by
        intro j c hc hno n hn
        refine hfr.block n (hs0.lt j c hc n hn) (fun p d hd hdw hm => ?_)
        obtain ⟨i, b, e1, e2, e3, _⟩ := hget p d hd
        have hgd : ids.getD p 0 = i := by simp [List.getD, e1]
        simp only [hgd] at hm
        have hij : i ≠ j := fun e => by subst e; rw [hno p d e1 hd] at hdw; cases hdw
        exact hs0.disj i j b c e2 hc hij (e3 hdw) n hm hn
      -- a callee's footprint lies in what it was given to write, or is new
      have hfoot : ∀ (p : Nat) (b : Blk), H'[p]? = some b → b.writable = true → ∀ n ∈ F' p, w.heap.size ≤ n ∨ ∃ (q i : Nat) (c d : Blk), ids[q]? = some i ∧ H0[i]? = some c ∧ n ∈ F0 i ∧ c.writable = true ∧ Hc[q]? = some d ∧ d.writable = true := by
        intro p b hb hbw n hn
        rcases hfr.foot p b hb hbw n hn with h | ⟨q, d, hd, hdw, hm⟩
        · exact .inl h
        · obtain ⟨i, c, e1, e2, e3, _⟩ := hget q d hd
          have hgd : ids.getD q 0 = i := by simp [List.getD, e1]
          simp only [hgd] at hm
          exact .inr ⟨q, i, c, d, e1, e2, hm, e3 hdw, hd, hdw⟩
      -- what comes back is written by us, or is nothing
      have hdead : ∀ (p : Nat) (b c : Blk), H'[p]? = some b → b.ren (backOf H0.length ids) = some c → notRO c = true → b.writable = true ∨ F' p = [] := by
        intro p b c hb hbr hno
        cases b with
        | dead =>
          right
          have hp : p < ρ'.length := by rw [hs'.len]; exact (List.getElem?_eq_some_iff.1 hb).1
          exact hs'.each p _ _ hb (List.getElem?_eq_getElem hp)
        | cells T cs => exact .inl rfl
        | map m n => exact .inl rfl
        | iter m left n c => exact .inl rfl
        | pk tg st => exact .inl rfl
        | row t l ro =>
          simp only [Blk.ren, Option.some.injEq] at hbr
          subst hbr
          exact .inl hno
      have hsat2 : Sat cfg.elT (ρ0 ++ ρ'.drop ids.length) F2 (mergeB ids Hc Hb 0 H0 ++ Hb.drop ids.length) w' := by
        refine ⟨?_, fun j c y hc hy => ?_, fun j c hc n hn => ?_, fun j k c d hc hd hjk hcw n hn => ?_⟩
        · rw [List.length_append, List.length_append, mergeB_len, List.length_drop, List.length_drop, hs0.len, hs'.len, hlenB]
        · rcases hcases j c hc with ⟨hj, hc0, hF, hno⟩ | ⟨p, b, hb, hbr, hF, hρ, _⟩
          · rw [hF]
            rw [List.getElem?_append_left (by rw [hs0.len]; exact hj)] at hy
            exact Blk.holds_le (Le.append ρ0 _) (hold j c hc0 hno) c (hs0.each j c y hc0 hy)
          · rw [hF]
            rw [hρ] at hy
            exact Blk.ren_holds hback hbr (hs'.each p b y hb hy)
        · rcases hcases j c hc with ⟨hj, hc0, hF, hno⟩ | ⟨p, b, hb, hbr, hF, hρ, _⟩
          · rw [hF] at hn
            exact Nat.lt_of_lt_of_le (hs0.lt j c hc0 n hn) hfr.size
          · rw [hF] at hn
            exact hs'.lt p b hb n hn
        · rcases hcases j c hc with ⟨hj, hc0, hF, hno⟩ | ⟨p, b, hb, hbr, hF, hρ, hbk, hnr⟩
          · rw [hF] at hn
            rcases hcases k d hd with ⟨hk', hd0, hF', hno'⟩ | ⟨q, b', hb', hbr', hF', hρ', hbk', hnr'⟩
            · rw [hF']; exact hs0.disj j k c d hc0 hd0 hjk hcw n hn
            · rw [hF']
              intro hm
              rcases hdead q b' d hb' hbr' hnr' with hbw | h0
              · rcases hfoot q b' hb' hbw n hm with h | ⟨q', i, c', d', e1, e2, e3, e4, e5, e6⟩
                · have := hs0.lt j c hc0 n hn; omega
                · have hij : j ≠ i := fun e => by subst e; rw [hno q' d' e1 e5] at e6; cases e6
                  exact hs0.disj j i c c' hc0 e2 hij hcw n hn e3
              · rw [h0] at hm; cases hm
          · rw [hF] at hn
            have hbw : b.writable = true := by rw [← Blk.ren_writable hbr]; exact hcw
            rcases hcases k d hd with ⟨hk', hd0, hF', hno'⟩ | ⟨q, b', hb', hbr', hF', hρ', hbk', hnr'⟩
            · rw [hF']
              intro hm
              rcases hfoot p b hb hbw n hn with h | ⟨q', i, c', d', e1, e2, e3, e4, e5, e6⟩
              · have := hs0.lt k d hd0 n hm; omega
              · have hij : i ≠ k := fun e => by subst e; rw [hno' q' d' e1 e5] at e6; cases e6
                exact hs0.disj i k c' d e2 hd0 hij e4 n e3 hm
            · rw [hF']
              have hpq : p ≠ q := fun e => by subst e; rw [hbk] at hbk'; injection hbk' with hbk'; exact hjk hbk'
              exact hs'.disj p q b b' hb hb' hpq hbw n hn
      refine ⟨v', x, _, F2, _, rfl, hk.2, ren_rel hback hv' hrel, st0.trans ⟨Le.append ρ0 _, hsat2, ⟨hfr.os, hfr.tape, hfr.output, hfr.size, fun n hn hno => ?_, fun j c hc hcw n hn => ?_, fun j c hc n hn => ?_⟩, fun f hf j c hc hfc => ?_⟩⟩
      · refine hfr.block n hn (fun p d hd hdw hm => ?_)
        obtain ⟨i, b, e1, e2, e3, _⟩ := hget p d hd
        have hgd : ids.getD p 0 = i := by simp [List.getD, e1]
        simp only [hgd] at hm
        exact hno i b e2 (e3 hdw) hm
      · rcases hcases j c hc with ⟨hj, hc0, hF, hno⟩ | ⟨p, b, hb, hbr, hF, hρ, hbk, hnr⟩
        · rw [hF] at hn; exact .inr ⟨j, c, hc0, hcw, hn⟩
        · rw [hF] at hn
          rcases hfoot p b hb (by rw [← Blk.ren_writable hbr]; exact hcw) n hn with h | ⟨q', i, c', d', e1, e2, e3, e4, _⟩
          · exact .inl h
          · exact .inr ⟨i, c', e2, e4, e3⟩
      · rcases hcases j c hc with ⟨hj, hc0, hF, hno⟩ | ⟨p, b, hb, hbr, hF, hρ, hbk, hnr⟩
        · rw [hF] at hn; exact .inr ⟨j, c, hc0, hn⟩
        · rw [hF] at hn
          rcases hdead p b c hb hbr hnr with hbw | h0
          · rcases hfoot p b hb hbw n hn with h | ⟨q', i, c', d', e1, e2, e3, e4, _⟩
            · exact .inl h
            · exact .inr ⟨i, c', e2, e3⟩
          · rw [h0] at hn; cases hn
      · have hj : j < H0.length := (List.getElem?_eq_some_iff.1 hc).1
        have hno : ∀ (p : Nat) (d : Blk), ids[p]? = some j → Hc[p]? = some d → d.writable = false := by
          intro p d hp hd
          cases hw : d.writable with
          | false => rfl
          | true =>
            exfalso
            have h1 := allFree_spec hfree p d hd hw
            have h2 := mayWrite_lk h1 f hf
            -- a block that may be written is as it was
            have hdr : ∃ b g, H0[j]? = some b ∧ b.ren g = some d := by
              rw [← hHc] at hd
              unfold roB at hd
              cases hr : s.ro with
              | true =>
                rw [hr] at hd
                simp only [List.getElem?_map, Option.map_eq_some_iff] at hd
                obtain ⟨d1, hd1, rfl⟩ := hd
                obtain ⟨i, b, e1, e2, e3⟩ := hget1 p d1 hd1
                rw [hp] at e1; injection e1 with e1; subst e1
                refine ⟨b, idx ids, e2, ?_⟩
                cases d1 with
                | dead => exact e3
                | cells T cs => exact e3
                | map m n => exact e3
                | iter m left n c => exact e3
                | pk tg st => exact e3
                | row t l ro => cases hw
              | false =>
                rw [hr] at hd
                obtain ⟨i, b, e1, e2, e3⟩ := hget1 p d hd
                rw [hp] at e1; injection e1 with e1; subst e1
                exact ⟨b, idx ids, e2, e3⟩
            obtain ⟨b, g, e2, e3⟩ := hdr
            rw [hc] at e2; injection e2 with e2; subst e2
            rw [hlk f hf _ _ _ e3, hfc] at h2
            cases h2
        have hget2 : (mergeB ids Hc Hb 0 H0 ++ Hb.drop ids.length)[j]? = some c ∧ F2 j = F0 j := by
          have hjm : j < (mergeB ids Hc Hb 0 H0).length := by rw [mergeB_len]; exact hj
          rw [List.getElem?_append_left hjm]
          obtain ⟨b, hb, hor⟩ := mergeB_spec ids Hc Hb 0 H0 j _ (List.getElem?_eq_getElem hjm)
          rw [hc] at hb; injection hb with hb; subst hb
          rw [Nat.zero_add] at hor
          rcases hor with ⟨e, hor⟩ | ⟨p, d, hp, hd, hw, _⟩
          · refine ⟨by rw [List.getElem?_eq_getElem hjm, e], ?_⟩
            simp only [F2, hj, if_true]
            cases hi : idx ids j with
            | none => rfl
            | some p =>
              cases hd : Hc[p]? with
              | none => simp [hd]
              | some d => simp [hd, hor p d hi hd]
          · rw [hno p d (idx_spec hp) hd] at hw; cases hw
        exact ⟨hget2.1, hget2.2, hold j c hc hno⟩
    · exact hK.elim
  · exact h.elim

end Go.Rx
