/- What the row's text of this claim stands on, part 2: the symbolic executor, and contracts of the program's functions. No condition. -/
import Derived.Maps.RangeRun
import Derived.Maps.Range
import Derived.Laws.CopyRow
import Derived.LoopN
import Derived.Scope
import Derived.KernelRfl
import Derived.Test.YtpgapdmmcanffaaProg
import Derived.Test.YtpgapdmmcanffaaR08pA
section
/- A call of a function, whose own text knows its blocks by other numbers. -/
namespace Go.Rx

variable {cfg : Cfg} {lk : Option (Blk → Bool)} {H : Heap} {ρ : List Value} {F : Nat → List Nat} {w : World}

theorem idx_spec : ∀ {ids : List Nat} {i p : Nat}, idx ids i = some p → ids[p]? = some i
  | [], i, p, h => by simp [idx] at h
  | a :: r, i, p, h => by
    simp only [idx] at h
    cases e : Nat.beq a i with
    | true => rw [e] at h; injection h with h; subst h; rw [Nat.eq_of_beq_eq_true e]; rfl
    | false =>
      rw [e] at h
      simp only [cond_false] at h
      split at h
      · rename_i q hq; injection h with h; subst h; simpa using idx_spec hq
      · cases h

theorem mem_spec : ∀ {ids : List Nat} {i : Nat}, mem i ids = false → ∀ p : Nat, ids[p]? ≠ some i
  | [], i, _, p, h => by simp at h
  | a :: r, i, hm, p, h => by
    simp only [mem, Bool.or_eq_false_iff] at hm
    cases p with
    | zero => simp at h; subst h; simp at hm
    | succ p => simp at h; exact mem_spec hm.2 p h

theorem nodup_spec : ∀ {ids : List Nat}, nodup ids = true → ∀ (p q i : Nat), ids[p]? = some i → ids[q]? = some i → p = q
  | [], _, p, q, i, h, _ => by simp at h
  | a :: r, hn, p, q, i, h, k => by
    simp only [nodup, Bool.and_eq_true, Bool.not_eq_true'] at hn
    cases p with
    | zero =>
      simp at h; subst h
      cases q with
      | zero => rfl
      | succ q => simp at k; exact absurd k (mem_spec hn.1 q)
    | succ p =>
      simp at h
      cases q with
      | zero => simp at k; subst k; exact absurd h (mem_spec hn.1 p)
      | succ q => simp at k; rw [nodup_spec hn.2 p q i h k]

theorem idx_none : ∀ {ids : List Nat} {i : Nat}, idx ids i = none → ∀ p : Nat, ids[p]? ≠ some i
  | [], i, _, p, h => by simp at h
  | a :: r, i, hm, p, h => by
    simp only [idx] at hm
    cases e : Nat.beq a i with
    | true => rw [e] at hm; cases hm
    | false =>
      rw [e] at hm
      simp only [cond_false] at hm
      split at hm
      · cases hm
      · rename_i hq
        cases p with
        | zero => simp at h; subst h; simp at e
        | succ p => simp at h; exact idx_none hq p h

theorem idx_complete {ids : List Nat} (hn : nodup ids = true) {i p : Nat} (h : ids[p]? = some i) : idx ids i = some p := by
  cases e : idx ids i with
  | none => exact absurd h (idx_none e p)
  | some q => rw [nodup_spec hn p q i h (idx_spec e)]

/-! Renaming. -/
mutual
theorem ren_den {ρ ρ' : List Value} {f : Nat → Option Nat} (hf : ∀ i j, f i = some j → ρ'[j]? = ρ[i]?) : ∀ (v v' : V), v.ren f = some v' → v'.den ρ' = v.den ρ
  | .ext v, v', e => by simp only [V.ren, Option.some.injEq] at e; subst e; rfl
  | .junk, v', e => by simp only [V.ren, Option.some.injEq] at e; subst e; rfl
  | .ptr i o, v', e => by
    simp only [V.ren] at e
    split at e
    · rename_i j hj; injection e with e; subst e; simp only [V.den, hf i j hj]
    · cases e
  | .eptr i n lo m o, v', e => by
    simp only [V.ren] at e
    split at e
    · rename_i j hj; injection e with e; subst e; simp only [V.den, hf i j hj]
    · cases e
  | .row i, v', e => by
    simp only [V.ren] at e
    split at e
    · rename_i j hj; injection e with e; subst e; simp only [V.den, hf i j hj]
    · cases e
  | .sub i a n m, v', e => by
    simp only [V.ren] at e
    split at e
    · rename_i j hj; injection e with e; subst e; simp only [V.den, hf i j hj]
    · cases e
  | .asl i o n c, v', e => by
    simp only [V.ren] at e
    split at e
    · rename_i j hj; injection e with e; subst e; simp only [V.den, hf i j hj]
    · cases e
  | .mp i, v', e => by
    simp only [V.ren] at e
    split at e
    · rename_i j hj; injection e with e; subst e; simp only [V.den, hf i j hj]
    · cases e
  | .mth g x, v', e => by
    simp only [V.ren] at e
    split at e
    · rename_i x' hx; injection e with e; subst e; simp only [V.den, ren_den hf x x' hx]
    · cases e
  | .fn g cs, v', e => by
    simp only [V.ren] at e
    split at e
    · rename_i cs' hcs; injection e with e; subst e; simp only [V.den, renL_den hf cs cs' hcs]
    · cases e
  | .agg cs, v', e => by
    simp only [V.ren] at e
    split at e
    · rename_i cs' hcs; injection e with e; subst e; simp only [V.den, renL_den hf cs cs' hcs]
    · cases e
  | .tup cs, v', e => by
    simp only [V.ren] at e
    split at e
    · rename_i cs' hcs; injection e with e; subst e; simp only [V.den, renL_den hf cs cs' hcs]
    · cases e
theorem renL_den {ρ ρ' : List Value} {f : Nat → Option Nat} (hf : ∀ i j, f i = some j → ρ'[j]? = ρ[i]?) : ∀ (vs vs' : List V), renL f vs = some vs' → denL ρ' vs' = denL ρ vs
  | [], vs', e => by simp only [renL, Option.some.injEq] at e; subst e; rfl
  | v :: r, vs', e => by
    simp only [renL] at e
    split at e
    · rename_i v1 r1 hv hr
      injection e with e
      subst e
      simp only [denL, ren_den hf v v1 hv, renL_den hf r r1 hr]
    · cases e
end

theorem ren_junk {f : Nat → Option Nat} {v v' : V} (h : v.ren f = some v') : v = .junk → v' = .junk := by
  rintro rfl
  simp only [V.ren, Option.some.injEq] at h
  exact h.symm

theorem ren_rel {ρ ρ' : List Value} {f : Nat → Option Nat} (hf : ∀ i j, f i = some j → ρ'[j]? = ρ[i]?) {v v' : V} {x : Value} (h : v.ren f = some v') (hx : Rel ρ v x) : Rel ρ' v' x := by
  rcases hx with e | e
  · exact .inl (ren_junk h e)
  · exact .inr (by rw [ren_den hf v v' h]; exact e)

theorem Blk.ren_holds {ρ ρ' : List Value} {f : Nat → Option Nat} (hf : ∀ i j, f i = some j → ρ'[j]? = ρ[i]?) {b b' : Blk} {x : Value} {G : List Nat} (h : b.ren f = some b') (hh : b.holds cfg.elT ρ w x G) : b'.holds cfg.elT ρ' w x G := by
  cases b with
  | dead => simp only [Blk.ren, Option.some.injEq] at h; subst h; exact hh
  | cells T cs =>
    simp only [Blk.ren] at h
    split at h
    · rename_i cs' hcs
      injection h with h
      subst h
      obtain ⟨g, vs, h1, h2, h3, h4⟩ := hh
      exact ⟨g, vs, h1, h2, by rw [renL_den hf cs cs' hcs]; exact h3, h4⟩
    · cases h
  | row t l ro =>
    simp only [Blk.ren, Option.some.injEq] at h
    subst h
    cases ro with
    | true => exact hh
    | false => exact hh
  | map m n => simp only [Blk.ren, Option.some.injEq] at h; subst h; exact hh
  | iter m left n c => simp only [Blk.ren, Option.some.injEq] at h; subst h; exact hh
  | pk tg st xs rs =>
    simp only [Blk.ren] at h
    split at h
    · rename_i rs' hrs
      injection h with h
      subst h
      obtain ⟨Hc, ρc, Fc, zs, h1, h2, h3, h4, h5, h6, h7⟩ := hh
      exact ⟨Hc, ρc, Fc, zs, h1, h2, h3, h4, h5, by rw [renL_den hf rs rs' hrs]; exact h6, h7⟩
    · cases h

theorem Blk.ren_writable {f : Nat → Option Nat} {b b' : Blk} (h : b.ren f = some b') : b'.writable = b.writable := by
  cases b with
  | dead => simp only [Blk.ren, Option.some.injEq] at h; subst h; rfl
  | cells T cs =>
    simp only [Blk.ren] at h
    split at h
    · injection h with h; subst h; rfl
    · cases h
  | row t l ro => simp only [Blk.ren, Option.some.injEq] at h; subst h; rfl
  | map m n => simp only [Blk.ren, Option.some.injEq] at h; subst h; rfl
  | iter m left n c => simp only [Blk.ren, Option.some.injEq] at h; subst h; rfl
  | pk tg st xs rs =>
    simp only [Blk.ren] at h
    split at h
    · injection h with h; subst h; rfl
    · cases h

theorem sel_spec {f : Nat → Option Nat} : ∀ {ids : List Nat} {Hc : Heap}, sel H f ids = some Hc → Hc.length = ids.length ∧
    ∀ (p : Nat) (c : Blk), Hc[p]? = some c → ∃ i b, ids[p]? = some i ∧ H[i]? = some b ∧ b.ren f = some c
  | [], Hc, h => by simp only [sel, Option.some.injEq] at h; subst h; exact ⟨rfl, fun p c hc => by simp at hc⟩
  | i :: r, Hc, h => by
    simp only [sel] at h
    split at h
    · rename_i b bs hb hbs
      split at h
      · rename_i b' hb'
        injection h with h
        subst h
        obtain ⟨h1, h2⟩ := sel_spec hbs
        refine ⟨by simp [h1], fun p c hc => ?_⟩
        cases p with
        | zero => simp at hc; subst hc; exact ⟨i, b, rfl, hb, hb'⟩
        | succ p => simp at hc; obtain ⟨j, b2, h3, h4, h5⟩ := h2 p c hc; exact ⟨j, b2, by simpa using h3, h4, h5⟩
      · cases h
    · cases h

theorem selB_spec {f : Nat → Option Nat} : ∀ {bs cs : Heap}, selB f bs = some cs → cs.length = bs.length ∧ ∀ (p : Nat) (c : Blk), cs[p]? = some c → ∃ b, bs[p]? = some b ∧ b.ren f = some c
  | [], cs, h => by simp only [selB, Option.some.injEq] at h; subst h; exact ⟨rfl, fun p c hc => by simp at hc⟩
  | b :: r, cs, h => by
    simp only [selB] at h
    split at h
    · rename_i b' r' hb hr
      injection h with h
      subst h
      obtain ⟨h1, h2⟩ := selB_spec hr
      refine ⟨by simp [h1], fun p c hc => ?_⟩
      cases p with
      | zero => simp at hc; subst hc; exact ⟨b, rfl, hb⟩
      | succ p => simp at hc; obtain ⟨b2, h3, h4⟩ := h2 p c hc; exact ⟨b2, by simpa using h3, h4⟩
    · cases h

theorem mergeB_len (ids : List Nat) (hc bs : Heap) : ∀ (n : Nat) (H : Heap), (mergeB ids hc bs n H).length = H.length
  | _, [] => rfl
  | n, b :: r => by simp [mergeB, mergeB_len ids hc bs (n + 1) r]

theorem mergeB_spec (ids : List Nat) (hc bs : Heap) : ∀ (n : Nat) (H : Heap) (j : Nat) (c : Blk), (mergeB ids hc bs n H)[j]? = some c →
    ∃ b, H[j]? = some b ∧ ((c = b ∧ ∀ p d, idx ids (n + j) = some p → hc[p]? = some d → d.writable = false) ∨ ∃ p d, idx ids (n + j) = some p ∧ hc[p]? = some d ∧ d.writable = true ∧ c = bs.getD p .dead)
  | _, [], j, c, h => by simp [mergeB] at h
  | n, b :: r, 0, c, h => by
    simp only [mergeB, List.getElem?_cons_zero, Option.some.injEq] at h
    refine ⟨b, rfl, ?_⟩
    rw [Nat.add_zero]
    split at h
    · rename_i p hp
      split at h
      · rename_i d hd
        cases hw : d.writable with
        | true => rw [hw] at h; exact .inr ⟨p, d, hp, hd, hw, h.symm⟩
        | false => rw [hw] at h; exact .inl ⟨h.symm, fun q e hq he => by rw [hp] at hq; injection hq with hq; subst hq; rw [hd] at he; injection he with he; subst he; exact hw⟩
      · rename_i hd; exact .inl ⟨h.symm, fun q e hq he => by rw [hp] at hq; injection hq with hq; subst hq; rw [hd] at he; cases he⟩
    · rename_i hp; exact .inl ⟨h.symm, fun q e hq he => by rw [hp] at hq; cases hq⟩
  | n, b :: r, j + 1, c, h => by
    simp only [mergeB, List.getElem?_cons_succ] at h
    obtain ⟨b', h1, h2⟩ := mergeB_spec ids hc bs (n + 1) r j c h
    refine ⟨b', by simpa using h1, ?_⟩
    rw [show n + (j + 1) = n + 1 + j by omega]
    exact h2

theorem ownB_spec : ∀ {hc bs : Heap}, ownB hc bs = true → ∀ (p : Nat) (b : Blk), bs[p]? = some b → (∀ c, hc[p]? = some c → c.writable = true) → notRO b = true
  | _, [], _, p, b, hb, _ => by simp at hb
  | c :: hc, b' :: bs, h, p, b, hb, hc' => by
    simp only [ownB, Bool.and_eq_true] at h
    cases p with
    | zero =>
      simp at hb; subst hb
      have hw := hc' c (by simp)
      rw [hw] at h
      exact h.1
    | succ p => simp at hb; exact ownB_spec h.2 p b hb (fun c hc => hc' c (by simpa using hc))
  | [], b' :: bs, h, p, b, hb, hc' => by
    simp only [ownB, Bool.and_eq_true] at h
    cases p with
    | zero => simp at hb; subst hb; exact h.1
    | succ p => simp at hb; exact ownB_spec h.2 p b hb (fun c hc => by simp at hc)

/-- A block that is seen as one who only reads sees it. -/
theorem toRO_holds {elT : ET} {b : Blk} {x : Value} {G : List Nat} (h : b.holds elT ρ w x G) : (toRO b).holds elT ρ w x G := by
  cases b with
  | dead => exact h
  | cells T cs => exact h
  | row t l ro =>
    obtain ⟨a, cap, h1, h2, h3, h4, h5⟩ := row_val (cfg := ⟨default, fun _ => none, elT, fun _ => none, fun _ => none, fun _ => none, fun _ => none, fun _ => none, fun _ => false, fun _ => none⟩) h
    exact ⟨a, cap, h1, h2, h3, h4, h5⟩
  | map m n => exact h
  | iter m left n c => exact h
  | pk tg st xs rs => exact h

theorem toRO_writable {b : Blk} (h : (toRO b).writable = true) : b.writable = true := by
  cases b with
  | dead => exact h
  | cells T cs => rfl
  | row t l ro => cases h
  | map m n => rfl
  | iter m left n c => rfl
  | pk tg st xs rs => rfl

theorem roB_get {ro : Bool} {Hc : Heap} {p : Nat} {c : Blk} (h : (roB ro Hc)[p]? = some c) : ∃ d, Hc[p]? = some d ∧ (c.writable = true → d.writable = true) ∧ ∀ (elT : ET) (ρ : List Value) (w : World) (x : Value) (G : List Nat), d.holds elT ρ w x G → c.holds elT ρ w x G := by
  unfold roB at h
  cases ro with
  | true =>
    simp only [List.getElem?_map, Option.map_eq_some_iff] at h
    obtain ⟨d, hd, rfl⟩ := h
    exact ⟨d, hd, toRO_writable, fun elT ρ w x G h => toRO_holds h⟩
  | false => exact ⟨c, h, id, fun _ _ _ _ _ h => h⟩

theorem roB_len {ro : Bool} {Hc : Heap} : (roB ro Hc).length = Hc.length := by unfold roB; cases ro <;> simp

/-- A new block that nobody writes, in memory that is there. -/
theorem Step.pushRO (hs : Sat cfg.elT ρ F H w) {b : Blk} {x : Value} {G : List Nat} (hb0 : b.writable = false)
    (hG : ∀ n ∈ G, n < w.heap.size ∧ (∀ (j : Nat) (c : Blk), H[j]? = some c → c.writable = true → n ∉ F j) ∧ ∃ (j : Nat) (c : Blk), H[j]? = some c ∧ n ∈ F j) (hb : b.holds cfg.elT (ρ ++ [x]) w x G) :
    Step cfg lk ρ F H w (ρ ++ [x]) (fset F H.length G) (H ++ [b]) w := by
  have hne : ∀ (i : Nat) (c : Blk), H[i]? = some c → i ≠ H.length := fun i c hc => by have := (List.getElem?_eq_some_iff.1 hc).1; omega
  refine ⟨Le.append ρ [x], ⟨by simp [hs.len], fun i c y hc hy => ?_, fun i c hc n hn => ?_, fun i j c d hc hd hij hw n hn => ?_⟩,
    ⟨rfl, rfl, rfl, Nat.le_refl _, fun _ _ _ => rfl, fun i c hc hw n hn => ?_, fun i c hc n hn => ?_⟩, fun f hf i c hc hfc => ⟨?_, ?_, fun n hn => rfl⟩⟩
  · rcases push_get hc with ⟨hi, hc'⟩ | ⟨rfl, rfl⟩
    · have hi' : i < ρ.length := by rw [hs.len]; exact hi
      rw [List.getElem?_append_left hi'] at hy
      simp only [fset, Nat.ne_of_lt hi, if_false]
      exact Blk.holds_le (Le.append ρ [x]) (fun n hn => rfl) c (hs.each i c y hc' hy)
    · rw [← hs.len] at hy
      simp at hy
      subst hy
      simp only [fset, if_true]
      exact hb
  · rcases push_get hc with ⟨hi, hc'⟩ | ⟨rfl, rfl⟩
    · simp only [fset, Nat.ne_of_lt hi, if_false] at hn
      exact hs.lt i c hc' n hn
    · simp only [fset, if_true] at hn
      exact (hG n hn).1
  · rcases push_get hc with ⟨hi, hc'⟩ | ⟨rfl, rfl⟩
    · simp only [fset, Nat.ne_of_lt hi, if_false] at hn
      rcases push_get hd with ⟨hj, hd'⟩ | ⟨rfl, rfl⟩
      · simp only [fset, Nat.ne_of_lt hj, if_false]
        exact hs.disj i j c d hc' hd' hij hw n hn
      · simp only [fset, if_true]
        intro hm
        exact (hG n hm).2.1 i c hc' hw hn
    · rw [hb0] at hw; cases hw
  · rcases push_get hc with ⟨hi, hc'⟩ | ⟨rfl, rfl⟩
    · simp only [fset, Nat.ne_of_lt hi, if_false] at hn
      exact .inr ⟨i, c, hc', hw, hn⟩
    · rw [hb0] at hw; cases hw
  · rcases push_get hc with ⟨hi, hc'⟩ | ⟨rfl, rfl⟩
    · simp only [fset, Nat.ne_of_lt hi, if_false] at hn
      exact .inr ⟨i, c, hc', hn⟩
    · simp only [fset, if_true] at hn
      obtain ⟨j, c, h1, h2⟩ := (hG n hn).2.2
      exact .inr ⟨j, c, h1, h2⟩
  · rw [List.getElem?_append_left (List.getElem?_eq_some_iff.1 hc).1]; exact hc
  · simp only [fset, hne i c hc, if_false]

theorem roify_sound {v : V} {x : Value} {K : V → Heap → Prop} (h : roify H v K) (hx : v.den ρ = some x) (hs : Sat cfg.elT ρ F H w) :
    ∃ v' ρ' F' H', K v' H' ∧ v'.den ρ' = some x ∧ Step cfg lk ρ F H w ρ' F' H' w := by
  unfold roify at h
  split at h
  · rename_i i lo n m
    split at h
    · rename_i t l ro hH
      cases hc : (ro && Nat.beq m (elM t)) with
      | false => rw [hc] at h; exact ⟨_, ρ, F, H, h, hx, .refl hs⟩
      | true =>
        rw [hc] at h
        simp only [Bool.and_eq_true] at hc
        obtain ⟨hro, hm⟩ := hc
        obtain rfl := Nat.eq_of_beq_eq_true hm
        subst hro
        have hr := Req_elim h
        have hq : lo + n ≤ l.length := by simpa using hr.1
        obtain ⟨ad, len, cap, hb, rfl⟩ := den_sub (.inr hx)
        have hh := hs.each i _ _ hH hb
        obtain ⟨ad', cap', e, h1, h2, h3, h4⟩ := row_val hh
        injection e with e1 e2 e3
        subst e1; subst e2; subst e3
        have hlen : ((l.drop lo).take n).length = n := by simp; omega
        refine ⟨_, _, _, _, hr.2, ?_, Step.pushRO hs (x := .slice (if cap = lo then ad else ad.map (·.add (lo * elM t))) n (cap - lo)) (G := F i) rfl (fun q hq' => ⟨hs.lt i _ hH q hq', fun j c hc hcw hm => ?_, i, _, hH, hq'⟩) ?_⟩
        · simp only [V.den, get_new hs]
        · have hne : j ≠ i := fun e => by subst e; rw [hH] at hc; injection hc with hc; subst hc; cases hcw
          exact hs.disj j i c _ hc hH hne hcw q hm hq'
        · refine ⟨_, _, by rw [hlen], by rw [hlen]; omega, by omega, fun hno => ?_, fun j y hj => ?_⟩
          · cases ad with
            | none => have := h3 rfl; omega
            | some a => split at hno <;> simp at hno
          · rw [flat_take, flat_drop, List.getElem?_take] at hj
            split at hj
            · rename_i hjl
              rw [List.getElem?_drop] at hj
              obtain ⟨a, e, hF, hc⟩ := h4 _ y hj
              subst e
              have hn : 0 < n := by
                rcases Nat.eq_zero_or_pos n with h0 | h0
                · subst h0; simp at hjl
                · exact h0
              have hne : ¬ cap = lo := by omega
              refine ⟨a.add (lo * elM t), by rw [if_neg hne]; rfl, ?_, by rw [add_add]; exact hc⟩
              have : (a.add (lo * elM t)).block = a.block := by unfold Addr.add; split <;> rfl
              rw [this]; exact hF
            · cases hj
    · exact h.elim
  · exact ⟨_, ρ, F, H, h, hx, .refl hs⟩

theorem roifyL_sound : ∀ {vs : List V} {H : Heap} {ρ : List Value} {F : Nat → List Nat} {xs : List Value} {K : List V → Heap → Prop}, roifyL vs H K → denL ρ vs = some xs → Sat cfg.elT ρ F H w →
    ∃ vs' ρ' F' H', K vs' H' ∧ denL ρ' vs' = some xs ∧ Step cfg lk ρ F H w ρ' F' H' w
  | [], H, ρ, F, xs, K, h, hx, hs => ⟨[], ρ, F, H, h, hx, .refl hs⟩
  | v :: r, H, ρ, F, xs, K, h, hx, hs => by
    simp only [denL] at hx
    cases hv : v.den ρ with
    | none => simp [hv] at hx
    | some x =>
      cases hr : denL ρ r with
      | none => simp [hv, hr] at hx
      | some ys =>
        simp only [hv, hr] at hx; injection hx with hx; subst hx
        obtain ⟨v', ρ1, F1, H1, h1, h2, st1⟩ := roify_sound (lk := lk) h hv hs
        obtain ⟨vs', ρ2, F2, H2, g1, g2, st2⟩ := roifyL_sound h1 (denL_le st1.le r ys hr) st1.sat
        exact ⟨v' :: vs', ρ2, F2, H2, g1, by simp only [denL, den_le st2.le v' x h2, g2], st1.trans st2⟩


/-- A function's contract: what its transformer says is so, of every call, whatever else stands in memory. -/
def SpecOK (P : Program) (elT : ET) (g : FuncId) (s : Spec) : Prop :=
  (∃ fn, P.funcs[g]? = some fn ∧ (fn.name == "runtime.NumGoroutine") = false ∧ fn.body.isNone = false) ∧
  ∀ (args : List V) (H : Heap) (K : V → Heap → Prop), s.tr args H K → ∀ (ρ : List Value) (F : Nat → List Nat) (w : World) (vals : List Value), denL ρ args = some vals → Sat elT ρ F H w →
    Calls P g vals.toArray w fun e w' => ∃ v x ρ' F' H', e = .returned x ∧ K v H' ∧ Rel ρ' v x ∧ Le ρ ρ' ∧ Sat elT ρ' F' H' w' ∧ Fr H F w H' F' w'

theorem allFree_spec : ∀ {Hc : Heap}, allFree lk Hc = true → ∀ (p : Nat) (c : Blk), Hc[p]? = some c → c.writable = true → mayWrite lk c = true
  | [], _, p, c, hc, _ => by simp at hc
  | b :: r, h, p, c, hc, hw => by
    simp only [allFree, Bool.and_eq_true, Bool.or_eq_true, Bool.not_eq_true'] at h
    cases p with
    | zero => simp at hc; subst hc; rcases h.1 with h | h <;> simp_all
    | succ p => simp at hc; exact allFree_spec h.2 p c hc hw

/-- Locks look at kinds alone: renaming does not matter. -/
def LkOK (lk : Option (Blk → Bool)) : Prop := ∀ f, lk = some f → ∀ (g : Nat → Option Nat) (b c : Blk), b.ren g = some c → f c = f b

theorem callC_gen (hlk : LkOK lk) {s : Spec} {vals : List Value} (C : (Ending → World → Prop) → Prop) (hmono : ∀ R R' : Ending → World → Prop, C R → (∀ e w, R e w → R' e w) → C R')
    (hspec : ∀ (args : List V) (H : Heap) (K : V → Heap → Prop), s.tr args H K → ∀ (ρ : List Value) (F : Nat → List Nat), denL ρ args = some vals → Sat cfg.elT ρ F H w →
      C fun e w' => ∃ v x ρ' F' H', e = .returned x ∧ K v H' ∧ Rel ρ' v x ∧ Le ρ ρ' ∧ Sat cfg.elT ρ' F' H' w' ∧ Fr H F w H' F' w')
    {args : List V} {K : V → Heap → Prop} (h : callC s args H lk K) (hx : denL ρ args = some vals) (hs : Sat cfg.elT ρ F H w) :
    C fun e w' => ∃ v x ρ' F' H', e = .returned x ∧ K v H' ∧ Rel ρ' v x ∧ Step cfg lk ρ F H w ρ' F' H' w' := by
  unfold callC at h
  obtain ⟨ags, ρ0, F0, H0, h, hx0, st0⟩ := roifyL_sound (lk := lk) h hx hs
  have hs0 := st0.sat
  generalize hids : reach H0 3 (addNew [] (idsL ags)) = ids at h
  simp only at h
  split at h
  · rename_i ags' H1 hren hsel
    have hc := cond_elim h
    have hc1 := hc.1
    simp only [Bool.and_eq_true] at hc1
    obtain ⟨hnd, hfree⟩ := hc1
    have hh := hc.2
    clear h hc
    obtain ⟨hlen1, hget1⟩ := sel_spec hsel
    generalize hHc : roB s.ro H1 = Hc at hh hfree
    have hlen : Hc.length = ids.length := by rw [← hHc, roB_len, hlen1]
    -- the callee's view
    have hρc : ∀ i j, idx ids i = some j → (ids.map fun i => ρ0.getD i undef)[j]? = ρ0[i]? := by
      intro i j hij
      have hj := idx_spec hij
      have hjl : j < ids.length := (List.getElem?_eq_some_iff.1 hj).1
      have hjc : j < H1.length := by rw [hlen1]; exact hjl
      obtain ⟨i', b, e1, e2, _⟩ := hget1 j _ (List.getElem?_eq_getElem hjc)
      rw [hj] at e1; injection e1 with e1; subst e1
      have hil : i < ρ0.length := by rw [hs0.len]; exact (List.getElem?_eq_some_iff.1 e2).1
      rw [List.getElem?_map, hj]
      simp [List.getD, List.getElem?_eq_getElem hil]
    have hget : ∀ (p : Nat) (c : Blk), Hc[p]? = some c → ∃ (i : Nat) (b : Blk), ids[p]? = some i ∧ H0[i]? = some b ∧ (c.writable = true → b.writable = true) ∧
        ∀ (x : Value) (G : List Nat), b.holds cfg.elT ρ0 w x G → c.holds cfg.elT (ids.map fun i => ρ0.getD i undef) w x G := by
      intro p c hcp
      rw [← hHc] at hcp
      obtain ⟨d, hd, hdw, hdh⟩ := roB_get hcp
      obtain ⟨i, b, e1, e2, e3⟩ := hget1 p d hd
      exact ⟨i, b, e1, e2, fun hw => by rw [← Blk.ren_writable e3]; exact hdw hw, fun x G hb => hdh _ _ _ _ _ (Blk.ren_holds hρc e3 hb)⟩
    have hsat : Sat cfg.elT (ids.map fun i => ρ0.getD i undef) (fun p => F0 (ids.getD p 0)) Hc w := by
      refine ⟨by simp [hlen], fun p c y hcp hy => ?_, fun p c hcp n hn => ?_, fun p q c d hcp hdq hpq hw n hn => ?_⟩
      · obtain ⟨i, b, e1, e2, _, e3⟩ := hget p c hcp
        have hp := hρc i p (idx_complete hnd e1)
        rw [hy] at hp
        have hgd : ids.getD p 0 = i := by simp [List.getD, e1]
        show c.holds cfg.elT _ w y (F0 (ids.getD p 0))
        rw [hgd]
        exact e3 y _ (hs0.each i b y e2 hp.symm)
      · obtain ⟨i, b, e1, e2, _⟩ := hget p c hcp
        have hgd : ids.getD p 0 = i := by simp [List.getD, e1]
        simp only [hgd] at hn
        exact hs0.lt i b e2 n hn
      · obtain ⟨i, b, e1, e2, e3, _⟩ := hget p c hcp
        obtain ⟨j, b2, f1, f2, _⟩ := hget q d hdq
        have hgd : ids.getD p 0 = i := by simp [List.getD, e1]
        have hgd2 : ids.getD q 0 = j := by simp [List.getD, f1]
        simp only [hgd] at hn
        simp only [hgd2]
        exact hs0.disj i j b b2 e2 f2 (fun e => by subst e; exact hpq (nodup_spec hnd p q i e1 f1)) (e3 hw) n hn
    have hden : denL (ids.map fun i => ρ0.getD i undef) ags' = some vals := by rw [renL_den hρc ags ags' hren]; exact hx0
    refine hmono _ _ (hspec ags' Hc _ hh _ _ hden hsat) ?_
    rintro e w' ⟨v, x, ρ', F', H', rfl, hK, hrel, hle, hs', hfr⟩
    split at hK
    · rename_i v' Hb hv' hHb
      have hk := cond_elim hK
      have hk1 := hk.1
      simp only [Bool.and_eq_true] at hk1
      have hll := Nat.le_of_ble_eq_true hk1.1
      have hown := hk1.2
      obtain ⟨hlenB, hgetB⟩ := selB_spec hHb
      have hl' : ids.length ≤ H'.length := by rw [← hlenB]; exact hll
      have hback : ∀ i j, backOf H0.length ids i = some j → (ρ0 ++ ρ'.drop ids.length)[j]? = ρ'[i]? := by
        intro i j hij
        unfold backOf at hij
        split at hij
        · rename_i j' hj'
          injection hij with hij; subst hij
          have hi := idx_complete hnd hj'
          have hp := hρc j' i hi
          have hil : i < ids.length := (List.getElem?_eq_some_iff.1 hj').1
          obtain ⟨i', b, e1, e2, _⟩ := hget i _ (List.getElem?_eq_getElem (by rw [hlen]; exact hil))
          rw [hj'] at e1; injection e1 with e1; subst e1
          have hjl : j' < ρ0.length := by rw [hs0.len]; exact (List.getElem?_eq_some_iff.1 e2).1
          rw [List.getElem?_append_left hjl]
          rw [List.getElem?_eq_getElem hjl] at hp ⊢
          exact (hle i _ hp).symm
        · rename_i hnone
          injection hij with hij; subst hij
          have hil : ids.length ≤ i := by
            rcases Nat.lt_or_ge i ids.length with h | h
            · rw [List.getElem?_eq_getElem h] at hnone; cases hnone
            · exact h
          rw [List.getElem?_append_right (by rw [hs0.len]; omega), List.getElem?_drop, hs0.len]
          congr 1
          omega
      -- which of the callee's blocks it could write, or made
      let mine : Nat → Prop := fun p => ∀ c, Hc[p]? = some c → c.writable = true
      let F2 : Nat → List Nat := fun j => if j < H0.length then (match idx ids j with
        | some p => (match Hc[p]? with | some b => if b.writable = true then F' p else F0 j | none => F0 j)
        | none => F0 j) else F' (j - H0.length + ids.length)
      have hcases : ∀ (j : Nat) (c : Blk), (mergeB ids Hc Hb 0 H0 ++ Hb.drop ids.length)[j]? = some c →
          (j < H0.length ∧ H0[j]? = some c ∧ F2 j = F0 j ∧ (∀ (p : Nat) (d : Blk), ids[p]? = some j → Hc[p]? = some d → d.writable = false)) ∨
          (∃ p b, H'[p]? = some b ∧ b.ren (backOf H0.length ids) = some c ∧ F2 j = F' p ∧ (ρ0 ++ ρ'.drop ids.length)[j]? = ρ'[p]? ∧ backOf H0.length ids p = some j ∧ notRO c = true) := by
        intro j c hc
        by_cases hj : j < H0.length
        · rw [List.getElem?_append_left (by rw [mergeB_len]; exact hj)] at hc
          obtain ⟨b, hb, hor⟩ := mergeB_spec ids Hc Hb 0 H0 j c hc
          rw [Nat.zero_add] at hor
          rcases hor with ⟨rfl, hor⟩ | ⟨p, d, hp, hd, hw, rfl⟩
          · refine .inl ⟨hj, hb, ?_, fun p d hp hd => hor p d (idx_complete hnd hp) hd⟩
            simp only [F2, hj, if_true]
            cases hi : idx ids j with
            | none => rfl
            | some p =>
              cases hd : Hc[p]? with
              | none => simp [hd]
              | some d => simp [hd, hor p d hi hd]
          · have hpi := idx_spec hp
            have hpl : p < ids.length := (List.getElem?_eq_some_iff.1 hpi).1
            have hpb : p < Hb.length := by omega
            have hbp : Hb.getD p .dead = Hb[p] := by simp [List.getD, List.getElem?_eq_getElem hpb]
            obtain ⟨b2, h1, h2⟩ := hgetB p _ (List.getElem?_eq_getElem hpb)
            have hbk : backOf H0.length ids p = some j := by unfold backOf; rw [hpi]
            refine .inr ⟨p, b2, h1, by rw [hbp]; exact h2, ?_, hback p j hbk, hbk, ?_⟩
            · simp only [F2, hj, if_true, hp, hd, hw]
            · rw [hbp]
              exact ownB_spec hown p _ (List.getElem?_eq_getElem hpb) (fun c hc => by rw [hd] at hc; injection hc with hc; subst hc; exact hw)
        · have hj' : H0.length ≤ j := by omega
          rw [List.getElem?_append_right (by rw [mergeB_len]; exact hj'), mergeB_len, List.getElem?_drop] at hc
          obtain ⟨b2, h1, h2⟩ := hgetB _ c hc
          have hbk : backOf H0.length ids (ids.length + (j - H0.length)) = some j := by
            unfold backOf
            rw [List.getElem?_eq_none (by omega)]
            show some (H0.length + (ids.length + (j - H0.length) - ids.length)) = some j
            rw [Nat.add_sub_cancel_left, Nat.add_sub_cancel' hj']
          refine .inr ⟨_, b2, h1, h2, ?_, hback _ j hbk, hbk, ownB_spec hown _ c hc (fun d hd => ?_)⟩
          · simp only [F2, hj, if_false]
            congr 1
            omega
          · have := (List.getElem?_eq_some_iff.1 hd).1
            omega
      -- old memory that the callee could not write
      have hold : ∀ (j : Nat) (c : Blk), H0[j]? = some c → (∀ (p : Nat) (d : Blk), ids[p]? = some j → Hc[p]? = some d → d.writable = false) → ∀ n ∈ F0 j, w'.heap[n]? = w.heap[n]? := by
        intro j c hc hno n hn
        refine hfr.block n (hs0.lt j c hc n hn) (fun p d hd hdw hm => ?_)
        obtain ⟨i, b, e1, e2, e3, _⟩ := hget p d hd
        have hgd : ids.getD p 0 = i := by simp [List.getD, e1]
        simp only [hgd] at hm
        have hij : i ≠ j := fun e => by subst e; rw [hno p d e1 hd] at hdw; cases hdw
        exact hs0.disj i j b c e2 hc hij (e3 hdw) n hm hn
      -- a callee's footprint lies in what it was given to write, or is new
      have hfoot : ∀ (p : Nat) (b : Blk), H'[p]? = some b → b.writable = true → ∀ n ∈ F' p, w.heap.size ≤ n ∨ ∃ (q i : Nat) (c d : Blk), ids[q]? = some i ∧ H0[i]? = some c ∧ n ∈ F0 i ∧ c.writable = true ∧ Hc[q]? = some d ∧ d.writable = true := by
        intro p b hb hbw n hn
        rcases hfr.foot p b hb hbw n hn with h | ⟨q, d, hd, hdw, hm⟩
        · exact .inl h
        · obtain ⟨i, c, e1, e2, e3, _⟩ := hget q d hd
          have hgd : ids.getD q 0 = i := by simp [List.getD, e1]
          simp only [hgd] at hm
          exact .inr ⟨q, i, c, d, e1, e2, hm, e3 hdw, hd, hdw⟩
      -- what comes back is written by us, or is nothing
      have hdead : ∀ (p : Nat) (b c : Blk), H'[p]? = some b → b.ren (backOf H0.length ids) = some c → notRO c = true → b.writable = true ∨ F' p = [] := by
        intro p b c hb hbr hno
        cases b with
        | dead =>
          right
          have hp : p < ρ'.length := by rw [hs'.len]; exact (List.getElem?_eq_some_iff.1 hb).1
          exact hs'.each p _ _ hb (List.getElem?_eq_getElem hp)
        | cells T cs => exact .inl rfl
        | map m n => exact .inl rfl
        | iter m left n c => exact .inl rfl
        | pk tg st xs rs => exact .inl rfl
        | row t l ro =>
          simp only [Blk.ren, Option.some.injEq] at hbr
          subst hbr
          exact .inl hno
      have hsat2 : Sat cfg.elT (ρ0 ++ ρ'.drop ids.length) F2 (mergeB ids Hc Hb 0 H0 ++ Hb.drop ids.length) w' := by
        refine ⟨?_, fun j c y hc hy => ?_, fun j c hc n hn => ?_, fun j k c d hc hd hjk hcw n hn => ?_⟩
        · rw [List.length_append, List.length_append, mergeB_len, List.length_drop, List.length_drop, hs0.len, hs'.len, hlenB]
        · rcases hcases j c hc with ⟨hj, hc0, hF, hno⟩ | ⟨p, b, hb, hbr, hF, hρ, _⟩
          · rw [hF]
            rw [List.getElem?_append_left (by rw [hs0.len]; exact hj)] at hy
            exact Blk.holds_le (Le.append ρ0 _) (hold j c hc0 hno) c (hs0.each j c y hc0 hy)
          · rw [hF]
            rw [hρ] at hy
            exact Blk.ren_holds hback hbr (hs'.each p b y hb hy)
        · rcases hcases j c hc with ⟨hj, hc0, hF, hno⟩ | ⟨p, b, hb, hbr, hF, hρ, _⟩
          · rw [hF] at hn
            exact Nat.lt_of_lt_of_le (hs0.lt j c hc0 n hn) hfr.size
          · rw [hF] at hn
            exact hs'.lt p b hb n hn
        · rcases hcases j c hc with ⟨hj, hc0, hF, hno⟩ | ⟨p, b, hb, hbr, hF, hρ, hbk, hnr⟩
          · rw [hF] at hn
            rcases hcases k d hd with ⟨hk', hd0, hF', hno'⟩ | ⟨q, b', hb', hbr', hF', hρ', hbk', hnr'⟩
            · rw [hF']; exact hs0.disj j k c d hc0 hd0 hjk hcw n hn
            · rw [hF']
              intro hm
              rcases hdead q b' d hb' hbr' hnr' with hbw | h0
              · rcases hfoot q b' hb' hbw n hm with h | ⟨q', i, c', d', e1, e2, e3, e4, e5, e6⟩
                · have := hs0.lt j c hc0 n hn; omega
                · have hij : j ≠ i := fun e => by subst e; rw [hno q' d' e1 e5] at e6; cases e6
                  exact hs0.disj j i c c' hc0 e2 hij hcw n hn e3
              · rw [h0] at hm; cases hm
          · rw [hF] at hn
            have hbw : b.writable = true := by rw [← Blk.ren_writable hbr]; exact hcw
            rcases hcases k d hd with ⟨hk', hd0, hF', hno'⟩ | ⟨q, b', hb', hbr', hF', hρ', hbk', hnr'⟩
            · rw [hF']
              intro hm
              rcases hfoot p b hb hbw n hn with h | ⟨q', i, c', d', e1, e2, e3, e4, e5, e6⟩
              · have := hs0.lt k d hd0 n hm; omega
              · have hij : i ≠ k := fun e => by subst e; rw [hno' q' d' e1 e5] at e6; cases e6
                exact hs0.disj i k c' d e2 hd0 hij e4 n e3 hm
            · rw [hF']
              have hpq : p ≠ q := fun e => by subst e; rw [hbk] at hbk'; injection hbk' with hbk'; exact hjk hbk'
              exact hs'.disj p q b b' hb hb' hpq hbw n hn
      refine ⟨v', x, _, F2, _, rfl, hk.2, ren_rel hback hv' hrel, st0.trans ⟨Le.append ρ0 _, hsat2, ⟨hfr.os, hfr.tape, hfr.output, hfr.size, fun n hn hno => ?_, fun j c hc hcw n hn => ?_, fun j c hc n hn => ?_⟩, fun f hf j c hc hfc => ?_⟩⟩
      · refine hfr.block n hn (fun p d hd hdw hm => ?_)
        obtain ⟨i, b, e1, e2, e3, _⟩ := hget p d hd
        have hgd : ids.getD p 0 = i := by simp [List.getD, e1]
        simp only [hgd] at hm
        exact hno i b e2 (e3 hdw) hm
      · rcases hcases j c hc with ⟨hj, hc0, hF, hno⟩ | ⟨p, b, hb, hbr, hF, hρ, hbk, hnr⟩
        · rw [hF] at hn; exact .inr ⟨j, c, hc0, hcw, hn⟩
        · rw [hF] at hn
          rcases hfoot p b hb (by rw [← Blk.ren_writable hbr]; exact hcw) n hn with h | ⟨q', i, c', d', e1, e2, e3, e4, _⟩
          · exact .inl h
          · exact .inr ⟨i, c', e2, e4, e3⟩
      · rcases hcases j c hc with ⟨hj, hc0, hF, hno⟩ | ⟨p, b, hb, hbr, hF, hρ, hbk, hnr⟩
        · rw [hF] at hn; exact .inr ⟨j, c, hc0, hn⟩
        · rw [hF] at hn
          rcases hdead p b c hb hbr hnr with hbw | h0
          · rcases hfoot p b hb hbw n hn with h | ⟨q', i, c', d', e1, e2, e3, e4, _⟩
            · exact .inl h
            · exact .inr ⟨i, c', e2, e3⟩
          · rw [h0] at hn; cases hn
      · have hj : j < H0.length := (List.getElem?_eq_some_iff.1 hc).1
        have hno : ∀ (p : Nat) (d : Blk), ids[p]? = some j → Hc[p]? = some d → d.writable = false := by
          intro p d hp hd
          cases hw : d.writable with
          | false => rfl
          | true =>
            exfalso
            have h1 := allFree_spec hfree p d hd hw
            have h2 := mayWrite_lk h1 f hf
            -- a block that may be written is as it was
            have hdr : ∃ b g, H0[j]? = some b ∧ b.ren g = some d := by
              rw [← hHc] at hd
              unfold roB at hd
              cases hr : s.ro with
              | true =>
                rw [hr] at hd
                simp only [List.getElem?_map, Option.map_eq_some_iff] at hd
                obtain ⟨d1, hd1, rfl⟩ := hd
                obtain ⟨i, b, e1, e2, e3⟩ := hget1 p d1 hd1
                rw [hp] at e1; injection e1 with e1; subst e1
                refine ⟨b, idx ids, e2, ?_⟩
                cases d1 with
                | dead => exact e3
                | cells T cs => exact e3
                | map m n => exact e3
                | iter m left n c => exact e3
                | pk tg st xs rs => exact e3
                | row t l ro => cases hw
              | false =>
                rw [hr] at hd
                obtain ⟨i, b, e1, e2, e3⟩ := hget1 p d hd
                rw [hp] at e1; injection e1 with e1; subst e1
                exact ⟨b, idx ids, e2, e3⟩
            obtain ⟨b, g, e2, e3⟩ := hdr
            rw [hc] at e2; injection e2 with e2; subst e2
            rw [hlk f hf _ _ _ e3, hfc] at h2
            cases h2
        have hget2 : (mergeB ids Hc Hb 0 H0 ++ Hb.drop ids.length)[j]? = some c ∧ F2 j = F0 j := by
          have hjm : j < (mergeB ids Hc Hb 0 H0).length := by rw [mergeB_len]; exact hj
          rw [List.getElem?_append_left hjm]
          obtain ⟨b, hb, hor⟩ := mergeB_spec ids Hc Hb 0 H0 j _ (List.getElem?_eq_getElem hjm)
          rw [hc] at hb; injection hb with hb; subst hb
          rw [Nat.zero_add] at hor
          rcases hor with ⟨e, hor⟩ | ⟨p, d, hp, hd, hw, _⟩
          · refine ⟨by rw [List.getElem?_eq_getElem hjm, e], ?_⟩
            simp only [F2, hj, if_true]
            cases hi : idx ids j with
            | none => rfl
            | some p =>
              cases hd : Hc[p]? with
              | none => simp [hd]
              | some d => simp [hd, hor p d hi hd]
          · rw [hno p d (idx_spec hp) hd] at hw; cases hw
        exact ⟨hget2.1, hget2.2, hold j c hc hno⟩
    · exact hK.elim
  · exact h.elim


theorem callC_sound (hlk : LkOK lk) {g : FuncId} {s : Spec} (hspec : SpecOK cfg.P cfg.elT g s) {args : List V} {vals : List Value} {K : V → Heap → Prop} (h : callC s args H lk K) (hx : denL ρ args = some vals) (hs : Sat cfg.elT ρ F H w) :
    Calls cfg.P g vals.toArray w fun e w' => ∃ v x ρ' F' H', e = .returned x ∧ K v H' ∧ Rel ρ' v x ∧ Step cfg lk ρ F H w ρ' F' H' w' :=
  callC_gen hlk (fun R => Calls cfg.P g vals.toArray w R) (fun _ _ h h' => h.mono h') (fun args H K htr ρ F hd hs => hspec.2 args H K htr ρ F w vals hd hs) h hx hs

end Go.Rx
end

section
/- Maps of ints: made, written, ranged over. -/
namespace Go.Rx
open Go.ChangeMaps (setBlock)

variable {cfg : Cfg} {lk : Option (Blk → Bool)} {H : Heap} {ρ : List Value} {F : Nat → List Nat} {w : World} {k : V → Heap → Prop}

theorem makeMapV_sound {t : TypeId} {r : Option V} {r' : Option Value} (h : makeMapV cfg t r H k) (hr : ∀ v, r = some v → ∃ x, r' = some x ∧ Rel ρ v x) (hr' : r = none → r' = none) (hs : Sat cfg.elT ρ F H w) :
    ∃ v z ρ' F' H' w', k v H' ∧ Rel ρ' v z ∧ Step cfg lk ρ F H w ρ' F' H' w' ∧ (Instr.makeMap t r').run cfg.P w = .ok z w' := by
  have hst : Step cfg lk ρ F H w (ρ ++ [.map (some w.heap.size)]) (fset F H.length [w.heap.size]) (H ++ [.map (fun _ => none) 0]) (w.alloc (.map #[] 0)) :=
    .push hs rfl rfl rfl (by simp) (fun n hn => alloc_old w _ n hn) (fun n hn => by simp at hn; subst hn; simp)
      ⟨_, #[], 0, rfl, rfl, alloc_new w _, ⟨by simp, by simp, by simp, by simp, by simp⟩, Nat.le_refl _⟩
  unfold makeMapV at h
  split at h
  · rw [hr' rfl]
    exact ⟨_, _, _, _, _, _, h, mk_mp (get_new hs _), hst, by simp [Instr.makeMap, newObj, Sem.run]⟩
  · rename_i kd n
    obtain ⟨x, rfl, hx⟩ := hr _ rfl
    obtain rfl := den_ext hx
    have hc := cond_elim h
    obtain ⟨K, E, inf, z, u1, u2, u3, u4, u5⟩ := mapInt_spec hc.1
    exact ⟨_, _, _, _, _, _, hc.2, mk_mp (get_new hs _), hst, by simp [Instr.makeMap, newObj, Sem.run, run_underlying u1, asInt, asIntOf]⟩
  · exact h.elim

theorem sat_val (hs : Sat cfg.elT ρ F H w) {i : Nat} {b : Blk} (hb : H[i]? = some b) : ∃ x, ρ[i]? = some x ∧ b.holds cfg.elT ρ w x (F i) := by
  have hi : i < ρ.length := by rw [hs.len]; exact (List.getElem?_eq_some_iff.1 hb).1
  exact ⟨ρ[i], List.getElem?_eq_getElem hi, hs.each i b _ hb (List.getElem?_eq_getElem hi)⟩

theorem run_keyThatStays_int {P : Program} (a : Int) (w : World) : (Instr.keyThatStays (i64 a) (i64 a)).run P w = .ok (i64 a) w := by
  simp [Instr.keyThatStays, Instr.sameBits]

theorem keyed_inj {es : List MapEntry} (hp : es.Pairwise (fun x y => x.key ≠ y.key)) : ∀ {x y : MapEntry}, x ∈ es → y ∈ es → x.key = y.key → x = y := fun hx hy h => entry_eq_of_key hp hx hy h

/-- A map that is written at a key. -/
theorem entries_push {m : Int → Option Int} {es : List MapEntry} {clock : Nat} (h : entriesOK m es clock) (a y : Int) (hn : ∀ e ∈ es, e.key ≠ i64 a) :
    entriesOK (mapSet m a y) (es ++ [{ key := i64 a, val := i64 y, born := clock }]) (clock + 1) := by
  obtain ⟨h1, h2, h3, h4, h5⟩ := h
  refine ⟨fun e he => ?_, fun q v hq => ?_, ?_, ?_, fun e he => ?_⟩
  · rcases List.mem_append.1 he with he | he
    · obtain ⟨q, v, e1, e2, e3⟩ := h1 e he
      refine ⟨q, v, e1, e2, ?_⟩
      unfold mapSet
      rw [if_neg (fun hq => hn e he (by rw [e1, hq]))]
      exact e3
    · simp only [List.mem_singleton] at he; subst he
      exact ⟨a, y, rfl, rfl, by simp [mapSet]⟩
  · unfold mapSet at hq
    split at hq
    · rename_i hqa; subst hqa
      exact ⟨{ key := i64 q, val := i64 y, born := clock }, by simp, rfl⟩
    · obtain ⟨e, he, hk⟩ := h2 q v hq
      exact ⟨e, by simp [he], hk⟩
  · refine List.pairwise_append.2 ⟨h3, by simp, fun x hx z hz => ?_⟩
    simp only [List.mem_singleton] at hz; subst hz
    exact hn x hx
  · refine List.pairwise_append.2 ⟨h4, by simp, fun x hx z hz => ?_⟩
    simp only [List.mem_singleton] at hz; subst hz
    exact Nat.ne_of_lt (h5 x hx)
  · rcases List.mem_append.1 he with he | he
    · have := h5 e he; omega
    · simp only [List.mem_singleton] at he; subst he; exact Nat.lt_succ_self _

theorem entries_set {m : Int → Option Int} {es : List MapEntry} {clock : Nat} (h : entriesOK m es clock) (a y : Int) {j : Nat} {e0 : MapEntry} (hj : es[j]? = some e0) (hk : e0.key = i64 a) :
    entriesOK (mapSet m a y) (es.set j { e0 with key := i64 a, val := i64 y }) clock := by
  obtain ⟨h1, h2, h3, h4, h5⟩ := h
  have hlt := (List.getElem?_eq_some_iff.1 hj).1
  have hget := (List.getElem?_eq_some_iff.1 hj).2
  have hmem : e0 ∈ es := List.mem_of_getElem? hj
  have hkey : ∀ i, (es.set j { e0 with key := i64 a, val := i64 y })[i]?.map MapEntry.key = es[i]?.map MapEntry.key := fun i => by
    rw [List.getElem?_set]
    split
    · rename_i e; subst e; rw [hj]; simp [hlt, hk]
    · rfl
  have hborn : ∀ i, (es.set j { e0 with key := i64 a, val := i64 y })[i]?.map MapEntry.born = es[i]?.map MapEntry.born := fun i => by
    rw [List.getElem?_set]
    split
    · rename_i e; subst e; rw [hj]; simp [hlt]
    · rfl
  have hmk : (es.set j { e0 with key := i64 a, val := i64 y }).map MapEntry.key = es.map MapEntry.key := List.ext_getElem? fun i => by rw [List.getElem?_map, List.getElem?_map]; exact hkey i
  have hmb : (es.set j { e0 with key := i64 a, val := i64 y }).map MapEntry.born = es.map MapEntry.born := List.ext_getElem? fun i => by rw [List.getElem?_map, List.getElem?_map]; exact hborn i
  have mem : ∀ e ∈ es.set j { e0 with key := i64 a, val := i64 y }, e = { e0 with key := i64 a, val := i64 y } ∨ (e ∈ es ∧ e.key ≠ i64 a) := fun e he => by
    obtain ⟨i, hi⟩ := List.getElem?_of_mem he
    rw [List.getElem?_set] at hi
    split at hi
    · rename_i e; subst e; simp [hlt] at hi; exact .inl hi.symm
    · rename_i hne
      have hmi := List.mem_of_getElem? hi
      refine .inr ⟨hmi, fun hka => hne ?_⟩
      have heq := keyed_inj h3 hmi hmem (by rw [hka, hk])
      subst heq
      have hi' := (List.getElem?_eq_some_iff.1 hi).1
      by_cases hij : i < j
      · have := List.pairwise_iff_getElem.1 h3 i j hi' hlt hij
        rw [(List.getElem?_eq_some_iff.1 hi).2, hget] at this
        exact absurd rfl this
      · by_cases hji : j < i
        · have := List.pairwise_iff_getElem.1 h3 j i hlt hi' hji
          rw [(List.getElem?_eq_some_iff.1 hi).2, hget] at this
          exact absurd rfl this
        · omega
  refine ⟨fun e he => ?_, fun q v hq => ?_, ?_, ?_, fun e he => ?_⟩
  · rcases mem e he with rfl | ⟨he, hne⟩
    · exact ⟨a, y, rfl, rfl, by simp [mapSet]⟩
    · obtain ⟨q, v, e1, e2, e3⟩ := h1 e he
      refine ⟨q, v, e1, e2, ?_⟩
      unfold mapSet
      rw [if_neg (fun hq => hne (by rw [e1, hq]))]
      exact e3
  · have hin : ∃ e ∈ es, e.key = i64 q := by
      unfold mapSet at hq
      split at hq
      · rename_i hqa; subst hqa; exact ⟨e0, hmem, hk⟩
      · exact h2 q v hq
    obtain ⟨e, he, hke⟩ := hin
    have : i64 q ∈ (es.set j { e0 with key := i64 a, val := i64 y }).map MapEntry.key := by rw [hmk]; exact List.mem_map.2 ⟨e, he, hke⟩
    obtain ⟨e', he', hke'⟩ := List.mem_map.1 this
    exact ⟨e', he', hke'⟩
  · have : ((es.set j { e0 with key := i64 a, val := i64 y }).map MapEntry.key).Pairwise (· ≠ ·) := by rw [hmk]; exact List.pairwise_map.2 h3
    exact List.pairwise_map.1 this
  · have : ((es.set j { e0 with key := i64 a, val := i64 y }).map MapEntry.born).Pairwise (· ≠ ·) := by rw [hmb]; exact List.pairwise_map.2 h4
    exact List.pairwise_map.1 this
  · rcases mem e he with rfl | ⟨he, _⟩
    · exact h5 e0 hmem
    · exact h5 e he

theorem modify_eq_set {α : Type} (f : α → α) (l : List α) {j : Nat} {e : α} (h : l[j]? = some e) : l.modify j f = l.set j (f e) := by
  apply List.ext_getElem?
  intro i
  rw [List.getElem?_modify, List.getElem?_set]
  by_cases hij : j = i
  · subst hij
    obtain ⟨h1, h2⟩ := List.getElem?_eq_some_iff.1 h
    simp [h1, h2]
  · simp [hij]

theorem mapUpdateV_sound {t : TypeId} {x key v : V} {a b c : Value} {k : Heap → Prop} (h : mapUpdateV cfg lk t x key v H k) (hx : Rel ρ x a) (hk : Rel ρ key b) (hv : Rel ρ v c) (hs : Sat cfg.elT ρ F H w) :
    ∃ F' H' w', k H' ∧ Step cfg lk ρ F H w ρ F' H' w' ∧ (Instr.mapUpdate t a b c).run cfg.P w = .ok () w' := by
  unfold mapUpdateV at h
  split at h
  · rename_i i
    split at h
    · rename_i q
      obtain rfl := den_ext hk
      split at h
      · rename_i y
        obtain rfl := den_ext hv
        split at h
        · rename_i m n hH
          have hc := cond_elim h
          have hc1 := hc.1
          simp only [Bool.and_eq_true] at hc1
          obtain ⟨K, E, inf, z, u1, u2, u3, u4, u5⟩ := mapInt_spec hc1.1
          obtain ⟨x0, hx0, b', es, clock, e1, e2, e3, e4, e5⟩ := sat_val hs hH
          obtain ⟨bm, hb, rfl⟩ := den_mp hx
          rw [hb] at hx0; injection hx0 with hx0; subst hx0
          injection e1 with e1
          injection e1 with e1
          subst e1
          have hes : ∀ e ∈ es.toList, ∃ k v, e.key = i64 k ∧ e.val = i64 v := fun e he => by
            obtain ⟨k, v, p1, p2, _⟩ := e4.1 e he; exact ⟨k, v, p1, p2⟩
          have fin : ∀ (es' : Array MapEntry) (clock' : Nat), entriesOK (mapSet m q y) es'.toList clock' → es'.size ≤ n + 1 → (Instr.mapUpdate t (.map (some bm)) (i64 q) (i64 y)).run cfg.P w = .ok () (setBlock w bm (.map es' clock')) →
              ∃ F' H' w', k H' ∧ Step cfg lk ρ F H w ρ F' H' w' ∧ (Instr.mapUpdate t (.map (some bm)) (i64 q) (i64 y)).run cfg.P w = .ok () w' := fun es' clock' he hsz hrun =>
            have hset := Go.MapKept.heap_set (o' := .map es' clock') e3
            ⟨_, _, _, hc.2, .set hs hH rfl hb (mayWrite_lk hc1.2) rfl rfl rfl (by simp [setBlock]) (fun j hj hno => hset.2 j (fun e => hno (by rw [e2, e]; simp))) (w' := setBlock w bm (.map es' clock')) (G := [bm]) (fun j hj => by rw [e2]; exact hj)
              ⟨bm, es', clock', rfl, rfl, hset.1, he, hsz⟩, hrun⟩
          rcases run_findKey_int u2 q es.toList hes w with ⟨r1, r2⟩ | ⟨j, e, r1, r2, r3⟩
          · refine fin (es.push { key := i64 q, val := i64 y, born := clock }) (clock + 1) ?_ (by simp; omega) ?_
            · rw [Array.toList_push]; exact entries_push e4 q y r2
            · simp only [Instr.mapUpdate, Sem.run_bind, run_underlying u1, Result.andThen_ok, run_getObj' e3, run_checkKey_int u2, r1, Go.MapKept.run_setObj_map _ e3]
              rfl
          · have hjlt : j < es.size := by have := (List.getElem?_eq_some_iff.1 r2).1; simpa using this
            have hje : es[j]? = some e := by rw [← Array.getElem?_toList]; exact r2
            refine fin (es.modify j fun e => { e with key := i64 q, val := i64 y }) clock ?_ (by simp; omega) ?_
            · have : (es.modify j fun e => { e with key := i64 q, val := i64 y }).toList = es.toList.set j { e with key := i64 q, val := i64 y } := by
                rw [Array.toList_modify, modify_eq_set _ _ r2]
              rw [this]
              exact entries_set e4 q y r2 r3
            · simp only [Instr.mapUpdate, Sem.run_bind, run_underlying u1, Result.andThen_ok, run_getObj' e3, run_checkKey_int u2, r1, hje, Option.map_some, Option.getD_some, r3, run_keyThatStays_int, Go.MapKept.run_setObj_map _ e3]
              rfl
        · exact h.elim
      · exact h.elim
    · exact h.elim
  · exact h.elim

theorem rangeV_sound {t : TypeId} {x : V} {a : Value} (h : rangeV cfg lk t x H k) (hx : Rel ρ x a) (hs : Sat cfg.elT ρ F H w) :
    ∃ v z ρ' F' H' w', k v H' ∧ Rel ρ' v z ∧ Step cfg lk ρ F H w ρ' F' H' w' ∧ (Instr.range t a).run cfg.P w = .ok z w' := by
  unfold rangeV at h
  split at h
  · rename_i i
    split at h
    · rename_i m n hH
      have hc := cond_elim h
      have hc1 := hc.1
      simp only [Bool.and_eq_true] at hc1
      obtain ⟨K, E, inf, z, u1, u2, u3, u4, u5⟩ := mapInt_spec hc1.1
      obtain ⟨x0, hx0, b', es, clock, e1, e2, e3, e4, e5⟩ := sat_val hs hH
      obtain ⟨bm, hb, rfl⟩ := den_mp hx
      rw [hb] at hx0; injection hx0 with hx0; subst hx0
      injection e1 with e1
      injection e1 with e1
      subst e1
      have hlt : bm < w.heap.size := hs.lt i _ hH bm (by rw [e2]; simp)
      refine ⟨_, _, _, _, _, _, hc.2, mk_ptr (get_new hs _), .move hs hH rfl (mayWrite_lk hc1.2) (w' := w.alloc (.mapIter (some bm) clock #[] clock)) rfl rfl rfl (by simp) (fun n hn _ => alloc_old w _ n hn) (G := [w.heap.size, bm]) (fun n hn => ?_)
        ⟨w.heap.size, bm, es, clock, #[], rfl, rfl, by omega, by rw [alloc_old w _ bm hlt]; exact e3, alloc_new w _, e4, ⟨fun e he k hk => ?_, fun k hk => ?_, ?_⟩, fun k x h => by cases h⟩, Go.run_range_map w t K E bm es clock u1 e3⟩
      · simp only [List.mem_cons, List.not_mem_nil, or_false] at hn
        rcases hn with rfl | rfl
        · simp
        · refine ⟨by simp; omega, .inl (by rw [e2]; simp)⟩
      · obtain ⟨q, v, p1, p2, p3⟩ := e4.1 e he
        rw [hk] at p1
        injection p1 with _ p1
        subst p1
        simp [mapHas, p3]
      · unfold mapHas at hk
        obtain ⟨v, hv⟩ := Option.isSome_iff_exists.1 hk
        exact e4.2.1 k v hv
      · refine Nat.le_trans (List.length_filter_le _ _) ?_
        simpa using e5
    · exact h.elim
  · exact h.elim

theorem nextV_sound {x : V} {a : Value} {str : Bool} {ty : TypeId} (h : nextV lk x str H k) (hx : Rel ρ x a) (hs : Sat cfg.elT ρ F H w) :
    ∃ v z F' H' w', k v H' ∧ Rel ρ v z ∧ Step cfg lk ρ F H w ρ F' H' w' ∧ (Instr.next a str ty).run cfg.P w = .ok z w' := by
  unfold nextV at h
  split at h
  · rename_i i
    split at h
    · rename_i m left n cur hH
      have hc := cond_elim h
      have hc1 := hc.1
      simp only [Bool.and_eq_true, Bool.not_eq_true'] at hc1
      obtain ⟨rfl, hmw⟩ := hc1
      obtain ⟨ht, hf⟩ := hc.2
      obtain ⟨x0, hx0, r, b, es, clock, seen, e1, e2, e3, e4, e5, e6, e7, e8⟩ := sat_val hs hH
      obtain ⟨r', hb, rfl⟩ := den_ptr hx
      rw [hb] at hx0; injection hx0 with hx0; subst hx0
      injection e1 with e1
      injection e1 with e1
      injection e1 with e1
      subst e1
      obtain ⟨i1, i2, i3⟩ := e7
      rcases Go.run_next_at (P := cfg.P) w ty r' b clock clock seen es clock e5 e4 (fun x hx => e6.2.2.2.2 x hx) (Nat.le_refl _) with ⟨h0, hrun⟩ | ⟨e, he, w1, hal, hrun⟩
      · refine ⟨_, .tuple #[.bool false], _, _, _, hf (fun q => ?_), .inr rfl, Step.refl hs, hrun⟩
        cases hq : left q with
        | false => rfl
        | true =>
          obtain ⟨e, he, hk⟩ := i2 q hq
          have := i1 e he q hk
          rw [hq, all_seen es seen h0 e he] at this
          cases this
      · obtain ⟨hem, hes⟩ := mem_left he
        obtain ⟨q, v, p1, p2, p3⟩ := e6.1 e hem
        have hl : left q = true := by rw [i1 e hem q p1, hes]; rfl
        have hpos : 0 < n := by
          have : 0 < (leftOf es seen).toList.length := List.length_pos_of_mem he
          unfold leftOf at this
          rw [Array.toList_filter] at this
          omega
        have hr1 : w1.heap[r']? = some (.mapIter (some b) clock seen clock) := by rcases hal with rfl | rfl <;> exact e5
        have hset := Go.MapKept.heap_set (o' := .mapIter (some b) clock (seen.push e.born) clock) hr1
        have hw1 : w1.heap = w.heap := by rcases hal with rfl | rfl <;> rfl
        rw [p1, p2] at hrun
        refine ⟨_, .tuple #[.bool true, i64 q, i64 v], _, _, _, ht q v hl p3 (by simpa using hpos), .inr rfl, .set hs hH rfl hb (mayWrite_lk hmw) (w' := setBlock w1 r' (.mapIter (some b) clock (seen.push e.born) clock)) (G := [r', b])
          (by rcases hal with rfl | rfl <;> rfl) (by rcases hal with rfl | rfl <;> rfl) (by rcases hal with rfl | rfl <;> rfl) (by simp [setBlock, hw1]) (fun j hj hno => ?_) (fun j hj => by rw [e2]; exact hj)
          ⟨r', b, es, clock, seen.push e.born, rfl, rfl, e3, (hset.2 b (fun h => e3 h.symm)).trans (by rw [hw1]; exact e4), hset.1, e6, ⟨fun x hx k' hk' => ?_, fun k' hk' => ?_, ?_⟩, fun k' x' hk' => ?_⟩, hrun⟩
        · rw [← hw1]
          exact hset.2 j (fun h => hno (by rw [e2, h]; simp))
        · rw [contains_push]
          unfold mapDrop
          rw [i1 x hx k' hk']
          have : decide (k' = q) = (x.born == e.born) := by
            by_cases hkq : k' = q
            · subst hkq
              have := keyed_inj e6.2.2.1 hx hem (by rw [hk', p1])
              subst this
              simp
            · have hne : x.born ≠ e.born := fun hb => by
                obtain ⟨ix, hix⟩ := List.getElem?_of_mem hx
                obtain ⟨ie, hie⟩ := List.getElem?_of_mem hem
                have h1 := List.getElem?_eq_some_iff.1 hix
                have h2 := List.getElem?_eq_some_iff.1 hie
                obtain ⟨h1, h1'⟩ := h1
                obtain ⟨h2, h2'⟩ := h2
                have hP := List.pairwise_iff_getElem.1 e6.2.2.2.1
                rcases Nat.lt_trichotomy ix ie with hlt | heq | hlt
                · exact hP ix ie h1 h2 hlt (by rw [h1', h2', hb])
                · subst heq
                  rw [h1'] at h2'
                  subst h2'
                  rw [hk'] at p1
                  injection p1 with _ p1
                  exact hkq p1
                · exact hP ie ix h2 h1 hlt (by rw [h1', h2', hb])
              simp [hkq, hne]
          rw [this]
          cases seen.contains x.born <;> cases (x.born == e.born) <;> rfl
        · unfold mapDrop at hk'
          simp only [Bool.and_eq_true] at hk'
          exact i2 k' hk'.1
        · have hlt := left_shrinks es seen e he
          have c1 : ∀ s, (leftOf es s).size = (es.toList.filter fun e => !s.contains e.born).length := fun s => by
            unfold leftOf
            rw [← Array.length_toList, Array.toList_filter]
          rw [c1, c1] at hlt
          omega
        · injection hk' with hk'
          injection hk' with h1 h2
          subst h1; subst h2
          exact ⟨seen, e, rfl, hem, p1, p2⟩
    · exact h.elim
  · exact h.elim
end Go.Rx
end

section
/- 'copy' into a row of the run's own. -/
namespace Go.Rx

variable {cfg : Cfg} {lk : Option (Blk → Bool)} {H : Heap} {ρ : List Value} {F : Nat → List Nat} {w : World} {k : V → Heap → Prop}

theorem run_copy {P : Program} {t elem : TypeId} {ty : TypeId} {inf : TypeInfo} (hu : P.underlying t = some (.slice elem)) (hi : P.info? elem = some inf) (w : World) (base : Option Addr) (n cap : Nat) (a : Addr) (sl sc : Nat) (cs : List Value)
    (hcs : cs.length = Nat.min sl n * inf.size) (hsrc : ∀ j v, cs[j]? = some v → w.cell? (a.add j) = some v) {w' : World} (hst : ∀ b, base = some b → (storeCells b cs).run P w = .ok () w') (hno : base = none → w' = w) :
    (Builtin.copy_ #[t, t] ty #[.slice base n cap, .slice (some a) sl sc]).run P w = .ok (goInt (Nat.min sl n)) w' := by
  have hl := run_loadCells_list (P := P) (w := w) a cs hsrc
  rw [hcs] at hl
  cases base with
  | none =>
    rw [hno rfl]
    simp [Builtin.copy_, run_underlying hu, Builtin.lenOf, Builtin.firstCells, sizeOf, typeInfo, hi, hl]
  | some b =>
    simp [Builtin.copy_, run_underlying hu, Builtin.lenOf, Builtin.firstCells, sizeOf, typeInfo, hi, hl, hst b rfl]

theorem copyTo_sound (ok : CfgOK cfg) {t ty tg i lo n : Nat} {ly : List (El ty)} {x : Value} {tyR : TypeId} (ht : cfg.tagOf t = some tg) (h : copyTo lk tg i lo n H k ty ly) {adx : Option Addr} {lenx capx : Nat} (hx : ρ[i]? = some (.slice adx lenx capx))
    (hs : Sat cfg.elT ρ F H w) {ad : Option Addr} {cap : Nat} (hcap : ad = none → cap = 0) (hl : ly.length ≤ cap ∨ ad ≠ none)
    (hc : ∀ j y, (flat ty ly)[j]? = some y → ∃ a, ad = some a ∧ w.cell? (a.add j) = some y) (hxv : x = .slice (if capx = lo then adx else adx.map (·.add (lo * elM tg))) n (capx - lo)) :
    ∃ v z ρ' F' H' w', k v H' ∧ Rel ρ' v z ∧ Step cfg lk ρ F H w ρ' F' H' w' ∧ (Builtin.copy_ #[t, t] tyR #[x, .slice ad ly.length cap]).run cfg.P w = .ok z w' := by
  unfold copyTo at h
  split at h
  · rename_i tx lx ro hH
    have hcd := cond_elim h
    have hc1 := hcd.1
    simp only [Bool.and_eq_true] at hc1
    obtain ⟨⟨hro, hm⟩, htx⟩ := hc1
    obtain rfl := Nat.eq_of_beq_eq_true htx
    have hro : ro = false := by simpa using hro
    subst hro
    have hh := hcd.2
    split at hh
    · rename_i e
      subst e
      have hr := Req_elim hh
      have hq : lo + n ≤ lx.length := by simpa using hr.1
      have hk := hr.2
      obtain ⟨hown, hF⟩ := hs.each i _ _ hH hx
      obtain ⟨u1, inf, z, u2, u3, u4, u5, u6⟩ := ok.tags t _ ht
      have hmin : Nat.min ly.length n = min n ly.length := Nat.min_comm _ _
      by_cases hz : min n ly.length = 0
      · -- nothing is copied
        have hk' : k (vi ((min n ly.length : Nat) : Int)) H := by
          have e : lx.take lo ++ (ly.take (min n ly.length) ++ lx.drop (lo + min n ly.length)) = lx := by rw [hz]; simp
          have hset : H.set i (.row ty lx false) = H := by
            apply List.ext_getElem?
            intro j
            rw [List.getElem?_set]
            split
            · rename_i e; subst e; have := (List.getElem?_eq_some_iff.1 hH).1; simp only [this, if_true]; exact hH.symm
            · rfl
          have hk2 := hk
          rw [show (lx.take lo ++ (ly.take (min n ly.length) ++ lx.drop (lo + min n ly.length))) = lx from e] at hk2
          rw [hset] at hk2
          exact hk2
        refine ⟨_, goInt (Nat.min ly.length n), ρ, F, H, w, hk', .inr ?_, .refl hs, ?_⟩
        · simp only [V.den, vi, goInt, hmin]
        · subst hxv
          have hm0 : Nat.min ly.length n = 0 := by rw [hmin]; exact hz
          cases ad with
          | none =>
            have e1 := hcap rfl
            subst e1
            simp [Builtin.copy_, run_underlying u1, Builtin.lenOf, Builtin.firstCells, sizeOf, typeInfo, u2, storeCells]
            split <;> simp [storeCells]
          | some a =>
            refine run_copy u1 u2 w _ n _ a ly.length cap [] (by rw [hm0]; simp) (by simp) (fun b _ => by simp [storeCells]) (fun _ => rfl)
      · have hn0 : 0 < n := by omega
        have hly0 : 0 < ly.length := by omega
        rcases hown.2 with ⟨h', h0⟩ | ⟨g, cap', cur, h', _, hg, hcp, hcm, hcs, htake⟩
        · omega
        · injection h' with e1 e2 e3
          subst e1; subst e2; subst e3
          have hne : ¬ capx = lo := by omega
          have hmp := elM_pos ty
          have hflat1 : 0 < (flat ty ly).length := by rw [flat_len]; exact Nat.mul_pos hly0 hmp
          obtain ⟨a, hada, _⟩ := hc 0 _ (List.getElem?_eq_getElem hflat1)
          subst hada
          let c := min n ly.length
          let cs := (flat ty ly).take (c * elM ty)
          have hcl : c ≤ ly.length := Nat.min_le_right _ _
          have hcn : c ≤ n := Nat.min_le_left _ _
          have hcslen : cs.length = c * elM ty := by
            show ((flat ty ly).take (c * elM ty)).length = _
            rw [List.length_take, flat_len]
            have := Nat.mul_le_mul_right (elM ty) hcl
            omega
          have hcsf : cs = flat ty (ly.take c) := (flat_take ty c ly).symm
          have hflat := flat_len ty lx
          have hloc : (lo + c) * elM ty ≤ lx.length * elM ty := Nat.mul_le_mul_right _ (by omega)
          have hcapm : lx.length * elM ty ≤ cur.size := by rw [hcs]; exact Nat.mul_le_mul_right _ hcp
          have hroom : lo * elM ty + cs.length ≤ cur.size := by rw [hcslen]; rw [Nat.add_mul] at hloc; omega
          have hst := run_storeCells_at cfg.P g (lo * elM ty) (cfg.elT ty) cs 0 cur w hg (by simpa using hroom) (fun v hv => by rw [hcsf] at hv; exact flat_one ty _ v hv)
          simp only [Nat.add_zero] at hst
          refine ⟨_, goInt (Nat.min ly.length n), ρ, fset F i [g], _, w.setRow g (cur.toList.take (lo * elM ty) ++ cs ++ cur.toList.drop (lo * elM ty + cs.length)).toArray, hk, .inr ?_, ?_, ?_⟩
          · simp only [V.den, vi, goInt, hmin]
          · refine .set (w' := w.setRow g _) hs (G := [g]) hH rfl hx (mayWrite_lk hm) rfl rfl rfl (by simp [World.setRow]) (fun n hn hno => setRow_other w g n _ (fun e => hno (by simp [hF, Value.ownBlock, e]))) (fun n hn => by simp only [hF, Value.ownBlock]; exact hn) ?_
            have hlen' : (lx.take lo ++ (ly.take c ++ lx.drop (lo + c))).length = lx.length := by
              simp only [List.length_append, List.length_take, List.length_drop]; omega
            show World.ownsRow (w.setRow g _) 0 (cfg.elT ty) (elM ty) (.slice (some ⟨g, 0, none⟩) lx.length capx) (lx.take lo ++ (ly.take c ++ lx.drop (lo + c))).length (flat ty (lx.take lo ++ (ly.take c ++ lx.drop (lo + c)))) ∧ _
            refine ⟨⟨by rw [flat_len], .inr ⟨g, capx, _, by rw [hlen'], Nat.zero_le _, setRow_heap w g _ _ _ _ hg, by rw [hlen']; exact hcp, hcm, ?_, ?_⟩⟩, by simp [Value.ownBlock]⟩
            · rw [← hcs, List.size_toArray, List.length_append, List.length_append, List.length_take, List.length_drop]
              have hcl2 : cur.toList.length = cur.size := Array.length_toList
              omega
            · have hcur : cur.toList = flat ty lx ++ cur.toList.drop (lx.length * elM ty) := by rw [← htake]; simp
              rw [hlen', flat_append, flat_append, flat_take, flat_drop, ← hcsf]
              show (((cur.toList.take (lo * elM ty) ++ cs ++ cur.toList.drop (lo * elM ty + cs.length)).toArray).toList).take _ = _
              generalize cur.toList.drop (lx.length * elM ty) = R at hcur
              rw [hcur, ← hflat]
              have := take_of_parts (flat ty lx) R cs (lo * elM ty) (lo * elM ty + cs.length) (by rw [hflat, hcslen, ← Nat.add_mul]; exact hloc) rfl
              rw [show ((flat ty lx ++ R).take (lo * elM ty) ++ cs ++ (flat ty lx ++ R).drop (lo * elM ty + cs.length)).toArray.toList = ((flat ty lx ++ R).take (lo * elM ty) ++ cs ++ (flat ty lx ++ R).drop (lo * elM ty + cs.length)) from by simp]
              rw [this, hcslen, ← Nat.add_mul, List.append_assoc]
          · subst hxv
            rw [if_neg hne]
            have hb : (some (⟨g, 0, none⟩ : Addr)).map (·.add (lo * elM ty)) = some ⟨g, lo * elM ty, none⟩ := by
              rw [Option.map_some, add_lit0, Nat.zero_add]
            rw [hb]
            refine run_copy u1 u2 w _ n _ a ly.length cap cs (by rw [hcslen, u5, hmin]) (fun j v hj => ?_) (fun b hb => ?_) (fun hb => by cases hb)
            · have hj' : (flat ty ly)[j]? = some v := by
                have hj : ((flat ty ly).take (c * elM ty))[j]? = some v := hj
                rw [List.getElem?_take] at hj
                split at hj
                · exact hj
                · cases hj
              obtain ⟨a', e, hh⟩ := hc j v hj'
              injection e with e; subst e; exact hh
            · injection hb with hb; subst hb; exact hst
    · exact hh.elim
  · exact h.elim

theorem copyV_sound (ok : CfgOK cfg) {t : TypeId} {x y : V} {a b : Value} {tyR : TypeId} (h : copyV cfg lk t x y H k) (hx : Rel ρ x a) (hy : Rel ρ y b) (hs : Sat cfg.elT ρ F H w) :
    ∃ v z ρ' F' H' w', k v H' ∧ Rel ρ' v z ∧ Step cfg lk ρ F H w ρ' F' H' w' ∧ (Builtin.copy_ #[t, t] tyR #[a, b]).run cfg.P w = .ok z w' := by
  unfold copyV at h
  split at h
  · exact h.elim
  · rename_i tg ht
    split at h
    · rename_i i
      split at h
      · rename_i tx l ro hH
        obtain ⟨ty, ly, ad, cap, hk, rfl, h1, _, h2⟩ := rowOf_sound h hy hs
        have hr := den_row hx
        obtain ⟨adx, capx, hxs, hcx, _⟩ := hs.shape i _ _ _ hH
        rw [hr] at hxs; injection hxs with hxs; subst hxs
        refine copyTo_sound ok ht hk hr hs h1 ?_ h2 ?_
        · cases ad with
          | none =>
            left
            have := flat_nil_of (Q := fun a y j => w.cell? (a.add j) = some y) rfl h2
            subst this; simp
          | some a => exact .inr (by simp)
        · by_cases e : capx = 0
          · rw [if_pos e, Nat.sub_zero]
          · rw [if_neg e, Nat.zero_mul, Nat.sub_zero]
            cases adx with
            | none => rfl
            | some a => simp [Addr.add]
      · exact h.elim
    · rename_i i lo n m
      have hc := cond_elim h
      obtain rfl := Nat.eq_of_beq_eq_true hc.1
      obtain ⟨ty, ly, ad, cap, hk, rfl, h1, _, h2⟩ := rowOf_sound hc.2 hy hs
      obtain ⟨adx, lenx, capx, hr, rfl⟩ := den_sub hx
      refine copyTo_sound ok ht hk hr hs h1 ?_ h2 rfl
      cases ad with
      | none =>
        left
        have := flat_nil_of (Q := fun a y j => w.cell? (a.add j) = some y) rfl h2
        subst this; simp
      | some a => exact .inr (by simp)
    · exact h.elim
end Go.Rx
end

section
/- Operations, and regions of them. -/
namespace Go.Rx

variable {cfg : Cfg} {lk : Option (Blk → Bool)} {H : Heap} {ρ : List Value} {F : Nat → List Nat} {w : World} {k : V → Heap → Prop} {ds : List Deferred}

theorem upon_value' {P : Program} {o : Oper} {a : Act} {next : Act → World → Prop} {Q : Exit → Act → World → Prop} {s : Sem Next} {x : Value} {w w' : World} (h : s.run P w = .ok (.value x) w') (hn : next (a.put o.dst x) w') :
    o.upon P a next Q (s.run P w) := by rw [h]; exact hn

theorem upon_skip' {P : Program} {o : Oper} {a : Act} {next : Act → World → Prop} {Q : Exit → Act → World → Prop} {s : Sem Next} {w w' : World} (h : s.run P w = .ok .skip w') (hn : next (a.put o.dst undef) w') :
    o.upon P a next Q (s.run P w) := by rw [h]; exact hn

theorem run_alloc' {P : Program} {T : TypeId} {inf : TypeInfo} {z : Value} (h1 : P.info? T = some inf) (h2 : inf.zero = some z) (w : World) :
    (Instr.alloc T true (.tuple #[])).run P w = .ok (.pointer (some ⟨w.heap.size, 0, none⟩)) (w.alloc (.cells z.cells T)) := by
  simp only [Instr.alloc, Sem.run_bind, zeroValue, typeInfo, newVar, newRow, run_newObj', Result.andThen_ok, Sem.run_pure, program, Sem.run, h1, h2, pure]

theorem run_box' {P : Program} {T : TypeId} (v : Value) (w : World) :
    (Instr.box T v).run P w = .ok (.pointer (some ⟨w.heap.size, 0, none⟩)) (w.alloc (.cells v.cells T)) := by
  simp only [Instr.box, Sem.run_bind, newVar, newRow, run_newObj', Result.andThen_ok, Sem.run_pure]

theorem told_next {P : Program} {m : Sem Value} {x : Value} {w w' : World} (h : m.run P w = .ok x w') : ((do pure (.value (← m))) : Sem Next).run P w = .ok (.value x) w' := by
  rw [Sem.run_bind, h]; rfl

theorem told_skip {P : Program} {m : Sem Unit} {w w' : World} (h : m.run P w = .ok () w') : ((do m; pure .skip) : Sem Next).run P w = .ok .skip w' := by
  rw [Sem.run_bind, h]; rfl

theorem run_callFunc {P : Program} {g : FuncId} {fn : Func} (h1 : P.funcs[g]? = some fn) (h2 : (fn.name == "runtime.NumGoroutine") = false) (h3 : fn.body.isNone = false) (args : Array Value) (w : World) :
    (callFunc g args).run P w = .ok (.enter g args) w := by
  have h2' : ¬ fn.name = "runtime.NumGoroutine" := by simpa using h2
  have h3' : ¬ fn.body = none := fun e => by rw [e] at h3; cases h3
  simp [callFunc, h1, h2', h3']

theorem loudOp_sound (ok : CfgOK cfg) (hsig : ∀ g s, cfg.sigs g = some s → SpecOK cfg.P cfg.elT g s) (hlk : LkOK lk) {o : Oper} {env : Env} {a : Act} (h : loudOp cfg lk o env H k) (hE : ∀ t, Rel ρ (env t) (a.tmps.getD t undef))
    (hs : Sat cfg.elT ρ F H w) {next : Act → World → Prop} {Q : Exit → Act → World → Prop}
    (hn : ∀ v x ρ' F' H' w', k v H' → Rel ρ' v x → Step cfg lk ρ F H w ρ' F' H' w' → next (a.put o.dst x) w') : o.wp cfg.P a w next Q := by
  obtain ⟨dst, op, type, pos, after, guard⟩ := o
  have he := fun x => REnv.ev hE x
  unfold Oper.wp
  unfold loudOp at h
  split at h <;> first | exact h.elim | (rename_i hop; simp only at hop; subst hop)
  · rename_i T
    split at h
    · rename_i i hi
      obtain ⟨inf, z, i1, i2, i3, i4, i5⟩ := Cfg.ty_spec hi
      refine upon_value' (told_next (run_alloc' i1 i3 w)) (hn _ _ _ _ _ _ h ?_ (by have := Step.cells (lk := lk) (T := T) (U := allocTy cfg dst T) hs (denL_ext (ρ := ρ) i.zero); rw [i5, Array.toArray_toList] at this; rw [i5]; exact this))
      exact mk_ptr (get_new hs _)
    · exact h.elim
  · rename_i T x
    have hc := cond_elim h
    have hd := vcells_den (he x) hc.1
    refine upon_value' (told_next (run_box' (a.eval x) w)) (hn _ _ _ _ _ _ hc.2 ?_ (by have := Step.cells (lk := lk) (T := T) (U := T) hs hd; rw [Array.toArray_toList] at this; exact this))
    exact mk_ptr (get_new hs _)
  · rename_i T x y
    obtain ⟨F', H', w', h1, h2, h3⟩ := storeV_sound h (he x) (he y) hs
    exact upon_skip' (told_skip h3) (hn _ _ _ _ _ _ h1 (.inr rfl) h2)
  · rename_i t n parts
    obtain ⟨v, z, ρ', F', H', w', h1, h2, h3, h4⟩ := buildSliceV_sound (lk := lk) ok h hE hs
    exact upon_value' (told_next h4) (hn _ _ _ _ _ _ h1 h2 h3)
  · rename_i t x y
    obtain ⟨v, z, ρ', F', H', w', h1, h2, h3, h4⟩ := makeSliceV_sound (lk := lk) ok h (he x) (he y) hs
    exact upon_value' (told_next h4) (hn _ _ _ _ _ _ h1 h2 h3)
  · rename_i t r
    obtain ⟨v, z, ρ', F', H', w', h1, h2, h3, h4⟩ := makeMapV_sound (lk := lk) (r' := r.map a.eval) h (fun v hv => by
      cases r with
      | none => cases hv
      | some x => injection hv with hv; subst hv; exact ⟨_, rfl, he x⟩) (fun hr => by
      cases r with
      | none => rfl
      | some x => cases hr) hs
    exact upon_value' (told_next h4) (hn _ _ _ _ _ _ h1 h2 h3)
  · rename_i t m x v
    obtain ⟨F', H', w', h1, h2, h3⟩ := mapUpdateV_sound h (he m) (he x) (he v) hs
    exact upon_skip' (told_skip h3) (hn _ _ _ _ _ _ h1 (.inr rfl) h2)
  · rename_i t x
    obtain ⟨v, z, ρ', F', H', w', h1, h2, h3, h4⟩ := rangeV_sound h (he x) hs
    exact upon_value' (told_next h4) (hn _ _ _ _ _ _ h1 h2 h3)
  · rename_i it str
    obtain ⟨v, z, F', H', w', h1, h2, h3, h4⟩ := nextV_sound (ty := type) h (he it) hs
    exact upon_value' (told_next h4) (hn _ _ _ _ _ _ h1 h2 h3)
  · rename_i c
    obtain ⟨callee, args, argTypes⟩ := c
    split at h
    · rename_i b hb
      simp only at hb
      subst hb
      split at h
      · rename_i x y t t' hargs hts
        obtain rfl := list2 hargs
        obtain rfl := list2 hts
        have hc := cond_elim h
        obtain rfl := Nat.eq_of_beq_eq_true hc.1
        obtain ⟨v, z, ρ', F', H', w', h1, h2, h3, h4⟩ := appendV_sound ok (tyR := type) hc.2 (he x) (he y) hs
        refine upon_value' ?_ (hn _ _ _ _ _ _ h1 h2 h3)
        have := told_next h4
        simpa [execOp, resolve, invoke, builtin] using this
      · rename_i x y t t' hargs hts
        obtain rfl := list2 hargs
        obtain rfl := list2 hts
        have hc := cond_elim h
        obtain rfl := Nat.eq_of_beq_eq_true hc.1
        obtain ⟨v, z, ρ', F', H', w', h1, h2, h3, h4⟩ := copyV_sound ok (tyR := type) hc.2 (he x) (he y) hs
        refine upon_value' ?_ (hn _ _ _ _ _ _ h1 h2 h3)
        have := told_next h4
        simpa [execOp, resolve, invoke, builtin] using this
      · exact h.elim
    · rename_i f hf
      simp only at hf
      subst hf
      split at h
      · rename_i g caps hg
        split at h
        · rename_i s hsg
          have hc := cond_elim h
          have hfd := he f
          rw [hg] at hfd
          have hfd := hfd.den (by simp)
          simp only [V.den] at hfd
          split at hfd
          · rename_i cs hcs
            injection hfd with hfd
            have hargs := noJunk_den hE args.toList hc.1
            have hall := denL_append hargs hcs
            obtain ⟨⟨fn, f1, f2, f3⟩, _⟩ := hsig g s hsg
            have hrun : (execOp a.eval { dst := dst, op := .call { callee := .value f, args := args, argTypes := argTypes }, type := type, pos := pos, after := after, guard := guard : Oper }).run cfg.P w = .ok (.enter g (args.toList.map a.eval ++ cs).toArray) w := by
              have e : (args.toList.map a.eval ++ cs).toArray = #[] ++ args.map a.eval ++ cs.toArray := by
                apply Array.ext'; simp
              simp only [execOp, resolve, ← hfd, Deferred.ofValue, invoke, Sem.run_bind, Sem.run_pure, Result.andThen_ok, run_callFunc f1 f2 f3, e]
            rw [hrun, Oper.upon_enter]
            refine (callC_sound hlk (hsig g s hsg) hc.2 hall hs).mono ?_
            rintro e w' ⟨v, x, ρ', F', H', rfl, h1, h2, h3⟩
            exact hn _ _ _ _ _ _ h1 h2 h3
          · cases hfd
        · exact h.elim
      · rename_i g y hg
        split at h
        · rename_i s hsg
          have hc := cond_elim h
          have hfd := he f
          rw [hg] at hfd
          have hfd := hfd.den (by simp)
          simp only [V.den] at hfd
          split at hfd
          · rename_i yv hy
            injection hfd with hfd
            have hargs := noJunk_den hE args.toList hc.1
            have hall : denL ρ (y :: args.toList.map (ev env)) = some (yv :: args.toList.map a.eval) := by simp only [denL, hy, hargs]
            obtain ⟨⟨fn, f1, f2, f3⟩, _⟩ := hsig g s hsg
            have hrun : (execOp a.eval { dst := dst, op := .call { callee := .value f, args := args, argTypes := argTypes }, type := type, pos := pos, after := after, guard := guard : Oper }).run cfg.P w = .ok (.enter g (yv :: args.toList.map a.eval).toArray) w := by
              have e : (yv :: args.toList.map a.eval).toArray = #[yv] ++ args.map a.eval ++ #[] := by
                apply Array.ext'; simp
              simp only [execOp, resolve, ← hfd, Deferred.ofValue, invoke, Sem.run_bind, Sem.run_pure, Result.andThen_ok, run_callFunc f1 f2 f3, e]
            rw [hrun, Oper.upon_enter]
            refine (callC_sound hlk (hsig g s hsg) hc.2 hall hs).mono ?_
            rintro e w' ⟨v, x, ρ', F', H', rfl, h1, h2, h3⟩
            exact hn _ _ _ _ _ _ h1 h2 h3
          · cases hfd
        · exact h.elim
      · exact h.elim
    · exact h.elim

theorem REnv.put {nt : Nat} {env : Env} {a : Act} (hnt : a.tmps.size = nt) (hE : ∀ t, Rel ρ (env t) (a.tmps.getD t undef)) {ρ' : List Value} (hl : Le ρ ρ') {v : V} {x : Value} (hx : Rel ρ' v x) (d : Option Nat) :
    (∀ t, Rel ρ' (updO nt env d v t) ((a.put d x).tmps.getD t undef)) ∧ (a.put d x).tmps.size = nt := by
  cases d with
  | none => exact ⟨fun t => (hE t).le hl, hnt⟩
  | some d =>
    refine ⟨fun t => ?_, by simp [Act.put, hnt]⟩
    simp only [updO]
    cases hd : Nat.ble nt d with
    | true =>
      have := Nat.le_of_ble_eq_true hd
      have e : (a.put (some d) x).tmps = a.tmps := by simp only [Act.put]; rw [Array.setIfInBounds_eq_of_size_le (by omega)]
      rw [e]
      exact (hE t).le hl
    | false =>
      have hdl : d < a.tmps.size := by
        rw [hnt]
        rcases Nat.lt_or_ge d nt with h | h
        · exact h
        · rw [Nat.ble_eq_true_of_le h] at hd; cases hd
      simp only [cond_false, upd, Act.put]
      cases ht : Nat.beq t d with
      | true =>
        obtain rfl := Nat.eq_of_beq_eq_true ht
        simp only [cond_true]
        simpa [Array.getD, hdl] using hx
      | false =>
        have hne : d ≠ t := fun e => by subst e; simp at ht
        simp only [cond_false]
        have e : (a.tmps.setIfInBounds d x).getD t undef = a.tmps.getD t undef := by
          simp only [Array.getD_eq_getD_getElem?, Array.getElem?_setIfInBounds_ne hne]
        rw [e]
        exact (hE t).le hl


/-- A state of the run: temporaries and memory. -/
structure St (cfg : Cfg) (nt : Nat) (ds : List Deferred) (ρ : List Value) (F : Nat → List Nat) (env : Env) (H : Heap) (a : Act) (w : World) : Prop where
  env : ∀ t, Rel ρ (env t) (a.tmps.getD t undef)
  size : a.tmps.size = nt
  defers : a.defers = ds
  sat : Sat cfg.elT ρ F H w

theorem St.put {nt : Nat} {env : Env} {a : Act} (h : St cfg nt ds ρ F env H a w) {ρ' : List Value} {F' : Nat → List Nat} {H' : Heap} {w' : World} (st : Step cfg lk ρ F H w ρ' F' H' w') {v : V} {x : Value} (hx : Rel ρ' v x) (d : Option Nat) :
    St cfg nt ds ρ' F' (updO nt env d v) H' (a.put d x) w' :=
  let p := REnv.put h.size h.env st.le hx d
  ⟨p.1, p.2, by cases d <;> exact h.defers, st.sat⟩

theorem guard_wanted {ops : Array Oper} {a : Act} {j d : Nat} {p o : Oper} {b want : Bool} (hp : ops[j]? = some p) (hd : p.dst = some d) (hv : a.tmps.getD d undef = .bool b) (hds : d < a.tmps.size) (hg : o.guard = some (j, want)) :
    Region.wanted o (yielded ops a.tmps) = (b == want) := by
  have hy : yielded ops a.tmps j = some b := by
    unfold yielded
    rw [hp]
    simp only [Option.bind_some, hd]
    rw [Array.getElem?_eq_getElem hds]
    have : a.tmps[d] = .bool b := by simpa [Array.getD, hds] using hv
    rw [this]
  unfold Region.wanted
  rw [hg]
  simp only [hy]
  cases b <;> cases want <;> rfl

/-- The guard's own operation was not asked: this one is not either. -/
theorem guard_unasked {ops : Array Oper} {a : Act} {j d : Nat} {p o : Oper} {vs : Array Value} {want : Bool} (hp : ops[j]? = some p) (hd : p.dst = some d) (hv : a.tmps.getD d undef = .tuple vs) (hg : o.guard = some (j, want)) :
    Region.wanted o (yielded ops a.tmps) = false := by
  have hy : yielded ops a.tmps j = none := by
    unfold yielded
    rw [hp]
    simp only [Option.bind_some, hd]
    rcases Nat.lt_or_ge d a.tmps.size with hds | hds
    · rw [Array.getElem?_eq_getElem hds]
      have : a.tmps[d] = .tuple vs := by simpa [Array.getD, hds] using hv
      rw [this]
    · rw [Array.getElem?_eq_none hds]
  unfold Region.wanted
  rw [hg]
  simp only [hy]
  rfl

/-- One operation, by its guard: what it must lead to. -/
def opGoes (cfg : Cfg) (nt : Nat) (ds : List Deferred) (lk : Option (Blk → Bool)) (ρ : List Value) (F : Nat → List Nat) (H : Heap) (w : World) (o : Oper) (a : Act) (J : Env → Heap → Prop) (next : Act → World → Prop) : Prop :=
  ∀ ρ' F' H' w' env' a', J env' H' → St cfg nt ds ρ' F' env' H' a' w' → Step cfg lk ρ F H w ρ' F' H' w' → (∃ x, a' = a.put o.dst x) → next a' w'

/-- The guard is known: the temporary that it looks at may be told so. -/
theorem St.known {nt : Nat} {env : Env} {a : Act} (h : St cfg nt ds ρ F env H a w) {d : Nat} {b : Bool} (hv : env d = .ext (.bool b)) : St cfg nt ds ρ F (updO nt env (some d) (vb b)) H a w := by
  refine ⟨fun t => ?_, h.size, h.defers, h.sat⟩
  simp only [updO]
  cases Nat.ble nt d with
  | true => exact h.env t
  | false =>
    simp only [cond_false, upd]
    cases ht : Nat.beq t d with
    | true =>
      obtain rfl := Nat.eq_of_beq_eq_true ht
      have := h.env t
      rw [hv] at this
      exact this
    | false => exact h.env t

theorem bool_size {nt : Nat} {env : Env} {a : Act} (h : St cfg nt ds ρ F env H a w) {d : Nat} {b : Bool} (hv : env d = .ext (.bool b)) : a.tmps.getD d undef = .bool b ∧ d < a.tmps.size := by
  have h1 := h.env d
  rw [hv] at h1
  have h2 := den_ext h1
  refine ⟨h2, ?_⟩
  rcases Nat.lt_or_ge d a.tmps.size with hl | hl
  · exact hl
  · simp [Array.getD, Nat.not_lt.2 hl, undef] at h2

/-- An operation in an undrawn region, or one that changes memory. -/
theorem exOp_wp (ok : CfgOK cfg) (hsig : ∀ g s, cfg.sigs g = some s → SpecOK cfg.P cfg.elT g s) (hlk : LkOK lk) {nt : Nat} {ea : Bool} {HR : Option Heap} {o : Oper} {env : Env} {a : Act} {J : Env → Heap → Prop}
    (hq : isLoud o = true ∨ HR = none) (h : exOp cfg lk ea HR o env H (fun v H => J (updO nt env o.dst v) H)) (hs : St cfg nt ds ρ F env H a w) {next : Act → World → Prop} {Q : Exit → Act → World → Prop}
    (hn : opGoes cfg nt ds lk ρ F H w o a J next) : o.wp cfg.P a w next Q := by
  unfold exOp at h
  cases hl : isLoud o with
  | true =>
    rw [hl] at h
    simp only [cond_true] at h
    exact loudOp_sound ok hsig hlk h hs.env hs.sat (fun v x ρ' F' H' w' h1 h2 h3 => hn ρ' F' H' w' _ _ h1 (hs.put h3 h2 _) h3 ⟨x, rfl⟩)
  | false =>
    rw [hl] at h hq
    obtain rfl : HR = none := by rcases hq with h | h; cases h; exact h
    simp only [cond_false] at h
    obtain ⟨v, x, h1, h2, h3⟩ := pureOp_sound (F := F) ok h hs.env (hs.sat.reads _) hs.sat.shape
    unfold Oper.wp
    have st : Step cfg lk ρ F H w ρ F H w := .refl hs.sat
    exact upon_value' (h3 w (hs.sat.reads _)) (hn ρ F H w _ _ h1 (hs.put st h2 _) st ⟨x, rfl⟩)

/-- One operation of a region, its guard and all. -/
theorem exOps_wpOp (ok : CfgOK cfg) (hsig : ∀ g s, cfg.sigs g = some s → SpecOK cfg.P cfg.elT g s) (hlk : LkOK lk) {nt : Nat} {ea : Nat → Bool} {HR : Option Heap} {ops : Array Oper} {i : Nat} {rest : List Nat} {env : Env} {a : Act}
    {J : Env → Heap → Prop} (hq : ∀ o, ops[i]? = some o → isLoud o = true ∨ HR = none) (h : exOps cfg nt lk ea HR ops.toList (i :: rest) env H J) (hs : St cfg nt ds ρ F env H a w) {K : Act → World → Prop} {Q : Exit → Act → World → Prop}
    (hn : ∀ ρ' F' H' w' env' a', exOps cfg nt lk ea HR ops.toList rest env' H' J → St cfg nt ds ρ' F' env' H' a' w' → Step cfg lk ρ F H w ρ' F' H' w' → K a' w') : wpOp cfg.P ops Q i K a w := by
  simp only [exOps] at h
  unfold wpOp
  split at h
  · exact h.elim
  · rename_i o ho
    have ho' : ops[i]? = some o := by rw [← Array.getElem?_toList]; exact ho
    simp only [ho']
    split at h
    · rename_i hg
      have hw : Region.wanted o (yielded ops a.tmps) = true := by unfold Region.wanted; rw [hg]
      simp only [hw, if_true]
      exact .inl (exOp_wp (J := fun env H => exOps cfg nt lk ea HR ops.toList rest env H J) ok hsig hlk (hq o ho') h hs (fun ρ' F' H' w' env' a' h1 h2 h3 _ => hn ρ' F' H' w' env' a' h1 h2 h3))
    · rename_i j want hg
      split at h
      · exact h.elim
      · rename_i p hp
        have hp' : ops[j]? = some p := by rw [← Array.getElem?_toList]; exact hp
        split at h
        · exact h.elim
        · rename_i d hd
          split at h
          · rename_i b hb
            obtain ⟨hv, hds⟩ := bool_size hs hb
            have hw := guard_wanted hp' hd hv hds hg
            have hs' := hs.known hb
            have fin : ∀ wn : Bool, Region.wanted o (yielded ops a.tmps) = wn →
                (bif wn then exOp cfg lk (ea i) HR o (updO nt env (some d) (vb b)) H (fun v H => exOps cfg nt lk ea HR ops.toList rest (updO nt (updO nt env (some d) (vb b)) o.dst v) H J)
                  else exOps cfg nt lk ea HR ops.toList rest (updO nt (updO nt env (some d) (vb b)) o.dst (.ext undef)) H J) →
                if Region.wanted o (yielded ops a.tmps) = true then o.wp cfg.P a w K Q ∨ (o.asks cfg.P a w ∧ LetsOut Q) else K (a.put o.dst undef) w := by
              intro wn hwn hh
              rw [hwn]
              cases wn with
              | true =>
                simp only [if_true]
                exact .inl (exOp_wp (J := fun env H => exOps cfg nt lk ea HR ops.toList rest env H J) ok hsig hlk (hq o ho') hh hs' (fun ρ' F' H' w' env' a' h1 h2 h3 _ => hn ρ' F' H' w' env' a' h1 h2 h3))
              | false =>
                simp only [Bool.false_eq_true, if_false]
                have st : Step cfg lk ρ F H w ρ F H w := .refl hs.sat
                exact hn ρ F H w _ _ hh (hs'.put st (.inr rfl) _) st
            rcases br_elim h with ⟨rfl, h⟩ | ⟨rfl, h⟩
            · refine fin want (by rw [hw]; cases want <;> rfl) h
            · refine fin (!want) (by rw [hw]; cases want <;> rfl) h
          · rename_i vs hb
            cases e : vs.toList.isEmpty with
            | false => rw [e] at h; exact h.elim
            | true =>
              rw [e] at h
              simp only [cond_true] at h
              have h1 := hs.env d
              rw [hb] at h1
              rw [guard_unasked hp' hd (den_ext h1) hg]
              simp only [Bool.false_eq_true, if_false]
              have st : Step cfg lk ρ F H w ρ F H w := .refl hs.sat
              exact hn ρ F H w _ _ h (hs.put st (.inr rfl) _) st
          · exact h.elim

/-- A region in the order of its text. -/
theorem exOps_wpOps (ok : CfgOK cfg) (hsig : ∀ g s, cfg.sigs g = some s → SpecOK cfg.P cfg.elT g s) {nt : Nat} {ea : Nat → Bool} {ops : Array Oper} {Q : Exit → Act → World → Prop} {J : Env → Heap → Prop} :
    ∀ (l : List Nat) (ρ : List Value) (F : Nat → List Nat) (H : Heap) (w : World) (env : Env) (a : Act), exOps cfg nt none ea none ops.toList l env H J → St cfg nt ds ρ F env H a w →
    (∀ ρ' F' H' w' env' a', J env' H' → St cfg nt ds ρ' F' env' H' a' w' → Step cfg none ρ F H w ρ' F' H' w' → Q .normal a' w') → wpOps cfg.P ops Q l a w
  | [], ρ, F, H, w, env, a, h, hs, hn => hn ρ F H w env a h hs (.refl hs.sat)
  | i :: rest, ρ, F, H, w, env, a, h, hs, hn => by
    rw [wpOps_cons]
    exact exOps_wpOp ok hsig (fun f hf => by cases hf) (fun o _ => .inr rfl) h hs (fun ρ' F' H' w' env' a' h1 h2 h3 =>
      exOps_wpOps ok hsig rest ρ' F' H' w' env' a' h1 h2 (fun ρ2 F2 H2 w2 env2 a2 g1 g2 g3 => hn ρ2 F2 H2 w2 env2 a2 g1 g2 (h3.trans g3)))

end Go.Rx
end

section
/- Regions that draw their order. -/
namespace Go.Rx

section
variable {P : Program} {ops : Array Oper} {Q : Exit → Act → World → Prop} {S : Array Bool → World → Prop}

/-- Whatever order is picked, and S holds behind every operation. -/
def wpAnyG (P : Program) (ops : Array Oper) (Q : Exit → Act → World → Prop) (S : Array Bool → World → Prop) : Nat → Array Bool → Act → World → Prop
  | 0, listed, a, w => Region.ready .any ops listed = [] ∧ Q .normal a w
  | fuel + 1, listed, a, w =>
    (Region.ready .any ops listed = [] → Q .normal a w) ∧
    ∀ i ∈ Region.ready .any ops listed, wpOp P ops Q i (fun a' w' => S (listed.setIfInBounds i true) w' ∧ wpAnyG P ops Q S fuel (listed.setIfInBounds i true) a' w') a w

theorem wpAny_of_G : ∀ (fuel : Nat) (listed : Array Bool) (a : Act) (w : World), wpAnyG P ops Q S fuel listed a w → wpAny P .any ops Q fuel listed a w
  | 0, _, _, _, h => h
  | fuel + 1, _, _, _, h => ⟨h.1, fun i hi => wpOp_mono (fun a' w' h' => wpAny_of_G fuel _ a' w' h'.2) (h.2 i hi)⟩

theorem wpOp_putG {j : Nat} {oi oj : Oper} {v : Value} {Y : Act → Prop} (hj : ops[j]? = some oj) (hap : oi.apart ops oj = true)
    (hsj : ∀ cs b, oj.op ≠ .select cs b) (keep : ∀ a u, Y a → Y (a.put oj.dst u)) (keepD : ∀ (a : Act) d, Y a → Y { a with defers := d :: a.defers })
    (hQ : ∀ c a w, Q (.panic c) (a.put oi.dst v) w → Q (.panic c) a w) {K : Act → World → Prop} {a : Act} {w : World}
    (hy : Y a) (h : wpOp P ops Q j K (a.put oi.dst v) w) :
    wpOp P ops Q j (fun a' w' => Y a' ∧ K (a'.put oi.dst v) w') a w := by
  obtain ⟨h1, h2, h3⟩ := Oper.apart_spec hap
  unfold wpOp at *
  simp only [hj] at *
  rw [wanted_put oj a oi.dst v h1] at h
  split
  · rename_i hw
    simp only [hw, if_true] at h
    rcases h with h | ⟨hasks, hlets⟩
    case inr => exact .inr ⟨by unfold Oper.asks at *; rw [execOp_put oj hsj a oi.dst v h1] at hasks; exact hasks, hlets⟩
    refine .inl ?_
    unfold Oper.wp at *
    rw [execOp_put oj hsj a oi.dst v h1] at h
    generalize (execOp a.eval oj).run P w = r at *
    cases r with
    | ok n w' =>
      cases n <;> simp only [Oper.upon] at h ⊢
      case value u => exact ⟨keep a u hy, by rw [← Act.put_comm a v u h2]; exact h⟩
      case skip => exact ⟨keep a _ hy, by rw [← Act.put_comm a v undef h2]; exact h⟩
      case defer d =>
        refine ⟨keep _ _ (keepD a d hy), ?_⟩
        rw [← Act.put_comm _ v undef h2, ← Act.put_defers]
        exact h
      case enter f args =>
        refine Calls.mono h fun e w'' he => ?_
        cases e with
        | returned u => exact ⟨keep a u hy, by rw [← Act.put_comm a v u h2]; exact he⟩
        | panicked c => exact hQ _ _ _ he
        | outgrown => exact he
      case row row args => exact Rows.mono h fun u w'' he => ⟨keep a u hy, by rw [← Act.put_comm a v u h2]; exact he⟩
    | halt x w' =>
      cases x <;> simp only [Oper.upon] at h ⊢
      case panic u => exact hQ _ _ _ h
  · rename_i hw
    simp only [hw] at h
    exact ⟨keep a _ hy, by rw [← Act.put_comm a v undef h2]; exact h⟩

/-- What is listed was let by what it waits for. -/
def Closed (ops : Array Oper) (listed : Array Bool) : Prop :=
  ∀ (j : Nat) (o : Oper), ops[j]? = some o → listed.getD j false = true → ∀ e ∈ o.after, Region.binds .any e = true → listed.getD e.on false = true

theorem Closed.next {listed : Array Bool} (h : Closed ops listed) {i : Nat} (hr : i ∈ Region.ready .any ops listed) : Closed ops (listed.setIfInBounds i true) := by
  intro j o ho hl e he hb
  obtain ⟨hun, oi, hoi, hall⟩ := mem_ready.1 hr
  by_cases hij : i = j
  · subst hij
    rw [hoi] at ho; injection ho with ho; subst ho
    exact getD_set_true (hall e he hb)
  · rw [getD_set_ne false hij] at hl
    exact getD_set_true (h j o ho hl e he hb)

/-- It yields this value, and does nothing else, as long as it has not come up. -/
def YieldsG (P : Program) (ops : Array Oper) (S : Array Bool → World → Prop) (i : Nat) (oi : Oper) (v : Value) (a : Act) : Prop :=
  (Region.wanted oi (yielded ops a.tmps) = true ∧ ∀ listed w, Closed ops listed → listed.getD i true = false → S listed w → (execOp a.eval oi).run P w = .ok (.value v) w) ∨
  (Region.wanted oi (yielded ops a.tmps) = false ∧ v = undef)

theorem YieldsG.of_same {i : Nat} {o : Oper} {v : Value} {a a' : Act} (hy : YieldsG P ops S i o v a) (he : execOp a'.eval o = execOp a.eval o)
    (hw : Region.wanted o (yielded ops a'.tmps) = Region.wanted o (yielded ops a.tmps)) : YieldsG P ops S i o v a' := by
  unfold YieldsG at *
  rw [he, hw]
  exact hy

theorem YieldsG.wpOp {i : Nat} {o : Oper} {v : Value} {a : Act} (hi : ops[i]? = some o) (hy : YieldsG P ops S i o v a) {listed : Array Bool} (hcl : Closed ops listed) (hun : listed.getD i true = false)
    {K : Act → World → Prop} {w : World} (hS : S listed w) (h : K (a.put o.dst v) w) : wpOp P ops Q i K a w := by
  unfold Go.wpOp
  simp only [hi]
  rcases hy with ⟨hw, hv⟩ | ⟨hw, rfl⟩
  · simp only [hw, if_true, Oper.wp, hv listed w hcl hun hS, Oper.upon]; exact .inl h
  · simp only [hw, Bool.false_eq_true, if_false]; exact h

theorem wpAnyG_first {i : Nat} {oi : Oper} {v : Value} (hi : ops[i]? = some oi) (hsel : ∀ (j : Nat) (o : Oper) cs b, ops[j]? = some o → o.op ≠ .select cs b)
    (hQ : ∀ c a w, Q (.panic c) (a.put oi.dst v) w → Q (.panic c) a w) (hSi : ∀ listed w, S (listed.setIfInBounds i true) w ↔ S listed w) :
    ∀ (fuel : Nat) (listed : Array Bool) (a : Act) (w : World),
      (∀ j oj, ops[j]? = some oj → j ≠ i → listed.getD j true = false → (∀ e ∈ oj.after, Region.binds .any e = true → e.on ≠ i) → oi.apart ops oj = true) →
      Closed ops listed → i ∈ Region.ready .any ops listed → YieldsG P ops S i oi v a → S listed w →
      wpAnyG P ops Q S fuel (listed.setIfInBounds i true) (a.put oi.dst v) w → wpAnyG P ops Q S (fuel + 1) listed a w := by
  intro fuel
  induction fuel with
  | zero =>
    intro listed a w _ hcl hr hy hS H
    refine ⟨fun h => (by rw [h] at hr; cases hr), fun j hj => ?_⟩
    by_cases hji : j = i
    · subst hji; exact hy.wpOp hi hcl (mem_ready.1 hj).1 hS ⟨(hSi _ _).2 hS, H⟩
    · have := ready_mono hj hji
      rw [H.1] at this
      cases this
  | succ fuel ih =>
    intro listed a w hfree hcl hr hy hS H
    refine ⟨fun h => (by rw [h] at hr; cases hr), fun j hj => ?_⟩
    by_cases hji : j = i
    · subst hji; exact hy.wpOp hi hcl (mem_ready.1 hj).1 hS ⟨(hSi _ _).2 hS, H⟩
    · have h1 := H.2 j (ready_mono hj hji)
      obtain ⟨hjun, oj, hoj, hall⟩ := mem_ready.1 hj
      have hnot : ∀ e ∈ oj.after, Region.binds .any e = true → e.on ≠ i := fun e he hb heq => by
        have h1 := hall e he hb
        have h0 := (mem_ready.1 hr).1
        rw [heq] at h1
        rcases Nat.lt_or_ge i listed.size with h' | h'
        · simp [h'] at h0 h1; rw [h0] at h1; cases h1
        · simp [Array.getElem?_eq_none h'] at h1
      obtain ⟨a1, a2, a3⟩ := Oper.apart_spec (hfree j oj hoj hji hjun hnot)
      have h2 := wpOp_putG (Y := YieldsG P ops S i oi v) hoj (hfree j oj hoj hji hjun hnot) (fun cs b => hsel j oj cs b hoj)
        (fun a u hy => hy.of_same (execOp_put oi (fun cs b => hsel i oi cs b hi) a oj.dst u a3) (wanted_put oi a oj.dst u a3)) (fun a d hy => hy.of_same rfl rfl) hQ hy h1
      have hfree' : ∀ k ok, ops[k]? = some ok → k ≠ i → (listed.setIfInBounds j true).getD k true = false →
          (∀ e ∈ ok.after, Region.binds .any e = true → e.on ≠ i) → oi.apart ops ok = true := fun k ok hk hki hun hno => by
        refine hfree k ok hk hki ?_ hno
        by_cases hjk : j = k
        · subst hjk; exact hjun
        · rw [getD_set_ne true hjk] at hun; exact hun
      refine wpOp_mono (fun a' w' h3 => ?_) h2
      have hS' : S (listed.setIfInBounds j true) w' := by
        have := h3.2.1
        rw [Array.setIfInBounds_comm _ _ (Ne.symm hji)] at this
        exact (hSi _ _).1 this
      refine ⟨hS', ih (listed.setIfInBounds j true) a' w' hfree' (hcl.next hj) (ready_mono hr (Ne.symm hji)) h3.1 hS' ?_⟩
      rw [Array.setIfInBounds_comm _ _ hji]
      exact h3.2.2
end


variable {cfg : Cfg} {nt : Nat} {f : Blk → Bool} {ops : Array Oper} {ds : List Deferred}

def NoLoud (ops : Array Oper) (listed : Array Bool) : Prop := ∀ (j : Nat) (o : Oper), ops[j]? = some o → isLoud o = true → listed.getD j false = false

/-- What stays in a region that draws its order. -/
def SD (ops : Array Oper) (f : Blk → Bool) (Hs : Heap) (Fs : Nat → List Nat) (ws : World) (listed : Array Bool) (w : World) : Prop :=
  (∀ (i : Nat) (b : Blk), Hs[i]? = some b → f b = true → ∀ n ∈ Fs i, w.heap[n]? = ws.heap[n]?) ∧ (NoLoud ops listed → ∀ n, n < ws.heap.size → w.heap[n]? = ws.heap[n]?)

theorem NoLoud.still {i : Nat} {o : Oper} (ho : ops[i]? = some o) (hl : isLoud o = false) (listed : Array Bool) : NoLoud ops (listed.setIfInBounds i true) ↔ NoLoud ops listed := by
  constructor
  · intro h j p hp hpl
    have hij : i ≠ j := fun e => by subst e; rw [ho] at hp; injection hp with hp; subst hp; rw [hl] at hpl; cases hpl
    have := h j p hp hpl
    rwa [getD_set_ne false hij] at this
  · intro h j p hp hpl
    have hij : i ≠ j := fun e => by subst e; rw [ho] at hp; injection hp with hp; subst hp; rw [hl] at hpl; cases hpl
    rw [getD_set_ne false hij]
    exact h j p hp hpl

theorem dep_listed {i : Nat} {listed : Array Bool} (hc : Closed ops listed) : ∀ (n j : Nat), depOn ops.toList i n j = true → listed.getD j false = true → listed.getD i false = true
  | 0, _, h, _ => by cases h
  | n + 1, j, h, hj => by
    unfold depOn at h
    split at h
    · rename_i o ho
      have ho : ops[j]? = some o := by rw [← Array.getElem?_toList]; exact ho
      simp only [List.any_eq_true, Bool.and_eq_true, Bool.or_eq_true] at h
      obtain ⟨e, he, h1, h2⟩ := h
      have hl := hc j o ho hj e (by simpa using he) h1
      rcases h2 with h2 | h2
      · rw [← Nat.eq_of_beq_eq_true h2]; exact hl
      · exact dep_listed hc n e.on h2 hl
    · cases h

theorem noLoud_of_early {i : Nat} (h : early ops.toList i = true) {listed : Array Bool} (hc : Closed ops listed) (hun : listed.getD i true = false) : NoLoud ops listed := by
  intro j o ho hl
  cases hj : listed.getD j false with
  | false => rfl
  | true =>
    unfold early at h
    have hjl : j < ops.toList.length := by rw [Array.length_toList]; exact (Array.getElem?_eq_some_iff.1 ho).1
    have hj' := List.all_eq_true.1 h j (List.mem_range.2 hjl)
    have ho' : ops.toList[j]? = some o := by rw [Array.getElem?_toList]; exact ho
    simp only [ho', hl, Bool.not_true, Bool.false_or] at hj'
    have := dep_listed hc _ j hj' hj
    rcases Nat.lt_or_ge i listed.size with h' | h'
    · simp [h'] at this hun; rw [this] at hun; cases hun
    · simp [Array.getElem?_eq_none h'] at this

theorem satR_of_SD {ρs ρ : List Value} {Fs : Nat → List Nat} {Hs : Heap} {ws w : World} (hs : Sat cfg.elT ρs Fs Hs ws) (hl : Le ρs ρ) {i : Nat} {listed : Array Bool} (hc : Closed ops listed) (hun : listed.getD i true = false)
    (h : SD ops f Hs Fs ws listed w) : SatR cfg (bif early ops.toList i then none else some f) ρ Fs Hs w := by
  have hi : ∀ (j : Nat) (b : Blk), Hs[j]? = some b → (∀ n ∈ Fs j, w.heap[n]? = ws.heap[n]?) → ∃ x, ρ[j]? = some x ∧ b.holds cfg.elT ρ w x (Fs j) := by
    intro j b hb hw
    obtain ⟨x, hx1, hx2⟩ := hs.reads none j b hb rfl
    exact ⟨x, hl j x hx1, Blk.holds_le hl hw b hx2⟩
  intro j b hb hm
  cases he : early ops.toList i with
  | true => exact hi j b hb (fun n hn => h.2 (noLoud_of_early he hc hun) n (hs.lt j b hb n hn))
  | false =>
    rw [he] at hm
    exact hi j b hb (h.1 j b hb hm)

/-- A still operation of a region that draws its order. -/
theorem exOps_still (ok : CfgOK cfg) {ρs ρ : List Value} {Fs F : Nat → List Nat} {Hs H : Heap} {ws w : World} (hss : Sat cfg.elT ρs Fs Hs ws) (hl : Le ρs ρ) {i : Nat} {rest : List Nat} {env : Env} {a : Act} {J : Env → Heap → Prop} {o : Oper} (ho : ops[i]? = some o)
    (hst : isLoud o = false) (h : exOps cfg nt (some f) (early ops.toList) (some Hs) ops.toList (i :: rest) env H J) (hs : St cfg nt ds ρ F env H a w) {listed : Array Bool} (hc : Closed ops listed) (hun : listed.getD i true = false) (hS : SD ops f Hs Fs ws listed w) :
    ∃ x env', exOps cfg nt (some f) (early ops.toList) (some Hs) ops.toList rest env' H J ∧ St cfg nt ds ρ F env' H (a.put o.dst x) w ∧ YieldsG cfg.P ops (SD ops f Hs Fs ws) i o x a := by
  have st : Step cfg (some f) ρ F H w ρ F H w := .refl hs.sat
  have pure : ∀ env1, St cfg nt ds ρ F env1 H a w → Region.wanted o (yielded ops a.tmps) = true →
      exOp cfg (some f) (early ops.toList i) (some Hs) o env1 H (fun v H => exOps cfg nt (some f) (early ops.toList) (some Hs) ops.toList rest (updO nt env1 o.dst v) H J) →
      ∃ x env', exOps cfg nt (some f) (early ops.toList) (some Hs) ops.toList rest env' H J ∧ St cfg nt ds ρ F env' H (a.put o.dst x) w ∧ YieldsG cfg.P ops (SD ops f Hs Fs ws) i o x a := by
    intro env1 hs1 hw h1
    unfold exOp at h1
    rw [hst] at h1
    simp only [cond_false] at h1
    obtain ⟨v, x, g1, g2, g3⟩ := pureOp_sound (F := Fs) ok h1 hs1.env (satR_of_SD hss hl hc hun hS) (hss.shape.le hl)
    exact ⟨x, _, g1, hs1.put st g2 _, .inl ⟨hw, fun listed' w' hc' hun' hS' => g3 w' (satR_of_SD hss hl hc' hun' hS')⟩⟩
  simp only [exOps] at h
  split at h
  · exact h.elim
  · rename_i o' ho'
    have ho2 : ops[i]? = some o' := by rw [← Array.getElem?_toList]; exact ho'
    rw [ho] at ho2; injection ho2 with ho2; subst ho2
    split at h
    · rename_i hg
      exact pure env hs (by unfold Region.wanted; rw [hg]) h
    · rename_i j want hg
      split at h
      · exact h.elim
      · rename_i p hp
        have hp' : ops[j]? = some p := by rw [← Array.getElem?_toList]; exact hp
        split at h
        · exact h.elim
        · rename_i d hd
          split at h
          · rename_i b hb
            obtain ⟨hv, hds⟩ := bool_size hs hb
            have hw := guard_wanted hp' hd hv hds hg
            have hs' := hs.known hb
            have fin : ∀ wn : Bool, Region.wanted o (yielded ops a.tmps) = wn →
                (bif wn then exOp cfg (some f) (early ops.toList i) (some Hs) o (updO nt env (some d) (vb b)) H (fun v H => exOps cfg nt (some f) (early ops.toList) (some Hs) ops.toList rest (updO nt (updO nt env (some d) (vb b)) o.dst v) H J)
                  else exOps cfg nt (some f) (early ops.toList) (some Hs) ops.toList rest (updO nt (updO nt env (some d) (vb b)) o.dst (.ext undef)) H J) →
                ∃ x env', exOps cfg nt (some f) (early ops.toList) (some Hs) ops.toList rest env' H J ∧ St cfg nt ds ρ F env' H (a.put o.dst x) w ∧ YieldsG cfg.P ops (SD ops f Hs Fs ws) i o x a := by
              intro wn hwn hh
              cases wn with
              | true => exact pure _ hs' hwn hh
              | false => exact ⟨undef, _, hh, hs'.put st (.inr rfl) _, .inr ⟨hwn, rfl⟩⟩
            rcases br_elim h with ⟨rfl, h⟩ | ⟨rfl, h⟩
            · exact fin want (by rw [hw]; cases want <;> rfl) h
            · exact fin (!want) (by rw [hw]; cases want <;> rfl) h
          · rename_i vs hb
            cases e : vs.toList.isEmpty with
            | false => rw [e] at h; exact h.elim
            | true =>
              rw [e] at h
              simp only [cond_true] at h
              have h1 := hs.env d
              rw [hb] at h1
              exact ⟨undef, _, h, hs.put st (.inr rfl) _, .inr ⟨guard_unasked hp' hd (den_ext h1) hg, rfl⟩⟩
          · exact h.elim

theorem exOps_drawn (ok : CfgOK cfg) (hsig : ∀ g s, cfg.sigs g = some s → SpecOK cfg.P cfg.elT g s) (hlk : LkOK (some f)) (hsel : Region.noSelect ops = true) {Q : Exit → Act → World → Prop} (hQ : ∀ c a w, ¬ Q (.panic c) a w) {J : Env → Heap → Prop}
    {ρs : List Value} {Fs : Nat → List Nat} {Hs : Heap} {ws : World} (hss : Sat cfg.elT ρs Fs Hs ws) :
    ∀ (plan : List Nat) (listed : Array Bool) (ρ : List Value) (F : Nat → List Nat) (H : Heap) (w : World) (env : Env) (a : Act), planGo ops plan listed = true → listed.size = ops.size → Closed ops listed →
      exOps cfg nt (some f) (early ops.toList) (some Hs) ops.toList plan env H J → St cfg nt ds ρ F env H a w → Step cfg (some f) ρs Fs Hs ws ρ F H w → (NoLoud ops listed → ∀ n, n < ws.heap.size → w.heap[n]? = ws.heap[n]?) →
      (∀ ρ' F' H' w' env' a', J env' H' → St cfg nt ds ρ' F' env' H' a' w' → Step cfg (some f) ρs Fs Hs ws ρ' F' H' w' → Q .normal a' w') →
      wpAnyG cfg.P ops Q (SD ops f Hs Fs ws) plan.length listed a w
  | [], listed, ρ, F, H, w, env, a, hp, hsz, hc, h, hs, st, hnl, hn => by
    have hr : Region.ready .any ops listed = [] := by simpa [planGo] using hp
    exact ⟨hr, hn ρ F H w env a h hs st⟩
  | i :: rest, listed, ρ, F, H, w, env, a, hp, hsz, hc, h, hs, st, hnl, hn => by
    simp only [planGo, Bool.and_eq_true] at hp
    obtain ⟨hp1, hp2⟩ := hp
    have hS : SD ops f Hs Fs ws listed w := ⟨fun j b hb hfb => (st.kept f rfl j b hb hfb).2.2, hnl⟩
    have hsz' : (listed.setIfInBounds i true).size = ops.size := by simpa using hsz
    cases ho : ops[i]? with
    | none => rw [ho] at hp1; cases hp1
    | some o =>
      rw [ho] at hp1
      simp only at hp1
      cases hl : isLoud o with
      | true =>
        rw [hl] at hp1
        simp only [cond_true] at hp1
        have hr : Region.ready .any ops listed = [i] := by simpa using hp1
        have hri : i ∈ Region.ready .any ops listed := by rw [hr]; simp
        have hil : i < listed.size := by rw [hsz]; exact (Array.getElem?_eq_some_iff.1 ho).1
        refine ⟨(fun h0 => by rw [hr] at h0; cases h0), fun j hj => ?_⟩
        rw [hr] at hj
        simp only [List.mem_singleton] at hj
        subst hj
        refine exOps_wpOp ok hsig hlk (fun o' ho' => .inl (by rw [ho] at ho'; injection ho' with ho'; subst ho'; exact hl)) h hs (fun ρ' F' H' w' env' a' h1 h2 h3 => ?_)
        have st' := st.trans h3
        have hnl' : NoLoud ops (listed.setIfInBounds j true) → ∀ n, n < ws.heap.size → w'.heap[n]? = ws.heap[n]? := by
          intro hno
          have := hno j o ho hl
          simp [hil] at this
        exact ⟨⟨fun k b hb hfb => (st'.kept f rfl k b hb hfb).2.2, hnl'⟩, exOps_drawn ok hsig hlk hsel hQ hss rest _ ρ' F' H' w' env' a' hp2 hsz' (hc.next hri) h1 h2 st' hnl' hn⟩
      | false =>
        rw [hl] at hp1
        simp only [cond_false, Bool.and_eq_true] at hp1
        have hri : i ∈ Region.ready .any ops listed := by simpa using hp1.1
        have hun := (mem_ready.1 hri).1
        obtain ⟨x, env', h1, h2, h3⟩ := exOps_still ok hss st.le ho hl h hs hc hun hS
        have hnl' : NoLoud ops (listed.setIfInBounds i true) → ∀ n, n < ws.heap.size → w.heap[n]? = ws.heap[n]? := fun hno => hnl ((NoLoud.still ho hl listed).1 hno)
        refine wpAnyG_first ho (Region.noSelect_spec hsel) (fun c a w hq => absurd hq (hQ c _ w)) (fun listed w => ?_) rest.length listed a w (Region.free_spec ho hp1.2) hc hri h3 hS
          (exOps_drawn ok hsig hlk hsel hQ hss rest _ ρ F H w env' _ hp2 hsz' (hc.next hri) h1 h2 st hnl' hn)
        unfold SD
        rw [NoLoud.still ho hl]

theorem closed_start (ops : Array Oper) : Closed ops (Array.replicate ops.size false) := by
  intro j o ho hl
  exfalso
  have : (Array.replicate ops.size false).getD j false = false := by simp [Array.getD]
  rw [this] at hl
  cases hl

theorem lkOK_lkOf (kd : Nat) : LkOK (some (lkOf kd)) := by
  intro f hf g b c h
  injection hf with hf
  subst hf
  cases b with
  | dead => simp only [Blk.ren, Option.some.injEq] at h; subst h; rfl
  | cells T cs =>
    simp only [Blk.ren] at h
    split at h
    · injection h with h; subst h
      match kd with
      | 0 => rfl
      | 1 => rfl
      | 2 => rfl
      | 3 => rfl
      | _ + 4 => rfl
    · cases h
  | row t l ro => simp only [Blk.ren, Option.some.injEq] at h; subst h; rfl
  | map m n => simp only [Blk.ren, Option.some.injEq] at h; subst h; rfl
  | iter m left n c => simp only [Blk.ren, Option.some.injEq] at h; subst h; rfl
  | pk tg st xs rs =>
    simp only [Blk.ren] at h
    split at h
    · injection h with h; subst h
      match kd with
      | 0 => rfl
      | 1 => rfl
      | 2 => rfl
      | 3 => rfl
      | _ + 4 => rfl
    · cases h

end Go.Rx
end

section
/- Regions that draw their order: several may come next. -/
namespace Go.Rx

section
variable {P : Program} {ops : Array Oper} {Q : Exit → Act → World → Prop} {S : Array Bool → World → Prop}

theorem wpAnyG_more : ∀ (fuel : Nat) (listed : Array Bool) (a : Act) (w : World), wpAnyG P ops Q S fuel listed a w → wpAnyG P ops Q S (fuel + 1) listed a w
  | 0, listed, a, w, h => ⟨fun _ => h.2, fun i hi => by rw [h.1] at hi; cases hi⟩
  | fuel + 1, listed, a, w, h => ⟨h.1, fun i hi => wpOp_mono (fun a' w' h' => ⟨h'.1, wpAnyG_more fuel _ a' w' h'.2⟩) (h.2 i hi)⟩

theorem wpAnyG_le {m n : Nat} (h : m ≤ n) {listed : Array Bool} {a : Act} {w : World} (hw : wpAnyG P ops Q S m listed a w) : wpAnyG P ops Q S n listed a w := by
  induction h with
  | refl => exact hw
  | step _ ih => exact wpAnyG_more _ _ _ _ ih
end

variable {cfg : Cfg} {nt : Nat} {f : Blk → Bool} {ops : Array Oper} {ds : List Deferred}

theorem exOps_tree (ok : CfgOK cfg) (hsig : ∀ g s, cfg.sigs g = some s → SpecOK cfg.P cfg.elT g s) (hlk : LkOK (some f)) (hsel : Region.noSelect ops = true) {Q : Exit → Act → World → Prop} (hQ : ∀ c a w, ¬ Q (.panic c) a w) {J : Env → Heap → Prop}
    {ρs : List Value} {Fs : Nat → List Nat} {Hs : Heap} {ws : World} (hss : Sat cfg.elT ρs Fs Hs ws)
    (hn : ∀ ρ' F' H' w' env' a', J env' H' → St cfg nt ds ρ' F' env' H' a' w' → Step cfg (some f) ρs Fs Hs ws ρ' F' H' w' → Q .normal a' w') :
    ∀ (p : PT) (b : Bool) (listed : Array Bool) (ρ : List Value) (F : Nat → List Nat) (H : Heap) (w : World) (env : Env) (a : Act), planGoT ops b p listed = true → listed.size = ops.size → Closed ops listed →
      exOpsT cfg nt (some f) (early ops.toList) (some Hs) ops.toList p env H J → St cfg nt ds ρ F env H a w → Step cfg (some f) ρs Fs Hs ws ρ F H w → (NoLoud ops listed → ∀ n, n < ws.heap.size → w.heap[n]? = ws.heap[n]?) →
      match b with
      | false => wpAnyG cfg.P ops Q (SD ops f Hs Fs ws) p.size listed a w
      | true => ∀ i ∈ heads p, i ∈ Region.ready .any ops listed → ∀ n, p.size ≤ n + 1 → wpOp cfg.P ops Q i (fun a' w' => SD ops f Hs Fs ws (listed.setIfInBounds i true) w' ∧ wpAnyG cfg.P ops Q (SD ops f Hs Fs ws) n (listed.setIfInBounds i true) a' w') a w
  | .fin, b, listed, ρ, F, H, w, env, a, hp, hsz, hc, h, hs, st, hnl => by
    simp only [planGoT, Bool.and_eq_true, Bool.not_eq_true'] at hp
    obtain ⟨rfl, hp⟩ := hp
    have hr : Region.ready .any ops listed = [] := by simpa using hp
    exact ⟨hr, hn ρ F H w env a h hs st⟩
  | .op i t, b, listed, ρ, F, H, w, env, a, hp, hsz, hc, h, hs, st, hnl => by
    simp only [planGoT, Bool.and_eq_true] at hp
    obtain ⟨hp1, hp2⟩ := hp
    have hsz' : (listed.setIfInBounds i true).size = ops.size := by simpa using hsz
    simp only [exOpsT] at h
    have hS : SD ops f Hs Fs ws listed w := ⟨fun j b hb hfb => (st.kept f rfl j b hb hfb).2.2, hnl⟩
    cases ho : ops[i]? with
    | none => rw [ho] at hp1; cases hp1
    | some o =>
      rw [ho] at hp1
      simp only at hp1
      have hil : i < listed.size := by rw [hsz]; exact (Array.getElem?_eq_some_iff.1 ho).1
      cases hl : isLoud o with
      | true =>
        rw [hl] at hp1
        simp only [cond_true] at hp1
        have go : i ∈ Region.ready .any ops listed → wpOp cfg.P ops Q i (fun a' w' => SD ops f Hs Fs ws (listed.setIfInBounds i true) w' ∧ wpAnyG cfg.P ops Q (SD ops f Hs Fs ws) t.size (listed.setIfInBounds i true) a' w') a w := by
          intro hri
          refine exOps_wpOp ok hsig hlk (fun o' ho' => .inl (by rw [ho] at ho'; injection ho' with ho'; subst ho'; exact hl)) h hs (fun ρ' F' H' w' env' a' h1 h2 h3 => ?_)
          have st' := st.trans h3
          have hnl' : NoLoud ops (listed.setIfInBounds i true) → ∀ n, n < ws.heap.size → w'.heap[n]? = ws.heap[n]? := by
            intro hno
            have := hno i o ho hl
            simp [hil] at this
          exact ⟨⟨fun k b hb hfb => (st'.kept f rfl k b hb hfb).2.2, hnl'⟩, exOps_tree ok hsig hlk hsel hQ hss hn t false _ ρ' F' H' w' env' a' hp2 hsz' (hc.next hri) h1 h2 st' hnl'⟩
        cases b with
        | false =>
          have hr : Region.ready .any ops listed = [i] := by simpa using hp1
          refine ⟨(fun h0 => by rw [hr] at h0; cases h0), fun j hj => ?_⟩
          rw [hr] at hj
          simp only [List.mem_singleton] at hj
          subst hj
          exact go (by rw [hr]; simp)
        | true =>
          intro j hj hri n hle
          simp only [heads, List.mem_singleton] at hj
          subst hj
          simp only [PT.size] at hle
          exact wpOp_mono (fun a' w' h' => ⟨h'.1, wpAnyG_le (by omega) h'.2⟩) (go hri)
      | false =>
        rw [hl] at hp1
        simp only [cond_false, Bool.and_eq_true, Bool.not_eq_true'] at hp1
        obtain ⟨rfl, hp1⟩ := hp1
        have hri : i ∈ Region.ready .any ops listed := by simpa using hp1.1
        have hun := (mem_ready.1 hri).1
        obtain ⟨x, env', h1, h2, h3⟩ := exOps_still ok hss st.le ho hl h hs hc hun hS
        have hnl' : NoLoud ops (listed.setIfInBounds i true) → ∀ n, n < ws.heap.size → w.heap[n]? = ws.heap[n]? := fun hno => hnl ((NoLoud.still ho hl listed).1 hno)
        refine wpAnyG_first ho (Region.noSelect_spec hsel) (fun c a w hq => absurd hq (hQ c _ w)) (fun listed w => ?_) t.size listed a w (Region.free_spec ho hp1.2) hc hri h3 hS
          (exOps_tree ok hsig hlk hsel hQ hss hn t false _ ρ F H w env' _ hp2 hsz' (hc.next hri) h1 h2 st hnl')
        unfold SD
        rw [NoLoud.still ho hl]
  | .alt t u, b, listed, ρ, F, H, w, env, a, hp, hsz, hc, h, hs, st, hnl => by
    simp only [planGoT, Bool.and_eq_true] at hp
    obtain ⟨hp0, hp1, hp2⟩ := hp
    obtain ⟨g1, g2⟩ := h
    have r1 := exOps_tree ok hsig hlk hsel hQ hss hn t true listed ρ F H w env a hp1 hsz hc g1 hs st hnl
    have r2 := exOps_tree ok hsig hlk hsel hQ hss hn u true listed ρ F H w env a hp2 hsz hc g2 hs st hnl
    have both : ∀ i ∈ heads (.alt t u), i ∈ Region.ready .any ops listed → ∀ n, (PT.alt t u).size ≤ n + 1 → wpOp cfg.P ops Q i (fun a' w' => SD ops f Hs Fs ws (listed.setIfInBounds i true) w' ∧ wpAnyG cfg.P ops Q (SD ops f Hs Fs ws) n (listed.setIfInBounds i true) a' w') a w := by
      intro i hi hri n hle
      simp only [PT.size] at hle
      simp only [heads, List.mem_append] at hi
      rcases hi with hi | hi
      · exact r1 i hi hri n (by omega)
      · exact r2 i hi hri n (by omega)
    cases b with
    | true => exact both
    | false =>
      simp only [Bool.false_or, Bool.and_eq_true, Bool.not_eq_true', List.all_eq_true] at hp0
      obtain ⟨hne, hall⟩ := hp0
      have hne' : Region.ready .any ops listed ≠ [] := by intro e; rw [e] at hne; cases hne
      have hpos : ∃ i, i ∈ Region.ready .any ops listed := List.exists_mem_of_ne_nil _ hne'
      have hsize : ∃ n, (PT.alt t u).size = n + 1 := by
        obtain ⟨i, hi⟩ := hpos
        have hm := hall i hi
        have : ∀ p : PT, heads p ≠ [] → 0 < p.size := by
          intro p
          induction p with
          | fin => intro h; exact absurd rfl h
          | op i t ih => intro _; simp [PT.size]
          | alt t u ih1 ih2 =>
            intro h
            simp only [heads] at h
            simp only [PT.size]
            by_cases h1 : heads t = []
            · have h2 : heads u ≠ [] := fun h2 => h (by rw [h1, h2]; rfl)
              have := ih2 h2; omega
            · have := ih1 h1; omega
        have hp := this (.alt t u) (fun e => by rw [e] at hm; simp at hm)
        exact ⟨(PT.alt t u).size - 1, by omega⟩
      obtain ⟨n, hn'⟩ := hsize
      show wpAnyG cfg.P ops Q (SD ops f Hs Fs ws) (PT.alt t u).size listed a w
      rw [hn']
      refine ⟨fun h0 => absurd h0 hne', fun i hi => both i (by simpa using hall i hi) hi n (by omega)⟩
end Go.Rx
end

section
/- Code, cuts, functions. -/
namespace Go.Rx

variable {cfg : Cfg} {H : Heap} {ρ : List Value} {F : Nat → List Nat} {w : World} {ds : List Deferred}

def RelL (ρ : List Value) : List V → List Value → Prop
  | [], [] => True
  | v :: vs, x :: xs => Rel ρ v x ∧ RelL ρ vs xs
  | _, _ => False

theorem RelL.le {ρ ρ' : List Value} (hl : Le ρ ρ') : ∀ {vs : List V} {xs : List Value}, RelL ρ vs xs → RelL ρ' vs xs
  | [], [], _ => trivial
  | _ :: _, _ :: _, h => ⟨h.1.le hl, RelL.le hl h.2⟩

theorem rowifyL_sound {lk : Option (Blk → Bool)} : ∀ (ps : List (Option Nat × V)) (xs : List Value) (H : Heap) (ρ : List Value) (F : Nat → List Nat) {vs : List V} {H' : Heap}, rowifyL H ps = (vs, H') → RelL ρ (ps.map (·.2)) xs → Sat cfg.elT ρ F H w →
    ∃ ρ' F', RelL ρ' vs xs ∧ Step cfg lk ρ F H w ρ' F' H' w
  | [], xs, H, ρ, F, vs, H', h, hx, hs => by
    simp only [rowifyL] at h
    injection h with h1 h2
    subst h1; subst h2
    exact ⟨ρ, F, hx, .refl hs⟩
  | (tg, v) :: r, [], H, ρ, F, vs, H', h, hx, hs => hx.elim
  | (tg, v) :: r, x :: xs, H, ρ, F, vs, H', h, hx, hs => by
    simp only [rowifyL] at h
    cases h1 : rowify H tg v with
    | mk v1 H1 =>
    rw [h1] at h
    simp only at h
    cases h2 : rowifyL H1 r with
    | mk vs1 H2 =>
    rw [h2] at h
    injection h with e1 e2
    subst e1; subst e2
    obtain ⟨ρ1, F1, g1, st1⟩ := rowify_sound (lk := lk) h1 hx.1 hs
    obtain ⟨ρ2, F2, g2, st2⟩ := rowifyL_sound (lk := lk) r xs H1 ρ1 F1 h2 (RelL.le st1.le hx.2) st1.sat
    exact ⟨ρ2, F2, ⟨g1.le st2.le, g2⟩, st1.trans st2⟩

theorem addNew_prefix : ∀ (l acc : List Nat), ∃ r, addNew acc l = acc ++ r
  | [], acc => ⟨[], by simp [addNew]⟩
  | i :: l, acc => by
    simp only [addNew]
    cases mem i acc with
    | true => exact addNew_prefix l acc
    | false =>
      obtain ⟨r, h⟩ := addNew_prefix l (acc ++ [i])
      exact ⟨[i] ++ r, by simp only [cond_false]; rw [h]; simp⟩

theorem reach_prefix (H : Heap) : ∀ (n : Nat) (acc : List Nat), ∃ r, reach H n acc = acc ++ r
  | 0, acc => ⟨[], by simp [reach]⟩
  | n + 1, acc => by
    simp only [reach]
    obtain ⟨r, h⟩ := addNew_prefix (acc.flatMap (idsAt H)) acc
    obtain ⟨r', h'⟩ := reach_prefix H n (addNew acc (acc.flatMap (idsAt H)))
    exact ⟨r ++ r', by rw [h', h]; simp⟩

/-- Blocks that nobody reaches are let go, the others numbered anew. -/
theorem regroup {ids : List Nat} {Hc : Heap} (hs : Sat cfg.elT ρ F H w) (hsel : sel H (idx ids) ids = some Hc) (hnd : nodup ids = true) :
    ∃ ρ' F', (∀ i j, idx ids i = some j → ρ'[j]? = ρ[i]?) ∧ (∀ p i : Nat, ids[p]? = some i → ρ'[p]? = ρ[i]?) ∧ Sat cfg.elT ρ' F' Hc w ∧ Fr H F w Hc F' w := by
  obtain ⟨hlen, hget⟩ := sel_spec hsel
  have hρc : ∀ i j, idx ids i = some j → (ids.map fun i => ρ.getD i undef)[j]? = ρ[i]? := by
    intro i j hij
    have hj := idx_spec hij
    have hjl : j < ids.length := (List.getElem?_eq_some_iff.1 hj).1
    have hjc : j < Hc.length := by rw [hlen]; exact hjl
    obtain ⟨i', b, e1, e2, _⟩ := hget j _ (List.getElem?_eq_getElem hjc)
    rw [hj] at e1; injection e1 with e1; subst e1
    have hil : i < ρ.length := by rw [hs.len]; exact (List.getElem?_eq_some_iff.1 e2).1
    rw [List.getElem?_map, hj]
    simp [List.getD, List.getElem?_eq_getElem hil]
  refine ⟨ids.map fun i => ρ.getD i undef, fun p => F (ids.getD p 0), hρc, fun p i h => hρc i p (idx_complete hnd h), ?_, ⟨rfl, rfl, rfl, Nat.le_refl _, fun _ _ _ => rfl, fun p c hc hw n hn => ?_, fun p c hc n hn => ?_⟩⟩
  · refine ⟨by simp [hlen], fun p c y hcp hy => ?_, fun p c hcp n hn => ?_, fun p q c d hcp hdq hpq hw n hn => ?_⟩
    · obtain ⟨i, b, e1, e2, e3⟩ := hget p c hcp
      have hp := hρc i p (idx_complete hnd e1)
      rw [hy] at hp
      have hgd : ids.getD p 0 = i := by simp [List.getD, e1]
      show c.holds cfg.elT _ w y (F (ids.getD p 0))
      rw [hgd]
      exact Blk.ren_holds hρc e3 (hs.each i b y e2 hp.symm)
    · obtain ⟨i, b, e1, e2, e3⟩ := hget p c hcp
      have hgd : ids.getD p 0 = i := by simp [List.getD, e1]
      simp only [hgd] at hn
      exact hs.lt i b e2 n hn
    · obtain ⟨i, b, e1, e2, e3⟩ := hget p c hcp
      obtain ⟨j, b2, f1, f2, f3⟩ := hget q d hdq
      have hgd : ids.getD p 0 = i := by simp [List.getD, e1]
      have hgd2 : ids.getD q 0 = j := by simp [List.getD, f1]
      simp only [hgd] at hn
      simp only [hgd2]
      exact hs.disj i j b b2 e2 f2 (fun e => by subst e; exact hpq (nodup_spec hnd p q i e1 f1)) (by rw [← Blk.ren_writable e3]; exact hw) n hn
  · obtain ⟨i, b, e1, e2, e3⟩ := hget p c hc
    have hgd : ids.getD p 0 = i := by simp [List.getD, e1]
    simp only [hgd] at hn
    exact .inr ⟨i, b, e2, by rw [← Blk.ren_writable e3]; exact hw, hn⟩
  · obtain ⟨i, b, e1, e2, e3⟩ := hget p c hc
    have hgd : ids.getD p 0 = i := by simp [List.getD, e1]
    simp only [hgd] at hn
    exact .inr ⟨i, b, e2, hn⟩

theorem renL_rel {ρ ρ' : List Value} {f : Nat → Option Nat} (hf : ∀ i j, f i = some j → ρ'[j]? = ρ[i]?) : ∀ {vs vs' : List V} {xs : List Value}, renL f vs = some vs' → RelL ρ vs xs → RelL ρ' vs' xs
  | [], vs', [], h, _ => by simp only [renL, Option.some.injEq] at h; subst h; trivial
  | [], vs', _ :: _, h, hx => hx.elim
  | v :: r, vs', [], h, hx => hx.elim
  | v :: r, vs', x :: xs, h, hx => by
    simp only [renL] at h
    split at h
    · rename_i v1 r1 hv hr
      injection h with h
      subst h
      exact ⟨ren_rel hf hv hx.1, renL_rel hf hr hx.2⟩
    · cases h

/-- A state, and how it stands to the beginning of the function. -/
structure St0 (cfg : Cfg) (cx : Cx) (ds : List Deferred) (ρ0 : List Value) (F0 : Nat → List Nat) (H0 : Heap) (w0 : World) (ρ : List Value) (F : Nat → List Nat) (env : Env) (H : Heap) (a : Act) (w : World) : Prop where
  st : St cfg cx.nt ds ρ F env H a w
  fr : Fr H0 F0 w0 H F w
  pins : ∀ i, i < cx.pins → ρ[i]? = ρ0[i]?

variable {cx : Cx} {ρ0 : List Value} {F0 : Nat → List Nat} {H0 : Heap} {w0 : World}

theorem St0.step {lk : Option (Blk → Bool)} {env env' : Env} {a a' : Act} {ρ' : List Value} {F' : Nat → List Nat} {H' : Heap} {w' : World} (h : St0 cfg cx ds ρ0 F0 H0 w0 ρ F env H a w) (hp : cx.pins ≤ ρ0.length) (hs : St cfg cx.nt ds ρ' F' env' H' a' w') (st : Step cfg lk ρ F H w ρ' F' H' w') :
    St0 cfg cx ds ρ0 F0 H0 w0 ρ' F' env' H' a' w' := by
  refine ⟨hs, h.fr.trans st.fr, fun i hi => ?_⟩
  have h1 := h.pins i hi
  have hil : i < ρ0.length := by omega
  rw [List.getElem?_eq_getElem hil] at h1 ⊢
  exact st.le i _ h1

theorem mkEnv_rel {tmps : Array Value} : ∀ (keep : List (Nat × Option Nat)) (vs : List V), RelL ρ vs (keep.map fun p => tmps.getD p.1 undef) → ∀ t, Rel ρ (mkEnv (zipKeep keep vs) t) (tmps.getD t undef)
  | [], [], _, t => .inl rfl
  | [], _ :: _, h, t => h.elim
  | (u, tg) :: r, [], h, t => h.elim
  | (u, tg) :: r, v :: vs, h, t => by
    simp only [zipKeep, mkEnv]
    cases ht : Nat.beq t u with
    | true => obtain rfl := Nat.eq_of_beq_eq_true ht; exact h.1
    | false => exact mkEnv_rel r vs h.2 t

theorem relL_env {env : Env} {a : Act} (hE : ∀ t, Rel ρ (env t) (a.tmps.getD t undef)) : ∀ (keep : List (Nat × Option Nat)), RelL ρ ((keep.map fun p => (p.2, env p.1)).map (·.2)) (keep.map fun p => a.tmps.getD p.1 undef)
  | [] => trivial
  | (t, _) :: r => ⟨hE t, relL_env hE r⟩

theorem range_get (n i : Nat) (h : i < n) : (List.range n)[i]? = some i := List.getElem?_range h

theorem gc_sound {keep : List (Nat × Option Nat)} {env : Env} {a : Act} {K : Env → Heap → Prop} (hp : cx.pins ≤ ρ0.length) (h : gc cx.pins keep env H K) (hs : St0 cfg cx ds ρ0 F0 H0 w0 ρ F env H a w) :
    ∃ ρ' F' env' H', K env' H' ∧ St0 cfg cx ds ρ0 F0 H0 w0 ρ' F' env' H' a w := by
  unfold gc at h
  split at h
  rename_i vs H1 hr
  obtain ⟨ρ1, F1, g1, st1⟩ := rowifyL_sound (lk := none) _ _ H ρ F hr (relL_env hs.st.env keep) hs.st.sat
  generalize hids : reach H1 3 (addNew (List.range cx.pins) (idsL vs)) = ids at h
  simp only at h
  split at h
  · rename_i vs' Hc hren hsel
    have hc := cond_elim h
    obtain ⟨ρ2, F2, q1, q2, q3, q4⟩ := regroup st1.sat hsel hc.1
    have hrel := renL_rel q1 hren g1
    have s1 := hs.step hp (a' := a) (env' := env) ⟨fun t => (hs.st.env t).le st1.le, hs.st.size, hs.st.defers, st1.sat⟩ st1
    refine ⟨ρ2, F2, _, Hc, hc.2, ⟨⟨mkEnv_rel keep vs' hrel, hs.st.size, hs.st.defers, q3⟩, s1.fr.trans q4, fun i hi => ?_⟩⟩
    have hpre : ids[i]? = some i := by
      obtain ⟨r1, e1⟩ := addNew_prefix (idsL vs) (List.range cx.pins)
      obtain ⟨r2, e2⟩ := reach_prefix H1 3 (addNew (List.range cx.pins) (idsL vs))
      rw [← hids, e2, e1, List.append_assoc, List.getElem?_append_left (by simpa using hi)]
      exact range_get _ _ hi
    rw [q2 i i hpre]
    exact s1.pins i hi
  · exact h.elim

theorem gcO_sound {keep : Option (List (Nat × Option Nat))} {env : Env} {a : Act} {K : Env → Heap → Prop} (hp : cx.pins ≤ ρ0.length) (h : gcO cx.pins keep env H K) (hs : St0 cfg cx ds ρ0 F0 H0 w0 ρ F env H a w) :
    ∃ ρ' F' env' H', K env' H' ∧ St0 cfg cx ds ρ0 F0 H0 w0 ρ' F' env' H' a w := by
  unfold gcO at h
  split at h
  · exact gc_sound hp h hs
  · exact ⟨ρ, F, env, H, h, hs⟩

/-- What a piece of code must lead to. -/
def QK (cfg : Cfg) (cx : Cx) (ds : List Deferred) (ρ0 : List Value) (F0 : Nat → List Nat) (H0 : Heap) (w0 : World) (K : Ex → Env → Heap → Prop) : Exit → Act → World → Prop
  | .normal, a, w => ∃ ρ F env H, St0 cfg cx ds ρ0 F0 H0 w0 ρ F env H a w ∧ K .normal env H
  | .exit i, a, w => ∃ ρ F env H, St0 cfg cx ds ρ0 F0 H0 w0 ρ F env H a w ∧ K (.exit i) env H
  | .ret, a, w => ∃ ρ F env H, St0 cfg cx ds ρ0 F0 H0 w0 ρ F env H a w ∧ K .ret env H
  | _, _, _ => False

theorem ex_sound (ok : CfgOK cfg) (hsig : ∀ g s, cfg.sigs g = some s → SpecOK cfg.P cfg.elT g s) (hp : cx.pins ≤ ρ0.length) : ∀ (c : Code) (K : Ex → Env → Heap → Prop) (env : Env) (H : Heap) (ρ : List Value) (F : Nat → List Nat) (a : Act) (w : World),
    ex cfg cx c env H K → St0 cfg cx ds ρ0 F0 H0 w0 ρ F env H a w → c.wp cfg.P (QK cfg cx ds ρ0 F0 H0 w0 K) a w := by
  intro c
  induction c with
  | skip => intro K env H ρ F a w h hs; exact wp_skip ⟨ρ, F, env, H, hs, h⟩
  | label l => intro K env H ρ F a w h hs; exact wp_label ⟨ρ, F, env, H, hs, h⟩
  | exit id => intro K env H ρ F a w h hs; exact wp_exit ⟨ρ, F, env, H, hs, h⟩
  | ret => intro K env H ρ F a w h hs; exact wp_ret ⟨ρ, F, env, H, hs, h⟩
  | goto l => intro K env H ρ F a w h hs; exact h.elim
  | refuse why => intro K env H ρ F a w h hs; exact h.elim
  | rangeFunc f ps x y _ _ => intro K env H ρ F a w h hs; exact h.elim
  | region id ops draw =>
    intro K env H ρ F a w h hs
    cases draw with
    | false =>
      have h : exOps cfg cx.nt none (fun _ => true) none ops.toList (List.range ops.toList.length) env H (K .normal) := h
      rw [Array.length_toList] at h
      exact wp_region (exOps_wpOps ok hsig _ ρ F H w env a h hs.st (fun ρ' F' H' w' env' a' h1 h2 h3 => ⟨ρ', F', env', H', hs.step hp h2 h3, h1⟩))
    | true =>
      have hd := hs.st.sat.drew
      have hst : St cfg cx.nt ds ρ F env H a w.drew := ⟨hs.st.env, hs.st.size, hs.st.defers, hd⟩
      have hs1 : St0 cfg cx ds ρ0 F0 H0 w0 ρ F env H a w.drew := ⟨hst, hs.fr.trans Fr.drew, hs.pins⟩
      have h : (match cfg.planT id with
       | some (p, kd) => bif planOkT ops p then exOpsT cfg cx.nt (some (lkOf kd)) (early ops.toList) (some H) ops.toList p env H (K .normal) else False
       | none => match cfg.plan id with
        | some (plan, kd) => bif planOk ops plan then exOps cfg cx.nt (some (lkOf kd)) (early ops.toList) (some H) ops.toList plan env H (K .normal) else False
        | none => False) := h
      split at h
      · rename_i p kd hpl
        have hc := cond_elim h
        have hc1 := hc.1
        simp only [planOkT, Bool.and_eq_true] at hc1
        obtain ⟨⟨hsel, hle⟩, hgo⟩ := hc1
        refine wp_region_any ok.mixed (wpAny_of_G (S := SD ops (lkOf kd) H F w.drew) _ _ _ _ ?_)
        exact wpAnyG_le (Nat.le_of_ble_eq_true hle) (exOps_tree (nt := cx.nt) (f := lkOf kd) (ops := ops) ok hsig (lkOK_lkOf kd) hsel (Q := QK cfg cx ds ρ0 F0 H0 w0 K) (fun _ _ _ h => h) hd
          (fun ρ' F' H' w' env' a' h1 h2 h3 => ⟨ρ', F', env', H', hs1.step hp h2 h3, h1⟩) p false (Array.replicate ops.size false) ρ F H w.drew env a hgo (by simp) (closed_start ops) hc.2 hst (.refl hd) (fun _ _ _ => rfl))
      · split at h
        rotate_left
        · exact h.elim
        rename_i plan kd hpl
        have hc := cond_elim h
        have hc1 := hc.1
        simp only [planOk, Bool.and_eq_true] at hc1
        obtain ⟨⟨hsel, hlen⟩, hgo⟩ := hc1
        have hlen : plan.length = ops.size := by simpa using hlen
        refine wp_region_any ok.mixed (wpAny_of_G (S := SD ops (lkOf kd) H F w.drew) _ _ _ _ ?_)
        rw [← hlen]
        have := exOps_drawn (nt := cx.nt) (f := lkOf kd) (ops := ops) ok hsig (lkOK_lkOf kd) hsel (Q := QK cfg cx ds ρ0 F0 H0 w0 K) (fun _ _ _ h => h) hd plan (Array.replicate ops.size false) ρ F H w.drew env a hgo (by simp) (closed_start ops) hc.2 hst (.refl hd) (fun _ _ _ => rfl)
          (fun ρ' F' H' w' env' a' h1 h2 h3 => ⟨ρ', F', env', H', hs1.step hp h2 h3, h1⟩)
        rw [← hlen] at this
        exact this
  | seq x y ihx ihy =>
    intro K env H ρ F a w h hs
    refine wp_seq (wp_mono (ihx _ env H ρ F a w h hs) (fun e a w hq => ?_))
    cases e with
    | normal => obtain ⟨ρ', F', env', H', h1, h2⟩ := hq; exact ihy K env' H' ρ' F' a w h2 h1
    | exit i => exact hq
    | ret => exact hq
    | goto l => exact hq
    | panic ch => exact hq
    | outgrown => exact hq
  | cond c x y ihx ihy =>
    intro K env H ρ F a w h hs
    have h : (match ev env c with
      | .ext (.bool t) => br t (ex cfg cx x env H K) (ex cfg cx y env H K)
      | _ => False) := h
    split at h
    · rename_i t ht
      have hc := REnv.ev hs.st.env c
      rw [ht] at hc
      have hc := den_ext hc
      refine wp_cond hc ?_
      rcases br_elim h with ⟨rfl, h⟩ | ⟨rfl, h⟩
      · exact ihx K env H ρ F a w h hs
      · exact ihy K env H ρ F a w h hs
    · exact h.elim
  | block id x ih =>
    intro K env H ρ F a w h hs
    refine wp_block (wp_mono (ih _ env H ρ F a w h hs) (fun e a w hq => ?_))
    cases e with
    | normal =>
      obtain ⟨ρ', F', env', H', h1, h2⟩ := hq
      obtain ⟨ρ2, F2, env2, H2, g1, g2⟩ := gcO_sound hp h2 h1
      exact ⟨ρ2, F2, env2, H2, g2, g1⟩
    | exit i =>
      obtain ⟨ρ', F', env', H', h1, h2⟩ := hq
      simp only [Exit.inBlock]
      have h2 : bif Nat.beq i id then gcO cx.pins (cfg.keepB id) env' H' (K .normal) else K (.exit i) env' H' := h2
      cases hi : Nat.beq i id with
      | true =>
        rw [hi] at h2
        have e := Nat.eq_of_beq_eq_true hi
        rw [if_pos e]
        obtain ⟨ρ2, F2, env2, H2, g1, g2⟩ := gcO_sound hp h2 h1
        exact ⟨ρ2, F2, env2, H2, g2, g1⟩
      | false =>
        rw [hi] at h2
        have hne : i ≠ id := fun e => by subst e; simp at hi
        rw [if_neg hne]
        exact ⟨ρ', F', env', H', h1, h2⟩
    | ret => exact hq
    | goto l => exact hq
    | panic ch => exact hq
    | outgrown => exact hq
  | scope x ih =>
    intro K env H ρ F a w h hs
    refine wp_scope_straight (wp_mono (ih _ env H ρ F a w h hs) (fun e a w hq => ?_))
    cases e <;> exact hq
  | loop x ih =>
    intro K env H ρ F a w h hs
    obtain ⟨ρ1, F1, env1, H1, g0, g2⟩ := gcO_sound hp (h : gcO cx.pins (cfg.keep (firstRegion x)) env H _) hs
    have g0' : LoopQ x (ex cfg cx x) (gcO cx.pins (cfg.keep (firstRegion x))) env1 H1 K := by
      revert g0
      cases cfg.unroll (firstRegion x) with
      | none => exact id
      | some n => exact fun h => ⟨n, h⟩
    clear g0
    obtain ⟨n, g1⟩ := g0'
    refine wp_loop_rounds n ?_
    clear h hs
    induction n generalizing env1 H1 ρ1 F1 a w with
    | zero => exact g1.elim
    | succ n ihn =>
      rw [rounds_succ]
      refine wp_mono (ih _ env1 H1 ρ1 F1 a w g1 g2) (fun e a w hq => ?_)
      cases e with
      | normal =>
        obtain ⟨ρ', F', env', H', h1, h2⟩ := hq
        obtain ⟨ρ2, F2, env2, H2, q1, q2⟩ := gcO_sound hp (h2 : gcO cx.pins (cfg.keep (firstRegion x)) env' H' _) h1
        exact ihn a w ρ2 F2 env2 H2 q2 q1
      | exit i => exact hq
      | ret => exact hq
      | goto l => exact hq
      | panic ch => exact hq
      | outgrown => exact hq

/-! A function as a whole. -/
theorem resV_sound {env : Env} {a : Act} : ∀ (rs : List ResultVar) (tys : List TypeId) (H : Heap) (ρ : List Value) (F : Nat → List Nat) {vs : List V} {H' : Heap}, resV cfg env H rs tys = some (vs, H') → (∀ t, Rel ρ (env t) (a.tmps.getD t undef)) → Sat cfg.elT ρ F H w →
    ∃ ρ' F' xs, RelL ρ' vs xs ∧ Step cfg none ρ F H w ρ' F' H' w ∧ xs.length = rs.length ∧
      (rs.mapM fun r => (match r with | .tmp t => pure (a.tmps.getD t undef) | .cell c t => do loadVar t (← asAddr (a.tmps.getD c undef)) : Sem Value)).run cfg.P w = .ok xs w
  | [], [], H, ρ, F, vs, H', h, hE, hs => by
    simp only [resV, Option.some.injEq, Prod.mk.injEq] at h
    obtain ⟨rfl, rfl⟩ := h
    exact ⟨ρ, F, [], trivial, .refl hs, rfl, by simp⟩
  | [], _ :: _, H, ρ, F, vs, H', h, hE, hs => by simp [resV] at h
  | .tmp t :: r, [], H, ρ, F, vs, H', h, hE, hs => by simp [resV] at h
  | .cell c t :: r, [], H, ρ, F, vs, H', h, hE, hs => by simp [resV] at h
  | .cell c t :: r, ty :: tys, H, ρ, F, vs, H', h, hE, hs => by
    simp only [resV] at h
    split at h
    · rename_i v vs1 H2 h1 h2
      simp only [Option.some.injEq, Prod.mk.injEq] at h
      obtain ⟨rfl, rfl⟩ := h
      have hl : loadV cfg none H t (env c) (fun u => u = v) := by
        unfold cellV at h1
        unfold loadV
        split at h1
        · rename_i i b o hi hx
          rw [hi, hx]
          simp only
          split at h1
          · rename_i T cs hH
            try rw [hH]
            simp only [mayRead, cond_true]
            cases hd : isAggD i.desc with
            | true =>
              rw [hd] at h1
              simp only [cond_true] at h1 ⊢
              cases hb : Nat.ble (o + i.size) cs.length with
              | true => rw [hb] at h1; injection h1
              | false => rw [hb] at h1; cases h1
            | false =>
              rw [hd] at h1
              simp only [cond_false] at h1 ⊢
              rw [h1]
          · cases h1
        · cases h1
      obtain ⟨u, x, rfl, hx, hrun⟩ := loadV_sound hl (hE c) (hs.reads none)
      obtain ⟨ρ2, F2, xs, g2, st2, g3, g4⟩ := resV_sound r tys H ρ F h2 hE hs
      refine ⟨ρ2, F2, x :: xs, ⟨hx.le st2.le, g2⟩, st2, by simp [g3], ?_⟩
      rw [List.mapM_cons, Sem.run_bind]
      have e : (do loadVar t (← asAddr (a.tmps.getD c undef)) : Sem Value).run cfg.P w = .ok x w := by
        have h3 := hrun w (hs.reads none)
        have hp : ∃ b o, env c = .ptr b o := by
          unfold cellV at h1
          split at h1
          · exact ⟨_, _, by assumption⟩
          · cases h1
        obtain ⟨b, o, hp⟩ := hp
        obtain ⟨g, _, hg⟩ := den_ptr (hp ▸ hE c)
        rw [hg] at h3 ⊢
        simpa [Instr.loadAt, Instr.sureAddr, asAddr] using h3
      rw [e]
      simp only [Result.andThen_ok, Sem.run_bind, g4, Sem.run_pure]
    · cases h
  | .tmp t :: r, ty :: tys, H, ρ, F, vs, H', h, hE, hs => by
    simp only [resV] at h
    cases h1 : rowify H (cfg.tagOf ty) (env t) with
    | mk v1 H1 =>
    rw [h1] at h
    simp only at h
    cases h2 : resV cfg env H1 r tys with
    | none => rw [h2] at h; cases h
    | some p =>
      obtain ⟨vs1, H2⟩ := p
      rw [h2] at h
      simp only [Option.some.injEq, Prod.mk.injEq] at h
      obtain ⟨rfl, rfl⟩ := h
      obtain ⟨ρ1, F1, g1, st1⟩ := rowify_sound (lk := none) h1 (hE t) hs
      obtain ⟨ρ2, F2, xs, g2, st2, g3, g4⟩ := resV_sound r tys H1 ρ1 F1 h2 (fun t => (hE t).le st1.le) st1.sat
      refine ⟨ρ2, F2, a.tmps.getD t undef :: xs, ⟨g1.le st2.le, g2⟩, st1.trans st2, by simp [g3], ?_⟩
      rw [List.mapM_cons, Sem.run_bind]
      simp only [Sem.run_pure, Result.andThen_ok, Sem.run_bind, g4]

theorem one_rel : ∀ {vs : List V} {xs : List Value}, RelL ρ vs xs → (∀ v ∈ vs, vs.length ≠ 1 → v ≠ .junk) → Rel ρ (one vs) (if h : xs.length = 1 then xs[0] else .tuple xs.toArray)
  | [], [], _, _ => .inr (by simp [one, V.den, denL])
  | [v], [x], h, _ => by simpa [one] using h.1
  | v :: v2 :: r, x :: x2 :: xs, h, hj => by
    have hl : ∀ (ws : List V) (ys : List Value), RelL ρ ws ys → (∀ v ∈ ws, v ≠ .junk) → denL ρ ws = some ys := by
      intro ws
      induction ws with
      | nil => intro ys h _; cases ys with
        | nil => rfl
        | cons _ _ => exact h.elim
      | cons u ws ih => intro ys h hj; cases ys with
        | nil => exact h.elim
        | cons y ys => simp only [denL, h.1.den (hj u (by simp)), ih ys h.2 (fun v hv => hj v (by simp [hv]))]
    have hd := hl _ _ h (fun v hv => hj v hv (by simp))
    refine .inr ?_
    simp only [one, V.den, hd]
    simp
  | [_], [], h, _ => h.elim
  | [], _ :: _, h, _ => h.elim
  | [_], _ :: _ :: _, h, _ => h.2.elim
  | _ :: _ :: _, [], h, _ => h.elim
  | _ :: _ :: _, [_], h, _ => h.2.elim

theorem results_run {fn : Func} {tmps : Array Value} {xs : List Value} {P : Program} (hl : xs.length = fn.results.toList.length)
    (h : (fn.results.toList.mapM fun r => (match r with | .tmp t => pure (tmps.getD t undef) | .cell c t => do loadVar t (← asAddr (tmps.getD c undef)) : Sem Value)).run P w = .ok xs w) :
    (results fn tmps).run P w = .ok (if h : xs.length = 1 then xs[0] else .tuple xs.toArray) w := by
  have hm : ∀ f : ResultVar → Sem Value, (∀ r, f r = (match r with | .tmp t => pure (tmps.getD t undef) | .cell c t => do loadVar t (← asAddr (tmps.getD c undef)) : Sem Value)) →
      (fn.results.mapM f).run P w = .ok xs.toArray w := by
    intro f hf
    have e : fn.results = fn.results.toList.toArray := by simp
    have hff : f = fun r => (match r with | .tmp t => pure (tmps.getD t undef) | .cell c t => do loadVar t (← asAddr (tmps.getD c undef)) : Sem Value) := funext hf
    rw [e, List.mapM_toArray, hff, map_eq_pure_bind, Sem.run_bind, h]
    rfl
  unfold results
  rw [Sem.run_bind, hm _ (fun r => by cases r <;> rfl)]
  simp only [Result.andThen_ok, Sem.run_pure]
  congr 1

/-- The state in which a function begins. -/
theorem argEnv_rel {args : List V} {vals : List Value} (h : denL ρ args = some vals) (n t : Nat) : Rel ρ (argEnv args t) ((vals.toArray ++ Array.replicate n undef).getD t undef) := by
  unfold argEnv
  have hl := denL_len h
  cases ht : args[t]? with
  | some v =>
    obtain ⟨x, h1, h2⟩ := denL_get h t v ht
    have htl : t < vals.length := (List.getElem?_eq_some_iff.1 h1).1
    refine .inr ?_
    rw [h2]
    congr 1
    simp [Array.getD_eq_getD_getElem?, Array.getElem?_append, htl]
    rw [List.getElem?_eq_getElem htl] at h1
    injection h1 with h1
    exact h1.symm
  | none =>
    refine .inr ?_
    simp only [V.den]
    congr 1
    have htl : ¬ t < vals.length := by
      intro h'
      rw [List.getElem?_eq_getElem (by omega)] at ht; cases ht
    simp only [Array.getD_eq_getD_getElem?, Array.getElem?_append, List.size_toArray, htl, if_false, Array.getElem?_replicate]
    split <;> rfl

/-- What a function's end tells. -/
theorem ret_sound {fn : Func} {args : List V} {H : Heap} {K : V → Heap → Prop} {ρ : List Value} {F : Nat → List Nat} {w w' : World} (hsat : Sat cfg.elT ρ F H w) {e : Ex} {ρ1 : List Value} {F1 : Nat → List Nat} {env1 : Env} {H1 : Heap} {a' : Act}
    (hs1 : St0 cfg (cxOf fn args H) ds ρ F H w ρ1 F1 env1 H1 a' w') (hr : retK cfg fn H.length K e env1 H1) :
    ∃ v, (results fn a'.tmps).run cfg.P w' = .ok v w' ∧ ∃ v' x ρ' F' H', Ending.returned v = .returned x ∧ K v' H' ∧ Rel ρ' v' x ∧ Le ρ ρ' ∧ Sat cfg.elT ρ' F' H' w' ∧ Fr H F w H' F' w' := by
  have hr : match resV cfg env1 H1 fn.results.toList fn.resultTypes.toList with
      | none => False
      | some (vs, H2) =>
        match renL (idx (reach H2 3 (addNew (List.range H.length) (idsL vs)))) vs, sel H2 (idx (reach H2 3 (addNew (List.range H.length) (idsL vs)))) (reach H2 3 (addNew (List.range H.length) (idsL vs))) with
        | some vs', some H3 => bif nodup (reach H2 3 (addNew (List.range H.length) (idsL vs))) && noJunk vs' then K (one vs') H3 else False
        | _, _ => False := by
    cases e with
    | exit i => exact hr.elim
    | normal => exact hr
    | ret => exact hr
  split at hr
  · exact hr.elim
  · rename_i vs H2 hres
    obtain ⟨ρ2, F2, xs, g1, st2, g3, g4⟩ := resV_sound (w := w') _ _ H1 ρ1 F1 hres hs1.st.env hs1.st.sat
    generalize hids : reach H2 3 (addNew (List.range H.length) (idsL vs)) = ids at hr
    split at hr
    · rename_i vs' H3 hren hsel
      have hcd := cond_elim hr
      have hc1 := hcd.1
      simp only [Bool.and_eq_true] at hc1
      obtain ⟨ρ3, F3, q1, q2, q3, q4⟩ := regroup st2.sat hsel hc1.1
      have hrel := renL_rel q1 hren g1
      refine ⟨_, results_run g3 g4, one vs', _, ρ3, F3, H3, rfl, hcd.2, one_rel hrel (fun v hv _ => ?_), fun i x hx => ?_, q3, (hs1.fr.trans st2.fr).trans q4⟩
      · rintro rfl
        have : ∀ ws : List V, V.junk ∈ ws → noJunk ws = true → False := by
          intro ws
          induction ws with
          | nil => intro h _; cases h
          | cons u ws ih =>
            intro hm hn
            rcases List.mem_cons.1 hm with e | hm
            · subst e; simp [noJunk] at hn
            · refine ih hm ?_
              cases u <;> simp_all [noJunk]
        exact this _ hv hc1.2
      · have hil : i < H.length := by rw [← hsat.len]; exact (List.getElem?_eq_some_iff.1 hx).1
        have hpre : ids[i]? = some i := by
          obtain ⟨r1, e1⟩ := addNew_prefix (idsL vs) (List.range H.length)
          obtain ⟨r2, e2⟩ := reach_prefix H2 3 (addNew (List.range H.length) (idsL vs))
          rw [← hids, e2, e1, List.append_assoc, List.getElem?_append_left (by simpa using hil)]
          exact range_get _ _ hil
        rw [q2 i i hpre]
        have hpi := hs1.pins i hil
        rw [hx] at hpi
        exact st2.le i x hpi
    · exact hr.elim

/-- What a function's code must lead to, at its body's end. -/
theorem wp_of_exF (ok : CfgOK cfg) (hsig : ∀ g s, cfg.sigs g = some s → SpecOK cfg.P cfg.elT g s) {fn : Func} {c : Code} (hc : fn.body = some c) {args : List V} {H : Heap} {K : V → Heap → Prop} (hex : exF cfg fn args H K)
    {ρ : List Value} {F : Nat → List Nat} {w : World} {vals : List Value} (hden : denL ρ args = some vals) (hsat : Sat cfg.elT ρ F H w) :
    c.wp cfg.P (bodyPost cfg.P fn fun e w' => ∃ v x ρ' F' H', e = .returned x ∧ K v H' ∧ Rel ρ' v x ∧ Le ρ ρ' ∧ Sat cfg.elT ρ' F' H' w' ∧ Fr H F w H' F' w') { tmps := vals.toArray ++ Array.replicate (fn.ntmps - vals.toArray.size) undef, defers := [] } w := by
  unfold exF at hex
  rw [hc] at hex
  simp only at hex
  have hlen := denL_len hden
  have hst : St cfg (cxOf fn args H).nt [] ρ F (argEnv args) H { tmps := vals.toArray ++ Array.replicate (fn.ntmps - vals.toArray.size) undef, defers := [] } w :=
    ⟨argEnv_rel hden _, by simp [cxOf, hlen], rfl, hsat⟩
  have hs0 : St0 cfg (cxOf fn args H) [] ρ F H w ρ F (argEnv args) H { tmps := vals.toArray ++ Array.replicate (fn.ntmps - vals.toArray.size) undef, defers := [] } w :=
    ⟨hst, Fr.refl, fun _ _ => rfl⟩
  have hp : (cxOf fn args H).pins ≤ ρ.length := by rw [hsat.len]; exact Nat.le_refl _
  have hwp := ex_sound ok hsig hp c _ (argEnv args) H ρ F _ w hex hs0
  refine wp_mono hwp (fun e a' w' hq => ?_)
  have fin : ∀ (e : Ex) (ρ1 : List Value) (F1 : Nat → List Nat) (env1 : Env) (H1 : Heap), St0 cfg (cxOf fn args H) [] ρ F H w ρ1 F1 env1 H1 a' w' → retK cfg fn H.length K e env1 H1 →
      a'.defers = [] ∧ ∃ v, (results fn a'.tmps).run cfg.P w' = .ok v w' ∧ ∃ v' x ρ' F' H', Ending.returned v = .returned x ∧ K v' H' ∧ Rel ρ' v' x ∧ Le ρ ρ' ∧ Sat cfg.elT ρ' F' H' w' ∧ Fr H F w H' F' w' :=
    fun e ρ1 F1 env1 H1 hs1 hr => ⟨hs1.st.defers, ret_sound hsat hs1 hr⟩
  cases e with
  | normal => obtain ⟨ρ1, F1, env1, H1, h1, h2⟩ := hq; exact fin _ ρ1 F1 env1 H1 h1 h2
  | ret => obtain ⟨ρ1, F1, env1, H1, h1, h2⟩ := hq; exact fin _ ρ1 F1 env1 H1 h1 h2
  | exit i => obtain ⟨ρ1, F1, env1, H1, h1, h2⟩ := hq; exact h2.elim
  | goto l => exact hq.elim
  | panic ch => exact hq.elim
  | outgrown => exact hq.elim

theorem spec_of_exF (ok : CfgOK cfg) (hsig : ∀ g s, cfg.sigs g = some s → SpecOK cfg.P cfg.elT g s) {g : FuncId} {fn : Func} {s : Spec} (hg : cfg.P.funcs[g]? = some fn) (hname : (fn.name == "runtime.NumGoroutine") = false) (hb : fn.body.isNone = false)
    (h : ∀ (args : List V) (H : Heap) (K : V → Heap → Prop), s.tr args H K → exF cfg fn args H K) : SpecOK cfg.P cfg.elT g s := by
  refine ⟨⟨fn, hg, hname, hb⟩, fun args H K htr ρ F w vals hden hsat => ?_⟩
  have hex := h args H K htr
  cases hc : fn.body with
  | none => rw [hc] at hb; cases hb
  | some c => exact calls_of_wp hg hc (wp_of_exF ok hsig hc hex hden hsat)

/-- A loop, by what its states are: each round leads to a smaller one, or leaves. -/
theorem loop_ind {cfg : Cfg} {cx : Cx} {c : Code} {K : Ex → Env → Heap → Prop} {σ : Type} (E : σ → Env) (Hp : σ → Heap) (I : σ → Prop) (μ : σ → Nat)
    (round : ∀ s, I s → ∀ J : Env → Heap → Prop, (∀ s', I s' → μ s' < μ s → J (E s') (Hp s')) → ex cfg cx c (E s) (Hp s) (roundK cfg cx c K J)) (s : σ) (hs : I s) : Loop cfg cx c (E s) (Hp s) K := by
  have key : ∀ n s, I s → μ s ≤ n → loopM c (ex cfg cx c) (gcO cx.pins (cfg.keep (firstRegion c))) K (n + 1) (E s) (Hp s) := by
    intro n
    induction n with
    | zero =>
      intro s hs hm
      exact round s hs _ (fun s' _ h => by omega)
    | succ n ih =>
      intro s hs hm
      exact round s hs _ (fun s' hs' h => ih s' hs' (by omega))
  exact ⟨_, key (μ s) s hs (Nat.le_refl _)⟩


end Go.Rx
end

section
/- Contracts of functions of numbers, and of structs of numbers. -/
namespace Go.Rx

theorem br_true {b : Bool} {A B : Prop} (hb : b = true) (h : A) : br b A B := by subst hb; exact h
theorem br_false {b : Bool} {A B : Prop} (hb : b = false) (h : B) : br b A B := by subst hb; exact h
theorem br_intro {b : Bool} {A B : Prop} (h1 : b = true → A) (h2 : b = false → B) : br b A B := by
  cases b with
  | true => exact h1 rfl
  | false => exact h2 rfl
theorem Req_intro {b : Bool} {A : Prop} (hb : b = true) (h : A) : Req b A := by subst hb; exact h
theorem inR_nat {i n : Nat} (h : i < n) : inR (i : Int) n = true := by simp [inR]; omega
theorem inR_int {i : Int} {n : Nat} (h0 : 0 ≤ i) (h : i < (n : Int)) : inR i n = true := by simp [inR]; omega
theorem wrap_id {x : Int} (h0 : -9223372036854775808 ≤ x) (h1 : x ≤ 9223372036854775807) : IntKind.i64.wrap x = x := by rw [IntKind.wrap_i64]; omega
theorem wrap_succ {i : Nat} (h : i ≤ 4611686018427387904) : IntKind.i64.wrap ((i : Int) + 1) = ((i + 1 : Nat) : Int) := by rw [wrap_id (by omega) (by omega)]; omega

theorem tag_ok {P : Program} {elT : ET} {t tg : Nat} (h1 : P.underlying t = some (.slice (elT tg))) (h2 : P.info? (elT tg) = some ((P.info? (elT tg)).getD default))
    (h3 : ((P.info? (elT tg)).getD default).zero = some (((P.info? (elT tg)).getD default).zero.getD undef)) (h4 : (((P.info? (elT tg)).getD default).zero.getD undef).cells = (elEnc tg (elD tg)).toArray)
    (h5 : ((P.info? (elT tg)).getD default).size = elM tg) (h6 : Nat.ble ((P.info? (elT tg)).getD default).bytes 65536 = true) :
    P.underlying t = some (.slice (elT tg)) ∧ ∃ i z, P.info? (elT tg) = some i ∧ i.zero = some z ∧ z.cells = (elEnc tg (elD tg)).toArray ∧ i.size = elM tg ∧ i.bytes ≤ 65536 :=
  ⟨h1, _, _, h2, h3, h4, h5, Nat.le_of_ble_eq_true h6⟩

theorem extsV_map : ∀ {cs : List V} {vs : List Value}, extsV cs = some vs → cs = vs.map .ext
  | [], vs, h => by simp only [extsV, Option.some.injEq] at h; subst h; rfl
  | v :: r, vs, h => by
    simp only [extsV] at h
    cases v with
    | ext x =>
      simp only [extV] at h
      cases hr : extsV r with
      | none => simp [hr] at h
      | some ys => simp only [hr, Option.some.injEq] at h; subst h; rw [extsV_map hr]; rfl
    | _ => simp [extV] at h

/-- Arguments by shape: 0: an int; n + 1: a struct of so many ints. The numbers, one behind the other. -/
def shA : List Nat → List V → Option (List Int)
  | [], [] => some []
  | 0 :: sh, v :: r => match v with
    | .ext (.int .i64 n) => match shA sh r with
      | some xs => some (n :: xs)
      | none => none
    | _ => none
  | (k + 1) :: sh, v :: r => match v with
    | .agg cs => match extsV cs with
      | some vs => match intsOf vs with
        | some ys => bif Nat.beq ys.length (k + 1) then (match shA sh r with
          | some xs => some (ys ++ xs)
          | none => none) else none
        | none => none
      | none => none
    | _ => none
  | _, _ => none

/-- A struct of ints, from there on. -/
def icV (n o : Nat) (xs : List Int) : List V := (List.range n).map fun i => vi (xs.getD (o + i) 0)

def mkA : List Nat → Nat → List Int → List V
  | [], _, _ => []
  | 0 :: sh, o, xs => vi (xs.getD o 0) :: mkA sh (o + 1) xs
  | (k + 1) :: sh, o, xs => .agg (icV (k + 1) o xs) :: mkA sh (o + (k + 1)) xs

theorem icV_pre {n : Nat} {ys zs : List Int} (pre : List Int) (h : ys.length = n) : icV n pre.length (pre ++ (ys ++ zs)) = ys.map vi := by
  apply List.ext_getElem?
  intro i
  unfold icV
  by_cases hi : i < n
  · rw [List.getElem?_map, List.getElem?_range hi, List.getElem?_map]
    have h1 : (pre ++ (ys ++ zs)).getD (pre.length + i) 0 = ys[i]'(by omega) := by
      simp only [List.getD]
      rw [List.getElem?_append_right (by omega), List.getElem?_append_left (by omega)]
      simp [List.getElem?_eq_getElem (show i < ys.length by omega)]
    rw [List.getElem?_eq_getElem (show i < ys.length by omega)]
    exact congrArg (fun x => some (vi x)) h1
  · rw [List.getElem?_eq_none (by simpa using hi), List.getElem?_eq_none (by simp; omega)]

theorem shA_mk : ∀ {sh : List Nat} {args : List V} {xs : List Int} (pre : List Int), shA sh args = some xs → args = mkA sh pre.length (pre ++ xs)
  | [], args, xs, pre, h => by
    cases args with
    | nil => rfl
    | cons v r => simp [shA] at h
  | 0 :: sh, args, xs, pre, h => by
    cases args with
    | nil => simp [shA] at h
    | cons v r =>
      simp only [shA] at h
      split at h
      · rename_i n
        split at h
        · rename_i ys hys
          injection h with h; subst h
          have ih := shA_mk (pre ++ [n]) hys
          simp only [List.length_append, List.length_cons, List.length_nil, List.append_assoc, List.cons_append, List.nil_append] at ih
          simp only [mkA]
          rw [← ih]
          simp [List.getD, vi]
        · cases h
      · cases h
  | (k + 1) :: sh, args, xs, pre, h => by
    cases args with
    | nil => simp [shA] at h
    | cons v r =>
      simp only [shA] at h
      split at h
      · rename_i cs
        split at h
        · rename_i vs hvs
          split at h
          · rename_i ys hys
            cases hb : Nat.beq ys.length (k + 1) with
            | false => rw [hb] at h; cases h
            | true =>
              rw [hb] at h
              simp only [cond_true] at h
              have hl := Nat.eq_of_beq_eq_true hb
              split at h
              · rename_i zs hzs
                injection h with h; subst h
                have ih := shA_mk (pre ++ ys) hzs
                simp only [List.length_append, List.append_assoc, hl] at ih
                simp only [mkA]
                rw [← ih, icV_pre pre hl, extsV_map hvs, ← intsOf_map hys, List.map_map]
                rfl
              · cases h
          · cases h
        · cases h
      · cases h

theorem spec_mono {P : Program} {elT : ET} {g : FuncId} {s1 s2 : Spec} (h : ∀ (args : List V) (H : Heap) (K : V → Heap → Prop), s2.tr args H K → s1.tr args H K) (ok : SpecOK P elT g s1) : SpecOK P elT g s2 :=
  ⟨ok.1, fun args H K ht => ok.2 args H K (h args H K ht)⟩

/-- A function of numbers: what must hold of them, and what it tells. -/
def fS (sh : List Nat) (pre : List Int → Prop) (f : List Int → V) : Spec where
  tr := fun args H K => match H, shA sh args with
    | [], some xs => pre xs ∧ K (f xs) []
    | _, _ => False

theorem fS_ok {cfg : Cfg} (ok : CfgOK cfg) (hsig : ∀ g s, cfg.sigs g = some s → SpecOK cfg.P cfg.elT g s) {g : FuncId} {fn : Func} {sh : List Nat} {pre : List Int → Prop} {f : List Int → V}
    (hg : cfg.P.funcs[g]? = some fn) (hname : (fn.name == "runtime.NumGoroutine") = false) (hb : fn.body.isNone = false)
    (h : ∀ (xs : List Int) (K : V → Heap → Prop), pre xs → K (f xs) [] → exF cfg fn (mkA sh 0 xs) [] K) : SpecOK cfg.P cfg.elT g (fS sh pre f) := by
  refine spec_of_exF ok hsig hg hname hb ?_
  intro args H K ht
  unfold fS at ht
  simp only at ht
  split at ht
  · rename_i xs hxs
    have e := shA_mk [] hxs
    simp only [List.length_nil, List.nil_append] at e
    rw [e]
    exact h _ K ht.1 ht.2
  · exact ht.elim

end Go.Rx
end

section
/- A block that is seen as one: opened for a contract. -/
namespace Go.Rx

variable {P : Program} {elT : ET} {ρ : List Value} {F : Nat → List Nat} {H : Heap} {w : World}

def isPk : Blk → Bool
  | .pk _ _ _ _ => true
  | _ => false

theorem holds0_of {b : Blk} {v : Value} {G : List Nat} (hb : isPk b = false) (h : b.holds elT ρ w v G) : b.holds0 elT ρ w v G := by
  cases b <;> first | exact h | cases hb

theorem Sat.to0 (h : Sat elT ρ F H w) (hp : ∀ b ∈ H, isPk b = false) : Sat0 elT ρ F H w :=
  ⟨h.len, fun i b x hb hx => holds0_of (hp b (List.mem_of_getElem? hb)) (h.each i b x hb hx), h.lt, h.disj⟩

theorem Sat0.to (h : Sat0 elT ρ F H w) : Sat elT ρ F H w :=
  ⟨h.len, fun i b x hb hx => Blk.holds_of (h.each i b x hb hx), h.lt, h.disj⟩

/-- What stands behind a block that is seen as one: blocks of its own, and in the third place nothing (a link). -/
def AbsOK (elT : ET) : Prop := ∀ tg st Hc, elT.abs tg st Hc → (∀ b ∈ Hc, isPk b = false ∧ (b.writable = true ∨ b = .dead)) ∧ Hc[2]? = some .dead

def only0 (i : Nat) : Option Nat := bif Nat.beq i 0 then some 0 else none
def noRef (_ : Nat) : Option Nat := none

theorem val2 {ρ : List Value} (h : ρ.length = 2) : ∃ x y, ρ = [x, y] := by
  match ρ, h with
  | [x, y], _ => exact ⟨x, y, rfl⟩

theorem spec_open {g : FuncId} {s sc : Spec} (ha : AbsOK elT) (hc : SpecOK P elT g sc)
    (h : ∀ (args : List V) (H : Heap) (K : V → Heap → Prop), s.tr args H K → ∃ tg st xs t l, H = [.pk tg st xs [.row 1], .row t l true] ∧ xs.length ≤ 2 ∧ renL only0 args = some args ∧
      ∀ Hc, elT.abs tg st Hc → sc.tr args (Hc.set 2 (.row t l true)) (fun v H' => ∃ st' Hc' ids, v.ren noRef = some v ∧ elT.abs tg st' Hc' ∧ nodup ids = true ∧ (∀ i, i < 3 → ids[i]? = some i) ∧ sel H' (idx ids) ids = some (Hc'.set 2 (.row t l true)) ∧ K v [.pk tg st' xs [.row 1], .row t l true])) :
    SpecOK P elT g s := by
  refine ⟨hc.1, fun args H K htr ρ F w vals hden hsat => ?_⟩
  obtain ⟨tg, st, xs, t, l, rfl, hxs, harg, hK⟩ := h args H K htr
  obtain ⟨x0, xw, rfl⟩ := val2 hsat.len
  obtain ⟨Hc, ρc, Fc, zs, a1, a2, a3, a4, a5, a6, a7⟩ := hsat.each 0 _ x0 rfl rfl
  have hrow := hsat.each 1 _ xw rfl rfl
  obtain ⟨hall, h2⟩ := ha tg st Hc a1
  have hz : zs = [xw] := by
    have hd : V.den [x0, xw] (.row 1) = some xw := by
      obtain ⟨a, cap, e, _⟩ := hrow
      subst e; rfl
    simp only [denL, hd, Option.some.injEq] at a6
    exact a6.symm
  subst hz
  have hρ2 : ρc[2]? = some xw := a7 0 xw rfl
  have h2lt : 2 < Hc.length := (List.getElem?_eq_some_iff.1 h2).1
  have hget : ∀ (i : Nat) (b : Blk), (Hc.set 2 (.row t l true))[i]? = some b → (i = 2 ∧ b = .row t l true) ∨ (i ≠ 2 ∧ Hc[i]? = some b) := fun i b hb => by
    rw [List.getElem?_set] at hb
    split at hb
    · rename_i e; subst e; simp [h2lt] at hb; exact .inl ⟨rfl, hb.symm⟩
    · rename_i e; exact .inr ⟨fun h => e h.symm, hb⟩
  have hlen : ∀ (i : Nat) (b : Blk), Hc[i]? = some b → i < Hc.length := fun i b hb => (List.getElem?_eq_some_iff.1 hb).1
  have hdis : ∀ n ∈ F 0, n ∉ F 1 := hsat.disj 0 1 _ _ rfl rfl (by decide) rfl
  have hF0 : ∀ (i n : Nat) (b : Blk), Hc[i]? = some b → n ∈ Fc i → n ∈ F 0 := fun i n b hb hn => by rw [a4]; exact mem_foot (hlen i b hb) hn
  have hs2 : Sat elT ρc (fset Fc 2 (F 1)) (Hc.set 2 (.row t l true)) w := by
    refine ⟨by rw [List.length_set]; exact a2.len, fun i b x hb hx => ?_, fun i b hb n hn => ?_, fun i j bi bj hbi hbj hij hw n hn => ?_⟩
    · rcases hget i b hb with ⟨rfl, rfl⟩ | ⟨hi, hb⟩
      · rw [hρ2] at hx; injection hx with hx; subst hx
        simp only [fset, if_true]
        exact hrow
      · simp only [fset, hi, if_false]
        exact Blk.holds_of (a2.each i b x hb hx)
    · rcases hget i b hb with ⟨rfl, rfl⟩ | ⟨hi, hb⟩
      · simp only [fset, if_true] at hn
        exact hsat.lt 1 _ rfl n hn
      · simp only [fset, hi, if_false] at hn
        exact a2.lt i b hb n hn
    · rcases hget i bi hbi with ⟨rfl, rfl⟩ | ⟨hi, hbi⟩
      · cases hw
      · simp only [fset, hi, if_false] at hn
        rcases hget j bj hbj with ⟨rfl, rfl⟩ | ⟨hj, hbj⟩
        · simp only [fset, if_true]
          exact hdis n (hF0 i n bi hbi hn)
        · simp only [fset, hj, if_false]
          exact a2.disj i j bi bj hbi hbj hij hw n hn
  have hden' : denL ρc args = some vals := by
    rw [renL_den (ρ := [x0, xw]) (ρ' := ρc) (f := only0) (fun i j h => by
      unfold only0 at h
      cases hi : Nat.beq i 0 with
      | false => rw [hi] at h; cases h
      | true =>
        rw [hi] at h
        have := Nat.eq_of_beq_eq_true hi
        subst this
        injection h with h; subst h
        exact a3) args args harg]
    exact hden
  refine (hc.2 args _ _ (hK Hc a1) ρc _ w vals hden' hs2).mono ?_
  rintro e w' ⟨v, x, ρ1, F1, H1, rfl, ⟨st', Hc', ids, v1, v2, v3, v5, v6, v4⟩, hrel, hle1, hsat1, hfr1⟩
  let cfg : Cfg := { P := P, tagOf := fun _ => none, elT := elT, sigs := fun _ => none, keep := fun _ => none, keepB := fun _ => none, plan := fun _ => none }
  obtain ⟨ρ', F', _, q2, hsat', hfr2⟩ := regroup (cfg := cfg) hsat1 v6 v3
  have hfr := hfr1.trans hfr2
  have hle : ∀ i x, i < 3 → ρc[i]? = some x → ρ'[i]? = some x := fun i x hi hx => by rw [q2 i i (v5 i hi)]; exact hle1 i x hx
  obtain ⟨hall', h2'⟩ := ha tg st' Hc' v2
  have h2lt' : 2 < Hc'.length := (List.getElem?_eq_some_iff.1 h2').1
  have hset : ∀ (i : Nat) (b : Blk), i ≠ 2 → Hc'[i]? = some b → (Hc'.set 2 (.row t l true))[i]? = some b := fun i b hi hb => by rw [List.getElem?_set_ne (Ne.symm hi)]; exact hb
  have hsmall : ∀ n ∈ F 1, n < w.heap.size := hsat.lt 1 _ rfl
  -- memory of the row stays
  have hkeep : ∀ n ∈ F 1, w'.heap[n]? = w.heap[n]? := fun n hn => hfr.block n (hsmall n hn) (fun i b hb hw hm => by
    rcases hget i b hb with ⟨rfl, rfl⟩ | ⟨hi, hb⟩
    · cases hw
    · simp only [fset, hi, if_false] at hm
      exact hdis n (hF0 i n b hb hm) hn)
  -- what is ours
  have hours : ∀ (i : Nat) (b : Blk) (n : Nat), i ≠ 2 → Hc'[i]? = some b → n ∈ F' i → w.heap.size ≤ n ∨ n ∈ F 0 := fun i b n hi hb hn => by
    rcases (hall' b (List.mem_of_getElem? hb)).2 with hw | hd
    · rcases hfr.foot i b (hset i b hi hb) hw n hn with h | ⟨j, c, hcj, hcw, hm⟩
      · exact .inl h
      · rcases hget j c hcj with ⟨rfl, rfl⟩ | ⟨hj, hcj⟩
        · cases hcw
        · simp only [fset, hj, if_false] at hm
          exact .inr (hF0 j n c hcj hm)
    · subst hd
      have hil : i < ρ'.length := by rw [hsat'.len, List.length_set]; exact (List.getElem?_eq_some_iff.1 hb).1
      have : F' i = [] := hsat'.each i _ _ (hset i _ hi hb) (List.getElem?_eq_getElem hil)
      rw [this] at hn; cases hn
  have hfoot : ∀ n ∈ foot (fset F' 2 []) Hc'.length, ∃ i b, i ≠ 2 ∧ Hc'[i]? = some b ∧ n ∈ F' i := fun n hn => by
    obtain ⟨i, hi, hm⟩ := foot_mem hn
    by_cases e : i = 2
    · subst e; simp only [fset, if_true] at hm; cases hm
    · simp only [fset, e, if_false] at hm
      exact ⟨i, _, e, List.getElem?_eq_getElem hi, hm⟩
  refine ⟨v, x, [x0, xw], fset F 0 (foot (fset F' 2 []) Hc'.length), _, rfl, v4, ?_, Le.refl _, ⟨rfl, fun i b y hb hy => ?_, fun i b hb n hn => ?_, fun i j bi bj hbi hbj hij hw n hn => ?_⟩, ⟨hfr.os, hfr.tape, hfr.output, hfr.size, fun n hn hno => ?_, fun i b hb hw n hn => ?_, fun i b hb n hn => ?_⟩⟩
  · rcases hrel with e | e
    · exact .inl e
    · refine .inr ?_
      rw [← e]
      exact (ren_den (ρ := [x0, xw]) (ρ' := ρ1) (f := noRef) (fun i j h => by cases h) v v v1).symm
  · match i, hb with
    | 0, hb =>
      injection hb with hb; subst hb
      simp only [List.getElem?_cons_zero, Option.some.injEq] at hy; subst hy
      simp only [fset, if_true]
      refine ⟨Hc', ρ', fset F' 2 [], [xw], v2, ⟨by have := hsat'.len; rwa [List.length_set] at this, fun i b y hb hy => ?_, fun i b hb n hn => ?_, fun i j bi bj hbi hbj hij hw n hn => ?_⟩, hle 0 _ (by omega) a3, rfl, fun k z hk => hle _ _ (by have := (List.getElem?_eq_some_iff.1 hk).1; omega) (a5 k z hk), ?_, fun k z hk => ?_⟩
      · by_cases e : i = 2
        · subst e
          rw [h2'] at hb; injection hb with hb; subst hb
          simp only [fset, if_true]
          exact rfl
        · simp only [fset, e, if_false]
          exact holds0_of (hall' b (List.mem_of_getElem? hb)).1 (hsat'.each i b y (hset i b e hb) hy)
      · by_cases e : i = 2
        · subst e; simp only [fset, if_true] at hn; cases hn
        · simp only [fset, e, if_false] at hn; exact hsat'.lt i b (hset i b e hb) n hn
      · by_cases e : i = 2
        · subst e; simp only [fset, if_true] at hn; cases hn
        · simp only [fset, e, if_false] at hn
          by_cases e' : j = 2
          · subst e'; simp only [fset, if_true]; simp
          · simp only [fset, e', if_false]
            exact hsat'.disj i j bi bj (hset i bi e hbi) (hset j bj e' hbj) hij hw n hn
      · have hd : V.den [x0, xw] (.row 1) = some xw := by
          obtain ⟨a, cap, e, _⟩ := hrow
          subst e; rfl
        simp only [denL, hd]
      · match k, hk with
        | 0, hk => injection hk with hk; subst hk; exact hle 2 _ (by omega) hρ2
        | k + 1, hk => cases hk
    | 1, hb =>
      injection hb with hb; subst hb
      simp only [List.getElem?_cons_succ, List.getElem?_cons_zero, Option.some.injEq] at hy; subst hy
      exact Blk.holds_le (Le.refl _) hkeep _ hrow
    | i + 2, hb => cases hb
  · match i, hb with
    | 0, hb =>
      simp only [fset, if_true] at hn
      obtain ⟨i, b, e, hb, hm⟩ := hfoot n hn
      exact hsat'.lt i b (hset i b e hb) n hm
    | 1, hb => exact Nat.lt_of_lt_of_le (hsmall n hn) hfr.size
    | i + 2, hb => cases hb
  · match i, j, hbi, hbj, hij with
    | 0, 0, _, _, h => exact absurd rfl h
    | 0, 1, _, _, _ =>
      simp only [fset, if_true] at hn
      obtain ⟨i, b, e, hb, hm⟩ := hfoot n hn
      show n ∉ F 1
      intro h1
      rcases hours i b n e hb hm with h | h
      · have := hsmall n h1; omega
      · exact hdis n h h1
    | 0, j + 2, _, hbj, _ => cases hbj
    | 1, _, hbi, _, _ => injection hbi with hbi; subst hbi; cases hw
    | i + 2, _, hbi, _, _ => cases hbi
  · exact hfr.block n hn (fun i b hb hw hm => by
      rcases hget i b hb with ⟨rfl, rfl⟩ | ⟨hi, hb⟩
      · cases hw
      · simp only [fset, hi, if_false] at hm
        exact hno 0 _ rfl rfl (hF0 i n b hb hm))
  · match i, hb with
    | 0, hb =>
      simp only [fset, if_true] at hn
      obtain ⟨i, b, e, hb, hm⟩ := hfoot n hn
      rcases hours i b n e hb hm with h | h
      · exact .inl h
      · exact .inr ⟨0, _, rfl, rfl, h⟩
    | 1, hb => injection hb with hb; subst hb; cases hw
    | i + 2, hb => cases hb
  · match i, hb with
    | 0, hb =>
      simp only [fset, if_true] at hn
      obtain ⟨i, b, e, hb, hm⟩ := hfoot n hn
      rcases hours i b n e hb hm with h | h
      · exact .inl h
      · exact .inr ⟨0, _, rfl, h⟩
    | 1, hb => exact .inr ⟨1, _, rfl, hn⟩
    | i + 2, hb => cases hb
end Go.Rx
end

section
/- Views: words that a program reads and writes, seen as one block; packed for the program's call. -/
namespace Go.Rx

def keyOf (e : List Int) : Int := e.getD 0 0
def valOf (e : List Int) : Int := e.getD 1 0

/-- What a sorted map has at a key. -/
def lookI : List (List Int) → Int → Option Int
  | [], _ => none
  | e :: r, a => if keyOf e = a then some (valOf e) else lookI r a

/-- How the words that are read, those that were written, and what is noted belong together. -/
structure ViewOK (ws cur : List Int) (m : Int → Option Int) (nd : List Pr) (its : List (List Int)) : Prop where
  small : ws.length ≤ 1048576
  len : cur.length = ws.length
  sorted : its.Pairwise (fun x y => keyOf x < keyOf y)
  keys : ∀ e ∈ its, 0 ≤ keyOf e ∧ keyOf e < (ws.length : Int)
  cur : ∀ i : Nat, i < ws.length → cur.getD i 0 = (lookI its (i : Int)).getD (ws.getD i 0)
  asked : ∀ p ∈ nd, (m p.Addr).getD 0 ≠ 0
  told : ∀ p ∈ nd, 0 ≤ p.Addr ∧ p.Addr < (ws.length : Int)
  once : nd.Pairwise (fun x y => x.Addr ≠ y.Addr)

theorem ViewOK.fresh {ws : List Int} (h : ws.length ≤ 1048576) (m : Int → Option Int) : ViewOK ws ws m [] [] :=
  ⟨h, rfl, .nil, by simp, fun i _ => rfl, by simp, by simp, .nil⟩

def viewHeap (f : FuncId) (b : Blk) (m : Int → Option Int) (n : Nat) (nd : List Pr) (its : List (List Int)) : Heap :=
  [.cells 0 [.mth f (.ptr 1 0), .ptr 3 0, vb true], .cells 0 [.row 2, .mp 4, .row 5], b, .cells 0 [.row 6], .map m n, .row 2 nd false, .row 5 its false]

def absView (f : FuncId) (tg : Nat) (st : List (List Int)) (Hc : Heap) : Prop :=
  match tg, st with
  | 0, [ws, cur] => ∃ m n nd its, Hc = viewHeap f .dead m n nd its ∧ ViewOK ws cur m nd its
  | _, _ => False

theorem absView_ok {elT : ET} {f : FuncId} (h : elT.abs = absView f) : AbsOK elT := by
  intro tg st Hc ha
  rw [h] at ha
  unfold absView at ha
  split at ha
  · obtain ⟨m, n, nd, its, rfl, _⟩ := ha
    refine ⟨fun b hb => ?_, rfl⟩
    simp only [viewHeap, List.mem_cons, List.not_mem_nil, or_false] at hb
    rcases hb with rfl | rfl | rfl | rfl | rfl | rfl | rfl <;> first | exact ⟨rfl, .inl rfl⟩ | exact ⟨rfl, .inr rfl⟩
  · exact ha.elim

/-- A new view is packed, the program is called, and the view is opened again. -/
def packS (f : FuncId) (s : Spec) : Spec where
  ro := false
  tr := fun (args : List V) (H : Heap) (K : V → Heap → Prop) => match (H[0]? : Option Blk) with
    | some (.cells _ [.mth f' (.ptr p 0), .ptr q 0, .ext (.bool true)]) => match H[p]?, H[q]? with
      | some (.cells _ [.row r, .mp a, .ext (.slice none 0 0)]), some (.cells _ [.ext (.slice none 0 0)]) => match H[r]?, H[a]? with
        | some (.row 0 ws true), some (.map _ _) => bif Nat.beq f' f && nodup [0, p, r, q, a] then Req (decide (List.length ws ≤ 1048576)) (∀ x : Value,
            callC s args ((((H.set 0 (.pk 0 [ws, ws] [x] [.row r])).set p .dead).set q .dead).set a .dead) none (fun v (H' : Heap) => match (H'[0]? : Option Blk), H'[p]? with
              | some (.pk 0 [ws', cur'] [x'] [.row r']), some .dead => bif Nat.beq r' r then x' = x ∧ ∀ m' n' nd' its', ViewOK ws' cur' m' nd' its' →
                  K v (((H'.set 0 (.cells 0 [.mth f (.ptr p 0), .ptr H'.length 0, vb true])).set p (.cells 0 [.row r, .mp (H'.length + 1), .row (H'.length + 2)])) ++
                    [.cells 0 [.row (H'.length + 3)], .map m' n', .row 2 nd' false, .row 5 its' false]) else False
              | _, _ => False)) else False
        | _, _ => False
      | _, _ => False
    | _ => False

variable {cfg : Cfg} {ρ : List Value} {F : Nat → List Nat} {H : Heap} {w : World}

/-- Blocks at four places give their memory to one, and are no more. -/
theorem sat_pack {f : FuncId} (hE : cfg.elT.abs = absView f) {T0 T1 T2 : TypeId} {p q r a n : Nat} {ws : List Int} {m : Int → Option Int} (hs : Sat cfg.elT ρ F H w)
    (h0 : H[0]? = some (.cells T0 [.mth f (.ptr p 0), .ptr q 0, vb true])) (hp : H[p]? = some (.cells T1 [.row r, .mp a, .ext (.slice none 0 0)])) (hq : H[q]? = some (.cells T2 [.ext (.slice none 0 0)]))
    (hr : H[r]? = some (.row 0 ws true)) (ha : H[a]? = some (.map m n)) (hnd : nodup [0, p, r, q, a] = true) (hsm : ws.length ≤ 1048576) :
    ∃ x F', ρ[p]? = some x ∧ Sat cfg.elT ρ F' ((((H.set 0 (.pk 0 [ws, ws] [x] [.row r])).set p .dead).set q .dead).set a .dead) w ∧
      Fr H F w ((((H.set 0 (.pk 0 [ws, ws] [x] [.row r])).set p .dead).set q .dead).set a .dead) F' w := by
  have val : ∀ (i : Nat) (b : Blk), H[i]? = some b → ∃ x, ρ[i]? = some x ∧ b.holds cfg.elT ρ w x (F i) := fun i b hb => sat_val hs hb
  obtain ⟨x0, v0, b0, vs0, e0, f0, d0, U0, c0⟩ := val 0 _ h0
  obtain ⟨xp, vp, bp, vsp, ep, fp, dp, Up, cp⟩ := val p _ hp
  obtain ⟨xq, vq, bq, vsq, eq, fq, dq, Uq, cq⟩ := val q _ hq
  obtain ⟨xr, vr, hrr⟩ := val r _ hr
  obtain ⟨xa, va, ba, es, clock, ea, fa, ca, oa, na⟩ := val a _ ha
  have hne := fun i j (h : [0, p, r, q, a][i]? = [0, p, r, q, a][j]?) (hi : i < 5) => nodup_spec hnd i j
  have nn : 0 ≠ p ∧ 0 ≠ q ∧ 0 ≠ a ∧ 0 ≠ r ∧ p ≠ q ∧ p ≠ a ∧ p ≠ r ∧ q ≠ a ∧ r ≠ q ∧ r ≠ a := by
    simp only [nodup, mem, Bool.and_eq_true, Bool.not_eq_true', Bool.or_eq_false_iff] at hnd
    obtain ⟨⟨h1, h2, h3, h4, _⟩, ⟨h5, h6, h7, _⟩, ⟨h8, h9, _⟩, ⟨h10, _⟩, _⟩ := hnd
    have k : ∀ {x y : Nat}, Nat.beq x y = false → y ≠ x := fun {x y} h e => by subst e; simp at h
    exact ⟨k h1, k h3, k h4, k h2, k h6, k h7, k h5, k h10, k h8, k h9⟩
  obtain ⟨n1, n2, n3, n4, n5, n6, n7, n8, n9, n10⟩ := nn
  let Fc : Nat → List Nat := fun k => match k with | 0 => F 0 | 1 => F p | 3 => F q | 4 => F a | _ => []
  let ρc : List Value := [x0, xp, xr, xq, xa, .slice none 0 0, .slice none 0 0]
  have slice_r : ∃ ad len cap, xr = .slice ad len cap := by obtain ⟨ad, cap, e, _⟩ := hrr; exact ⟨ad, _, cap, e⟩
  obtain ⟨adr, lenr, capr, rfl⟩ := slice_r
  have hwr : ∀ (i : Nat), i = 0 ∨ i = p ∨ i = q ∨ i = a → ∃ b, H[i]? = some b ∧ b.writable = true := fun i hi => by
    rcases hi with rfl | rfl | rfl | rfl
    · exact ⟨_, h0, rfl⟩
    · exact ⟨_, hp, rfl⟩
    · exact ⟨_, hq, rfl⟩
    · exact ⟨_, ha, rfl⟩
  have hd : ∀ i j, (i = 0 ∨ i = p ∨ i = q ∨ i = a) → i ≠ j → j < H.length → ∀ n ∈ F i, n ∉ F j := fun i j hi hij hj => by
    obtain ⟨b, hb, hw⟩ := hwr i hi
    exact hs.disj i j b _ hb (List.getElem?_eq_getElem hj) hij hw
  have hlt : ∀ i (b : Blk), H[i]? = some b → i < H.length := fun i b hb => (List.getElem?_eq_some_iff.1 hb).1
  have sub : Sat0 cfg.elT ρc Fc (viewHeap f .dead m n [] []) w := by
    refine ⟨rfl, fun i b y hb hy => ?_, fun i b hb k hk => ?_, fun i j bi bj hbi hbj hij hw k hk => ?_⟩
    · match i, hb, hy with
      | 0, hb, hy =>
        injection hb with hb; subst hb; injection hy with hy; subst hy
        refine ⟨b0, vs0, e0, f0, ?_, U0, c0⟩
        rw [← d0]
        simp only [denL, V.den, vp, vq]
        rfl
      | 1, hb, hy =>
        injection hb with hb; subst hb; injection hy with hy; subst hy
        refine ⟨bp, vsp, ep, fp, ?_, Up, cp⟩
        rw [← dp]
        simp only [denL, V.den, vr, va]
        rfl
      | 2, hb, hy => injection hb with hb; subst hb; exact rfl
      | 3, hb, hy =>
        injection hb with hb; subst hb; injection hy with hy; subst hy
        refine ⟨bq, vsq, eq, fq, ?_, Uq, cq⟩
        rw [← dq]
        rfl
      | 4, hb, hy =>
        injection hb with hb; subst hb; injection hy with hy; subst hy
        exact ⟨ba, es, clock, ea, fa, ca, oa, na⟩
      | 5, hb, hy =>
        injection hb with hb; subst hb; injection hy with hy; subst hy
        exact ⟨World.ownsRow_nil _ _ _ _, rfl⟩
      | 6, hb, hy =>
        injection hb with hb; subst hb; injection hy with hy; subst hy
        exact ⟨World.ownsRow_nil _ _ _ _, rfl⟩
      | i + 7, hb, hy => cases hb
    · match i, hb with
      | 0, hb => exact hs.lt 0 _ h0 k hk
      | 1, hb => exact hs.lt p _ hp k hk
      | 2, hb => cases hk
      | 3, hb => exact hs.lt q _ hq k hk
      | 4, hb => exact hs.lt a _ ha k hk
      | 5, hb => cases hk
      | 6, hb => cases hk
      | i + 7, hb => cases hb
    · have P0 := hlt 0 _ h0; have Pp := hlt p _ hp; have Pq := hlt q _ hq; have Pa := hlt a _ ha
      match i, j, hij with
      | 0, 1, _ => exact hd 0 p (.inl rfl) n1 Pp k hk
      | 0, 3, _ => exact hd 0 q (.inl rfl) n2 Pq k hk
      | 0, 4, _ => exact hd 0 a (.inl rfl) n3 Pa k hk
      | 1, 0, _ => exact hd p 0 (.inr (.inl rfl)) (Ne.symm n1) P0 k hk
      | 1, 3, _ => exact hd p q (.inr (.inl rfl)) n5 Pq k hk
      | 1, 4, _ => exact hd p a (.inr (.inl rfl)) n6 Pa k hk
      | 3, 0, _ => exact hd q 0 (.inr (.inr (.inl rfl))) (Ne.symm n2) P0 k hk
      | 3, 1, _ => exact hd q p (.inr (.inr (.inl rfl))) (Ne.symm n5) Pp k hk
      | 3, 4, _ => exact hd q a (.inr (.inr (.inl rfl))) n8 Pa k hk
      | 4, 0, _ => exact hd a 0 (.inr (.inr (.inr rfl))) (Ne.symm n3) P0 k hk
      | 4, 1, _ => exact hd a p (.inr (.inr (.inr rfl))) (Ne.symm n6) Pp k hk
      | 4, 3, _ => exact hd a q (.inr (.inr (.inr rfl))) (Ne.symm n8) Pq k hk
      | 0, 0, h => exact absurd rfl h
      | 1, 1, h => exact absurd rfl h
      | 3, 3, h => exact absurd rfl h
      | 4, 4, h => exact absurd rfl h
      | 0, 2, _ => exact List.not_mem_nil
      | 0, 5, _ => exact List.not_mem_nil
      | 0, 6, _ => exact List.not_mem_nil
      | 1, 2, _ => exact List.not_mem_nil
      | 1, 5, _ => exact List.not_mem_nil
      | 1, 6, _ => exact List.not_mem_nil
      | 3, 2, _ => exact List.not_mem_nil
      | 3, 5, _ => exact List.not_mem_nil
      | 3, 6, _ => exact List.not_mem_nil
      | 4, 2, _ => exact List.not_mem_nil
      | 4, 5, _ => exact List.not_mem_nil
      | 4, 6, _ => exact List.not_mem_nil
      | 2, _, _ => cases hk
      | 5, _, _ => cases hk
      | 6, _, _ => cases hk
      | i + 7, _, _ => cases hbi
      | 0, j + 7, _ => cases hbj
      | 1, j + 7, _ => cases hbj
      | 3, j + 7, _ => cases hbj
      | 4, j + 7, _ => cases hbj
  have hfootc : ∀ k, k ∈ foot Fc 7 → ∃ i, (i = 0 ∨ i = p ∨ i = q ∨ i = a) ∧ k ∈ F i := fun k hk => by
    obtain ⟨i, hi, hm⟩ := foot_mem hk
    match i, hm with
    | 0, hm => exact ⟨0, .inl rfl, hm⟩
    | 1, hm => exact ⟨p, .inr (.inl rfl), hm⟩
    | 2, hm => cases hm
    | 3, hm => exact ⟨q, .inr (.inr (.inl rfl)), hm⟩
    | 4, hm => exact ⟨a, .inr (.inr (.inr rfl)), hm⟩
    | 5, hm => cases hm
    | 6, hm => cases hm
    | i + 7, _ => omega
  have hfootc' : ∀ i, (i = 0 ∨ i = p ∨ i = q ∨ i = a) → ∀ k ∈ F i, k ∈ foot Fc 7 := fun i hi k hk => by
    rcases hi with rfl | rfl | rfl | rfl
    · exact mem_foot (F := Fc) (i := 0) (by omega) hk
    · exact mem_foot (F := Fc) (i := 1) (by omega) hk
    · exact mem_foot (F := Fc) (i := 3) (by omega) hk
    · exact mem_foot (F := Fc) (i := 4) (by omega) hk
  let F' : Nat → List Nat := fun j => if j = 0 then foot Fc 7 else if j = p ∨ j = q ∨ j = a then [] else F j
  have hget : ∀ (j : Nat) (c : Blk), ((((H.set 0 (.pk 0 [ws, ws] [xp] [.row r])).set p .dead).set q .dead).set a .dead)[j]? = some c →
      (j = 0 ∧ c = .pk 0 [ws, ws] [xp] [.row r]) ∨ ((j = p ∨ j = q ∨ j = a) ∧ j ≠ 0 ∧ c = .dead) ∨ (j ≠ 0 ∧ j ≠ p ∧ j ≠ q ∧ j ≠ a ∧ H[j]? = some c) := fun j c hc => by
    have hl := (List.getElem?_eq_some_iff.1 hc).1
    simp only [List.length_set] at hl
    simp only [List.getElem?_set, List.length_set] at hc
    by_cases ja : a = j
    · subst ja; simp [hl] at hc; exact .inr (.inl ⟨.inr (.inr rfl), Ne.symm n3, hc.symm⟩)
    · by_cases jq : q = j
      · subst jq; simp [ja, hl] at hc; exact .inr (.inl ⟨.inr (.inl rfl), Ne.symm n2, hc.symm⟩)
      · by_cases jp : p = j
        · subst jp; simp [ja, jq, hl] at hc; exact .inr (.inl ⟨.inl rfl, Ne.symm n1, hc.symm⟩)
        · by_cases j0 : 0 = j
          · subst j0; simp [ja, jq, jp, hl] at hc; exact .inl ⟨rfl, hc.symm⟩
          · simp [ja, jq, jp, j0] at hc; exact .inr (.inr ⟨Ne.symm j0, Ne.symm jp, Ne.symm jq, Ne.symm ja, hc⟩)
  have fz : F' 0 = foot Fc 7 := by simp only [F', if_true]
  have fd : ∀ j, (j = p ∨ j = q ∨ j = a) → j ≠ 0 → F' j = [] := fun j h h0 => by simp only [F', h0, if_false, h, if_true]
  have fo : ∀ j, j ≠ 0 → j ≠ p → j ≠ q → j ≠ a → F' j = F j := fun j h1 h2 h3 h4 => by simp [F', h1, h2, h3, h4]
  have small : ∀ k ∈ foot Fc 7, k < w.heap.size := fun k hk => by
    obtain ⟨i, hi, hm⟩ := hfootc k hk
    obtain ⟨b, hb, _⟩ := hwr i hi
    exact hs.lt i b hb k hm
  refine ⟨xp, F', vp, ⟨by simp [hs.len], fun j c y hc hy => ?_, fun j c hc k hk => ?_, fun i j bi bj hbi hbj hij hw k hk => ?_⟩, ⟨rfl, rfl, rfl, Nat.le_refl _, fun _ _ _ => rfl, fun j c hc hcw k hk => ?_, fun j c hc k hk => ?_⟩⟩
  · rcases hget j c hc with ⟨rfl, rfl⟩ | ⟨hj, hj0, rfl⟩ | ⟨h1, h2, h3, h4, hc⟩
    · rw [v0] at hy; injection hy with hy; subst hy
      rw [fz]
      refine ⟨viewHeap f .dead m n [] [], ρc, Fc, [.slice adr lenr capr], ?_, sub, rfl, rfl, fun k z hk => ?_, ?_, fun k z hk => ?_⟩
      · rw [hE]; exact ⟨m, n, [], [], rfl, ViewOK.fresh hsm m⟩
      · match k, hk with
        | 0, hk => injection hk with hk; subst hk; rfl
        | k + 1, hk => cases hk
      · simp only [denL, V.den, vr]
      · match k, hk with
        | 0, hk => injection hk with hk; subst hk; rfl
        | k + 1, hk => cases hk
    · rw [fd j hj hj0]; exact rfl
    · rw [fo j h1 h2 h3 h4]; exact hs.each j c y hc hy
  · rcases hget j c hc with ⟨rfl, rfl⟩ | ⟨hj, hj0, rfl⟩ | ⟨h1, h2, h3, h4, hc⟩
    · rw [fz] at hk; exact small k hk
    · rw [fd j hj hj0] at hk; cases hk
    · rw [fo j h1 h2 h3 h4] at hk; exact hs.lt j c hc k hk
  · rcases hget i bi hbi with ⟨rfl, rfl⟩ | ⟨hi, hi0, rfl⟩ | ⟨h1, h2, h3, h4, hbi⟩
    · rw [fz] at hk
      obtain ⟨i', hi', hm⟩ := hfootc k hk
      rcases hget j bj hbj with ⟨rfl, rfl⟩ | ⟨hj, hj0, rfl⟩ | ⟨g1, g2, g3, g4, hbj⟩
      · exact absurd rfl hij
      · rw [fd j hj hj0]; simp
      · rw [fo j g1 g2 g3 g4]
        exact hd i' j hi' (fun e => by rcases hi' with h | h | h | h <;> subst h <;> subst e <;> first | exact g1 rfl | exact g2 rfl | exact g3 rfl | exact g4 rfl) (hlt j bj hbj) k hm
    · cases hw
    · rw [fo i h1 h2 h3 h4] at hk
      rcases hget j bj hbj with ⟨rfl, rfl⟩ | ⟨hj, hj0, rfl⟩ | ⟨g1, g2, g3, g4, hbj⟩
      · rw [fz]
        intro hm
        obtain ⟨i', hi', hm'⟩ := hfootc k hm
        obtain ⟨b', hb', _⟩ := hwr i' hi'
        exact hs.disj i i' bi b' hbi hb' (fun e => by rcases hi' with h | h | h | h <;> subst h <;> subst e <;> first | exact h1 rfl | exact h2 rfl | exact h3 rfl | exact h4 rfl) hw k hk hm'
      · rw [fd j hj hj0]; simp
      · rw [fo j g1 g2 g3 g4]; exact hs.disj i j bi bj hbi hbj hij hw k hk
  · rcases hget j c hc with ⟨rfl, rfl⟩ | ⟨hj, hj0, rfl⟩ | ⟨h1, h2, h3, h4, hc⟩
    · rw [fz] at hk
      obtain ⟨i', hi', hm⟩ := hfootc k hk
      obtain ⟨b', hb', hw'⟩ := hwr i' hi'
      exact .inr ⟨i', b', hb', hw', hm⟩
    · cases hcw
    · rw [fo j h1 h2 h3 h4] at hk; exact .inr ⟨j, c, hc, hcw, hk⟩
  · rcases hget j c hc with ⟨rfl, rfl⟩ | ⟨hj, hj0, rfl⟩ | ⟨h1, h2, h3, h4, hc⟩
    · rw [fz] at hk
      obtain ⟨i', hi', hm⟩ := hfootc k hk
      obtain ⟨b', hb', hw'⟩ := hwr i' hi'
      exact .inr ⟨i', b', hb', hm⟩
    · rw [fd j hj hj0] at hk; cases hk
    · rw [fo j h1 h2 h3 h4] at hk; exact .inr ⟨j, c, hc, hk⟩
end Go.Rx
end

section
/- A view that was packed is opened again; a call of a program over a new view. -/
namespace Go.Rx

variable {cfg : Cfg} {ρ : List Value} {F : Nat → List Nat} {H : Heap} {w : World}

theorem sat_open {f : FuncId} (hE : cfg.elT.abs = absView f) {p r : Nat} {ws cur : List Int} {x : Value} (hs : Sat cfg.elT ρ F H w)
    (h0 : H[0]? = some (.pk 0 [ws, cur] [x] [.row r])) (hp : H[p]? = some .dead) (hx : ρ[p]? = some x) :
    ∃ m n nd its ρ' F', ViewOK ws cur m nd its ∧ Le ρ ρ' ∧
      Sat cfg.elT ρ' F' (((H.set 0 (.cells 0 [.mth f (.ptr p 0), .ptr H.length 0, vb true])).set p (.cells 0 [.row r, .mp (H.length + 1), .row (H.length + 2)])) ++
        [.cells 0 [.row (H.length + 3)], .map m n, .row 2 nd false, .row 5 its false]) w ∧
      Fr H F w (((H.set 0 (.cells 0 [.mth f (.ptr p 0), .ptr H.length 0, vb true])).set p (.cells 0 [.row r, .mp (H.length + 1), .row (H.length + 2)])) ++
        [.cells 0 [.row (H.length + 3)], .map m n, .row 2 nd false, .row 5 its false]) F' w := by
  obtain ⟨x0, v0, Hc, ρc, Fc, zs, a1, a2, a3, a4, a5, a6, a7⟩ := sat_val hs h0
  rw [hE] at a1
  obtain ⟨m, n, nd, its, rfl, hv⟩ : ∃ m n nd its, Hc = viewHeap f .dead m n nd its ∧ ViewOK ws cur m nd its := a1
  have hp0 : p ≠ 0 := fun e => by subst e; rw [h0] at hp; cases hp
  have hL0 : 0 < H.length := (List.getElem?_eq_some_iff.1 h0).1
  have hLp : p < H.length := (List.getElem?_eq_some_iff.1 hp).1
  obtain ⟨xr, hxr, hzs⟩ : ∃ xr, V.den ρ (.row r) = some xr ∧ zs = [xr] := by
    simp only [denL] at a6
    cases hd : V.den ρ (.row r) with
    | none => rw [hd] at a6; cases a6
    | some y => rw [hd] at a6; injection a6 with a6; exact ⟨y, rfl, a6.symm⟩
  subst hzs
  -- the parts' values
  have c1 : ρc[1]? = some x := a5 0 x rfl
  have c2 : ρc[2]? = some xr := a7 0 xr rfl
  have clen : ρc.length = 7 := a2.len
  have vget : ∀ i, i < 7 → ∃ y, ρc[i]? = some y := fun i hi => ⟨_, List.getElem?_eq_getElem (by rw [clen]; exact hi)⟩
  obtain ⟨y3, c3⟩ := vget 3 (by omega)
  obtain ⟨y4, c4⟩ := vget 4 (by omega)
  obtain ⟨y5, c5⟩ := vget 5 (by omega)
  obtain ⟨y6, c6⟩ := vget 6 (by omega)
  have k0 := a2.each 0 _ x0 rfl a3
  have k1 := a2.each 1 _ x rfl c1
  have k3 := a2.each 3 _ y3 rfl c3
  have k4 := a2.each 4 _ y4 rfl c4
  have k5 := a2.each 5 _ y5 rfl c5
  have k6 := a2.each 6 _ y6 rfl c6
  have hrlen := hs.len
  let ρ' := ρ ++ [y3, y4, y5, y6]
  let src : Nat → Option Nat := fun j => if j = 0 then some 0 else if j = p then some 1 else if j < H.length then none else some (j - H.length + 3)
  let F' : Nat → List Nat := fun j => match src j with | some k => Fc k | none => F j
  have hle : Le ρ ρ' := Le.append ρ _
  have g3 : ρ'[H.length]? = some y3 := by show (ρ ++ [y3, y4, y5, y6])[H.length]? = _; rw [List.getElem?_append_right (by omega), hrlen]; simp
  have g4 : ρ'[H.length + 1]? = some y4 := by show (ρ ++ [y3, y4, y5, y6])[H.length + 1]? = _; rw [List.getElem?_append_right (by omega), hrlen]; simp
  have g5 : ρ'[H.length + 2]? = some y5 := by show (ρ ++ [y3, y4, y5, y6])[H.length + 2]? = _; rw [List.getElem?_append_right (by omega), hrlen]; simp
  have g6 : ρ'[H.length + 3]? = some y6 := by show (ρ ++ [y3, y4, y5, y6])[H.length + 3]? = _; rw [List.getElem?_append_right (by omega), hrlen]; simp
  have gp : ρ'[p]? = some x := hle p x hx
  have gr : V.den ρ' (.row r) = some xr := den_le hle _ _ hxr
  have e0 : src 0 = some 0 := by simp [src]
  have ep : src p = some 1 := by simp [src, hp0]
  have en : ∀ k, src (H.length + k) = some (k + 3) := fun k => by
    have h1 : ¬ H.length + k = 0 := by omega
    have h2 : ¬ H.length + k = p := by omega
    have h3 : ¬ H.length + k < H.length := by omega
    simp only [src, h1, h2, h3, if_false]
    congr 1
    omega
  have eo : ∀ j, j ≠ 0 → j ≠ p → j < H.length → src j = none := fun j h1 h2 h3 => by simp only [src, h1, h2, h3, if_false, if_true]
  have hget : ∀ (j : Nat) (c : Blk), (((H.set 0 (.cells 0 [.mth f (.ptr p 0), .ptr H.length 0, vb true])).set p (.cells 0 [.row r, .mp (H.length + 1), .row (H.length + 2)])) ++
        [.cells 0 [.row (H.length + 3)], .map m n, .row 2 nd false, .row 5 its false])[j]? = some c →
      (j = 0 ∧ c = .cells 0 [.mth f (.ptr p 0), .ptr H.length 0, vb true]) ∨ (j = p ∧ c = .cells 0 [.row r, .mp (H.length + 1), .row (H.length + 2)]) ∨
      (j ≠ 0 ∧ j ≠ p ∧ j < H.length ∧ H[j]? = some c) ∨ (j = H.length + 0 ∧ c = .cells 0 [.row (H.length + 3)]) ∨ (j = H.length + 1 ∧ c = .map m n) ∨ (j = H.length + 2 ∧ c = .row 2 nd false) ∨ (j = H.length + 3 ∧ c = .row 5 its false) := fun j c hc => by
    by_cases hj : j < H.length
    · rw [List.getElem?_append_left (by simpa using hj)] at hc
      simp only [List.getElem?_set, List.length_set] at hc
      by_cases jp : p = j
      · subst jp; simp [hj] at hc; exact .inr (.inl ⟨rfl, hc.symm⟩)
      · by_cases j0 : 0 = j
        · subst j0; simp [jp, hj] at hc; exact .inl ⟨rfl, hc.symm⟩
        · simp [jp, j0] at hc; exact .inr (.inr (.inl ⟨Ne.symm j0, Ne.symm jp, hj, hc⟩))
    · rw [List.getElem?_append_right (by simpa using hj)] at hc
      simp only [List.length_set] at hc
      have : ∃ k, j = H.length + k := ⟨j - H.length, by omega⟩
      obtain ⟨k, rfl⟩ := this
      rw [Nat.add_sub_cancel_left] at hc
      match k, hc with
      | 0, hc => injection hc with hc; exact .inr (.inr (.inr (.inl ⟨rfl, hc.symm⟩)))
      | 1, hc => injection hc with hc; exact .inr (.inr (.inr (.inr (.inl ⟨rfl, hc.symm⟩))))
      | 2, hc => injection hc with hc; exact .inr (.inr (.inr (.inr (.inr (.inl ⟨rfl, hc.symm⟩)))))
      | 3, hc => injection hc with hc; exact .inr (.inr (.inr (.inr (.inr (.inr ⟨rfl, hc.symm⟩)))))
      | k + 4, hc => cases hc
  -- every place is one of the parts, or stands as it did
  have hcl : ∀ (j : Nat) (c : Blk), (((H.set 0 (.cells 0 [.mth f (.ptr p 0), .ptr H.length 0, vb true])).set p (.cells 0 [.row r, .mp (H.length + 1), .row (H.length + 2)])) ++
        [.cells 0 [.row (H.length + 3)], .map m n, .row 2 nd false, .row 5 its false])[j]? = some c →
      (∃ k b, src j = some k ∧ (viewHeap f .dead m n nd its)[k]? = some b ∧ b.writable = true ∧ c.writable = true) ∨ (src j = none ∧ j ≠ 0 ∧ H[j]? = some c) := fun j c hc => by
    rcases hget j c hc with ⟨rfl, rfl⟩ | ⟨rfl, rfl⟩ | ⟨h1, h2, h3, h4⟩ | ⟨rfl, rfl⟩ | ⟨rfl, rfl⟩ | ⟨rfl, rfl⟩ | ⟨rfl, rfl⟩
    · exact .inl ⟨0, _, e0, rfl, rfl, rfl⟩
    · exact .inl ⟨1, _, ep, rfl, rfl, rfl⟩
    · exact .inr ⟨eo j h1 h2 h3, h1, h4⟩
    · exact .inl ⟨3, _, en 0, rfl, rfl, rfl⟩
    · exact .inl ⟨4, _, en 1, rfl, rfl, rfl⟩
    · exact .inl ⟨5, _, en 2, rfl, rfl, rfl⟩
    · exact .inl ⟨6, _, en 3, rfl, rfl, rfl⟩
  have fs : ∀ j k, src j = some k → F' j = Fc k := fun j k h => by simp only [F', h]
  have fn : ∀ j, src j = none → F' j = F j := fun j h => by simp only [F', h]
  have sinj : ∀ i j k, src i = some k → src j = some k → i = j := by
    intro i j k hi hj
    simp only [src] at hi hj
    split at hi
    · rename_i e; injection hi with hi; subst hi
      split at hj
      · rename_i e'; omega
      · split at hj
        · cases hj
        · split at hj
          · cases hj
          · injection hj with hj; omega
    · split at hi
      · rename_i e; injection hi with hi; subst hi
        split at hj
        · cases hj
        · split at hj
          · rename_i e'; omega
          · split at hj
            · cases hj
            · injection hj with hj; omega
      · split at hi
        · cases hi
        · injection hi with hi; subst hi
          split at hj
          · injection hj with hj; omega
          · split at hj
            · injection hj with hj; omega
            · split at hj
              · cases hj
              · injection hj with hj; omega
  have inF0 : ∀ k (b : Blk), (viewHeap f .dead m n nd its)[k]? = some b → ∀ y ∈ Fc k, y ∈ F 0 := fun k b hb y hy => by
    rw [a4]; exact mem_foot (List.getElem?_eq_some_iff.1 hb).1 hy
  refine ⟨m, n, nd, its, ρ', F', hv, hle, ⟨by simp [ρ', hrlen], fun j c y hc hy => ?_, fun j c hc k hk => ?_, fun i j bi bj hbi hbj hij hw k hk => ?_⟩, ⟨rfl, rfl, rfl, Nat.le_refl _, fun _ _ _ => rfl, fun j c hc hcw k hk => ?_, fun j c hc k hk => ?_⟩⟩
  · rcases hget j c hc with ⟨rfl, rfl⟩ | ⟨rfl, rfl⟩ | ⟨h1, h2, h3, h4⟩ | ⟨rfl, rfl⟩ | ⟨rfl, rfl⟩ | ⟨rfl, rfl⟩ | ⟨rfl, rfl⟩
    · rw [fs 0 0 e0]
      have : ρ'[0]? = some x0 := hle 0 x0 v0
      rw [this] at hy; injection hy with hy; subst hy
      obtain ⟨b, vs, q1, q2, q3, q4⟩ := k0
      refine ⟨b, vs, q1, q2, ?_, q4⟩
      rw [← q3]
      simp only [denL, V.den, vb, gp, g3, c1, c3]
    · rw [fs _ 1 ep]
      rw [gp] at hy; injection hy with hy; subst hy
      obtain ⟨b, vs, q1, q2, q3, q4⟩ := k1
      refine ⟨b, vs, q1, q2, ?_, q4⟩
      rw [← q3]
      have hr2 : V.den ρc (.row 2) = some xr := by
        simp only [V.den, c2]
        simp only [V.den] at hxr
        split at hxr
        · injection hxr with hxr; subst hxr; rfl
        · cases hxr
      simp only [denL, gr, hr2]
      simp only [V.den, g4, c4, g5, c5]
    · rw [fn j (eo j h1 h2 h3)]
      have hjl : j < ρ.length := by rw [hrlen]; exact h3
      have : ρ'[j]? = ρ[j]? := List.getElem?_append_left hjl
      rw [this] at hy
      exact Blk.holds_le hle (fun _ _ => rfl) c (hs.each j c y h4 hy)
    · rw [fs _ 3 (en 0)]
      have g : ρ'[H.length + 0]? = some y3 := g3
      rw [g] at hy; injection hy with hy; subst hy
      obtain ⟨b, vs, q1, q2, q3, q4⟩ := k3
      refine ⟨b, vs, q1, q2, ?_, q4⟩
      rw [← q3]
      simp only [denL, V.den, g6, c6]
    · rw [fs _ 4 (en 1)]
      rw [g4] at hy; injection hy with hy; subst hy
      exact k4
    · rw [fs _ 5 (en 2)]
      rw [g5] at hy; injection hy with hy; subst hy
      exact k5
    · rw [fs _ 6 (en 3)]
      rw [g6] at hy; injection hy with hy; subst hy
      exact k6
  · rcases hcl j c hc with ⟨i, b, hj, hb, hw, _⟩ | ⟨hj, hj0, hc'⟩
    · rw [fs j i hj] at hk; exact a2.lt i b hb k hk
    · rw [fn j hj] at hk; exact hs.lt j c hc' k hk
  · rcases hcl i bi hbi with ⟨i', b, hi, hb, hbw, _⟩ | ⟨hi, hi0, hbi'⟩
    · rw [fs i i' hi] at hk
      rcases hcl j bj hbj with ⟨j', b', hj, hb', hbw', _⟩ | ⟨hj, hj0, hbj'⟩
      · rw [fs j j' hj]
        exact a2.disj i' j' b b' hb hb' (fun e => by subst e; exact hij (sinj i j i' hi hj)) hbw k hk
      · rw [fn j hj]
        exact hs.disj 0 j _ bj h0 hbj' (Ne.symm hj0) rfl k (inF0 i' b hb k hk)
    · rw [fn i hi] at hk
      rcases hcl j bj hbj with ⟨j', b', hj, hb', hbw', _⟩ | ⟨hj, hj0, hbj'⟩
      · rw [fs j j' hj]
        intro hm
        exact hs.disj i 0 bi _ hbi' h0 hi0 hw k hk (inF0 j' b' hb' k hm)
      · rw [fn j hj]
        exact hs.disj i j bi bj hbi' hbj' hij hw k hk
  · rcases hcl j c hc with ⟨i, b, hj, hb, hw, _⟩ | ⟨hj, hj0, hc'⟩
    · rw [fs j i hj] at hk; exact .inr ⟨0, _, h0, rfl, inF0 i b hb k hk⟩
    · rw [fn j hj] at hk; exact .inr ⟨j, c, hc', hcw, hk⟩
  · rcases hcl j c hc with ⟨i, b, hj, hb, hw, _⟩ | ⟨hj, hj0, hc'⟩
    · rw [fs j i hj] at hk; exact .inr ⟨0, _, h0, inF0 i b hb k hk⟩
    · rw [fn j hj] at hk; exact .inr ⟨j, c, hc', hk⟩

theorem pack_ok {f : FuncId} (hE : cfg.elT.abs = absView f) {g : FuncId} {s : Spec} (hspec : SpecOK cfg.P cfg.elT g s) : SpecOK cfg.P cfg.elT g (packS f s) := by
  refine ⟨hspec.1, fun args H K htr ρ F w vals hden hsat => ?_⟩
  unfold packS at htr
  simp only at htr
  split at htr
  · rename_i T0 f' p q h0
    split at htr
    · rename_i T1 r a T2 hp hq
      split at htr
      · rename_i ws m n hr ha
        have hc := cond_elim htr
        have hc1 := hc.1
        simp only [Bool.and_eq_true] at hc1
        obtain ⟨hf, hnd⟩ := hc1
        obtain rfl := Nat.eq_of_beq_eq_true hf
        have hq' := Req_elim hc.2
        have hsm : List.length ws ≤ 1048576 := by simpa using hq'.1
        obtain ⟨x, F1, hx, hs1, hfr1⟩ := sat_pack hE hsat h0 hp hq hr ha hnd hsm
        have hcall := hq'.2 x
        refine (callC_sound (cfg := cfg) (lk := none) (fun _ h => by cases h) hspec hcall hden hs1).mono ?_
        rintro e w' ⟨v, y, ρ', F', H', rfl, hK, hrel, hst⟩
        split at hK
        · rename_i ws' cur' x' r' h0' hp'
          have hd := cond_elim hK
          obtain rfl := Nat.eq_of_beq_eq_true hd.1
          obtain ⟨rfl, hk⟩ := hd.2
          obtain ⟨m', n', nd', its', ρ2, F2, hv, hle2, hs2, hfr2⟩ := sat_open hE hst.sat h0' hp' (hst.le p _ hx)
          exact ⟨v, y, ρ2, F2, _, rfl, hk m' n' nd' its' hv, hrel.le hle2, hst.le.trans hle2, hs2, (hfr1.trans hst.fr).trans hfr2⟩
        · exact hK.elim
      · exact htr.elim
    · exact htr.elim
  · exact htr.elim
end Go.Rx
end

section
/- Layer 02: the configurations of the executor, and what the functions tell, plainly. -/
namespace Go.Rx
open Go.Proofs
def tagT : TypeId → Option Nat := fun t => match t with | 42 => some 0 | 41 => some 1 | 65 => some 6 | 80 => some 2 | 107 => some 5 | _ => none
def elTT : ET := ⟨fun t => match t with | 0 => 3 | 1 => 4 | 2 => 94 | 5 => 117 | 6 => 64 | 10 => 49 | 14 => 23 | 26 => 28 | _ => 0, absView 97⟩
noncomputable def cfgB : Cfg where
  P := Try.prog
  tagOf := tagT
  elT := elTT
  sigs := fun _ => none
  keep := fun _ => none
  keepB := fun _ => none
  plan := fun _ => none

def btw (n low high : Int) : Bool := decide (low ≤ n) && decide (n ≤ high)
def i (xs : List Int) (k : Nat) : Int := xs.getD k 0
/-- Which configurations may be. -/
def rightM (c : List Int) : Bool :=
  btw (i c 0) 1 64 && (btw (i c 1) 1 8 && (btw (i c 2) 1 256 && (btw (i c 3) 1 64 && (btw (i c 4) 0 16 && (btw (i c 5) 0 64 && (btw (i c 6) 1 1099511627776 && (btw (i c 7) 1 8 && (btw (i c 8) 0 8 && (btw (i c 9) 0 16 && btw (i c 10) 1 8)))))))))

noncomputable def cfg66 : Cfg := cfgB
def sig11 : FuncId → Option Spec := fun f => match f with
  | 66 => some (fS [3] (fun _ => True) (fun xs => vb (btw (i xs 0) (i xs 1) (i xs 2))))
  | _ => none
noncomputable def cfg11 : Cfg := { cfgB with sigs := sig11, unroll := fun r => match r with | 2 => some 12 | _ => none }
def sig13 : FuncId → Option Spec := fun f => match f with
  | 68 => some (fS [0, 0, 0] (fun _ => True) (fun xs => vb (btw (i xs 0) (i xs 1) (i xs 2))))
  | _ => none
noncomputable def cfg13 : Cfg := { cfgB with sigs := sig13 }
end Go.Rx
end

section
/- Normal forms of the program's code (by a program of this session's; the kernel checks each). -/
namespace Go.Rx
open Go.Proofs
set_option maxRecDepth 100000
theorem nf66 (xs : List Int) (K : V → Heap → Prop) : (exF cfg66 Try.f66 (mkA [3] 0 xs) [] K) = (
    br (Decidable.decide (List.getD xs 0 0 ≥ List.getD xs 1 0))
      (
      K (vb (Decidable.decide (List.getD xs 0 0 ≤ List.getD xs 2 0))) [])
      (
      K (vb (Bool.false)) [])) := by
  kernel_rfl

theorem nf68 (xs : List Int) (K : V → Heap → Prop) : (exF cfg66 Try.f68 (mkA [0, 0, 0] 0 xs) [] K) = (
    br (Decidable.decide (List.getD xs 0 0 ≥ List.getD xs 1 0))
      (
      K (vb (Decidable.decide (List.getD xs 0 0 ≤ List.getD xs 2 0))) [])
      (
      K (vb (Bool.false)) [])) := by
  kernel_rfl

theorem nf67 (xs : List Int) (K : V → Heap → Prop) : (exF cfg66 Try.f67 (mkA [0] 0 xs) [] K) = (
    K (vi (Go.IntKind.wrap Go.IntKind.i64 (Int.tdiv (Go.IntKind.wrap Go.IntKind.i64 (Go.IntKind.wrap Go.IntKind.i64 (List.getD xs 0 0 + 4) - 1)) 4))) []) := by
  kernel_rfl

theorem nf11 (xs : List Int) (K : V → Heap → Prop) : (exF cfg11 Try.f11 (mkA [11] 0 xs) [] K) = (
    ((
      True) ∧ (
      br (!Go.Rx.btw (List.getD xs 0 0) 1 64)
        (
        K (vi (2)) [])
        (
        ((
          True) ∧ (
          br (!Go.Rx.btw (List.getD xs 1 0) 1 8)
            (
            K (vi (2)) [])
            (
            ((
              True) ∧ (
              br (!Go.Rx.btw (List.getD xs 2 0) 1 256)
                (
                K (vi (2)) [])
                (
                ((
                  True) ∧ (
                  br (!Go.Rx.btw (List.getD xs 3 0) 1 64)
                    (
                    K (vi (2)) [])
                    (
                    ((
                      True) ∧ (
                      br (!Go.Rx.btw (List.getD xs 4 0) 0 16)
                        (
                        K (vi (2)) [])
                        (
                        ((
                          True) ∧ (
                          br (!Go.Rx.btw (List.getD xs 5 0) 0 64)
                            (
                            K (vi (2)) [])
                            (
                            ((
                              True) ∧ (
                              br (!Go.Rx.btw (List.getD xs 6 0) 1 1099511627776)
                                (
                                K (vi (2)) [])
                                (
                                ((
                                  True) ∧ (
                                  br (!Go.Rx.btw (List.getD xs 7 0) 1 8)
                                    (
                                    K (vi (2)) [])
                                    (
                                    ((
                                      True) ∧ (
                                      br (!Go.Rx.btw (List.getD xs 8 0) 0 8)
                                        (
                                        K (vi (2)) [])
                                        (
                                        ((
                                          True) ∧ (
                                          br (!Go.Rx.btw (List.getD xs 9 0) 0 16)
                                            (
                                            K (vi (2)) [])
                                            (
                                            ((
                                              True) ∧ (
                                              br (!Go.Rx.btw (List.getD xs 10 0) 1 8)
                                                (
                                                K (vi (2)) [])
                                                (
                                                K (vi (0)) [])))))))))))))))))))))))))))))))))) := by
  kernel_rfl

theorem nf13 (xs : List Int) (K : V → Heap → Prop) : (exF cfg13 Try.f13 (mkA [11] 0 xs) [] K) = (
    ((
      True) ∧ (
      br (Go.Rx.btw (List.getD xs 0 0) 1 64)
        (
        ((
          True) ∧ (
          br (Go.Rx.btw (List.getD xs 1 0) 1 8)
            (
            ((
              True) ∧ (
              br (Go.Rx.btw (List.getD xs 2 0) 1 256)
                (
                ((
                  True) ∧ (
                  ((
                    True) ∧ (
                    br (Go.Rx.btw (List.getD xs 4 0) 0 16)
                      (
                      ((
                        True) ∧ (
                        br (Go.Rx.btw (List.getD xs 5 0) 0 64)
                          (
                          ((
                            True) ∧ (
                            br (Go.Rx.btw (List.getD xs 3 0) 1 64)
                              (
                              br (Go.Rx.btw (List.getD xs 6 0) 1 1099511627776)
                                (
                                ((
                                  True) ∧ (
                                  br (Go.Rx.btw (List.getD xs 7 0) 1 8)
                                    (
                                    ((
                                      True) ∧ (
                                      br (Go.Rx.btw (List.getD xs 8 0) 0 8)
                                        (
                                        ((
                                          True) ∧ (
                                          br (Go.Rx.btw (List.getD xs 9 0) 0 16)
                                            (
                                            ((
                                              True) ∧ (
                                              K (vb (Go.Rx.btw (List.getD xs 10 0) 1 8)) [])))
                                            (
                                            K (vb (Bool.false)) []))))
                                        (
                                        K (vb (Bool.false)) []))))
                                    (
                                    K (vb (Bool.false)) []))))
                                (
                                K (vb (Bool.false)) []))
                              (
                              K (vb (Bool.false)) []))))
                          (
                          br (Go.Rx.btw (List.getD xs 3 0) 1 64)
                            (
                            K (vb (Bool.false)) [])
                            (
                            K (vb (Bool.false)) [])))))
                      (
                      br (Go.Rx.btw (List.getD xs 3 0) 1 64)
                        (
                        K (vb (Bool.false)) [])
                        (
                        K (vb (Bool.false)) [])))))))
                (
                ((
                  True) ∧ (
                  br (Go.Rx.btw (List.getD xs 4 0) 0 16)
                    (
                    ((
                      True) ∧ (
                      br (Go.Rx.btw (List.getD xs 5 0) 0 64)
                        (
                        ((
                          True) ∧ (
                          K (vb (Bool.false)) [])))
                        (
                        K (vb (Bool.false)) []))))
                    (
                    K (vb (Bool.false)) [])))))))
            (
            ((
              True) ∧ (
              br (Go.Rx.btw (List.getD xs 4 0) 0 16)
                (
                ((
                  True) ∧ (
                  br (Go.Rx.btw (List.getD xs 5 0) 0 64)
                    (
                    ((
                      True) ∧ (
                      K (vb (Bool.false)) [])))
                    (
                    K (vb (Bool.false)) []))))
                (
                K (vb (Bool.false)) [])))))))
        (
        ((
          True) ∧ (
          br (Go.Rx.btw (List.getD xs 4 0) 0 16)
            (
            ((
              True) ∧ (
              br (Go.Rx.btw (List.getD xs 5 0) 0 64)
                (
                ((
                  True) ∧ (
                  K (vb (Bool.false)) [])))
                (
                K (vb (Bool.false)) []))))
            (
            K (vb (Bool.false)) []))))))) := by
  kernel_rfl

end Go.Rx
end

section
namespace Go.Rx
open Go.Proofs
attribute [local irreducible] Loop ex exF contK roundK retK at_ bodyOf mkEnv mkA

theorem tags_ok : ∀ (t tg : Nat), tagT t = some tg → Try.prog.underlying t = some (.slice (elTT tg)) ∧ ∃ i z, Try.prog.info? (elTT tg) = some i ∧ i.zero = some z ∧ z.cells = (elEnc tg (elD tg)).toArray ∧ i.size = elM tg ∧ i.bytes ≤ 65536 := by
  intro t tg h
  unfold tagT at h
  split at h
  · injection h with h; subst h; exact tag_ok (by kernel_rfl) (by kernel_rfl) (by kernel_rfl) (by kernel_rfl) (by kernel_rfl) (by kernel_rfl)
  · injection h with h; subst h; exact tag_ok (by kernel_rfl) (by kernel_rfl) (by kernel_rfl) (by kernel_rfl) (by kernel_rfl) (by kernel_rfl)
  · injection h with h; subst h; exact tag_ok (by kernel_rfl) (by kernel_rfl) (by kernel_rfl) (by kernel_rfl) (by kernel_rfl) (by kernel_rfl)
  · injection h with h; subst h; exact tag_ok (by kernel_rfl) (by kernel_rfl) (by kernel_rfl) (by kernel_rfl) (by kernel_rfl) (by kernel_rfl)
  · injection h with h; subst h; exact tag_ok (by kernel_rfl) (by kernel_rfl) (by kernel_rfl) (by kernel_rfl) (by kernel_rfl) (by kernel_rfl)
  · cases h

theorem small_ok : ∀ (t tg : Nat), tagT t = some tg → elM tg ≤ 4096 := by
  intro t tg h
  unfold tagT at h
  split at h
  · injection h with h; subst h; decide
  · injection h with h; subst h; decide
  · injection h with h; subst h; decide
  · injection h with h; subst h; decide
  · injection h with h; subst h; decide
  · cases h

theorem mixed_ok : Try.prog.follows .mixedOrders = true := by kernel_rfl

theorem cfg_ok {cfg : Cfg} (h1 : cfg.P = Try.prog) (h2 : cfg.tagOf = tagT) (h3 : cfg.elT = elTT) : CfgOK cfg := by
  obtain ⟨P, tagOf, elT, a, b, c, d, e, f, g⟩ := cfg
  simp only at h1 h2 h3
  subst h1; subst h2; subst h3
  exact ⟨small_ok, tags_ok, mixed_ok⟩

theorem nosig {cfg : Cfg} (h : cfg.sigs = fun _ => none) : ∀ g s, cfg.sigs g = some s → SpecOK cfg.P cfg.elT g s := by
  intro g s hs; rw [h] at hs; cases hs

theorem btw_of {n low high : Int} {K : V → Heap → Prop} (h : K (vb (btw n low high)) []) : br (decide (n ≥ low)) (K (vb (decide (n ≤ high))) []) (K (vb false) []) := by
  unfold btw at h
  refine br_intro (fun h1 => ?_) (fun h1 => ?_)
  · have h1 : low ≤ n := of_decide_eq_true h1
    simpa [h1] using h
  · have h1 : ¬ low ≤ n := of_decide_eq_false h1
    simpa [h1] using h

theorem holds_ok : SpecOK Try.prog elTT 66 (fS [3] (fun _ => True) (fun xs => vb (btw (i xs 0) (i xs 1) (i xs 2)))) :=
  fS_ok (cfg := cfg66) (cfg_ok rfl rfl rfl) (nosig rfl) (fn := Try.f66) (by kernel_rfl) (by kernel_rfl) (by kernel_rfl) fun xs K _ hk => Eq.mpr (nf66 xs K) (btw_of hk)

theorem between_ok : SpecOK Try.prog elTT 68 (fS [0, 0, 0] (fun _ => True) (fun xs => vb (btw (i xs 0) (i xs 1) (i xs 2)))) :=
  fS_ok (cfg := cfg66) (cfg_ok rfl rfl rfl) (nosig rfl) (fn := Try.f68) (by kernel_rfl) (by kernel_rfl) (by kernel_rfl) fun xs K _ hk => Eq.mpr (nf68 xs K) (btw_of hk)

theorem chunks_ok : SpecOK Try.prog elTT 67 (fS [0] (fun xs => 0 ≤ i xs 0 ∧ i xs 0 ≤ 1099511627776) (fun xs => vi ((i xs 0 + 3) / 4))) :=
  fS_ok (cfg := cfg66) (cfg_ok rfl rfl rfl) (nosig rfl) (fn := Try.f67) (by kernel_rfl) (by kernel_rfl) (by kernel_rfl) fun xs K hp hk => Eq.mpr (nf67 xs K) (by
    unfold i at hp hk
    generalize xs.getD 0 0 = x at *
    simp (disch := omega) only [wrap_id, Int.tdiv_eq_ediv_of_nonneg]
    have e : x + 4 - 1 = x + 3 := by omega
    rw [e]
    exact hk)

theorem sig11_ok : ∀ g s, sig11 g = some s → SpecOK Try.prog elTT g s := by
  intro g s hs
  unfold sig11 at hs
  split at hs
  · injection hs with hs; subst hs; exact holds_ok
  · cases hs

theorem sig13_ok : ∀ g s, sig13 g = some s → SpecOK Try.prog elTT g s := by
  intro g s hs
  unfold sig13 at hs
  split at hs
  · injection hs with hs; subst hs; exact between_ok
  · cases hs

theorem check_ok : SpecOK Try.prog elTT 11 (fS [11] (fun _ => True) (fun c => vi (bif rightM c then 0 else 2))) :=
  fS_ok (cfg := cfg11) (cfg_ok rfl rfl rfl) sig11_ok (fn := Try.f11) (by kernel_rfl) (by kernel_rfl) (by kernel_rfl) fun xs K _ hk => Eq.mpr (nf11 xs K) (by
    unfold rightM i at hk
    generalize btw (xs.getD 0 0) 1 64 = b0 at *
    generalize btw (xs.getD 1 0) 1 8 = b1 at *
    generalize btw (xs.getD 2 0) 1 256 = b2 at *
    generalize btw (xs.getD 3 0) 1 64 = b3 at *
    generalize btw (xs.getD 4 0) 0 16 = b4 at *
    generalize btw (xs.getD 5 0) 0 64 = b5 at *
    generalize btw (xs.getD 6 0) 1 1099511627776 = b6 at *
    generalize btw (xs.getD 7 0) 1 8 = b7 at *
    generalize btw (xs.getD 8 0) 0 8 = b8 at *
    generalize btw (xs.getD 9 0) 0 16 = b9 at *
    generalize btw (xs.getD 10 0) 1 8 = b10 at *
    refine ⟨trivial, ?_⟩
    cases b0 with
    | false => exact hk
    | true =>
    refine br_false rfl ?_
    refine ⟨trivial, ?_⟩
    cases b1 with
    | false => exact hk
    | true =>
    refine br_false rfl ?_
    refine ⟨trivial, ?_⟩
    cases b2 with
    | false => exact hk
    | true =>
    refine br_false rfl ?_
    refine ⟨trivial, ?_⟩
    cases b3 with
    | false => exact hk
    | true =>
    refine br_false rfl ?_
    refine ⟨trivial, ?_⟩
    cases b4 with
    | false => exact hk
    | true =>
    refine br_false rfl ?_
    refine ⟨trivial, ?_⟩
    cases b5 with
    | false => exact hk
    | true =>
    refine br_false rfl ?_
    refine ⟨trivial, ?_⟩
    cases b6 with
    | false => exact hk
    | true =>
    refine br_false rfl ?_
    refine ⟨trivial, ?_⟩
    cases b7 with
    | false => exact hk
    | true =>
    refine br_false rfl ?_
    refine ⟨trivial, ?_⟩
    cases b8 with
    | false => exact hk
    | true =>
    refine br_false rfl ?_
    refine ⟨trivial, ?_⟩
    cases b9 with
    | false => exact hk
    | true =>
    refine br_false rfl ?_
    refine ⟨trivial, ?_⟩
    cases b10 with
    | false => exact hk
    | true =>
    refine br_false rfl ?_
    exact hk)

theorem right_ok : SpecOK Try.prog elTT 13 (fS [11] (fun _ => True) (fun c => vb (rightM c))) :=
  fS_ok (cfg := cfg13) (cfg_ok rfl rfl rfl) sig13_ok (fn := Try.f13) (by kernel_rfl) (by kernel_rfl) (by kernel_rfl) fun xs K _ hk => Eq.mpr (nf13 xs K) (by
    unfold rightM i at hk
    generalize btw (xs.getD 0 0) 1 64 = b0 at *
    generalize btw (xs.getD 1 0) 1 8 = b1 at *
    generalize btw (xs.getD 2 0) 1 256 = b2 at *
    generalize btw (xs.getD 3 0) 1 64 = b3 at *
    generalize btw (xs.getD 4 0) 0 16 = b4 at *
    generalize btw (xs.getD 5 0) 0 64 = b5 at *
    generalize btw (xs.getD 6 0) 1 1099511627776 = b6 at *
    generalize btw (xs.getD 7 0) 1 8 = b7 at *
    generalize btw (xs.getD 8 0) 0 8 = b8 at *
    generalize btw (xs.getD 9 0) 0 16 = b9 at *
    generalize btw (xs.getD 10 0) 1 8 = b10 at *
    revert hk
    cases b0 <;> cases b1 <;> cases b2 <;> cases b3 <;> simp [br] <;> cases b4 <;> cases b5 <;> simp [br] <;> cases b6 <;> simp [br] <;> cases b7 <;> cases b8 <;> cases b9 <;> simp [br])

end Go.Rx
end

section
namespace Go.Rx
open Go.Proofs

/-- Two ways, by a test. -/
def fS2 (sh : List Nat) (b : List Int → Bool) (f g : List Int → V) : Spec where
  tr := fun args H K => match H, shA sh args with
    | [], some xs => (b xs = true → K (f xs) []) ∧ (b xs = false → K (g xs) [])
    | _, _ => False

theorem fS2_ok {cfg : Cfg} (ok : CfgOK cfg) (hsig : ∀ g s, cfg.sigs g = some s → SpecOK cfg.P cfg.elT g s) {g : FuncId} {fn : Func} {sh : List Nat} {b : List Int → Bool} {f1 f2 : List Int → V}
    (hg : cfg.P.funcs[g]? = some fn) (hname : (fn.name == "runtime.NumGoroutine") = false) (hb : fn.body.isNone = false)
    (h : ∀ (xs : List Int) (K : V → Heap → Prop), (b xs = true → K (f1 xs) []) → (b xs = false → K (f2 xs) []) → exF cfg fn (mkA sh 0 xs) [] K) : SpecOK cfg.P cfg.elT g (fS2 sh b f1 f2) := by
  refine spec_of_exF ok hsig hg hname hb ?_
  intro args H K ht
  unfold fS2 at ht
  simp only at ht
  split at ht
  · rename_i xs hxs
    have e := shA_mk [] hxs
    simp only [List.length_nil, List.nil_append] at e
    rw [e]
    exact h _ K ht.1 ht.2
  · exact ht.elim

def a0 (c : List Int) : Int := 3 + i c 3
def a1 (c : List Int) : Int := a0 c + (i c 2 + 3) / 4
def a6 (c : List Int) : Int := a1 c + 5 * i c 2
def a7 (c : List Int) : Int := a6 c + 62
def a8 (c : List Int) : Int := a7 c + 5 * (i c 1 * (i c 8 + 1))
def a9 (c : List Int) : Int := a8 c + 5 * (i c 9 + 1)
def a10 (c : List Int) : Int := (a9 c + 32 * i c 2 + 127) / 128 * 128
def a11 (c : List Int) : Int := a10 c + 32 * i c 2
/-- A layout, as numbers: the configuration, and where each part begins. -/
def layM (c : List Int) : List Int :=
  [i c 0, i c 1, i c 2, i c 3, i c 4, i c 5, i c 6, i c 7, i c 8, i c 9, i c 10, a0 c, a1 c, a1 c + i c 2, a1 c + 2 * i c 2, a1 c + 3 * i c 2, a1 c + 4 * i c 2, a6 c, a7 c, a8 c, a9 c, a10 c, a11 c]

def zer (n : Nat) : List Int := List.replicate n 0
def layV (c : List Int) : V := .agg (icV 23 0 (layM c))
def lay0 : V := .agg (icV 23 0 (zer 23))

def sig12 : FuncId → Option Spec := fun f => match f with
  | 11 => some (fS [11] (fun _ => True) (fun c => vi (bif rightM c then 0 else 2)))
  | 67 => some (fS [0] (fun xs => 0 ≤ i xs 0 ∧ i xs 0 ≤ 1099511627776) (fun xs => vi ((i xs 0 + 3) / 4)))
  | _ => none
noncomputable def cfg12 : Cfg := { cfgB with sigs := sig12, unroll := fun r => match r with | 8 => some 6 | 19 => some 12 | _ => none }
end Go.Rx
end

section
/- Normal forms of the program's code (by a program of this session's; the kernel checks each). -/
namespace Go.Rx
open Go.Proofs
set_option maxRecDepth 100000
theorem nf12 (xs : List Int) (K : V → Heap → Prop) : (exF cfg12 Try.f12 (mkA [11] 0 xs) [] K) = (
    ((
      True) ∧ (
      br ((bif Go.Rx.rightM [List.getD xs (0 : Nat) (0 : Int), List.getD xs (1 : Nat) (0 : Int), List.getD xs (2 : Nat) (0 : Int), List.getD xs (3 : Nat) (0 : Int), List.getD xs (4 : Nat) (0 : Int), List.getD xs (5 : Nat) (0 : Int), List.getD xs (6 : Nat) (0 : Int), List.getD xs (7 : Nat) (0 : Int), List.getD xs (8 : Nat) (0 : Int), List.getD xs (9 : Nat) (0 : Int), List.getD xs (10 : Nat) (0 : Int)] then (0 : Int) else (2 : Int)) != (0 : Int))
        (
        K (.tup [.agg [vi (0), vi (0), vi (0), vi (0), vi (0), vi (0), vi (0), vi (0), vi (0), vi (0), vi (0), vi (0), vi (0), vi (0), vi (0), vi (0), vi (0), vi (0), vi (0), vi (0), vi (0), vi (0), vi (0)], vi (bif Go.Rx.rightM [List.getD xs (0 : Nat) (0 : Int), List.getD xs (1 : Nat) (0 : Int), List.getD xs (2 : Nat) (0 : Int), List.getD xs (3 : Nat) (0 : Int), List.getD xs (4 : Nat) (0 : Int), List.getD xs (5 : Nat) (0 : Int), List.getD xs (6 : Nat) (0 : Int), List.getD xs (7 : Nat) (0 : Int), List.getD xs (8 : Nat) (0 : Int), List.getD xs (9 : Nat) (0 : Int), List.getD xs (10 : Nat) (0 : Int)] then (0 : Int) else (2 : Int))]) [])
        (
        ((
          ((
            (Int.NonNeg (List.getD xs 2 0 - 0))) ∧ (
            (Int.NonNeg (1099511627776 - List.getD xs 2 0))))) ∧ (
          K (.tup [.agg [vi (List.getD xs 0 0), vi (List.getD xs 1 0), vi (List.getD xs 2 0), vi (List.getD xs 3 0), vi (List.getD xs 4 0), vi (List.getD xs 5 0), vi (List.getD xs 6 0), vi (List.getD xs 7 0), vi (List.getD xs 8 0), vi (List.getD xs 9 0), vi (List.getD xs 10 0), vi (Go.IntKind.wrap Go.IntKind.i64 (3 + List.getD xs 3 0)), vi (Go.IntKind.wrap Go.IntKind.i64 (Go.IntKind.wrap Go.IntKind.i64 (3 + List.getD xs 3 0) + (List.getD xs 2 0 + 3) / 4)), vi (Go.IntKind.wrap Go.IntKind.i64 (Go.IntKind.wrap Go.IntKind.i64 (Go.IntKind.wrap Go.IntKind.i64 (3 + List.getD xs 3 0) + (List.getD xs 2 0 + 3) / 4) + List.getD xs 2 0)), vi (Go.IntKind.wrap Go.IntKind.i64 (Go.IntKind.wrap Go.IntKind.i64 (Go.IntKind.wrap Go.IntKind.i64 (Go.IntKind.wrap Go.IntKind.i64 (3 + List.getD xs 3 0) + (List.getD xs 2 0 + 3) / 4) + List.getD xs 2 0) + List.getD xs 2 0)), vi (Go.IntKind.wrap Go.IntKind.i64 (Go.IntKind.wrap Go.IntKind.i64 (Go.IntKind.wrap Go.IntKind.i64 (Go.IntKind.wrap Go.IntKind.i64 (Go.IntKind.wrap Go.IntKind.i64 (3 + List.getD xs 3 0) + (List.getD xs 2 0 + 3) / 4) + List.getD xs 2 0) + List.getD xs 2 0) + List.getD xs 2 0)), vi (Go.IntKind.wrap Go.IntKind.i64 (Go.IntKind.wrap Go.IntKind.i64 (Go.IntKind.wrap Go.IntKind.i64 (Go.IntKind.wrap Go.IntKind.i64 (Go.IntKind.wrap Go.IntKind.i64 (Go.IntKind.wrap Go.IntKind.i64 (3 + List.getD xs 3 0) + (List.getD xs 2 0 + 3) / 4) + List.getD xs 2 0) + List.getD xs 2 0) + List.getD xs 2 0) + List.getD xs 2 0)), vi (Go.IntKind.wrap Go.IntKind.i64 (Go.IntKind.wrap Go.IntKind.i64 (Go.IntKind.wrap Go.IntKind.i64 (Go.IntKind.wrap Go.IntKind.i64 (Go.IntKind.wrap Go.IntKind.i64 (Go.IntKind.wrap Go.IntKind.i64 (Go.IntKind.wrap Go.IntKind.i64 (3 + List.getD xs 3 0) + (List.getD xs 2 0 + 3) / 4) + List.getD xs 2 0) + List.getD xs 2 0) + List.getD xs 2 0) + List.getD xs 2 0) + List.getD xs 2 0)), vi (Go.IntKind.wrap Go.IntKind.i64 (Go.IntKind.wrap Go.IntKind.i64 (Go.IntKind.wrap Go.IntKind.i64 (Go.IntKind.wrap Go.IntKind.i64 (Go.IntKind.wrap Go.IntKind.i64 (Go.IntKind.wrap Go.IntKind.i64 (Go.IntKind.wrap Go.IntKind.i64 (Go.IntKind.wrap Go.IntKind.i64 (3 + List.getD xs 3 0) + (List.getD xs 2 0 + 3) / 4) + List.getD xs 2 0) + List.getD xs 2 0) + List.getD xs 2 0) + List.getD xs 2 0) + List.getD xs 2 0) + 62)), vi (Go.IntKind.wrap Go.IntKind.i64 (Go.IntKind.wrap Go.IntKind.i64 (Go.IntKind.wrap Go.IntKind.i64 (Go.IntKind.wrap Go.IntKind.i64 (Go.IntKind.wrap Go.IntKind.i64 (Go.IntKind.wrap Go.IntKind.i64 (Go.IntKind.wrap Go.IntKind.i64 (Go.IntKind.wrap Go.IntKind.i64 (Go.IntKind.wrap Go.IntKind.i64 (3 + List.getD xs 3 0) + (List.getD xs 2 0 + 3) / 4) + List.getD xs 2 0) + List.getD xs 2 0) + List.getD xs 2 0) + List.getD xs 2 0) + List.getD xs 2 0) + 62) + Go.IntKind.wrap Go.IntKind.i64 (Go.IntKind.wrap Go.IntKind.i64 (List.getD xs 1 0 * 5) * Go.IntKind.wrap Go.IntKind.i64 (List.getD xs 8 0 + 1)))), vi (Go.IntKind.wrap Go.IntKind.i64 (Go.IntKind.wrap Go.IntKind.i64 (Go.IntKind.wrap Go.IntKind.i64 (Go.IntKind.wrap Go.IntKind.i64 (Go.IntKind.wrap Go.IntKind.i64 (Go.IntKind.wrap Go.IntKind.i64 (Go.IntKind.wrap Go.IntKind.i64 (Go.IntKind.wrap Go.IntKind.i64 (Go.IntKind.wrap Go.IntKind.i64 (Go.IntKind.wrap Go.IntKind.i64 (3 + List.getD xs 3 0) + (List.getD xs 2 0 + 3) / 4) + List.getD xs 2 0) + List.getD xs 2 0) + List.getD xs 2 0) + List.getD xs 2 0) + List.getD xs 2 0) + 62) + Go.IntKind.wrap Go.IntKind.i64 (Go.IntKind.wrap Go.IntKind.i64 (List.getD xs 1 0 * 5) * Go.IntKind.wrap Go.IntKind.i64 (List.getD xs 8 0 + 1))) + Go.IntKind.wrap Go.IntKind.i64 (5 * Go.IntKind.wrap Go.IntKind.i64 (List.getD xs 9 0 + 1)))), vi (Go.IntKind.wrap Go.IntKind.i64 (Go.IntKind.wrap Go.IntKind.i64 (Int.tdiv (Go.IntKind.wrap Go.IntKind.i64 (Go.IntKind.wrap Go.IntKind.i64 (Go.IntKind.wrap Go.IntKind.i64 (Go.IntKind.wrap Go.IntKind.i64 (Go.IntKind.wrap Go.IntKind.i64 (Go.IntKind.wrap Go.IntKind.i64 (Go.IntKind.wrap Go.IntKind.i64 (Go.IntKind.wrap Go.IntKind.i64 (Go.IntKind.wrap Go.IntKind.i64 (Go.IntKind.wrap Go.IntKind.i64 (Go.IntKind.wrap Go.IntKind.i64 (Go.IntKind.wrap Go.IntKind.i64 (Go.IntKind.wrap Go.IntKind.i64 (3 + List.getD xs 3 0) + (List.getD xs 2 0 + 3) / 4) + List.getD xs 2 0) + List.getD xs 2 0) + List.getD xs 2 0) + List.getD xs 2 0) + List.getD xs 2 0) + 62) + Go.IntKind.wrap Go.IntKind.i64 (Go.IntKind.wrap Go.IntKind.i64 (List.getD xs 1 0 * 5) * Go.IntKind.wrap Go.IntKind.i64 (List.getD xs 8 0 + 1))) + Go.IntKind.wrap Go.IntKind.i64 (5 * Go.IntKind.wrap Go.IntKind.i64 (List.getD xs 9 0 + 1))) + Go.IntKind.wrap Go.IntKind.i64 (List.getD xs 2 0 * 32)) + 128) - 1)) 128) * 128)), vi (Go.IntKind.wrap Go.IntKind.i64 (Go.IntKind.wrap Go.IntKind.i64 (Go.IntKind.wrap Go.IntKind.i64 (Int.tdiv (Go.IntKind.wrap Go.IntKind.i64 (Go.IntKind.wrap Go.IntKind.i64 (Go.IntKind.wrap Go.IntKind.i64 (Go.IntKind.wrap Go.IntKind.i64 (Go.IntKind.wrap Go.IntKind.i64 (Go.IntKind.wrap Go.IntKind.i64 (Go.IntKind.wrap Go.IntKind.i64 (Go.IntKind.wrap Go.IntKind.i64 (Go.IntKind.wrap Go.IntKind.i64 (Go.IntKind.wrap Go.IntKind.i64 (Go.IntKind.wrap Go.IntKind.i64 (Go.IntKind.wrap Go.IntKind.i64 (Go.IntKind.wrap Go.IntKind.i64 (3 + List.getD xs 3 0) + (List.getD xs 2 0 + 3) / 4) + List.getD xs 2 0) + List.getD xs 2 0) + List.getD xs 2 0) + List.getD xs 2 0) + List.getD xs 2 0) + 62) + Go.IntKind.wrap Go.IntKind.i64 (Go.IntKind.wrap Go.IntKind.i64 (List.getD xs 1 0 * 5) * Go.IntKind.wrap Go.IntKind.i64 (List.getD xs 8 0 + 1))) + Go.IntKind.wrap Go.IntKind.i64 (5 * Go.IntKind.wrap Go.IntKind.i64 (List.getD xs 9 0 + 1))) + Go.IntKind.wrap Go.IntKind.i64 (List.getD xs 2 0 * 32)) + 128) - 1)) 128) * 128) + Go.IntKind.wrap Go.IntKind.i64 (List.getD xs 2 0 * 32)))], vi (0)]) [])))))) := by
  kernel_rfl

end Go.Rx
end

section
namespace Go.Rx
open Go.Proofs
attribute [local irreducible] Loop ex exF contK roundK retK at_ bodyOf mkEnv mkA

theorem sig12_ok : ∀ g s, sig12 g = some s → SpecOK Try.prog elTT g s := by
  intro g s hs
  unfold sig12 at hs
  split at hs
  · injection hs with hs; subst hs; exact check_ok
  · injection hs with hs; subst hs; exact chunks_ok
  · cases hs

theorem btw_iff {n lo hi : Int} : btw n lo hi = true ↔ lo ≤ n ∧ n ≤ hi := by simp [btw]

structure Right (c : List Int) : Prop where
  h0 : 1 ≤ i c 0 ∧ i c 0 ≤ 64
  h1 : 1 ≤ i c 1 ∧ i c 1 ≤ 8
  h2 : 1 ≤ i c 2 ∧ i c 2 ≤ 256
  h3 : 1 ≤ i c 3 ∧ i c 3 ≤ 64
  h4 : 0 ≤ i c 4 ∧ i c 4 ≤ 16
  h5 : 0 ≤ i c 5 ∧ i c 5 ≤ 64
  h6 : 1 ≤ i c 6 ∧ i c 6 ≤ 1099511627776
  h7 : 1 ≤ i c 7 ∧ i c 7 ≤ 8
  h8 : 0 ≤ i c 8 ∧ i c 8 ≤ 8
  h9 : 0 ≤ i c 9 ∧ i c 9 ≤ 16
  h10 : 1 ≤ i c 10 ∧ i c 10 ≤ 8

theorem right_iff {c : List Int} : rightM c = true ↔ Right c := by
  unfold rightM
  simp only [Bool.and_eq_true, btw_iff]
  constructor
  · rintro ⟨a, b, c, d, e, f, g, h, j, k, l⟩; exact ⟨a, b, c, d, e, f, g, h, j, k, l⟩
  · rintro ⟨a, b, c, d, e, f, g, h, j, k, l⟩; exact ⟨a, b, c, d, e, f, g, h, j, k, l⟩

theorem of_ok : SpecOK Try.prog elTT 12 (fS2 [11] rightM (fun c => .tup [layV c, vi 0]) (fun _ => .tup [lay0, vi 2])) :=
  fS2_ok (cfg := cfg12) (cfg_ok rfl rfl rfl) sig12_ok (fn := Try.f12) (by kernel_rfl) (by kernel_rfl) (by kernel_rfl) fun xs K h1 h2 => Eq.mpr (nf12 xs K) (by
    refine ⟨trivial, ?_⟩
    have e : rightM [List.getD xs 0 0, List.getD xs 1 0, List.getD xs 2 0, List.getD xs 3 0, List.getD xs 4 0, List.getD xs 5 0, List.getD xs 6 0, List.getD xs 7 0, List.getD xs 8 0, List.getD xs 9 0, List.getD xs 10 0] = rightM xs := rfl
    rw [e]
    cases hr : rightM xs with
    | false => exact h2 hr
    | true =>
      refine br_false rfl ?_
      have R := right_iff.1 hr
      have hk := h1 hr
      obtain ⟨r0, r1, r2, r3, r4, r5, r6, r7, r8, r9, r10⟩ := R
      refine ⟨⟨r2.1 |> fun h => (show 0 ≤ i xs 2 by omega), (show i xs 2 ≤ 1099511627776 by omega)⟩, ?_⟩
      have hm1 : 0 ≤ i xs 1 * (i xs 8 + 1) := Int.mul_nonneg (by omega) (by omega)
      have hm2 : i xs 1 * (i xs 8 + 1) ≤ 8 * 9 := Int.mul_le_mul (by omega) (by omega) (by omega) (by omega)
      unfold layV icV layM a11 a10 a9 a8 a7 a6 a1 a0 at hk
      unfold i at *
      generalize hq0 : xs.getD 0 0 = q0 at *
      generalize hq1 : xs.getD 1 0 = q1 at *
      generalize hq2 : xs.getD 2 0 = q2 at *
      generalize hq3 : xs.getD 3 0 = q3 at *
      generalize hq4 : xs.getD 4 0 = q4 at *
      generalize hq5 : xs.getD 5 0 = q5 at *
      generalize hq6 : xs.getD 6 0 = q6 at *
      generalize hq7 : xs.getD 7 0 = q7 at *
      generalize hq8 : xs.getD 8 0 = q8 at *
      generalize hq9 : xs.getD 9 0 = q9 at *
      generalize hq10 : xs.getD 10 0 = q10 at *
      have em : q1 * 5 * (q8 + 1) = 5 * (q1 * (q8 + 1)) := by rw [Int.mul_comm q1 5, Int.mul_assoc]
      generalize hM : q1 * (q8 + 1) = M at *
      simp (disch := omega) only [wrap_id, Int.tdiv_eq_ediv_of_nonneg, em]
      have cong : ∀ {a b : Int} {l m : List V}, a = b → l = m → vi a :: l = vi b :: m := fun h1 h2 => by rw [h1, h2]
      refine Eq.mp (congrArg (fun l => K (.tup [.agg l, vi 0]) []) ?_) hk
      refine cong rfl (cong rfl (cong rfl (cong rfl (cong rfl (cong rfl (cong rfl (cong rfl (cong rfl (cong rfl (cong rfl ?_))))))))))
      refine cong ?_ (cong ?_ (cong ?_ (cong ?_ (cong ?_ (cong ?_ (cong ?_ (cong ?_ (cong ?_ (cong ?_ (cong ?_ (cong ?_ rfl)))))))))))
      all_goals simp only [List.getD_cons_zero, List.getD_cons_succ]
      all_goals omega)
end Go.Rx
end

section
namespace Go.Rx
open Go.Proofs

/-- A callee that is run in place. -/
def inl (cfg : Cfg) (fn : Func) : Spec where
  tr := fun args H K => exF cfg fn args H K

theorem inl_ok {cfg : Cfg} (ok : CfgOK cfg) (hsig : ∀ g s, cfg.sigs g = some s → SpecOK cfg.P cfg.elT g s) {g : FuncId} {fn : Func}
    (hg : cfg.P.funcs[g]? = some fn) (hname : (fn.name == "runtime.NumGoroutine") = false) (hb : fn.body.isNone = false) : SpecOK cfg.P cfg.elT g (inl cfg fn) :=
  spec_of_exF ok hsig hg hname hb fun _ _ _ h => h

def big : Int := 1099511627776
def sml (x : Int) : Prop := 0 ≤ x ∧ x ≤ big
/-- A layout's numbers are small. -/
def inM (at_ i many : Int) : Int := bif decide (i < 0) then 0 else bif decide (i ≥ many) then 0 else at_ + i
def chunksM (l : List Int) : Int := (i l 2 + 3) / 4

noncomputable def sigM : FuncId → Option Spec := fun f => match f with
  | 67 => some (fS [0] (fun xs => 0 ≤ i xs 0 ∧ i xs 0 ≤ 1099511627776) (fun xs => vi ((i xs 0 + 3) / 4)))
  | 70 => some (inl cfgB Try.f70)
  | 73 => some (inl cfgB Try.f73)
  | 77 => some (inl cfgB Try.f77)
  | 71 => some (inl cfgB Try.f71)
  | 72 => some (inl cfgB Try.f72)
  | 69 => some (inl cfgB Try.f69)
  | _ => none
noncomputable def cfgM : Cfg := { cfgB with sigs := sigM }
noncomputable def cfgS : Cfg := { cfgB with sigs := sigM, plan := fun r => match r with | 1 => some (List.range 35, 0) | _ => none }
end Go.Rx
end
