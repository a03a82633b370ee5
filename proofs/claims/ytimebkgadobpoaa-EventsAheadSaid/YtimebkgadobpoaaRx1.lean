/- What the symbolic values and blocks stand for, and that operations which only tell a value tell it in every world that fits. -/
import Derived.Test.YtimebkgadobpoaaRx0
namespace Go.Rx

mutual
def V.den (ρ : List Value) : V → Option Value
  | .ext v => some v
  | .junk => none
  | .ptr i off => match ρ[i]? with
    | some (.pointer (some ⟨b, 0, none⟩)) => some (.pointer (some ⟨b, off, none⟩))
    | _ => none
  | .eptr i k lo m j => match ρ[i]? with
    | some (.slice (some a) _ _) => bif decide (0 ≤ k) then some (.pointer (some (a.add ((offs k lo).toNat * m + j)))) else none
    | _ => none
  | .row i => match ρ[i]? with
    | some (.slice a n c) => some (.slice a n c)
    | _ => none
  | .sub i lo n m => match ρ[i]? with
    | some (.slice a _ cap) => some (.slice (if cap = lo then a else a.map (·.add (lo * m))) n (cap - lo))
    | _ => none
  | .asl i o n c => match ρ[i]? with
    | some (.pointer (some ⟨b, 0, none⟩)) => some (.slice (some ⟨b, o, none⟩) n c)
    | _ => none
  | .mp i => match ρ[i]? with
    | some (.map (some b)) => some (.map (some b))
    | _ => none
  | .mth f x => match x.den ρ with
    | some v => some (.func (.func f) #[v] #[])
    | none => none
  | .fn f cs => match denL ρ cs with
    | some vs => some (.func (.func f) #[] vs.toArray)
    | none => none
  | .agg cs => match denL ρ cs with
    | some vs => some (.agg vs.toArray)
    | none => none
  | .tup cs => match denL ρ cs with
    | some vs => some (.tuple vs.toArray)
    | none => none
def denL (ρ : List Value) : List V → Option (List Value)
  | [] => some []
  | v :: r => match v.den ρ, denL ρ r with
    | some x, some xs => some (x :: xs)
    | _, _ => none
end

/-- ρ' says all that ρ says. -/
def Le (ρ ρ' : List Value) : Prop := ∀ (i : Nat) (x : Value), ρ[i]? = some x → ρ'[i]? = some x

theorem Le.refl (ρ : List Value) : Le ρ ρ := fun _ _ h => h
theorem Le.trans {a b c : List Value} (h : Le a b) (k : Le b c) : Le a c := fun i x hx => k i x (h i x hx)
theorem Le.append (ρ r : List Value) : Le ρ (ρ ++ r) := fun i x h => by
  have hi : i < ρ.length := (List.getElem?_eq_some_iff.1 h).1
  rw [List.getElem?_append_left hi]; exact h

mutual
theorem den_le {ρ ρ' : List Value} (h : Le ρ ρ') : ∀ (v : V) (x : Value), v.den ρ = some x → v.den ρ' = some x
  | .ext v, x, e => by simpa [V.den] using e
  | .junk, x, e => by simp [V.den] at e
  | .ptr i off, x, e => by
    simp only [V.den] at e ⊢
    cases hi : ρ[i]? with
    | none => simp [hi] at e
    | some y => rw [h i y hi]; rw [hi] at e; exact e
  | .eptr i k lo m j, x, e => by
    simp only [V.den] at e ⊢
    cases hi : ρ[i]? with
    | none => simp [hi] at e
    | some y => rw [h i y hi]; rw [hi] at e; exact e
  | .row i, x, e => by
    simp only [V.den] at e ⊢
    cases hi : ρ[i]? with
    | none => simp [hi] at e
    | some y => rw [h i y hi]; rw [hi] at e; exact e
  | .sub i lo n m, x, e => by
    simp only [V.den] at e ⊢
    cases hi : ρ[i]? with
    | none => simp [hi] at e
    | some y => rw [h i y hi]; rw [hi] at e; exact e
  | .asl i o n c, x, e => by
    simp only [V.den] at e ⊢
    cases hi : ρ[i]? with
    | none => simp [hi] at e
    | some y => rw [h i y hi]; rw [hi] at e; exact e
  | .mp i, x, e => by
    simp only [V.den] at e ⊢
    cases hi : ρ[i]? with
    | none => simp [hi] at e
    | some y => rw [h i y hi]; rw [hi] at e; exact e
  | .mth f v, x, e => by
    simp only [V.den] at e ⊢
    cases hc : v.den ρ with
    | none => simp [hc] at e
    | some y => rw [den_le h v y hc]; rw [hc] at e; exact e
  | .fn f cs, x, e => by
    simp only [V.den] at e ⊢
    cases hc : denL ρ cs with
    | none => simp [hc] at e
    | some vs => rw [denL_le h cs vs hc]; rw [hc] at e; exact e
  | .agg cs, x, e => by
    simp only [V.den] at e ⊢
    cases hc : denL ρ cs with
    | none => simp [hc] at e
    | some vs => rw [denL_le h cs vs hc]; rw [hc] at e; exact e
  | .tup cs, x, e => by
    simp only [V.den] at e ⊢
    cases hc : denL ρ cs with
    | none => simp [hc] at e
    | some vs => rw [denL_le h cs vs hc]; rw [hc] at e; exact e
theorem denL_le {ρ ρ' : List Value} (h : Le ρ ρ') : ∀ (vs : List V) (xs : List Value), denL ρ vs = some xs → denL ρ' vs = some xs
  | [], xs, e => by simpa [denL] using e
  | v :: r, xs, e => by
    simp only [denL] at e ⊢
    cases hv : v.den ρ with
    | none => simp [hv] at e
    | some x =>
      cases hr : denL ρ r with
      | none => simp [hv, hr] at e
      | some ys => rw [den_le h v x hv, denL_le h r ys hr]; rw [hv, hr] at e; exact e
end

/-- What a temporary holds. -/
def Rel (ρ : List Value) (v : V) (x : Value) : Prop := v = .junk ∨ v.den ρ = some x

theorem Rel.le {ρ ρ' : List Value} {v : V} {x : Value} (hl : Le ρ ρ') (h : Rel ρ v x) : Rel ρ' v x :=
  h.imp id (den_le hl v x)

def REnv (ρ : List Value) (env : Env) (tmps : Array Value) : Prop := ∀ t, t < tmps.size → Rel ρ (env t) (tmps.getD t undef)

theorem denL_len {ρ : List Value} : ∀ {vs : List V} {xs : List Value}, denL ρ vs = some xs → vs.length = xs.length
  | [], xs, e => by simp [denL] at e; simp [e]
  | v :: r, xs, e => by
    simp only [denL] at e
    cases hv : v.den ρ with
    | none => simp [hv] at e
    | some x =>
      cases hr : denL ρ r with
      | none => simp [hv, hr] at e
      | some ys => simp only [hv, hr] at e; injection e with e; subst e; simp [denL_len hr]

theorem denL_get {ρ : List Value} : ∀ {vs : List V} {xs : List Value}, denL ρ vs = some xs → ∀ (i : Nat) (v : V), vs[i]? = some v → ∃ x, xs[i]? = some x ∧ v.den ρ = some x
  | [], xs, _, i, v, hv => by simp at hv
  | w :: r, xs, e, i, v, hv => by
    simp only [denL] at e
    cases hw : w.den ρ with
    | none => simp [hw] at e
    | some x =>
      cases hr : denL ρ r with
      | none => simp [hw, hr] at e
      | some ys =>
        simp only [hw, hr] at e; injection e with e; subst e
        cases i with
        | zero => simp at hv; subst hv; exact ⟨x, rfl, hw⟩
        | succ i => simp at hv; obtain ⟨y, h1, h2⟩ := denL_get hr i v hv; exact ⟨y, by simpa using h1, h2⟩

theorem denL_append {ρ : List Value} : ∀ {vs ws : List V} {xs ys : List Value}, denL ρ vs = some xs → denL ρ ws = some ys → denL ρ (vs ++ ws) = some (xs ++ ys)
  | [], ws, xs, ys, e, f => by simp [denL] at e; subst e; simpa using f
  | v :: r, ws, xs, ys, e, f => by
    simp only [denL] at e
    cases hv : v.den ρ with
    | none => simp [hv] at e
    | some x =>
      cases hr : denL ρ r with
      | none => simp [hv, hr] at e
      | some zs =>
        simp only [hv, hr] at e; injection e with e; subst e
        simp only [List.cons_append, denL, hv, denL_append hr f]

theorem denL_drop {ρ : List Value} : ∀ {vs : List V} {xs : List Value} (n : Nat), denL ρ vs = some xs → denL ρ (vs.drop n) = some (xs.drop n)
  | vs, xs, 0, e => by simpa using e
  | [], xs, n + 1, e => by simp [denL] at e; subst e; simp [denL]
  | v :: r, xs, n + 1, e => by
    simp only [denL] at e
    cases hv : v.den ρ with
    | none => simp [hv] at e
    | some x =>
      cases hr : denL ρ r with
      | none => simp [hv, hr] at e
      | some zs =>
        simp only [hv, hr] at e; injection e with e; subst e
        simpa using denL_drop n hr

theorem denL_take {ρ : List Value} : ∀ {vs : List V} {xs : List Value} (n : Nat), denL ρ vs = some xs → denL ρ (vs.take n) = some (xs.take n)
  | vs, xs, 0, e => by simp [denL]
  | [], xs, n + 1, e => by simp [denL] at e; subst e; simp [denL]
  | v :: r, xs, n + 1, e => by
    simp only [denL] at e
    cases hv : v.den ρ with
    | none => simp [hv] at e
    | some x =>
      cases hr : denL ρ r with
      | none => simp [hv, hr] at e
      | some zs =>
        simp only [hv, hr] at e; injection e with e; subst e
        simp only [List.take_succ_cons, denL, hv, denL_take n hr]

theorem denL_set {ρ : List Value} : ∀ {vs : List V} {xs : List Value} (n : Nat) (w : V) (y : Value), denL ρ vs = some xs → w.den ρ = some y → denL ρ (vs.set n w) = some (xs.set n y)
  | [], xs, n, w, y, e, f => by simp [denL] at e; subst e; simp [denL]
  | v :: r, xs, n, w, y, e, f => by
    simp only [denL] at e
    cases hv : v.den ρ with
    | none => simp [hv] at e
    | some x =>
      cases hr : denL ρ r with
      | none => simp [hv, hr] at e
      | some zs =>
        simp only [hv, hr] at e; injection e with e; subst e
        cases n with
        | zero => simp [denL, f, hr]
        | succ n => simp [denL, hv, denL_set n w y hr f]

theorem denL_ext {ρ : List Value} (xs : List Value) : denL ρ (xs.map .ext) = some xs := by
  induction xs with
  | nil => simp [denL]
  | cons x r ih => simp [denL, V.den, ih]

theorem extsV_den {ρ : List Value} : ∀ {vs : List V} {xs : List Value}, extsV vs = some xs → denL ρ vs = some xs
  | [], xs, e => by simpa [extsV, denL] using e
  | v :: r, xs, e => by
    simp only [extsV] at e
    cases v with
    | ext y =>
      simp only [extV] at e
      cases hr : extsV r with
      | none => simp [hr] at e
      | some ys => simp only [hr] at e; injection e with e; subst e; simp [denL, V.den, extsV_den hr]
    | _ => simp [extV] at e

/-! Elements. -/
theorem elEnc_len : ∀ (t : Nat) (x : El t), (elEnc t x).length = elM t
  | 0, _ => rfl
  | 1, _ => rfl
  | 2, _ => rfl
  | 3, _ => rfl
  | _ + 4, _ => by simp [elEnc, elM]

theorem elM_pos : ∀ t : Nat, 0 < elM t
  | 0 => by decide
  | 1 => by decide
  | 2 => by decide
  | 3 => by decide
  | _ + 4 => by simp [elM]

theorem intsOf_map : ∀ {vs : List Value} {l : List Int}, intsOf vs = some l → l.map i64 = vs
  | [], l, h => by simp only [intsOf, Option.some.injEq] at h; subst h; rfl
  | v :: r, l, h => by
    unfold intsOf at h
    split at h
    · cases ‹_ :: _ = []›
    · rename_i x r' e
      injection e with e1 e2
      subst e1; subst e2
      split at h
      · rename_i l' hl'
        injection h with h; subst h
        simp [intsOf_map hl']
      · cases h
    · cases h

theorem elDec_enc : ∀ (t : Nat) (vs : List Value) (x : El t), elDec t vs = some x → elEnc t x = vs
  | 0, vs, x, h => by
    change decI vs = some x at h; unfold decI at h; split at h
    · injection h with h; subst h; rfl
    · cases h
  | 1, vs, x, h => by
    change decB vs = some x at h; unfold decB at h; split at h
    · injection h with h; subst h; rfl
    · cases h
  | 2, vs, x, h => by
    change decPr vs = some x at h; unfold decPr at h; split at h
    · injection h with h; subst h; rfl
    · cases h
  | 3, vs, x, h => by
    change decEv vs = some x at h; unfold decEv at h; split at h
    · injection h with h; subst h; rfl
    · cases h
  | n + 4, vs, x, h => by
    change (match intsOf vs with | some l => bif Nat.beq l.length (n + 1) then some l else none | none => none) = some x at h
    split at h
    · rename_i l hl
      cases hb : Nat.beq l.length (n + 1) with
      | false => rw [hb] at h; cases h
      | true =>
        rw [hb] at h
        injection h with h; subst h
        have hn := Nat.eq_of_beq_eq_true hb
        rw [← intsOf_map hl]
        show (List.range (n + 1)).map (fun i => i64 (l.getD i 0)) = _
        rw [← hn]
        apply List.ext_getElem?
        intro i
        by_cases hi : i < l.length
        · simp [hi, List.getD]
        · simp [hi]
    · cases h

theorem elEnc_one : ∀ (t : Nat) (x : El t) (v : Value), v ∈ elEnc t x → v.oneCell' = true
  | 0, x, v, h => by simp [elEnc] at h; subst h; rfl
  | 1, x, v, h => by simp [elEnc] at h; subst h; rfl
  | 2, x, v, h => by simp [elEnc] at h; rcases h with h | h <;> subst h <;> rfl
  | 3, x, v, h => by simp [elEnc, encEv] at h; rcases h with h | h | h | h | h | h | h | h | h | h | h | h | h | h | h | h | h | h | h | h | h | h | h <;> subst h <;> rfl
  | _ + 4, x, v, h => by simp only [elEnc, List.mem_map] at h; obtain ⟨i, _, rfl⟩ := h; rfl

def flat (t : Nat) (l : List (El t)) : List Value := l.flatMap (elEnc t)

theorem flat_len (t : Nat) (l : List (El t)) : (flat t l).length = l.length * elM t := by
  unfold flat
  induction l with
  | nil => simp
  | cons x r ih => simp [List.flatMap_cons, ih, elEnc_len, Nat.add_mul, Nat.add_comm]

theorem flat_append (t : Nat) (a b : List (El t)) : flat t (a ++ b) = flat t a ++ flat t b := by simp [flat]

theorem flat_get (t : Nat) (l : List (El t)) (k : Nat) (hk : k < l.length) (j : Nat) (hj : j < elM t) :
    (flat t l)[k * elM t + j]? = (elEnc t (l.getD k (elD t)))[j]? := by
  induction l generalizing k with
  | nil => simp at hk
  | cons x r ih =>
    show (elEnc t x ++ flat t r)[k * elM t + j]? = _
    cases k with
    | zero =>
      simp only [Nat.zero_mul, Nat.zero_add, List.getD_cons_zero]
      rw [List.getElem?_append_left (by rw [elEnc_len]; exact hj)]
    | succ k =>
      simp only [List.getD_cons_succ]
      rw [List.getElem?_append_right (by rw [elEnc_len, Nat.add_mul]; omega), elEnc_len]
      have := ih k (by simpa using hk)
      rw [← this]
      congr 1
      rw [Nat.add_mul]
      omega

theorem flat_one (t : Nat) (l : List (El t)) : ∀ v ∈ flat t l, v.oneCell' = true := by
  intro v hv
  simp only [flat, List.mem_flatMap] at hv
  obtain ⟨x, _, hx⟩ := hv
  exact elEnc_one t x v hx

theorem flat_drop (t : Nat) : ∀ (n : Nat) (l : List (El t)), flat t (l.drop n) = (flat t l).drop (n * elM t)
  | 0, l => by simp
  | n + 1, [] => by simp [flat]
  | n + 1, x :: r => by
    show flat t (r.drop n) = (elEnc t x ++ flat t r).drop _
    rw [flat_drop t n r, Nat.add_mul, List.drop_append]
    simp [elEnc_len]

theorem flat_take (t : Nat) : ∀ (n : Nat) (l : List (El t)), flat t (l.take n) = (flat t l).take (n * elM t)
  | 0, l => by simp [flat]
  | n + 1, [] => by simp [flat]
  | n + 1, x :: r => by
    show elEnc t x ++ flat t (r.take n) = (elEnc t x ++ flat t r).take _
    rw [flat_take t n r, Nat.add_mul, List.take_append]
    simp [elEnc_len]
    rw [List.take_of_length_le (by rw [elEnc_len]; omega)]

/-! Maps of ints. -/
def entriesOK (m : Int → Option Int) (es : List MapEntry) (clock : Nat) : Prop :=
  (∀ e ∈ es, ∃ k v, e.key = i64 k ∧ e.val = i64 v ∧ m k = some v) ∧ (∀ k v, m k = some v → ∃ e ∈ es, e.key = i64 k) ∧ es.Pairwise (fun x y => x.key ≠ y.key) ∧
    es.Pairwise (fun x y => x.born ≠ y.born) ∧ ∀ e ∈ es, e.born < clock

/-- What a range over a map has still to tell. -/
def iterOK (left : Int → Bool) (es : List MapEntry) (seen : Array Nat) (n : Nat) : Prop :=
  (∀ e ∈ es, ∀ k, e.key = i64 k → left k = !seen.contains e.born) ∧ (∀ k, left k = true → ∃ e ∈ es, e.key = i64 k) ∧ (es.filter fun e => !seen.contains e.born).length ≤ n

/-! Blocks. -/
def Blk.holds0 (elT : ET) (ρ : List Value) (w : World) (v : Value) (F : List Nat) : Blk → Prop
  | .dead => F = []
  | .cells _ cs => ∃ b vs, v = .pointer (some ⟨b, 0, none⟩) ∧ F = [b] ∧ denL ρ cs = some vs ∧ ∃ U, w.heap[b]? = some (.cells vs.toArray U (0, 0))
  | .row t l true => ∃ a cap, v = .slice a l.length cap ∧ l.length ≤ cap ∧ cap ≤ maxLen ∧ ((a = none → cap = 0) ∧
      ∀ j x, (flat t l)[j]? = some x → ∃ ad, a = some ad ∧ ad.block ∈ F ∧ w.cell? (ad.add j) = some x)
  | .row t l false => w.ownsRow 0 (elT t) (elM t) v l.length (flat t l) ∧ F = v.ownBlock.toList
  | .map m n => ∃ b es clock, v = .map (some b) ∧ F = [b] ∧ w.heap[b]? = some (.map es clock) ∧ entriesOK m es.toList clock ∧ es.size ≤ n
  | .iter m left n cur => ∃ r b es clock seen, v = .pointer (some ⟨r, 0, none⟩) ∧ F = [r, b] ∧ r ≠ b ∧ w.heap[b]? = some (.map es clock) ∧ w.heap[r]? = some (.mapIter (some b) clock seen clock) ∧
      entriesOK m es.toList clock ∧ iterOK left es.toList seen n ∧ ∀ k x, cur = some (k, x) → ∃ (seen' : Array Nat) (e : MapEntry), seen = seen'.push e.born ∧ e ∈ es.toList ∧ e.key = i64 k ∧ e.val = i64 x
  | .pk _ _ => False

structure Sat0 (elT : ET) (ρ : List Value) (F : Nat → List Nat) (H : Heap) (w : World) : Prop where
  len : ρ.length = H.length
  each : ∀ (i : Nat) (b : Blk) (x : Value), H[i]? = some b → ρ[i]? = some x → b.holds0 elT ρ w x (F i)
  lt : ∀ (i : Nat) (b : Blk), H[i]? = some b → ∀ n ∈ F i, n < w.heap.size
  disj : ∀ (i j : Nat) (bi bj : Blk), H[i]? = some bi → H[j]? = some bj → i ≠ j → bi.writable = true → ∀ n ∈ F i, n ∉ F j

/-- All memory of a heap's blocks. -/
def foot (F : Nat → List Nat) (n : Nat) : List Nat := (List.range n).flatMap F

def Blk.holds (elT : ET) (ρ : List Value) (w : World) (v : Value) (F : List Nat) : Blk → Prop
  | .pk tg st => ∃ (Hc : Heap) (ρc : List Value) (Fc : Nat → List Nat), elT.abs tg st Hc ∧ Sat0 elT ρc Fc Hc w ∧ ρc[0]? = some v ∧ F = foot Fc Hc.length
  | b => b.holds0 elT ρ w v F

structure Sat (elT : ET) (ρ : List Value) (F : Nat → List Nat) (H : Heap) (w : World) : Prop where
  len : ρ.length = H.length
  each : ∀ (i : Nat) (b : Blk) (x : Value), H[i]? = some b → ρ[i]? = some x → b.holds elT ρ w x (F i)
  lt : ∀ (i : Nat) (b : Blk), H[i]? = some b → ∀ n ∈ F i, n < w.heap.size
  disj : ∀ (i j : Nat) (bi bj : Blk), H[i]? = some bi → H[j]? = some bj → i ≠ j → bi.writable = true → ∀ n ∈ F i, n ∉ F j

/-- What may be read. -/
def SatR (cfg : Cfg) (lk : Option (Blk → Bool)) (ρ : List Value) (F : Nat → List Nat) (H : Heap) (w : World) : Prop :=
  ∀ (i : Nat) (b : Blk), H[i]? = some b → mayRead lk b = true → ∃ x, ρ[i]? = some x ∧ b.holds cfg.elT ρ w x (F i)

theorem Sat.reads {cfg : Cfg} {ρ : List Value} {F : Nat → List Nat} {H : Heap} {w : World} (h : Sat cfg.elT ρ F H w) (lk : Option (Blk → Bool)) : SatR cfg lk ρ F H w := by
  intro i b hb _
  have hi : i < H.length := (List.getElem?_eq_some_iff.1 hb).1
  have hr : i < ρ.length := by rw [h.len]; exact hi
  exact ⟨ρ[i], List.getElem?_eq_getElem hr, h.each i b _ hb (List.getElem?_eq_getElem hr)⟩

/-- A block stands where its memory stands, whatever else is told of numbers. -/
theorem Blk.holds0_le {elT : ET} {ρ ρ' : List Value} {w w' : World} {v : Value} {F : List Nat} (hl : Le ρ ρ') (hw : ∀ n ∈ F, w'.heap[n]? = w.heap[n]?) :
    ∀ (b : Blk), b.holds0 elT ρ w v F → b.holds0 elT ρ' w' v F
  | .dead, h => h
  | .cells T cs, ⟨b, vs, h1, h2, h3, h4⟩ => ⟨b, vs, h1, h2, denL_le hl cs vs h3, by rw [hw b (by simp [h2])]; exact h4⟩
  | .row t l true, ⟨a, cap, h1, h2, h3, h5, h4⟩ => ⟨a, cap, h1, h2, h3, h5, fun j x hj => by
      obtain ⟨ad, h5, h6, h7⟩ := h4 j x hj
      refine ⟨ad, h5, h6, ?_⟩
      have hb : (ad.add j).block = ad.block := by unfold Addr.add; split <;> rfl
      rw [World.cell?_of_block (w := w) (by rw [hb]; exact hw _ h6)]
      exact h7⟩
  | .row t l false, ⟨h1, h2⟩ => by
      refine ⟨⟨h1.1, ?_⟩, h2⟩
      rcases h1.2 with h | ⟨g, cap, cur, hv, hg, hh, r⟩
      · exact .inl h
      · exact .inr ⟨g, cap, cur, hv, hg, by rw [hw g (by simp [h2, hv, Value.ownBlock])]; exact hh, r⟩
  | .map m n, ⟨b, es, clock, h1, h2, h3, h4⟩ => ⟨b, es, clock, h1, h2, by rw [hw b (by simp [h2])]; exact h3, h4⟩
  | .iter m left n _, ⟨r, b, es, clock, seen, h1, h2, h3, h4, h5, h6⟩ => ⟨r, b, es, clock, seen, h1, h2, h3, by rw [hw b (by simp [h2])]; exact h4, by rw [hw r (by simp [h2])]; exact h5, h6⟩
  | .pk _ _, h => h.elim

theorem mem_foot {F : Nat → List Nat} {n i j : Nat} (hi : i < n) (h : j ∈ F i) : j ∈ foot F n := List.mem_flatMap.2 ⟨i, List.mem_range.2 hi, h⟩

theorem foot_mem {F : Nat → List Nat} {n j : Nat} (h : j ∈ foot F n) : ∃ i, i < n ∧ j ∈ F i := by
  obtain ⟨i, h1, h2⟩ := List.mem_flatMap.1 h
  exact ⟨i, List.mem_range.1 h1, h2⟩

theorem Sat0.le {elT : ET} {ρ : List Value} {F : Nat → List Nat} {H : Heap} {w w' : World} (h : Sat0 elT ρ F H w) (hw : ∀ n ∈ foot F H.length, w'.heap[n]? = w.heap[n]?) : Sat0 elT ρ F H w' := by
  have hlen : ∀ (i : Nat) (b : Blk), H[i]? = some b → i < H.length := fun i b hb => (List.getElem?_eq_some_iff.1 hb).1
  refine ⟨h.len, fun i b x hb hx => Blk.holds0_le (Le.refl ρ) (fun n hn => hw n (mem_foot (hlen i b hb) hn)) b (h.each i b x hb hx), fun i b hb n hn => ?_, h.disj⟩
  have h1 := h.lt i b hb n hn
  have h2 := hw n (mem_foot (hlen i b hb) hn)
  rw [Array.getElem?_eq_getElem h1] at h2
  exact (Array.getElem?_eq_some_iff.1 h2).1

/-- A block stands where its memory stands, whatever else is told of numbers. -/
theorem Blk.holds_le {elT : ET} {ρ ρ' : List Value} {w w' : World} {v : Value} {F : List Nat} (hl : Le ρ ρ') (hw : ∀ n ∈ F, w'.heap[n]? = w.heap[n]?) :
    ∀ (b : Blk), b.holds elT ρ w v F → b.holds elT ρ' w' v F
  | .pk tg st, ⟨Hc, ρc, Fc, h1, h2, h3, h4⟩ => ⟨Hc, ρc, Fc, h1, h2.le (by rw [← h4]; exact hw), h3, h4⟩
  | .dead, h => Blk.holds0_le (elT := elT) (v := v) hl hw .dead h
  | .cells T cs, h => Blk.holds0_le (elT := elT) (v := v) hl hw (.cells T cs) h
  | .row t l ro, h => Blk.holds0_le (elT := elT) (v := v) hl hw (.row t l ro) h
  | .map m n, h => Blk.holds0_le (elT := elT) (v := v) hl hw (.map m n) h
  | .iter m left n c, h => Blk.holds0_le (elT := elT) (v := v) hl hw (.iter m left n c) h

/-- A block of a kind of its own. -/
theorem Blk.holds_of {elT : ET} {ρ : List Value} {w : World} {v : Value} {F : List Nat} : ∀ {b : Blk}, b.holds0 elT ρ w v F → b.holds elT ρ w v F
  | .pk _ _, h => h.elim
  | .dead, h => h
  | .cells _ _, h => h
  | .row _ _ _, h => h
  | .map _ _, h => h
  | .iter _ _ _ _, h => h

theorem Sat.le {cfg : Cfg} {ρ : List Value} {F : Nat → List Nat} {H : Heap} {w w' : World} (h : Sat cfg.elT ρ F H w)
    (hs : w.heap.size ≤ w'.heap.size) (hw : ∀ (i : Nat) (b : Blk), H[i]? = some b → ∀ n ∈ F i, w'.heap[n]? = w.heap[n]?) : Sat cfg.elT ρ F H w' :=
  ⟨h.len, fun i b x hb hx => Blk.holds_le (Le.refl ρ) (hw i b hb) b (h.each i b x hb hx), fun i b hb n hn => Nat.lt_of_lt_of_le (h.lt i b hb n hn) hs, h.disj⟩

theorem Sat.drew {cfg : Cfg} {ρ : List Value} {F : Nat → List Nat} {H : Heap} {w : World} (h : Sat cfg.elT ρ F H w) : Sat cfg.elT ρ F H w.drew :=
  h.le (Nat.le_refl _) (fun _ _ _ _ _ => rfl)

end Go.Rx
