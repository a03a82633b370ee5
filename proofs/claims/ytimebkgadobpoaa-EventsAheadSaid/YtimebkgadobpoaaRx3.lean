/- Operations that change memory. -/
import Derived.Test.YtimebkgadobpoaaRx2
namespace Go.Rx

variable {cfg : Cfg} {lk : Option (Blk → Bool)} {H : Heap} {ρ : List Value} {F : Nat → List Nat} {w : World}

/-- What a step of the run may have changed. -/
structure Fr (H : Heap) (F : Nat → List Nat) (w : World) (H' : Heap) (F' : Nat → List Nat) (w' : World) : Prop where
  os : w'.os = w.os
  tape : w'.tape = w.tape
  output : w'.output = w.output
  size : w.heap.size ≤ w'.heap.size
  block : ∀ n, n < w.heap.size → (∀ (i : Nat) (b : Blk), H[i]? = some b → b.writable = true → n ∉ F i) → w'.heap[n]? = w.heap[n]?
  foot : ∀ (i : Nat) (b : Blk), H'[i]? = some b → b.writable = true → ∀ n ∈ F' i, w.heap.size ≤ n ∨ ∃ (j : Nat) (c : Blk), H[j]? = some c ∧ c.writable = true ∧ n ∈ F j
  foot2 : ∀ (i : Nat) (b : Blk), H'[i]? = some b → ∀ n ∈ F' i, w.heap.size ≤ n ∨ ∃ (j : Nat) (c : Blk), H[j]? = some c ∧ n ∈ F j

theorem Fr.refl : Fr H F w H F w := ⟨rfl, rfl, rfl, Nat.le_refl _, fun _ _ _ => rfl, fun i b hb hw _ hn => .inr ⟨i, b, hb, hw, hn⟩, fun i b hb _ hn => .inr ⟨i, b, hb, hn⟩⟩

theorem Fr.trans {H1 H2 H3 : Heap} {F1 F2 F3 : Nat → List Nat} {w1 w2 w3 : World} (h : Fr H1 F1 w1 H2 F2 w2) (k : Fr H2 F2 w2 H3 F3 w3) : Fr H1 F1 w1 H3 F3 w3 := by
  refine ⟨k.os.trans h.os, k.tape.trans h.tape, k.output.trans h.output, Nat.le_trans h.size k.size, fun n hn hno => ?_, fun i b hb hw n hn => ?_, fun i b hb n hn => ?_⟩
  · rw [k.block n (Nat.lt_of_lt_of_le hn h.size) (fun i b hb hw hmem => ?_), h.block n hn hno]
    rcases h.foot i b hb hw n hmem with h' | ⟨j, c, hc, hcw, hm⟩
    · omega
    · exact hno j c hc hcw hm
  · rcases k.foot i b hb hw n hn with h' | ⟨j, c, hc, hcw, hm⟩
    · exact .inl (Nat.le_trans h.size h')
    · exact h.foot j c hc hcw n hm
  · rcases k.foot2 i b hb n hn with h' | ⟨j, c, hc, hm⟩
    · exact .inl (Nat.le_trans h.size h')
    · exact h.foot2 j c hc n hm

theorem Fr.drew : Fr H F w H F w.drew := ⟨rfl, rfl, rfl, Nat.le_refl _, fun _ _ _ => rfl, fun i b hb hw _ hn => .inr ⟨i, b, hb, hw, hn⟩, fun i b hb _ hn => .inr ⟨i, b, hb, hn⟩⟩

/-- What is locked stays. -/
def Kept (lk : Option (Blk → Bool)) (H : Heap) (F : Nat → List Nat) (w : World) (H' : Heap) (F' : Nat → List Nat) (w' : World) : Prop :=
  ∀ f, lk = some f → ∀ (i : Nat) (b : Blk), H[i]? = some b → f b = true → H'[i]? = some b ∧ F' i = F i ∧ ∀ n ∈ F i, w'.heap[n]? = w.heap[n]?

/-- One step: what it may be followed by. -/
structure Step (cfg : Cfg) (lk : Option (Blk → Bool)) (ρ : List Value) (F : Nat → List Nat) (H : Heap) (w : World) (ρ' : List Value) (F' : Nat → List Nat) (H' : Heap) (w' : World) : Prop where
  le : Le ρ ρ'
  sat : Sat cfg.elT ρ' F' H' w'
  fr : Fr H F w H' F' w'
  kept : Kept lk H F w H' F' w'

def fset (F : Nat → List Nat) (i : Nat) (G : List Nat) : Nat → List Nat := fun j => if j = i then G else F j

theorem push_get {α : Type} {l : List α} {b c : α} {i : Nat} (h : (l ++ [b])[i]? = some c) : (i < l.length ∧ l[i]? = some c) ∨ (i = l.length ∧ c = b) := by
  by_cases hi : i < l.length
  · rw [List.getElem?_append_left hi] at h; exact .inl ⟨hi, h⟩
  · rw [List.getElem?_append_right (by omega)] at h
    have : i - l.length = 0 := by
      rcases Nat.eq_zero_or_pos (i - l.length) with h0 | h0
      · exact h0
      · rw [List.getElem?_eq_none (by simp; omega)] at h; cases h
    rw [this] at h
    simp at h
    exact .inr ⟨by omega, h.symm⟩

/-- A new block. -/
theorem Step.push (hs : Sat cfg.elT ρ F H w) {w' : World} {b : Blk} {x : Value} {G : List Nat} (hos : w'.os = w.os) (htape : w'.tape = w.tape) (hout : w'.output = w.output)
    (hsize : w.heap.size ≤ w'.heap.size) (hold : ∀ n, n < w.heap.size → w'.heap[n]? = w.heap[n]?) (hG : ∀ n ∈ G, w.heap.size ≤ n ∧ n < w'.heap.size) (hb : b.holds cfg.elT (ρ ++ [x]) w' x G) :
    Step cfg lk ρ F H w (ρ ++ [x]) (fset F H.length G) (H ++ [b]) w' := by
  have hne : ∀ (i : Nat) (c : Blk), H[i]? = some c → i ≠ H.length := fun i c hc => by have := (List.getElem?_eq_some_iff.1 hc).1; omega
  refine ⟨Le.append ρ [x], ⟨by simp [hs.len], fun i c y hc hy => ?_, fun i c hc n hn => ?_, fun i j c d hc hd hij hw n hn => ?_⟩,
    ⟨hos, htape, hout, hsize, fun n hn _ => hold n hn, fun i c hc hw n hn => ?_, fun i c hc n hn => ?_⟩, fun f hf i c hc hfc => ⟨?_, ?_, fun n hn => hold n (hs.lt i c hc n hn)⟩⟩
  · rcases push_get hc with ⟨hi, hc⟩ | ⟨rfl, rfl⟩
    · have hi' : i < ρ.length := by rw [hs.len]; exact hi
      rw [List.getElem?_append_left hi'] at hy
      simp only [fset, Nat.ne_of_lt hi, if_false]
      exact Blk.holds_le (Le.append ρ [x]) (fun n hn => hold n (hs.lt i c hc n hn)) c (hs.each i c y hc hy)
    · rw [← hs.len] at hy
      simp at hy
      subst hy
      simp only [fset, if_true]
      exact hb
  · rcases push_get hc with ⟨hi, hc⟩ | ⟨rfl, rfl⟩
    · simp only [fset, Nat.ne_of_lt hi, if_false] at hn
      exact Nat.lt_of_lt_of_le (hs.lt i c hc n hn) hsize
    · simp only [fset, if_true] at hn
      exact (hG n hn).2
  · rcases push_get hc with ⟨hi, hc'⟩ | ⟨rfl, rfl⟩
    · simp only [fset, Nat.ne_of_lt hi, if_false] at hn
      rcases push_get hd with ⟨hj, hd'⟩ | ⟨rfl, rfl⟩
      · simp only [fset, Nat.ne_of_lt hj, if_false]
        exact hs.disj i j c d hc' hd' hij hw n hn
      · simp only [fset, if_true]
        intro hm
        have := hs.lt i c hc' n hn
        have := (hG n hm).1
        omega
    · simp only [fset, if_true] at hn
      rcases push_get hd with ⟨hj, hd'⟩ | ⟨rfl, rfl⟩
      · simp only [fset, Nat.ne_of_lt hj, if_false]
        intro hm
        have := hs.lt j d hd' n hm
        have := (hG n hn).1
        omega
      · exact absurd rfl hij
  · rcases push_get hc with ⟨hi, hc'⟩ | ⟨rfl, rfl⟩
    · simp only [fset, Nat.ne_of_lt hi, if_false] at hn
      exact .inr ⟨i, c, hc', hw, hn⟩
    · simp only [fset, if_true] at hn
      exact .inl (hG n hn).1
  · rcases push_get hc with ⟨hi, hc'⟩ | ⟨rfl, rfl⟩
    · simp only [fset, Nat.ne_of_lt hi, if_false] at hn
      exact .inr ⟨i, c, hc', hn⟩
    · simp only [fset, if_true] at hn
      exact .inl (hG n hn).1
  · rw [List.getElem?_append_left (List.getElem?_eq_some_iff.1 hc).1]; exact hc
  · simp only [fset, hne i c hc, if_false]

theorem get_new (hs : Sat cfg.elT ρ F H w) (x : Value) : (ρ ++ [x])[H.length]? = some x := by rw [← hs.len]; simp

/-- A block is changed in place, or is no more. -/
theorem Step.set (hs : Sat cfg.elT ρ F H w) {w' : World} {i : Nat} {b b' : Blk} {x : Value} {G : List Nat} (hb : H[i]? = some b) (hw : b.writable = true) (hx : ρ[i]? = some x)
    (hlk : ∀ f, lk = some f → f b = false)
    (hos : w'.os = w.os) (htape : w'.tape = w.tape) (hout : w'.output = w.output) (hsize : w.heap.size ≤ w'.heap.size) (hold : ∀ n, n < w.heap.size → n ∉ F i → w'.heap[n]? = w.heap[n]?)
    (hG : ∀ n ∈ G, n ∈ F i) (hb' : b'.holds cfg.elT ρ w' x G) : Step cfg lk ρ F H w ρ (fset F i G) (H.set i b') w' := by
  have hi := (List.getElem?_eq_some_iff.1 hb).1
  have hget : ∀ (j : Nat) (c : Blk), (H.set i b')[j]? = some c → (j = i ∧ c = b') ∨ (j ≠ i ∧ H[j]? = some c) := fun j c hc => by
    rw [List.getElem?_set] at hc
    split at hc
    · rename_i e; subst e; simp [hi] at hc; exact .inl ⟨rfl, hc.symm⟩
    · rename_i e; exact .inr ⟨fun h => e h.symm, hc⟩
  refine ⟨Le.refl ρ, ⟨by simp [hs.len], fun j c y hc hy => ?_, fun j c hc n hn => ?_, fun j k c d hc hd hjk hcw n hn => ?_⟩,
    ⟨hos, htape, hout, hsize, fun n hn hno => hold n hn (hno i b hb hw), fun j c hc hcw n hn => ?_, fun j c hc n hn => ?_⟩, fun f hf j c hc hfc => ?_⟩
  · rcases hget j c hc with ⟨rfl, rfl⟩ | ⟨hne, hc⟩
    · rw [hx] at hy; injection hy with hy; subst hy
      simp only [fset, if_true]; exact hb'
    · simp only [fset, hne, if_false]
      exact Blk.holds_le (Le.refl ρ) (fun n hn => hold n (hs.lt j c hc n hn) (fun hm => hs.disj i j b c hb hc (Ne.symm hne) hw n hm hn)) c (hs.each j c y hc hy)
  · rcases hget j c hc with ⟨rfl, rfl⟩ | ⟨hne, hc⟩
    · simp only [fset, if_true] at hn
      exact Nat.lt_of_lt_of_le (hs.lt j b hb n (hG n hn)) hsize
    · simp only [fset, hne, if_false] at hn
      exact Nat.lt_of_lt_of_le (hs.lt j c hc n hn) hsize
  · rcases hget j c hc with ⟨rfl, rfl⟩ | ⟨hne, hc'⟩
    · simp only [fset, if_true] at hn
      rcases hget k d hd with ⟨rfl, rfl⟩ | ⟨hne', hd'⟩
      · exact absurd rfl hjk
      · simp only [fset, hne', if_false]
        exact hs.disj j k b d hb hd' hjk hw n (hG n hn)
    · simp only [fset, hne, if_false] at hn
      rcases hget k d hd with ⟨rfl, rfl⟩ | ⟨hne', hd'⟩
      · simp only [fset, if_true]
        intro hm
        exact hs.disj j k c b hc' hb hjk hcw n hn (hG n hm)
      · simp only [fset, hne', if_false]
        exact hs.disj j k c d hc' hd' hjk hcw n hn
  · rcases hget j c hc with ⟨rfl, rfl⟩ | ⟨hne, hc'⟩
    · simp only [fset, if_true] at hn
      exact .inr ⟨j, b, hb, hw, hG n hn⟩
    · simp only [fset, hne, if_false] at hn
      exact .inr ⟨j, c, hc', hcw, hn⟩
  · rcases hget j c hc with ⟨rfl, rfl⟩ | ⟨hne, hc'⟩
    · simp only [fset, if_true] at hn
      exact .inr ⟨j, b, hb, hG n hn⟩
    · simp only [fset, hne, if_false] at hn
      exact .inr ⟨j, c, hc', hn⟩
  · have hne : j ≠ i := fun e => by subst e; rw [hb] at hc; injection hc with hc; subst hc; rw [hlk f hf] at hfc; cases hfc
    refine ⟨by rw [List.getElem?_set_ne (Ne.symm hne)]; exact hc, by simp only [fset, hne, if_false], fun n hn => hold n (hs.lt j c hc n hn) (fun hm => hs.disj i j b c hb hc (Ne.symm hne) hw n hm hn)⟩

theorem Kept.trans {H1 H2 H3 : Heap} {F1 F2 F3 : Nat → List Nat} {w1 w2 w3 : World} (h : Kept lk H1 F1 w1 H2 F2 w2) (k : Kept lk H2 F2 w2 H3 F3 w3) : Kept lk H1 F1 w1 H3 F3 w3 := by
  intro f hf i b hb hfb
  obtain ⟨a1, a2, a3⟩ := h f hf i b hb hfb
  obtain ⟨b1, b2, b3⟩ := k f hf i b a1 hfb
  exact ⟨b1, by rw [b2, a2], fun n hn => by rw [b3 n (by rw [a2]; exact hn), a3 n hn]⟩

theorem Step.trans {ρ1 ρ2 ρ3 : List Value} {H1 H2 H3 : Heap} {F1 F2 F3 : Nat → List Nat} {w1 w2 w3 : World} (h : Step cfg lk ρ1 F1 H1 w1 ρ2 F2 H2 w2) (k : Step cfg lk ρ2 F2 H2 w2 ρ3 F3 H3 w3) : Step cfg lk ρ1 F1 H1 w1 ρ3 F3 H3 w3 :=
  ⟨h.le.trans k.le, k.sat, h.fr.trans k.fr, h.kept.trans k.kept⟩

theorem Step.refl (hs : Sat cfg.elT ρ F H w) : Step cfg lk ρ F H w ρ F H w :=
  ⟨Le.refl _, hs, Fr.refl, fun _ _ _ _ hb _ => ⟨hb, rfl, fun _ _ => rfl⟩⟩

theorem alloc_old (w : World) (o : Obj) (n : Nat) (h : n < w.heap.size) : (w.alloc o).heap[n]? = w.heap[n]? := Go.RowKit.Below.heap_alloc w o n h

theorem alloc_new (w : World) (o : Obj) : (w.alloc o).heap[w.heap.size]? = some o := heap_alloc_new w o

/-- A new block of cells. -/
theorem Step.cells (hs : Sat cfg.elT ρ F H w) {T U : TypeId} {cs : List V} {xs : List Value} (hd : denL ρ cs = some xs) :
    Step cfg lk ρ F H w (ρ ++ [.pointer (some ⟨w.heap.size, 0, none⟩)]) (fset F H.length [w.heap.size]) (H ++ [.cells U cs]) (w.alloc (.cells xs.toArray T)) :=
  .push hs rfl rfl rfl (by simp) (fun n hn => alloc_old w _ n hn) (fun n hn => by simp at hn; subst hn; simp) ⟨_, xs, rfl, rfl, denL_le (Le.append _ _) _ _ hd, T, alloc_new w _⟩

/-- A new row. -/
theorem Step.row (hs : Sat cfg.elT ρ F H w) {t : Nat} {l : List (El t)} {w' : World} {x : Value} (hown : w'.ownsRow w.heap.size (cfg.elT t) (elM t) x l.length (flat t l)) (hg : w.grownBy w' none) :
    Step cfg lk ρ F H w (ρ ++ [x]) (fset F H.length x.ownBlock.toList) (H ++ [.row t l false]) w' :=
  .push hs hg.os hg.tape hg.output hg.size (fun n hn => hg.block n hn (by simp))
    (fun n hn => by
      have hb : x.ownBlock = some n := by simpa using hn
      exact hown.lt n hb)
    ⟨⟨hown.1, hown.2.imp id fun ⟨g, cap, cur, h1, _, h2⟩ => ⟨g, cap, cur, h1, Nat.zero_le _, h2⟩⟩, rfl⟩

/-- What a loud operation must lead to. -/
def Goes (cfg : Cfg) (lk : Option (Blk → Bool)) (ρ : List Value) (F : Nat → List Nat) (H : Heap) (w : World) (k : V → Heap → Prop) (N : Value → World → Prop) : Prop :=
  ∀ v x ρ' F' H' w', k v H' → Rel ρ' v x → Step cfg lk ρ F H w ρ' F' H' w' → N x w'

variable {k : V → Heap → Prop}

theorem storeRow_sound {P : Program} {t : TypeId} {inf : TypeInfo} (hi : P.info? t = some inf) (g o : Nat) (T : TypeId) (vs : List Value) (cur : List Value) {x : Value} (hx : x.cells.toList = vs)
    (hg : w.heap[g]? = some (.cells cur.toArray T (0, 0))) (hl : vs.length = inf.size) (hfit : o + vs.length ≤ cur.length) (h1 : ∀ v ∈ vs, v.oneCell' = true) :
    (Instr.storeAt t (.pointer (some ⟨g, o, none⟩)) x).run P w = .ok () (w.setRow g (cur.take o ++ vs ++ cur.drop (o + vs.length)).toArray) := by
  have hsz : x.cells.size = inf.size := by rw [← hl, ← hx, Array.length_toList]
  have hst := run_storeCells_at P g o T vs 0 cur.toArray w hg (by simpa using hfit) h1
  simp only [Nat.add_zero] at hst
  simp only [Instr.storeAt, Instr.sureAddr, Sem.run_bind, Sem.run_pure, Result.andThen_ok, storeVar, run_sizeOf' hi]
  simp [hsz, hx, hst]

theorem mayWrite_lk {b : Blk} (h : mayWrite lk b = true) : ∀ f, lk = some f → f b = false := by
  intro f hf; subst hf; simpa [mayWrite] using h

theorem flat_set_cells (t : Nat) (e : El t) (ys : List Value) (j : Nat) (hj : j + ys.length ≤ elM t) : ∀ (l : List (El t)) (q : Nat), q < l.length →
    elEnc t e = (elEnc t (l.getD q (elD t))).take j ++ ys ++ (elEnc t (l.getD q (elD t))).drop (j + ys.length) →
    flat t (l.set q e) = (flat t l).take (q * elM t + j) ++ ys ++ (flat t l).drop (q * elM t + j + ys.length)
  | [], q, hq, _ => by simp at hq
  | x :: r, 0, _, he => by
    simp only [List.getD_cons_zero] at he
    show elEnc t e ++ flat t r = (elEnc t x ++ flat t r).take _ ++ ys ++ (elEnc t x ++ flat t r).drop _
    rw [List.take_append_of_le_length (by rw [elEnc_len]; omega), List.drop_append_of_le_length (by rw [elEnc_len]; omega), he]
    simp
  | x :: r, q + 1, hq, he => by
    simp only [List.getD_cons_succ] at he
    have ih := flat_set_cells t e ys j hj r q (by simpa using hq) he
    show elEnc t x ++ flat t (r.set q e) = (elEnc t x ++ flat t r).take _ ++ ys ++ (elEnc t x ++ flat t r).drop _
    have e1 : (q + 1) * elM t + j = (elEnc t x).length + (q * elM t + j) := by rw [elEnc_len, Nat.add_mul]; omega
    have e2 : (q + 1) * elM t + j + ys.length = (elEnc t x).length + (q * elM t + j + ys.length) := by rw [e1]; omega
    rw [e2, e1, List.take_length_add_append, List.drop_length_add_append, ih]
    simp

theorem take_of_parts {α : Type} (A R ys : List α) (a b : Nat) (hb : b ≤ A.length) (hab : a + ys.length = b) :
    ((A ++ R).take a ++ ys ++ (A ++ R).drop b).take A.length = A.take a ++ ys ++ A.drop b := by
  have h1 : (A ++ R).take a = A.take a := List.take_append_of_le_length (by omega)
  have h2 : (A ++ R).drop b = A.drop b ++ R := List.drop_append_of_le_length hb
  rw [h1, h2, ← List.append_assoc]
  refine List.take_left' ?_
  simp; omega

theorem storeV_sound {T : TypeId} {a x : V} {ad y : Value} {k : Heap → Prop} (h : storeV cfg lk T a x H k) (ha : Rel ρ a ad) (hx : Rel ρ x y) (hs : Sat cfg.elT ρ F H w) :
    ∃ F' H' w', k H' ∧ Step cfg lk ρ F H w ρ F' H' w' ∧ (Instr.storeAt T ad y).run cfg.P w = .ok () w' := by
  unfold storeV at h
  split at h
  · exact h.elim
  · rename_i i hi
    obtain ⟨inf, z, i1, i2, i3, i4, i5⟩ := Cfg.ty_spec hi
    have hc := cond_elim h
    have hc1 := hc.1
    simp only [Bool.and_eq_true] at hc1
    have hh := hc.2
    clear h hc
    obtain ⟨hleaf, hlen⟩ := hc1
    have hlen := Nat.eq_of_beq_eq_true hlen
    have hd := vcells_den hx hleaf
    have hone := allLeaf_den hleaf hd
    have hl := denL_len hd
    split at hh
    · rename_i b off
      split at hh
      · rename_i T' cs hH
        have hc := cond_elim hh
        have hc1 := hc.1
        simp only [Bool.and_eq_true] at hc1
        obtain ⟨hm, hfit⟩ := hc1
        have hfit := Nat.le_of_ble_eq_true hfit
        obtain ⟨g, hb, rfl⟩ := den_ptr ha
        obtain ⟨g', vs, e, hF, hvs, U, hg⟩ := hs.each b _ _ hH hb
        injection e with e; injection e with e; injection e with e; subst e
        have hl2 := denL_len hvs
        have hrun := storeRow_sound (w := w) i1 g off U y.cells.toList vs rfl hg (by omega) (by omega) hone
        refine ⟨fset F b [g], _, _, hc.2, ?_, hrun⟩
        refine .set (w' := w.setRow g _) hs (G := [g]) hH rfl hb (mayWrite_lk hm) rfl rfl rfl (by simp [World.setRow]) (fun n hn hno => setRow_other w g n _ (fun e => hno (by simp [hF, e]))) (fun n hn => by simp only [hF]; exact hn) ?_
        exact ⟨g, _, rfl, rfl, setCells_den _ _ _ _ _ hd hvs (by omega), U, setRow_heap w g _ _ _ _ hg⟩
      · exact hh.elim
    · rename_i b n lo m j
      split at hh
      · rename_i tg l ro hH
        have hc := cond_elim hh
        have hc1 := hc.1
        simp only [Bool.and_eq_true] at hc1
        obtain ⟨hm, hro, hfit, hmm⟩ := hc1
        have hfit := Nat.le_of_ble_eq_true hfit
        obtain rfl := Nat.eq_of_beq_eq_true hmm
        have hro : ro = false := by simpa using hro
        subst hro
        have hr := Req_elim hc.2
        obtain ⟨h0, h1⟩ := inR_spec hr.1
        have hq := hr.2
        clear hh hc
        split at hq
        · rename_i vs hvs
          split at hq
          · rename_i e he
            obtain ⟨ad', len, cap, hb, hn, rfl⟩ := den_eptr ha
            obtain ⟨hown, hF⟩ := hs.each b _ _ hH hb
            have hk : (offs n lo).toNat < l.length := by omega
            have hee := elDec_enc tg vs e he
            have hvs' := extsV_den (ρ := ρ) hvs
            have hd' := setCells_den (ρ := ρ) _ _ _ _ j hd (denL_ext (ρ := ρ) (elEnc tg (l.getD (offs n lo).toNat (elD tg)))) (by simp [elEnc_len]; omega)
            rw [hvs'] at hd'
            injection hd' with hd'
            rcases hown.2 with ⟨h', _⟩ | ⟨g, cap', cur, h', _, hg, hcap, hcm, hcs, htake⟩
            · cases h'
            · injection h' with e1 e2 e3
              injection e1 with e1
              subst e1
              generalize (offs n lo).toNat = q at *
              have hflat := flat_len tg l
              have hqm : q * elM tg + elM tg ≤ l.length * elM tg := by
                have : (q + 1) * elM tg ≤ l.length * elM tg := Nat.mul_le_mul_right _ hk
                rw [Nat.add_mul] at this; omega
              have hcl : l.length * elM tg ≤ cur.size := by rw [hcs]; exact Nat.mul_le_mul_right _ hcap
              have hg' : w.heap[g]? = some (.cells cur.toList.toArray (cfg.elT tg) (0, 0)) := by simpa using hg
              have hy : j + y.cells.toList.length ≤ elM tg := by rw [← hl]; exact hfit
              have hroom : q * elM tg + j + y.cells.toList.length ≤ cur.toList.length := by have hcl2 : cur.toList.length = cur.size := Array.length_toList; omega
              have hrun := storeRow_sound (w := w) i1 g (q * elM tg + j) (cfg.elT tg) y.cells.toList cur.toList rfl hg' (by omega) hroom hone
              rw [add_lit0, Nat.zero_add]
              refine ⟨fset F b [g], _, _, hq, ?_, hrun⟩
              refine .set (w' := w.setRow g _) hs (G := [g]) hH rfl hb (mayWrite_lk hm) rfl rfl rfl (by simp [World.setRow]) (fun n hn hno => setRow_other w g n _ (fun e => hno (by simp [hF, Value.ownBlock, e]))) (fun n hn => by simpa [hF, Value.ownBlock] using hn) ?_
              refine ⟨⟨by rw [flat_len], .inr ⟨g, cap, _, by simp [e2], Nat.zero_le _, setRow_heap w g _ _ _ _ hg, by rw [e3]; simpa using hcap, by rw [e3]; exact hcm, ?_, ?_⟩⟩, by simp [Value.ownBlock]⟩
              · rw [e3, ← hcs, List.size_toArray, List.length_append, List.length_append, List.length_take, List.length_drop]
                have hcl2 : cur.toList.length = cur.size := Array.length_toList
                omega
              · have hcur : cur.toList = flat tg l ++ cur.toList.drop (l.length * elM tg) := by rw [← htake]; simp
                have hset := flat_set_cells tg e y.cells.toList j hy l q hk (by rw [hee]; exact hd')
                rw [List.length_set, hset, ← hflat]
                show (((cur.toList.take (q * elM tg + j) ++ y.cells.toList ++ cur.toList.drop (q * elM tg + j + y.cells.toList.length)).toArray).toList).take _ = _
                generalize cur.toList.drop (l.length * elM tg) = R at hcur
                rw [hcur]
                exact take_of_parts _ _ _ _ _ (by rw [hflat]; omega) rfl
          · exact hq.elim
        · exact hq.elim
      · exact hh.elim
    · exact hh.elim

end Go.Rx
