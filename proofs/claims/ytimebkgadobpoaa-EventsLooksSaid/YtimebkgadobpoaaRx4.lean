/- Slices that are made, and appended to. -/
import Derived.Test.YtimebkgadobpoaaRx3
namespace Go.Rx

variable {cfg : Cfg} {lk : Option (Blk → Bool)} {H : Heap} {ρ : List Value} {F : Nat → List Nat} {w : World} {k : V → Heap → Prop}

theorem madeCells_take (z : Array Value) (t : Nat) (hz : z = (elEnc t (elD t)).toArray) (n c : Nat) (h : n ≤ c) : (madeCells z (c * elM t)).toList.take (n * elM t) = flat t (List.replicate n (elD t)) := by
  have hzs : z.size = elM t := by rw [hz]; simp [elEnc_len]
  have hpos := elM_pos t
  apply List.ext_getElem?
  intro p
  rw [List.getElem?_take]
  have hle : n * elM t ≤ c * elM t := Nat.mul_le_mul_right _ h
  by_cases hp : p < n * elM t
  · rw [if_pos hp]
    have hq : p / elM t < n := Nat.div_lt_of_lt_mul (by rw [Nat.mul_comm]; exact hp)
    have hr : p % elM t < elM t := Nat.mod_lt _ hpos
    have e : p = p / elM t * elM t + p % elM t := by rw [Nat.mul_comm]; exact (Nat.div_add_mod p (elM t)).symm
    have hf := flat_get t (List.replicate n (elD t)) (p / elM t) (by simpa using hq) (p % elM t) hr
    rw [← e] at hf
    rw [hf]
    have hd : (List.replicate n (elD t)).getD (p / elM t) (elD t) = elD t := by simp [List.getD, List.getElem?_replicate, hq]
    rw [hd]
    have hpc : p < c * elM t := by omega
    simp only [madeCells, Array.toList_map, Array.toList_range, List.getElem?_map, List.getElem?_range hpc, Option.map_some, hzs]
    subst hz
    have : p % elM t < (elEnc t (elD t)).length := by rw [elEnc_len]; exact hr
    simp [this]
  · rw [if_neg hp, List.getElem?_eq_none]
    rw [flat_len]; simpa using hp

theorem makeSliceV_sound (ok : CfgOK cfg) {t : TypeId} {x y : V} {a b : Value} (h : makeSliceV cfg t x y H k) (hx : Rel ρ x a) (hy : Rel ρ y b) (hs : Sat cfg.elT ρ F H w) :
    ∃ v z ρ' F' H' w', k v H' ∧ Rel ρ' v z ∧ Step cfg lk ρ F H w ρ' F' H' w' ∧ (Instr.makeSlice t a b).run cfg.P w = .ok z w' := by
  unfold makeSliceV at h
  split at h
  · rename_i tg n c ht
    have ha := den_ext hx; have hb := den_ext hy
    subst ha; subst hb
    have hr := Req_elim h
    have hq : 0 ≤ n ∧ n ≤ c ∧ c ≤ 1048576 := by simpa using hr.1
    obtain ⟨u1, inf, z, u2, u3, u4, u5, u6⟩ := ok.tags t tg ht
    have hb : (inf.bytes : Int) * c ≤ 281474976710656 := by
      have h1 : (inf.bytes : Int) * c ≤ 65536 * c := Int.mul_le_mul_of_nonneg_right (by omega) (by omega)
      omega
    have hrun := run_make (P := cfg.P) w t (cfg.elT tg) inf z u1 u2 u3 .i64 .i64 n c hq.1 hq.2.1 hb (by omega)
    refine ⟨_, .slice (some ⟨w.heap.size, 0, none⟩) n.toNat c.toNat, _, _, _, _, hr.2, .inr ?_, Step.row hs (x := .slice (some ⟨w.heap.size, 0, none⟩) n.toNat c.toNat) ?_ (World.grownBy_alloc w _ none), hrun⟩
    · simp only [V.den, get_new hs]
    · rw [List.length_replicate]
      refine ⟨by rw [flat_len, List.length_replicate], .inr ⟨_, c.toNat, _, rfl, Nat.le_refl _, heap_alloc_new w _, by omega, by simp only [maxLen]; omega, by rw [size_madeCells, u5], ?_⟩⟩
      rw [u5]
      exact madeCells_take _ tg u4 _ _ (by omega)
  · exact h.elim

theorem row_place {t : Nat} {l : List (El t)} {b : Blk} (h : b = .row t l false) : b.writable = true := by subst h; rfl

/-- A nil slice is a row of none. -/
theorem rowify_sound {tg : Option Nat} {v v' : V} {H' : Heap} {x : Value} (h : rowify H tg v = (v', H')) (hx : Rel ρ v x) (hs : Sat cfg.elT ρ F H w) :
    ∃ ρ' F', Rel ρ' v' x ∧ Step cfg lk ρ F H w ρ' F' H' w := by
  unfold rowify at h
  split at h
  · rename_i t
    injection h with h1 h2
    subst h1; subst h2
    have hx := den_ext hx
    subst hx
    refine ⟨ρ ++ [.slice none 0 0], _, .inr ?_, .push hs (b := .row t [] false) (x := .slice none 0 0) (G := []) rfl rfl rfl (Nat.le_refl _) (fun _ _ => rfl) (by simp) ⟨World.ownsRow_nil _ _ _ _, rfl⟩⟩
    simp only [V.den, get_new hs]
  · injection h with h1 h2
    subst h1; subst h2
    exact ⟨ρ, F, hx, .refl hs⟩

theorem rowOf_sound {K : (t : Nat) → List (El t) → Prop} {v : V} {x : Value} (h : rowOf H v K) (hx : Rel ρ v x) (hs : Sat cfg.elT ρ F H w) :
    ∃ t l ad cap, K t l ∧ x = .slice ad l.length cap ∧ (ad = none → cap = 0) ∧ l.length ≤ maxLen ∧ ∀ j y, (flat t l)[j]? = some y → ∃ a, ad = some a ∧ w.cell? (a.add j) = some y := by
  unfold rowOf at h
  split at h
  · rename_i i
    split at h
    · rename_i t l ro hH
      have ha := den_row hx
      obtain ⟨ad, cap, rfl, h1, h2, h3, h4⟩ := row_val (hs.each i _ _ hH ha)
      exact ⟨t, l, ad, cap, h, rfl, h3, by omega, fun j y hj => let ⟨a, e, _, hc⟩ := h4 j y hj; ⟨a, e, hc⟩⟩
    · exact h.elim
  · rename_i i lo n m
    split at h
    · rename_i t l ro hH
      have hc := cond_elim h
      obtain rfl := Nat.eq_of_beq_eq_true hc.1
      have hr := Req_elim hc.2
      have hq : lo + n ≤ l.length := by simpa using hr.1
      obtain ⟨ad, len, cap, hb, rfl⟩ := den_sub hx
      obtain ⟨ad', cap', e, h1, h2, h3, h4⟩ := row_val (hs.each i _ _ hH hb)
      injection e with e1 e2 e3
      subst e1; subst e2; subst e3
      have hlen : ((l.drop lo).take n).length = n := by simp; omega
      refine ⟨t, _, _, _, hr.2, by rw [hlen], fun hno => ?_, by rw [hlen]; omega, fun j y hj => ?_⟩
      · cases ad with
        | none => have := h3 rfl; omega
        | some a => split at hno <;> simp at hno
      · rw [flat_take, flat_drop, List.getElem?_take] at hj
        split at hj
        · rename_i hjl
          rw [List.getElem?_drop] at hj
          obtain ⟨a, e, _, hc⟩ := h4 _ y hj
          subst e
          have hn : 0 < n := by
            rcases Nat.eq_zero_or_pos n with h0 | h0
            · subst h0; simp at hjl
            · exact h0
          have hne : ¬ cap = lo := by omega
          exact ⟨_, by rw [if_neg hne]; rfl, by rw [add_add]; exact hc⟩
        · cases hj
    · exact h.elim
  · exact h.elim

/-- A block goes, and a new one takes over its memory, or has memory of its own. -/
theorem Step.move (hs : Sat cfg.elT ρ F H w) {w' : World} {i : Nat} {b b' : Blk} {x : Value} {G : List Nat} (hb : H[i]? = some b) (hw : b.writable = true)
    (hlk : ∀ f, lk = some f → f b = false)
    (hos : w'.os = w.os) (htape : w'.tape = w.tape) (hout : w'.output = w.output) (hsize : w.heap.size ≤ w'.heap.size) (hold : ∀ n, n < w.heap.size → n ∉ F i → w'.heap[n]? = w.heap[n]?)
    (hG : ∀ n ∈ G, n < w'.heap.size ∧ (n ∈ F i ∨ w.heap.size ≤ n)) (hb' : b'.holds cfg.elT (ρ ++ [x]) w' x G) :
    Step cfg lk ρ F H w (ρ ++ [x]) (fset (fset F i []) H.length G) (H.set i .dead ++ [b']) w' := by
  have hi := (List.getElem?_eq_some_iff.1 hb).1
  have hget : ∀ (j : Nat) (c : Blk), (H.set i .dead ++ [b'])[j]? = some c → (j = i ∧ c = .dead) ∨ (j ≠ i ∧ j < H.length ∧ H[j]? = some c) ∨ (j = H.length ∧ c = b') := fun j c hc => by
    rcases push_get hc with ⟨hj, hq⟩ | ⟨h1, h2⟩
    · rw [List.length_set] at hj
      by_cases e : i = j
      · subst e; rw [List.getElem?_set_self hi] at hq; injection hq with hq; exact .inl ⟨rfl, hq.symm⟩
      · rw [List.getElem?_set_ne e] at hq; exact .inr (.inl ⟨fun h => e h.symm, hj, hq⟩)
    · rw [List.length_set] at h1; exact .inr (.inr ⟨h1, h2⟩)
  have fold : ∀ j, j ≠ i → j < H.length → fset (fset F i []) H.length G j = F j := fun j h1 h2 => by simp only [fset, Nat.ne_of_lt h2, if_false, h1]
  have fnew : fset (fset F i []) H.length G H.length = G := by simp only [fset, if_true]
  have fdead : fset (fset F i []) H.length G i = [] := by simp only [fset, Nat.ne_of_lt hi, if_false, if_true]
  have hkeep : ∀ (j : Nat) (c : Blk), j ≠ i → H[j]? = some c → ∀ n ∈ F j, w'.heap[n]? = w.heap[n]? := fun j c hne hc n hn =>
    hold n (hs.lt j c hc n hn) (fun hm => hs.disj i j b c hb hc (Ne.symm hne) hw n hm hn)
  refine ⟨Le.append ρ [x], ⟨by simp [hs.len], fun j c y hc hy => ?_, fun j c hc n hn => ?_, fun j k c d hc hd hjk hcw n hn => ?_⟩,
    ⟨hos, htape, hout, hsize, fun n hn hno => hold n hn (hno i b hb hw), fun j c hc hcw n hn => ?_, fun j c hc n hn => ?_⟩, fun f hf j c hc hfc => ?_⟩
  · rcases hget j c hc with ⟨rfl, rfl⟩ | ⟨hne, hj, hc'⟩ | ⟨rfl, rfl⟩
    · exact fdead
    · rw [fold j hne hj]
      rw [List.getElem?_append_left (by rw [hs.len]; exact hj)] at hy
      exact Blk.holds_le (Le.append ρ [x]) (hkeep j c hne hc') c (hs.each j c y hc' hy)
    · rw [fnew]
      rw [← hs.len] at hy
      simp at hy
      subst hy
      exact hb'
  · rcases hget j c hc with ⟨rfl, rfl⟩ | ⟨hne, hj, hc'⟩ | ⟨rfl, rfl⟩
    · rw [fdead] at hn; cases hn
    · rw [fold j hne hj] at hn; exact Nat.lt_of_lt_of_le (hs.lt j c hc' n hn) hsize
    · rw [fnew] at hn; exact (hG n hn).1
  · rcases hget j c hc with ⟨rfl, rfl⟩ | ⟨hne, hj, hc'⟩ | ⟨rfl, rfl⟩
    · cases hcw
    · rw [fold j hne hj] at hn
      rcases hget k d hd with ⟨rfl, rfl⟩ | ⟨hne', hk, hd'⟩ | ⟨rfl, rfl⟩
      · rw [fdead]; simp
      · rw [fold k hne' hk]; exact hs.disj j k c d hc' hd' hjk hcw n hn
      · rw [fnew]
        intro hm
        rcases (hG n hm).2 with h | h
        · exact hs.disj j i c b hc' hb hne hcw n hn h
        · have := hs.lt j c hc' n hn; omega
    · rw [fnew] at hn
      rcases hget k d hd with ⟨rfl, rfl⟩ | ⟨hne', hk, hd'⟩ | ⟨rfl, rfl⟩
      · rw [fdead]; simp
      · rw [fold k hne' hk]
        intro hm
        rcases (hG n hn).2 with h | h
        · exact hs.disj i k b d hb hd' (Ne.symm hne') hw n h hm
        · have := hs.lt k d hd' n hm; omega
      · exact absurd rfl hjk
  · rcases hget j c hc with ⟨rfl, rfl⟩ | ⟨hne, hj, hc'⟩ | ⟨rfl, rfl⟩
    · cases hcw
    · rw [fold j hne hj] at hn; exact .inr ⟨j, c, hc', hcw, hn⟩
    · rw [fnew] at hn
      rcases (hG n hn).2 with h | h
      · exact .inr ⟨i, b, hb, hw, h⟩
      · exact .inl h
  · rcases hget j c hc with ⟨rfl, rfl⟩ | ⟨hne, hj, hc'⟩ | ⟨rfl, rfl⟩
    · rw [fdead] at hn; cases hn
    · rw [fold j hne hj] at hn; exact .inr ⟨j, c, hc', hn⟩
    · rw [fnew] at hn
      rcases (hG n hn).2 with h | h
      · exact .inr ⟨i, b, hb, h⟩
      · exact .inl h
  · have hne : j ≠ i := fun e => by subst e; rw [hb] at hc; injection hc with hc; subst hc; rw [hlk f hf] at hfc; cases hfc
    have hj := (List.getElem?_eq_some_iff.1 hc).1
    refine ⟨?_, fold j hne hj, hkeep j c hne hc⟩
    rw [List.getElem?_append_left (by rw [List.length_set]; exact hj), List.getElem?_set_ne (Ne.symm hne)]
    exact hc

theorem flat_nil_of {t : Nat} {l : List (El t)} {ad : Option Addr} {Q : Addr → Value → Nat → Prop} (had : ad = none) (h : ∀ j y, (flat t l)[j]? = some y → ∃ a, ad = some a ∧ Q a y j) : l = [] := by
  cases l with
  | nil => rfl
  | cons x r =>
    exfalso
    have hpos := elM_pos t
    have hlt : 0 < (flat t (x :: r)).length := by rw [flat_len, List.length_cons, Nat.add_mul]; omega
    obtain ⟨a, e, _⟩ := h 0 _ (List.getElem?_eq_getElem hlt)
    rw [had] at e; cases e

/-- An append to what the run owns: it is the same block, or a new one. -/
theorem append_any (w : World) {P : Program} (t ty e : TypeId) (i : TypeInfo) (z : Value) (m : Nat) (ht : P.underlying t = some (.slice e)) (hi : P.info? e = some i) (hz : i.zero = some z)
    (hsize : i.size = m) (hzs : z.cells.size = m) (v : Value) (n : Nat) (xs : List Value) (hown : w.ownsRow 0 e m v n xs)
    (a : Addr) (q c : Nat) (news : List Value) (hl : news.length = q * m) (hnews : ∀ j u, news[j]? = some u → w.cell? (a.add j) = some u) (h1 : ∀ u ∈ news, u.oneCell' = true)
    (h63 : n + q ≤ 1048576) (hbytes : (n + q) * i.bytes ≤ 140737488355328) :
    ∃ v' w', (Builtin.append_ #[t, t] ty #[v, .slice (some a) q c]).run P w = .ok v' w' ∧ w'.ownsRow 0 e m v' (n + q) (xs ++ news) ∧ w.grownBy w' v.ownBlock ∧
      ∀ b, v'.ownBlock = some b → b < w'.heap.size ∧ (v.ownBlock = some b ∨ w.heap.size ≤ b) := by
  subst hsize
  have hlen : (xs ++ news).length = (n + q) * i.size := by rw [List.length_append, hown.1, hl, Nat.add_mul]
  have hml : n + q ≤ maxLen := by simp only [maxLen]; omega
  have grown : ∀ (old : Nat), old < n + q → ∀ (row : Option Nat),
      (w.drew.alloc (.cells (xs.toArray ++ news.toArray ++ Builtin.zeroCells z.cells (grownCap w (n + q) old e - (n + q))) e)).ownsRow 0 e i.size
        (.slice (some ⟨w.heap.size, 0, none⟩) (n + q) (grownCap w (n + q) old e)) (n + q) (xs ++ news) ∧
      w.grownBy (w.drew.alloc (.cells (xs.toArray ++ news.toArray ++ Builtin.zeroCells z.cells (grownCap w (n + q) old e - (n + q))) e)) row := by
    intro old ho row
    have hge := grownCap_ge w (n + q) old e
    have hcm : grownCap w (n + q) old e ≤ maxLen := grownCap_le_maxLen w (n + q) old e hml
    refine ⟨⟨hlen, .inr ⟨w.heap.size, _, _, rfl, Nat.zero_le _, alloc_new w.drew _, hge, hcm, ?_, ?_⟩⟩, ⟨rfl, rfl, rfl, by simp, fun k hk _ => alloc_old w.drew _ k hk⟩⟩
    · simp only [Array.size_append, List.size_toArray, size_zeroCells, hzs, hown.1, hl, ← Nat.add_mul]
      congr 1
      omega
    · simp only [Array.toList_append, List.append_assoc]
      rw [← List.append_assoc, ← hlen]
      exact List.take_left
  have fresh : ∀ (C : Array Value) (c : Nat) (b : Nat), (Value.slice (some ⟨w.heap.size, 0, none⟩) (n + q) c).ownBlock = some b → b < (w.drew.alloc (.cells C e)).heap.size ∧ (v.ownBlock = some b ∨ w.heap.size ≤ b) := by
    intro C c b hb
    simp [Value.ownBlock] at hb
    subst hb
    exact ⟨by simp, .inr (Nat.le_refl _)⟩
  rcases hown.2 with ⟨rfl, rfl⟩ | ⟨g, cap, cur, rfl, hbg, hg, hnc, hcm, hcs, htake⟩
  · have hx : xs = [] := List.eq_nil_of_length_eq_zero (by simpa using hown.1)
    subst hx
    by_cases hm : q = 0
    · subst hm
      have hn : news = [] := List.eq_nil_of_length_eq_zero (by simpa using hl)
      subst hn
      refine ⟨.slice none 0 0, w, ?_, World.ownsRow_nil w 0 e i.size, ⟨rfl, rfl, rfl, Nat.le_refl _, fun _ _ _ => rfl⟩, fun b hb => by simp [Value.ownBlock] at hb⟩
      simp [Builtin.append_, run_underlying ht, sizeOf, typeInfo, hi, Builtin.lenOf, Builtin.firstCells, loadCells, loadCellsFrom]
    · have hr := run_append_nil (P := P) w t ty e i z ht hi hz a q c news hl hnews (by omega) (by omega) (by have hb := hbytes; simp only [Nat.zero_add] at hb; omega)
      have hgr := grown 0 (by omega) (Value.ownBlock (.slice none 0 0))
      have hfr := fresh
      simp only [Nat.zero_add, List.nil_append, Array.empty_append] at hgr hfr ⊢
      exact ⟨_, _, hr, hgr.1, hgr.2, hfr _ _⟩
  · have hlt : g < w.heap.size := (Array.getElem?_eq_some_iff.1 hg).1
    by_cases hroom : n + q ≤ cap
    · obtain ⟨w', h1', h2', h3'⟩ := run_append_fits (P := P) w 0 t ty e i i.size ht hi rfl g n cap xs hown a q c news hl hnews h1 hroom
      exact ⟨_, w', h1', h2', by simpa [Value.ownBlock] using h3', fun b hb => by simp [Value.ownBlock] at hb; subst hb; exact ⟨Nat.lt_of_lt_of_le hlt h3'.size, .inl (by simp [Value.ownBlock])⟩⟩
    · have holds : ∀ j u, xs[j]? = some u → w.cell? ((⟨g, 0, none⟩ : Addr).add j) = some u := hown.cells (g := g) rfl
      have hr := run_append_grow (P := P) w t ty e i z ht hi hz ⟨g, 0, none⟩ n cap xs hown.1 holds a q c news hl hnews (by omega) (by omega) (growslice_fits (by omega) hbytes)
      have hgr := grown cap (by omega) (Value.ownBlock (.slice (some ⟨g, 0, none⟩) n cap))
      exact ⟨_, _, hr, hgr.1, hgr.2, fresh _ _⟩

theorem appendTo_sound (ok : CfgOK cfg) {t ty tg i : Nat} {ly : List (El ty)} {x y : Value} {tyR : TypeId} (ht : cfg.tagOf t = some tg) (h : appendTo lk tg i H k ty ly) (hx : ρ[i]? = some x)
    (hs : Sat cfg.elT ρ F H w) {ad : Option Addr} {cap : Nat} (hy : y = .slice ad ly.length cap) (hcap : ad = none → cap = 0)
    (hc : ∀ j y, (flat ty ly)[j]? = some y → ∃ a, ad = some a ∧ w.cell? (a.add j) = some y) :
    ∃ v z ρ' F' H' w', k v H' ∧ Rel ρ' v z ∧ Step cfg lk ρ F H w ρ' F' H' w' ∧ (Builtin.append_ #[t, t] tyR #[x, y]).run cfg.P w = .ok z w' := by
  unfold appendTo at h
  split at h
  · rename_i tx lx ro hH
    have hcd := cond_elim h
    have hc1 := hcd.1
    simp only [Bool.and_eq_true] at hc1
    obtain ⟨⟨hro, hm⟩, htx⟩ := hc1
    obtain rfl := Nat.eq_of_beq_eq_true htx
    have hro : ro = false := by simpa using hro
    subst hro
    have hh := hcd.2
    split at hh
    · rename_i e
      subst e
      have hr := Req_elim hh
      have hq : lx.length + ly.length ≤ 1048576 := by simpa using hr.1
      obtain ⟨hown, hF⟩ := hs.each i _ _ hH hx
      obtain ⟨u1, inf, z, u2, u3, u4, u5, u6⟩ := ok.tags t _ ht
      have hbytes : (lx.length + ly.length) * inf.bytes ≤ 140737488355328 := by
        have : (lx.length + ly.length) * inf.bytes ≤ 1048576 * 65536 := Nat.mul_le_mul hq u6
        omega
      have hz : z.cells.size = elM ty := by rw [u4]; simp [elEnc_len]
      have main : ∃ z w', (Builtin.append_ #[t, t] tyR #[x, y]).run cfg.P w = .ok z w' ∧ w'.ownsRow 0 (cfg.elT ty) (elM ty) z (lx.length + ly.length) (flat ty lx ++ flat ty ly) ∧ w.grownBy w' x.ownBlock ∧
          ∀ b, z.ownBlock = some b → b < w'.heap.size ∧ (x.ownBlock = some b ∨ w.heap.size ≤ b) := by
        cases ad with
        | none =>
          have hl0 : ly = [] := flat_nil_of (Q := fun a y j => w.cell? (a.add j) = some y) rfl hc
          subst hl0
          have hc0 := hcap rfl
          subst hc0
          subst hy
          refine ⟨x, w, run_append_owned_none w 0 t tyR _ inf (elM ty) u1 u2 x _ _ hown, by simpa [flat] using hown, ⟨rfl, rfl, rfl, Nat.le_refl _, fun _ _ _ => rfl⟩, fun b hb => ⟨?_, .inl hb⟩⟩
          exact (hown.lt b hb).2
        | some a =>
          subst hy
          exact append_any w t tyR _ inf z (elM ty) u1 u2 u3 u5 hz x _ _ hown a _ cap (flat ty ly) (flat_len ty ly) (fun j u hu => by obtain ⟨a', e, h⟩ := hc j u hu; injection e with e; subst e; exact h) (flat_one ty ly) hq hbytes
      obtain ⟨z', w', hrun, hown', hg, hfresh⟩ := main
      refine ⟨_, z', ρ ++ [z'], fset (fset F i []) H.length z'.ownBlock.toList, _, w', hr.2, .inr ?_, ?_, hrun⟩
      · simp only [V.den, get_new hs]
        rcases hown'.2 with ⟨e, _⟩ | ⟨g, cap', cur, e, _⟩ <;> rw [e]
      · refine .move hs hH rfl (mayWrite_lk hm) hg.os hg.tape hg.output hg.size (fun n hn hno => hg.block n hn (fun e => hno (by rw [hF]; simp [← e]))) (fun n hn => ?_) ⟨?_, rfl⟩
        · have hb : z'.ownBlock = some n := by simpa using hn
          obtain ⟨h1, h2⟩ := hfresh n hb
          exact ⟨h1, h2.imp (fun h => by rw [hF]; simp [h]) id⟩
        · show w'.ownsRow 0 (cfg.elT ty) (elM ty) z' (lx ++ ly).length (flat ty (lx ++ ly))
          rw [List.length_append, flat_append]
          exact hown'
    · exact hh.elim
  · exact h.elim

theorem appendV_sound (ok : CfgOK cfg) {t : TypeId} {x y : V} {a b : Value} {tyR : TypeId} (h : appendV cfg lk t x y H k) (hx : Rel ρ x a) (hy : Rel ρ y b) (hs : Sat cfg.elT ρ F H w) :
    ∃ v z ρ' F' H' w', k v H' ∧ Rel ρ' v z ∧ Step cfg lk ρ F H w ρ' F' H' w' ∧ (Builtin.append_ #[t, t] tyR #[a, b]).run cfg.P w = .ok z w' := by
  unfold appendV at h
  split at h
  · exact h.elim
  · rename_i tg ht
    split at h
    · rename_i i H1 hr
      obtain ⟨ρ1, F1, hx1, st1⟩ := rowify_sound (lk := lk) hr hx hs
      obtain ⟨ty, ly, ad, cap, hk, rfl, h1, _, h2⟩ := rowOf_sound h (hy.le st1.le) st1.sat
      obtain ⟨v, z, ρ', F', H', w', g1, g2, g3, g4⟩ := appendTo_sound ok (tyR := tyR) ht hk (den_row hx1) st1.sat rfl h1 h2
      exact ⟨v, z, ρ', F', H', w', g1, g2, st1.trans g3, g4⟩
    · exact h.elim

end Go.Rx
