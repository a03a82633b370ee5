/- Maps of ints: made, written, ranged over. -/
import Derived.Test.YtimebkgadobpoaaRx6
import Derived.Maps.RangeRun
import Derived.Maps.Range
namespace Go.Rx
open Go.ChangeMaps (setBlock)

variable {cfg : Cfg} {lk : Option (Blk → Bool)} {H : Heap} {ρ : List Value} {F : Nat → List Nat} {w : World} {k : V → Heap → Prop}

theorem makeMapV_sound {t : TypeId} {r : Option V} {r' : Option Value} (h : makeMapV cfg t r H k) (hr : ∀ v, r = some v → ∃ x, r' = some x ∧ Rel ρ v x) (hr' : r = none → r' = none) (hs : Sat cfg.elT ρ F H w) :
    ∃ v z ρ' F' H' w', k v H' ∧ Rel ρ' v z ∧ Step cfg lk ρ F H w ρ' F' H' w' ∧ (Instr.makeMap t r').run cfg.P w = .ok z w' := by
  have hst : Step cfg lk ρ F H w (ρ ++ [.map (some w.heap.size)]) (fset F H.length [w.heap.size]) (H ++ [.map (fun _ => none) 0]) (w.alloc (.map #[] 0)) :=
    .push hs rfl rfl rfl (by simp) (fun n hn => alloc_old w _ n hn) (fun n hn => by simp at hn; subst hn; simp)
      ⟨_, #[], 0, rfl, rfl, alloc_new w _, ⟨by simp, by simp, by simp, by simp, by simp⟩, Nat.le_refl _⟩
  unfold makeMapV at h
  split at h
  · rw [hr' rfl]
    exact ⟨_, _, _, _, _, _, h, mk_mp (get_new hs _), hst, by simp [Instr.makeMap, newObj, Sem.run]⟩
  · rename_i kd n
    obtain ⟨x, rfl, hx⟩ := hr _ rfl
    obtain rfl := den_ext hx
    have hc := cond_elim h
    obtain ⟨K, E, inf, z, u1, u2, u3, u4, u5⟩ := mapInt_spec hc.1
    exact ⟨_, _, _, _, _, _, hc.2, mk_mp (get_new hs _), hst, by simp [Instr.makeMap, newObj, Sem.run, run_underlying u1, asInt, asIntOf]⟩
  · exact h.elim

theorem sat_val (hs : Sat cfg.elT ρ F H w) {i : Nat} {b : Blk} (hb : H[i]? = some b) : ∃ x, ρ[i]? = some x ∧ b.holds cfg.elT ρ w x (F i) := by
  have hi : i < ρ.length := by rw [hs.len]; exact (List.getElem?_eq_some_iff.1 hb).1
  exact ⟨ρ[i], List.getElem?_eq_getElem hi, hs.each i b _ hb (List.getElem?_eq_getElem hi)⟩

theorem run_keyThatStays_int {P : Program} (a : Int) (w : World) : (Instr.keyThatStays (i64 a) (i64 a)).run P w = .ok (i64 a) w := by
  simp [Instr.keyThatStays, Instr.sameBits]

theorem keyed_inj {es : List MapEntry} (hp : es.Pairwise (fun x y => x.key ≠ y.key)) : ∀ {x y : MapEntry}, x ∈ es → y ∈ es → x.key = y.key → x = y := fun hx hy h => entry_eq_of_key hp hx hy h

/-- A map that is written at a key. -/
theorem entries_push {m : Int → Option Int} {es : List MapEntry} {clock : Nat} (h : entriesOK m es clock) (a y : Int) (hn : ∀ e ∈ es, e.key ≠ i64 a) :
    entriesOK (mapSet m a y) (es ++ [{ key := i64 a, val := i64 y, born := clock }]) (clock + 1) := by
  obtain ⟨h1, h2, h3, h4, h5⟩ := h
  refine ⟨fun e he => ?_, fun q v hq => ?_, ?_, ?_, fun e he => ?_⟩
  · rcases List.mem_append.1 he with he | he
    · obtain ⟨q, v, e1, e2, e3⟩ := h1 e he
      refine ⟨q, v, e1, e2, ?_⟩
      unfold mapSet
      rw [if_neg (fun hq => hn e he (by rw [e1, hq]))]
      exact e3
    · simp only [List.mem_singleton] at he; subst he
      exact ⟨a, y, rfl, rfl, by simp [mapSet]⟩
  · unfold mapSet at hq
    split at hq
    · rename_i hqa; subst hqa
      exact ⟨{ key := i64 q, val := i64 y, born := clock }, by simp, rfl⟩
    · obtain ⟨e, he, hk⟩ := h2 q v hq
      exact ⟨e, by simp [he], hk⟩
  · refine List.pairwise_append.2 ⟨h3, by simp, fun x hx z hz => ?_⟩
    simp only [List.mem_singleton] at hz; subst hz
    exact hn x hx
  · refine List.pairwise_append.2 ⟨h4, by simp, fun x hx z hz => ?_⟩
    simp only [List.mem_singleton] at hz; subst hz
    exact Nat.ne_of_lt (h5 x hx)
  · rcases List.mem_append.1 he with he | he
    · have := h5 e he; omega
    · simp only [List.mem_singleton] at he; subst he; exact Nat.lt_succ_self _

theorem entries_set {m : Int → Option Int} {es : List MapEntry} {clock : Nat} (h : entriesOK m es clock) (a y : Int) {j : Nat} {e0 : MapEntry} (hj : es[j]? = some e0) (hk : e0.key = i64 a) :
    entriesOK (mapSet m a y) (es.set j { e0 with key := i64 a, val := i64 y }) clock := by
  obtain ⟨h1, h2, h3, h4, h5⟩ := h
  have hlt := (List.getElem?_eq_some_iff.1 hj).1
  have hget := (List.getElem?_eq_some_iff.1 hj).2
  have hmem : e0 ∈ es := List.mem_of_getElem? hj
  have hkey : ∀ i, (es.set j { e0 with key := i64 a, val := i64 y })[i]?.map MapEntry.key = es[i]?.map MapEntry.key := fun i => by
    rw [List.getElem?_set]
    split
    · rename_i e; subst e; rw [hj]; simp [hlt, hk]
    · rfl
  have hborn : ∀ i, (es.set j { e0 with key := i64 a, val := i64 y })[i]?.map MapEntry.born = es[i]?.map MapEntry.born := fun i => by
    rw [List.getElem?_set]
    split
    · rename_i e; subst e; rw [hj]; simp [hlt]
    · rfl
  have hmk : (es.set j { e0 with key := i64 a, val := i64 y }).map MapEntry.key = es.map MapEntry.key := List.ext_getElem? fun i => by rw [List.getElem?_map, List.getElem?_map]; exact hkey i
  have hmb : (es.set j { e0 with key := i64 a, val := i64 y }).map MapEntry.born = es.map MapEntry.born := List.ext_getElem? fun i => by rw [List.getElem?_map, List.getElem?_map]; exact hborn i
  have mem : ∀ e ∈ es.set j { e0 with key := i64 a, val := i64 y }, e = { e0 with key := i64 a, val := i64 y } ∨ (e ∈ es ∧ e.key ≠ i64 a) := fun e he => by
    obtain ⟨i, hi⟩ := List.getElem?_of_mem he
    rw [List.getElem?_set] at hi
    split at hi
    · rename_i e; subst e; simp [hlt] at hi; exact .inl hi.symm
    · rename_i hne
      have hmi := List.mem_of_getElem? hi
      refine .inr ⟨hmi, fun hka => hne ?_⟩
      have heq := keyed_inj h3 hmi hmem (by rw [hka, hk])
      subst heq
      have hi' := (List.getElem?_eq_some_iff.1 hi).1
      by_cases hij : i < j
      · have := List.pairwise_iff_getElem.1 h3 i j hi' hlt hij
        rw [(List.getElem?_eq_some_iff.1 hi).2, hget] at this
        exact absurd rfl this
      · by_cases hji : j < i
        · have := List.pairwise_iff_getElem.1 h3 j i hlt hi' hji
          rw [(List.getElem?_eq_some_iff.1 hi).2, hget] at this
          exact absurd rfl this
        · omega
  refine ⟨fun e he => ?_, fun q v hq => ?_, ?_, ?_, fun e he => ?_⟩
  · rcases mem e he with rfl | ⟨he, hne⟩
    · exact ⟨a, y, rfl, rfl, by simp [mapSet]⟩
    · obtain ⟨q, v, e1, e2, e3⟩ := h1 e he
      refine ⟨q, v, e1, e2, ?_⟩
      unfold mapSet
      rw [if_neg (fun hq => hne (by rw [e1, hq]))]
      exact e3
  · have hin : ∃ e ∈ es, e.key = i64 q := by
      unfold mapSet at hq
      split at hq
      · rename_i hqa; subst hqa; exact ⟨e0, hmem, hk⟩
      · exact h2 q v hq
    obtain ⟨e, he, hke⟩ := hin
    have : i64 q ∈ (es.set j { e0 with key := i64 a, val := i64 y }).map MapEntry.key := by rw [hmk]; exact List.mem_map.2 ⟨e, he, hke⟩
    obtain ⟨e', he', hke'⟩ := List.mem_map.1 this
    exact ⟨e', he', hke'⟩
  · have : ((es.set j { e0 with key := i64 a, val := i64 y }).map MapEntry.key).Pairwise (· ≠ ·) := by rw [hmk]; exact List.pairwise_map.2 h3
    exact List.pairwise_map.1 this
  · have : ((es.set j { e0 with key := i64 a, val := i64 y }).map MapEntry.born).Pairwise (· ≠ ·) := by rw [hmb]; exact List.pairwise_map.2 h4
    exact List.pairwise_map.1 this
  · rcases mem e he with rfl | ⟨he, _⟩
    · exact h5 e0 hmem
    · exact h5 e he

theorem modify_eq_set {α : Type} (f : α → α) (l : List α) {j : Nat} {e : α} (h : l[j]? = some e) : l.modify j f = l.set j (f e) := by
  apply List.ext_getElem?
  intro i
  rw [List.getElem?_modify, List.getElem?_set]
  by_cases hij : j = i
  · subst hij
    obtain ⟨h1, h2⟩ := List.getElem?_eq_some_iff.1 h
    simp [h1, h2]
  · simp [hij]

theorem mapUpdateV_sound {t : TypeId} {x key v : V} {a b c : Value} {k : Heap → Prop} (h : mapUpdateV cfg lk t x key v H k) (hx : Rel ρ x a) (hk : Rel ρ key b) (hv : Rel ρ v c) (hs : Sat cfg.elT ρ F H w) :
    ∃ F' H' w', k H' ∧ Step cfg lk ρ F H w ρ F' H' w' ∧ (Instr.mapUpdate t a b c).run cfg.P w = .ok () w' := by
  unfold mapUpdateV at h
  split at h
  · rename_i i
    split at h
    · rename_i q
      obtain rfl := den_ext hk
      split at h
      · rename_i y
        obtain rfl := den_ext hv
        split at h
        · rename_i m n hH
          have hc := cond_elim h
          have hc1 := hc.1
          simp only [Bool.and_eq_true] at hc1
          obtain ⟨K, E, inf, z, u1, u2, u3, u4, u5⟩ := mapInt_spec hc1.1
          obtain ⟨x0, hx0, b', es, clock, e1, e2, e3, e4, e5⟩ := sat_val hs hH
          obtain ⟨bm, hb, rfl⟩ := den_mp hx
          rw [hb] at hx0; injection hx0 with hx0; subst hx0
          injection e1 with e1
          injection e1 with e1
          subst e1
          have hes : ∀ e ∈ es.toList, ∃ k v, e.key = i64 k ∧ e.val = i64 v := fun e he => by
            obtain ⟨k, v, p1, p2, _⟩ := e4.1 e he; exact ⟨k, v, p1, p2⟩
          have fin : ∀ (es' : Array MapEntry) (clock' : Nat), entriesOK (mapSet m q y) es'.toList clock' → es'.size ≤ n + 1 → (Instr.mapUpdate t (.map (some bm)) (i64 q) (i64 y)).run cfg.P w = .ok () (setBlock w bm (.map es' clock')) →
              ∃ F' H' w', k H' ∧ Step cfg lk ρ F H w ρ F' H' w' ∧ (Instr.mapUpdate t (.map (some bm)) (i64 q) (i64 y)).run cfg.P w = .ok () w' := fun es' clock' he hsz hrun =>
            have hset := Go.MapKept.heap_set (o' := .map es' clock') e3
            ⟨_, _, _, hc.2, .set hs hH rfl hb (mayWrite_lk hc1.2) rfl rfl rfl (by simp [setBlock]) (fun j hj hno => hset.2 j (fun e => hno (by rw [e2, e]; simp))) (w' := setBlock w bm (.map es' clock')) (G := [bm]) (fun j hj => by rw [e2]; exact hj)
              ⟨bm, es', clock', rfl, rfl, hset.1, he, hsz⟩, hrun⟩
          rcases run_findKey_int u2 q es.toList hes w with ⟨r1, r2⟩ | ⟨j, e, r1, r2, r3⟩
          · refine fin (es.push { key := i64 q, val := i64 y, born := clock }) (clock + 1) ?_ (by simp; omega) ?_
            · rw [Array.toList_push]; exact entries_push e4 q y r2
            · simp only [Instr.mapUpdate, Sem.run_bind, run_underlying u1, Result.andThen_ok, run_getObj' e3, run_checkKey_int u2, r1, Go.MapKept.run_setObj_map _ e3]
              rfl
          · have hjlt : j < es.size := by have := (List.getElem?_eq_some_iff.1 r2).1; simpa using this
            have hje : es[j]? = some e := by rw [← Array.getElem?_toList]; exact r2
            refine fin (es.modify j fun e => { e with key := i64 q, val := i64 y }) clock ?_ (by simp; omega) ?_
            · have : (es.modify j fun e => { e with key := i64 q, val := i64 y }).toList = es.toList.set j { e with key := i64 q, val := i64 y } := by
                rw [Array.toList_modify, modify_eq_set _ _ r2]
              rw [this]
              exact entries_set e4 q y r2 r3
            · simp only [Instr.mapUpdate, Sem.run_bind, run_underlying u1, Result.andThen_ok, run_getObj' e3, run_checkKey_int u2, r1, hje, Option.map_some, Option.getD_some, r3, run_keyThatStays_int, Go.MapKept.run_setObj_map _ e3]
              rfl
        · exact h.elim
      · exact h.elim
    · exact h.elim
  · exact h.elim

theorem rangeV_sound {t : TypeId} {x : V} {a : Value} (h : rangeV cfg lk t x H k) (hx : Rel ρ x a) (hs : Sat cfg.elT ρ F H w) :
    ∃ v z ρ' F' H' w', k v H' ∧ Rel ρ' v z ∧ Step cfg lk ρ F H w ρ' F' H' w' ∧ (Instr.range t a).run cfg.P w = .ok z w' := by
  unfold rangeV at h
  split at h
  · rename_i i
    split at h
    · rename_i m n hH
      have hc := cond_elim h
      have hc1 := hc.1
      simp only [Bool.and_eq_true] at hc1
      obtain ⟨K, E, inf, z, u1, u2, u3, u4, u5⟩ := mapInt_spec hc1.1
      obtain ⟨x0, hx0, b', es, clock, e1, e2, e3, e4, e5⟩ := sat_val hs hH
      obtain ⟨bm, hb, rfl⟩ := den_mp hx
      rw [hb] at hx0; injection hx0 with hx0; subst hx0
      injection e1 with e1
      injection e1 with e1
      subst e1
      have hlt : bm < w.heap.size := hs.lt i _ hH bm (by rw [e2]; simp)
      refine ⟨_, _, _, _, _, _, hc.2, mk_ptr (get_new hs _), .move hs hH rfl (mayWrite_lk hc1.2) (w' := w.alloc (.mapIter (some bm) clock #[] clock)) rfl rfl rfl (by simp) (fun n hn _ => alloc_old w _ n hn) (G := [w.heap.size, bm]) (fun n hn => ?_)
        ⟨w.heap.size, bm, es, clock, #[], rfl, rfl, by omega, by rw [alloc_old w _ bm hlt]; exact e3, alloc_new w _, e4, ⟨fun e he k hk => ?_, fun k hk => ?_, ?_⟩, fun k x h => by cases h⟩, Go.run_range_map w t K E bm es clock u1 e3⟩
      · simp only [List.mem_cons, List.not_mem_nil, or_false] at hn
        rcases hn with rfl | rfl
        · simp
        · refine ⟨by simp; omega, .inl (by rw [e2]; simp)⟩
      · obtain ⟨q, v, p1, p2, p3⟩ := e4.1 e he
        rw [hk] at p1
        injection p1 with _ p1
        subst p1
        simp [mapHas, p3]
      · unfold mapHas at hk
        obtain ⟨v, hv⟩ := Option.isSome_iff_exists.1 hk
        exact e4.2.1 k v hv
      · refine Nat.le_trans (List.length_filter_le _ _) ?_
        simpa using e5
    · exact h.elim
  · exact h.elim

theorem nextV_sound {x : V} {a : Value} {str : Bool} {ty : TypeId} (h : nextV lk x str H k) (hx : Rel ρ x a) (hs : Sat cfg.elT ρ F H w) :
    ∃ v z F' H' w', k v H' ∧ Rel ρ v z ∧ Step cfg lk ρ F H w ρ F' H' w' ∧ (Instr.next a str ty).run cfg.P w = .ok z w' := by
  unfold nextV at h
  split at h
  · rename_i i
    split at h
    · rename_i m left n cur hH
      have hc := cond_elim h
      have hc1 := hc.1
      simp only [Bool.and_eq_true, Bool.not_eq_true'] at hc1
      obtain ⟨rfl, hmw⟩ := hc1
      obtain ⟨ht, hf⟩ := hc.2
      obtain ⟨x0, hx0, r, b, es, clock, seen, e1, e2, e3, e4, e5, e6, e7, e8⟩ := sat_val hs hH
      obtain ⟨r', hb, rfl⟩ := den_ptr hx
      rw [hb] at hx0; injection hx0 with hx0; subst hx0
      injection e1 with e1
      injection e1 with e1
      injection e1 with e1
      subst e1
      obtain ⟨i1, i2, i3⟩ := e7
      rcases Go.run_next_at (P := cfg.P) w ty r' b clock clock seen es clock e5 e4 (fun x hx => e6.2.2.2.2 x hx) (Nat.le_refl _) with ⟨h0, hrun⟩ | ⟨e, he, w1, hal, hrun⟩
      · refine ⟨_, .tuple #[.bool false], _, _, _, hf (fun q => ?_), .inr rfl, Step.refl hs, hrun⟩
        cases hq : left q with
        | false => rfl
        | true =>
          obtain ⟨e, he, hk⟩ := i2 q hq
          have := i1 e he q hk
          rw [hq, all_seen es seen h0 e he] at this
          cases this
      · obtain ⟨hem, hes⟩ := mem_left he
        obtain ⟨q, v, p1, p2, p3⟩ := e6.1 e hem
        have hl : left q = true := by rw [i1 e hem q p1, hes]; rfl
        have hpos : 0 < n := by
          have : 0 < (leftOf es seen).toList.length := List.length_pos_of_mem he
          unfold leftOf at this
          rw [Array.toList_filter] at this
          omega
        have hr1 : w1.heap[r']? = some (.mapIter (some b) clock seen clock) := by rcases hal with rfl | rfl <;> exact e5
        have hset := Go.MapKept.heap_set (o' := .mapIter (some b) clock (seen.push e.born) clock) hr1
        have hw1 : w1.heap = w.heap := by rcases hal with rfl | rfl <;> rfl
        rw [p1, p2] at hrun
        refine ⟨_, .tuple #[.bool true, i64 q, i64 v], _, _, _, ht q v hl p3 (by simpa using hpos), .inr rfl, .set hs hH rfl hb (mayWrite_lk hmw) (w' := setBlock w1 r' (.mapIter (some b) clock (seen.push e.born) clock)) (G := [r', b])
          (by rcases hal with rfl | rfl <;> rfl) (by rcases hal with rfl | rfl <;> rfl) (by rcases hal with rfl | rfl <;> rfl) (by simp [setBlock, hw1]) (fun j hj hno => ?_) (fun j hj => by rw [e2]; exact hj)
          ⟨r', b, es, clock, seen.push e.born, rfl, rfl, e3, (hset.2 b (fun h => e3 h.symm)).trans (by rw [hw1]; exact e4), hset.1, e6, ⟨fun x hx k' hk' => ?_, fun k' hk' => ?_, ?_⟩, fun k' x' hk' => ?_⟩, hrun⟩
        · rw [← hw1]
          exact hset.2 j (fun h => hno (by rw [e2, h]; simp))
        · rw [contains_push]
          unfold mapDrop
          rw [i1 x hx k' hk']
          have : decide (k' = q) = (x.born == e.born) := by
            by_cases hkq : k' = q
            · subst hkq
              have := keyed_inj e6.2.2.1 hx hem (by rw [hk', p1])
              subst this
              simp
            · have hne : x.born ≠ e.born := fun hb => by
                obtain ⟨ix, hix⟩ := List.getElem?_of_mem hx
                obtain ⟨ie, hie⟩ := List.getElem?_of_mem hem
                have h1 := List.getElem?_eq_some_iff.1 hix
                have h2 := List.getElem?_eq_some_iff.1 hie
                obtain ⟨h1, h1'⟩ := h1
                obtain ⟨h2, h2'⟩ := h2
                have hP := List.pairwise_iff_getElem.1 e6.2.2.2.1
                rcases Nat.lt_trichotomy ix ie with hlt | heq | hlt
                · exact hP ix ie h1 h2 hlt (by rw [h1', h2', hb])
                · subst heq
                  rw [h1'] at h2'
                  subst h2'
                  rw [hk'] at p1
                  injection p1 with _ p1
                  exact hkq p1
                · exact hP ie ix h2 h1 hlt (by rw [h1', h2', hb])
              simp [hkq, hne]
          rw [this]
          cases seen.contains x.born <;> cases (x.born == e.born) <;> rfl
        · unfold mapDrop at hk'
          simp only [Bool.and_eq_true] at hk'
          exact i2 k' hk'.1
        · have hlt := left_shrinks es seen e he
          have c1 : ∀ s, (leftOf es s).size = (es.toList.filter fun e => !s.contains e.born).length := fun s => by
            unfold leftOf
            rw [← Array.length_toList, Array.toList_filter]
          rw [c1, c1] at hlt
          omega
        · injection hk' with hk'
          injection hk' with h1 h2
          subst h1; subst h2
          exact ⟨seen, e, rfl, hem, p1, p2⟩
    · exact h.elim
  · exact h.elim
end Go.Rx
