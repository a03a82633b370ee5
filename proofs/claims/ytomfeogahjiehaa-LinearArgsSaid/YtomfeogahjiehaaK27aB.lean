/- What the row's text of this claim stands on, part 2: the symbolic executor, contracts of the program's functions, plain facts. No condition. -/
import Derived.Maps.RangeRun
import Derived.Maps.Range
import Derived.Laws.CopyRow
import Derived.LoopN
import Derived.Scope
import Derived.KernelRfl
import Derived.Recover
import Derived.Test.YtomfeogahjiehaaProg
import Derived.Test.YtomfeogahjiehaaK27aA
section
namespace Go.Rx
open Go.ChangeMaps (setBlock)
variable {cfg : Cfg} {lk : Option (Blk → Bool)} {H : Heap} {ρ : List Value} {F : Nat → List Nat} {w : World} {k : V → Heap → Prop}
theorem makeMapV_sound {t : TypeId} {r : Option V} {r' : Option Value} (h : makeMapV cfg t r H k) (hr : ∀ v, r = some v → ∃ x, r' = some x ∧ Rel ρ v x) (hr' : r = none → r' = none) (hs : Sat cfg.elT ρ F H w) :
    ∃ v z ρ' F' H' w', k v H' ∧ Rel ρ' v z ∧ Step cfg lk ρ F H w ρ' F' H' w' ∧ (Instr.makeMap t r').run cfg.P w = .ok z w' := by
  have hst : Step cfg lk ρ F H w (ρ ++ [.map (some w.heap.size)]) (fset F H.length [w.heap.size]) (H ++ [.map (fun _ => none) 0]) (w.alloc (.map #[] 0)) :=
    .push hs rfl rfl rfl (by simp) (fun n hn => alloc_old w _ n hn) (fun n hn => by simp at hn; subst hn; simp)
      ⟨_, #[], 0, rfl, rfl, alloc_new w _, ⟨by simp, by simp, by simp, by simp, by simp⟩, Nat.le_refl _⟩
  unfold makeMapV at h
  split at h
  · rw [hr' rfl]
    exact ⟨_, _, _, _, _, _, h, mk_mp (get_new hs _), hst, by simp [Instr.makeMap, newObj, Sem.run]⟩
  · rename_i kd n
    obtain ⟨x, rfl, hx⟩ := hr _ rfl
    obtain rfl := den_ext hx
    have hc := cond_elim h
    obtain ⟨K, E, inf, z, u1, u2, u3, u4, u5⟩ := mapInt_spec hc.1
    exact ⟨_, _, _, _, _, _, hc.2, mk_mp (get_new hs _), hst, by simp [Instr.makeMap, newObj, Sem.run, run_underlying u1, asInt, asIntOf]⟩
  · exact h.elim
theorem sat_val (hs : Sat cfg.elT ρ F H w) {i : Nat} {b : Blk} (hb : H[i]? = some b) : ∃ x, ρ[i]? = some x ∧ b.holds cfg.elT ρ w x (F i) := by
  have hi : i < ρ.length := by rw [hs.len]; exact (List.getElem?_eq_some_iff.1 hb).1
  exact ⟨ρ[i], List.getElem?_eq_getElem hi, hs.each i b _ hb (List.getElem?_eq_getElem hi)⟩
theorem run_keyThatStays_int {P : Program} (a : Int) (w : World) : (Instr.keyThatStays (i64 a) (i64 a)).run P w = .ok (i64 a) w := by
  simp [Instr.keyThatStays, Instr.sameBits]
theorem keyed_inj {es : List MapEntry} (hp : es.Pairwise (fun x y => x.key ≠ y.key)) : ∀ {x y : MapEntry}, x ∈ es → y ∈ es → x.key = y.key → x = y := fun hx hy h => entry_eq_of_key hp hx hy h
theorem entries_push {m : Int → Option Int} {es : List MapEntry} {clock : Nat} (h : entriesOK m es clock) (a y : Int) (hn : ∀ e ∈ es, e.key ≠ i64 a) :
    entriesOK (mapSet m a y) (es ++ [{ key := i64 a, val := i64 y, born := clock }]) (clock + 1) := by
  obtain ⟨h1, h2, h3, h4, h5⟩ := h
  refine ⟨fun e he => ?_, fun q v hq => ?_, ?_, ?_, fun e he => ?_⟩
  · rcases List.mem_append.1 he with he | he
    · obtain ⟨q, v, e1, e2, e3⟩ := h1 e he
      refine ⟨q, v, e1, e2, ?_⟩
      unfold mapSet
      rw [if_neg (fun hq => hn e he (by rw [e1, hq]))]
      exact e3
    · simp only [List.mem_singleton] at he; subst he
      exact ⟨a, y, rfl, rfl, by simp [mapSet]⟩
  · unfold mapSet at hq
    split at hq
    · rename_i hqa; subst hqa
      exact ⟨{ key := i64 q, val := i64 y, born := clock }, by simp, rfl⟩
    · obtain ⟨e, he, hk⟩ := h2 q v hq
      exact ⟨e, by simp [he], hk⟩
  · refine List.pairwise_append.2 ⟨h3, by simp, fun x hx z hz => ?_⟩
    simp only [List.mem_singleton] at hz; subst hz
    exact hn x hx
  · refine List.pairwise_append.2 ⟨h4, by simp, fun x hx z hz => ?_⟩
    simp only [List.mem_singleton] at hz; subst hz
    exact Nat.ne_of_lt (h5 x hx)
  · rcases List.mem_append.1 he with he | he
    · have := h5 e he; omega
    · simp only [List.mem_singleton] at he; subst he; exact Nat.lt_succ_self _
theorem entries_set {m : Int → Option Int} {es : List MapEntry} {clock : Nat} (h : entriesOK m es clock) (a y : Int) {j : Nat} {e0 : MapEntry} (hj : es[j]? = some e0) (hk : e0.key = i64 a) :
    entriesOK (mapSet m a y) (es.set j { e0 with key := i64 a, val := i64 y }) clock := by
  obtain ⟨h1, h2, h3, h4, h5⟩ := h
  have hlt := (List.getElem?_eq_some_iff.1 hj).1
  have hget := (List.getElem?_eq_some_iff.1 hj).2
  have hmem : e0 ∈ es := List.mem_of_getElem? hj
  have hkey : ∀ i, (es.set j { e0 with key := i64 a, val := i64 y })[i]?.map MapEntry.key = es[i]?.map MapEntry.key := fun i => by
    rw [List.getElem?_set]
    split
    · rename_i e; subst e; rw [hj]; simp [hlt, hk]
    · rfl
  have hborn : ∀ i, (es.set j { e0 with key := i64 a, val := i64 y })[i]?.map MapEntry.born = es[i]?.map MapEntry.born := fun i => by
    rw [List.getElem?_set]
    split
    · rename_i e; subst e; rw [hj]; simp [hlt]
    · rfl
  have hmk : (es.set j { e0 with key := i64 a, val := i64 y }).map MapEntry.key = es.map MapEntry.key := List.ext_getElem? fun i => by rw [List.getElem?_map, List.getElem?_map]; exact hkey i
  have hmb : (es.set j { e0 with key := i64 a, val := i64 y }).map MapEntry.born = es.map MapEntry.born := List.ext_getElem? fun i => by rw [List.getElem?_map, List.getElem?_map]; exact hborn i
  have mem : ∀ e ∈ es.set j { e0 with key := i64 a, val := i64 y }, e = { e0 with key := i64 a, val := i64 y } ∨ (e ∈ es ∧ e.key ≠ i64 a) := fun e he => by
    obtain ⟨i, hi⟩ := List.getElem?_of_mem he
    rw [List.getElem?_set] at hi
    split at hi
    · rename_i e; subst e; simp [hlt] at hi; exact .inl hi.symm
    · rename_i hne
      have hmi := List.mem_of_getElem? hi
      refine .inr ⟨hmi, fun hka => hne ?_⟩
      have heq := keyed_inj h3 hmi hmem (by rw [hka, hk])
      subst heq
      have hi' := (List.getElem?_eq_some_iff.1 hi).1
      by_cases hij : i < j
      · have := List.pairwise_iff_getElem.1 h3 i j hi' hlt hij
        rw [(List.getElem?_eq_some_iff.1 hi).2, hget] at this
        exact absurd rfl this
      · by_cases hji : j < i
        · have := List.pairwise_iff_getElem.1 h3 j i hlt hi' hji
          rw [(List.getElem?_eq_some_iff.1 hi).2, hget] at this
          exact absurd rfl this
        · omega
  refine ⟨fun e he => ?_, fun q v hq => ?_, ?_, ?_, fun e he => ?_⟩
  · rcases mem e he with rfl | ⟨he, hne⟩
    · exact ⟨a, y, rfl, rfl, by simp [mapSet]⟩
    · obtain ⟨q, v, e1, e2, e3⟩ := h1 e he
      refine ⟨q, v, e1, e2, ?_⟩
      unfold mapSet
      rw [if_neg (fun hq => hne (by rw [e1, hq]))]
      exact e3
  · have hin : ∃ e ∈ es, e.key = i64 q := by
      unfold mapSet at hq
      split at hq
      · rename_i hqa; subst hqa; exact ⟨e0, hmem, hk⟩
      · exact h2 q v hq
    obtain ⟨e, he, hke⟩ := hin
    have : i64 q ∈ (es.set j { e0 with key := i64 a, val := i64 y }).map MapEntry.key := by rw [hmk]; exact List.mem_map.2 ⟨e, he, hke⟩
    obtain ⟨e', he', hke'⟩ := List.mem_map.1 this
    exact ⟨e', he', hke'⟩
  · have : ((es.set j { e0 with key := i64 a, val := i64 y }).map MapEntry.key).Pairwise (· ≠ ·) := by rw [hmk]; exact List.pairwise_map.2 h3
    exact List.pairwise_map.1 this
  · have : ((es.set j { e0 with key := i64 a, val := i64 y }).map MapEntry.born).Pairwise (· ≠ ·) := by rw [hmb]; exact List.pairwise_map.2 h4
    exact List.pairwise_map.1 this
  · rcases mem e he with rfl | ⟨he, _⟩
    · exact h5 e0 hmem
    · exact h5 e he
theorem modify_eq_set {α : Type} (f : α → α) (l : List α) {j : Nat} {e : α} (h : l[j]? = some e) : l.modify j f = l.set j (f e) := by
  apply List.ext_getElem?
  intro i
  rw [List.getElem?_modify, List.getElem?_set]
  by_cases hij : j = i
  · subst hij
    obtain ⟨h1, h2⟩ := List.getElem?_eq_some_iff.1 h
    simp [h1, h2]
  · simp [hij]
theorem mapUpdateV_sound {t : TypeId} {x key v : V} {a b c : Value} {k : Heap → Prop} (h : mapUpdateV cfg lk t x key v H k) (hx : Rel ρ x a) (hk : Rel ρ key b) (hv : Rel ρ v c) (hs : Sat cfg.elT ρ F H w) :
    ∃ F' H' w', k H' ∧ Step cfg lk ρ F H w ρ F' H' w' ∧ (Instr.mapUpdate t a b c).run cfg.P w = .ok () w' := by
  unfold mapUpdateV at h
  split at h
  · rename_i i
    split at h
    · rename_i q
      obtain rfl := den_ext hk
      split at h
      · rename_i y
        obtain rfl := den_ext hv
        split at h
        · rename_i m n hH
          have hc := cond_elim h
          have hc1 := hc.1
          simp only [Bool.and_eq_true] at hc1
          obtain ⟨K, E, inf, z, u1, u2, u3, u4, u5⟩ := mapInt_spec hc1.1
          obtain ⟨x0, hx0, b', es, clock, e1, e2, e3, e4, e5⟩ := sat_val hs hH
          obtain ⟨bm, hb, rfl⟩ := den_mp hx
          rw [hb] at hx0; injection hx0 with hx0; subst hx0
          injection e1 with e1
          injection e1 with e1
          subst e1
          have hes : ∀ e ∈ es.toList, ∃ k v, e.key = i64 k ∧ e.val = i64 v := fun e he => by
            obtain ⟨k, v, p1, p2, _⟩ := e4.1 e he; exact ⟨k, v, p1, p2⟩
          have fin : ∀ (es' : Array MapEntry) (clock' : Nat), entriesOK (mapSet m q y) es'.toList clock' → es'.size ≤ n + 1 → (Instr.mapUpdate t (.map (some bm)) (i64 q) (i64 y)).run cfg.P w = .ok () (setBlock w bm (.map es' clock')) →
              ∃ F' H' w', k H' ∧ Step cfg lk ρ F H w ρ F' H' w' ∧ (Instr.mapUpdate t (.map (some bm)) (i64 q) (i64 y)).run cfg.P w = .ok () w' := fun es' clock' he hsz hrun =>
            have hset := Go.MapKept.heap_set (o' := .map es' clock') e3
            ⟨_, _, _, hc.2, .set hs hH rfl hb (mayWrite_lk hc1.2) rfl rfl rfl (by simp [setBlock]) (fun j hj hno => hset.2 j (fun e => hno (by rw [e2, e]; simp))) (w' := setBlock w bm (.map es' clock')) (G := [bm]) (fun j hj => by rw [e2]; exact hj)
              ⟨bm, es', clock', rfl, rfl, hset.1, he, hsz⟩, hrun⟩
          rcases run_findKey_int u2 q es.toList hes w with ⟨r1, r2⟩ | ⟨j, e, r1, r2, r3⟩
          · refine fin (es.push { key := i64 q, val := i64 y, born := clock }) (clock + 1) ?_ (by simp; omega) ?_
            · rw [Array.toList_push]; exact entries_push e4 q y r2
            · simp only [Instr.mapUpdate, Sem.run_bind, run_underlying u1, Result.andThen_ok, run_getObj' e3, run_checkKey_int u2, r1, Go.MapKept.run_setObj_map _ e3]
              rfl
          · have hjlt : j < es.size := by have := (List.getElem?_eq_some_iff.1 r2).1; simpa using this
            have hje : es[j]? = some e := by rw [← Array.getElem?_toList]; exact r2
            refine fin (es.modify j fun e => { e with key := i64 q, val := i64 y }) clock ?_ (by simp; omega) ?_
            · have : (es.modify j fun e => { e with key := i64 q, val := i64 y }).toList = es.toList.set j { e with key := i64 q, val := i64 y } := by
                rw [Array.toList_modify, modify_eq_set _ _ r2]
              rw [this]
              exact entries_set e4 q y r2 r3
            · simp only [Instr.mapUpdate, Sem.run_bind, run_underlying u1, Result.andThen_ok, run_getObj' e3, run_checkKey_int u2, r1, hje, Option.map_some, Option.getD_some, r3, run_keyThatStays_int, Go.MapKept.run_setObj_map _ e3]
              rfl
        · exact h.elim
      · exact h.elim
    · exact h.elim
  · exact h.elim
theorem rangeV_sound {t : TypeId} {x : V} {a : Value} (h : rangeV cfg lk t x H k) (hx : Rel ρ x a) (hs : Sat cfg.elT ρ F H w) :
    ∃ v z ρ' F' H' w', k v H' ∧ Rel ρ' v z ∧ Step cfg lk ρ F H w ρ' F' H' w' ∧ (Instr.range t a).run cfg.P w = .ok z w' := by
  unfold rangeV at h
  split at h
  · rename_i i
    split at h
    · rename_i m n hH
      have hc := cond_elim h
      have hc1 := hc.1
      simp only [Bool.and_eq_true] at hc1
      obtain ⟨K, E, inf, z, u1, u2, u3, u4, u5⟩ := mapInt_spec hc1.1
      obtain ⟨x0, hx0, b', es, clock, e1, e2, e3, e4, e5⟩ := sat_val hs hH
      obtain ⟨bm, hb, rfl⟩ := den_mp hx
      rw [hb] at hx0; injection hx0 with hx0; subst hx0
      injection e1 with e1
      injection e1 with e1
      subst e1
      have hlt : bm < w.heap.size := hs.lt i _ hH bm (by rw [e2]; simp)
      refine ⟨_, _, _, _, _, _, hc.2, mk_ptr (get_new hs _), .move hs hH rfl (mayWrite_lk hc1.2) (w' := w.alloc (.mapIter (some bm) clock #[] clock)) rfl rfl rfl (by simp) (fun n hn _ => alloc_old w _ n hn) (G := [w.heap.size, bm]) (fun n hn => ?_)
        ⟨w.heap.size, bm, es, clock, #[], rfl, rfl, by omega, by rw [alloc_old w _ bm hlt]; exact e3, alloc_new w _, e4, ⟨fun e he k hk => ?_, fun k hk => ?_, ?_⟩, fun k x h => by cases h⟩, Go.run_range_map w t K E bm es clock u1 e3⟩
      · simp only [List.mem_cons, List.not_mem_nil, or_false] at hn
        rcases hn with rfl | rfl
        · simp
        · refine ⟨by simp; omega, .inl (by rw [e2]; simp)⟩
      · obtain ⟨q, v, p1, p2, p3⟩ := e4.1 e he
        rw [hk] at p1
        injection p1 with _ p1
        subst p1
        simp [mapHas, p3]
      · unfold mapHas at hk
        obtain ⟨v, hv⟩ := Option.isSome_iff_exists.1 hk
        exact e4.2.1 k v hv
      · refine Nat.le_trans (List.length_filter_le _ _) ?_
        simpa using e5
    · exact h.elim
  · exact h.elim
theorem nextV_sound {x : V} {a : Value} {str : Bool} {ty : TypeId} (h : nextV lk x str H k) (hx : Rel ρ x a) (hs : Sat cfg.elT ρ F H w) :
    ∃ v z F' H' w', k v H' ∧ Rel ρ v z ∧ Step cfg lk ρ F H w ρ F' H' w' ∧ (Instr.next a str ty).run cfg.P w = .ok z w' := by
  unfold nextV at h
  split at h
  · rename_i i
    split at h
    · rename_i m left n cur hH
      have hc := cond_elim h
      have hc1 := hc.1
      simp only [Bool.and_eq_true, Bool.not_eq_true'] at hc1
      obtain ⟨rfl, hmw⟩ := hc1
      obtain ⟨ht, hf⟩ := hc.2
      obtain ⟨x0, hx0, r, b, es, clock, seen, e1, e2, e3, e4, e5, e6, e7, e8⟩ := sat_val hs hH
      obtain ⟨r', hb, rfl⟩ := den_ptr hx
      rw [hb] at hx0; injection hx0 with hx0; subst hx0
      injection e1 with e1
      injection e1 with e1
      injection e1 with e1
      subst e1
      obtain ⟨i1, i2, i3⟩ := e7
      rcases Go.run_next_at (P := cfg.P) w ty r' b clock clock seen es clock e5 e4 (fun x hx => e6.2.2.2.2 x hx) (Nat.le_refl _) with ⟨h0, hrun⟩ | ⟨e, he, w1, hal, hrun⟩
      · refine ⟨_, .tuple #[.bool false], _, _, _, hf (fun q => ?_), .inr rfl, Step.refl hs, hrun⟩
        cases hq : left q with
        | false => rfl
        | true =>
          obtain ⟨e, he, hk⟩ := i2 q hq
          have := i1 e he q hk
          rw [hq, all_seen es seen h0 e he] at this
          cases this
      · obtain ⟨hem, hes⟩ := mem_left he
        obtain ⟨q, v, p1, p2, p3⟩ := e6.1 e hem
        have hl : left q = true := by rw [i1 e hem q p1, hes]; rfl
        have hpos : 0 < n := by
          have : 0 < (leftOf es seen).toList.length := List.length_pos_of_mem he
          unfold leftOf at this
          rw [Array.toList_filter] at this
          omega
        have hr1 : w1.heap[r']? = some (.mapIter (some b) clock seen clock) := by rcases hal with rfl | rfl <;> exact e5
        have hset := Go.MapKept.heap_set (o' := .mapIter (some b) clock (seen.push e.born) clock) hr1
        have hw1 : w1.heap = w.heap := by rcases hal with rfl | rfl <;> rfl
        rw [p1, p2] at hrun
        refine ⟨_, .tuple #[.bool true, i64 q, i64 v], _, _, _, ht q v hl p3 (by simpa using hpos), .inr rfl, .set hs hH rfl hb (mayWrite_lk hmw) (w' := setBlock w1 r' (.mapIter (some b) clock (seen.push e.born) clock)) (G := [r', b])
          (by rcases hal with rfl | rfl <;> rfl) (by rcases hal with rfl | rfl <;> rfl) (by rcases hal with rfl | rfl <;> rfl) (by simp [setBlock, hw1]) (fun j hj hno => ?_) (fun j hj => by rw [e2]; exact hj)
          ⟨r', b, es, clock, seen.push e.born, rfl, rfl, e3, (hset.2 b (fun h => e3 h.symm)).trans (by rw [hw1]; exact e4), hset.1, e6, ⟨fun x hx k' hk' => ?_, fun k' hk' => ?_, ?_⟩, fun k' x' hk' => ?_⟩, hrun⟩
        · rw [← hw1]
          exact hset.2 j (fun h => hno (by rw [e2, h]; simp))
        · rw [contains_push]
          unfold mapDrop
          rw [i1 x hx k' hk']
          have : decide (k' = q) = (x.born == e.born) := by
            by_cases hkq : k' = q
            · subst hkq
              have := keyed_inj e6.2.2.1 hx hem (by rw [hk', p1])
              subst this
              simp
            · have hne : x.born ≠ e.born := fun hb => by
                obtain ⟨ix, hix⟩ := List.getElem?_of_mem hx
                obtain ⟨ie, hie⟩ := List.getElem?_of_mem hem
                have h1 := List.getElem?_eq_some_iff.1 hix
                have h2 := List.getElem?_eq_some_iff.1 hie
                obtain ⟨h1, h1'⟩ := h1
                obtain ⟨h2, h2'⟩ := h2
                have hP := List.pairwise_iff_getElem.1 e6.2.2.2.1
                rcases Nat.lt_trichotomy ix ie with hlt | heq | hlt
                · exact hP ix ie h1 h2 hlt (by rw [h1', h2', hb])
                · subst heq
                  rw [h1'] at h2'
                  subst h2'
                  rw [hk'] at p1
                  injection p1 with _ p1
                  exact hkq p1
                · exact hP ie ix h2 h1 hlt (by rw [h1', h2', hb])
              simp [hkq, hne]
          rw [this]
          cases seen.contains x.born <;> cases (x.born == e.born) <;> rfl
        · unfold mapDrop at hk'
          simp only [Bool.and_eq_true] at hk'
          exact i2 k' hk'.1
        · have hlt := left_shrinks es seen e he
          have c1 : ∀ s, (leftOf es s).size = (es.toList.filter fun e => !s.contains e.born).length := fun s => by
            unfold leftOf
            rw [← Array.length_toList, Array.toList_filter]
          rw [c1, c1] at hlt
          omega
        · injection hk' with hk'
          injection hk' with h1 h2
          subst h1; subst h2
          exact ⟨seen, e, rfl, hem, p1, p2⟩
    · exact h.elim
  · exact h.elim
end Go.Rx
end

section
namespace Go.Rx
variable {cfg : Cfg} {lk : Option (Blk → Bool)} {H : Heap} {ρ : List Value} {F : Nat → List Nat} {w : World} {k : V → Heap → Prop}
theorem run_copy {P : Program} {t elem : TypeId} {ty : TypeId} {inf : TypeInfo} (hu : P.underlying t = some (.slice elem)) (hi : P.info? elem = some inf) (w : World) (base : Option Addr) (n cap : Nat) (a : Addr) (sl sc : Nat) (cs : List Value)
    (hcs : cs.length = Nat.min sl n * inf.size) (hsrc : ∀ j v, cs[j]? = some v → w.cell? (a.add j) = some v) {w' : World} (hst : ∀ b, base = some b → (storeCells b cs).run P w = .ok () w') (hno : base = none → w' = w) :
    (Builtin.copy_ #[t, t] ty #[.slice base n cap, .slice (some a) sl sc]).run P w = .ok (goInt (Nat.min sl n)) w' := by
  have hl := run_loadCells_list (P := P) (w := w) a cs hsrc
  rw [hcs] at hl
  cases base with
  | none =>
    rw [hno rfl]
    simp [Builtin.copy_, run_underlying hu, Builtin.lenOf, Builtin.firstCells, sizeOf, typeInfo, hi, hl]
  | some b =>
    simp [Builtin.copy_, run_underlying hu, Builtin.lenOf, Builtin.firstCells, sizeOf, typeInfo, hi, hl, hst b rfl]
theorem copyTo_sound (ok : CfgOK cfg) {t ty tg i lo n : Nat} {ly : List (El ty)} {x : Value} {tyR : TypeId} (ht : cfg.tagOf t = some tg) (h : copyTo lk tg i lo n H k ty ly) {adx : Option Addr} {lenx capx : Nat} (hx : ρ[i]? = some (.slice adx lenx capx))
    (hs : Sat cfg.elT ρ F H w) {ad : Option Addr} {cap : Nat} (hcap : ad = none → cap = 0) (hl : ly.length ≤ cap ∨ ad ≠ none)
    (hc : ∀ j y, (flat ty ly)[j]? = some y → ∃ a, ad = some a ∧ w.cell? (a.add j) = some y) (hxv : x = .slice (if capx = lo then adx else adx.map (·.add (lo * elM tg))) n (capx - lo)) :
    ∃ v z ρ' F' H' w', k v H' ∧ Rel ρ' v z ∧ Step cfg lk ρ F H w ρ' F' H' w' ∧ (Builtin.copy_ #[t, t] tyR #[x, .slice ad ly.length cap]).run cfg.P w = .ok z w' := by
  unfold copyTo at h
  split at h
  · rename_i tx lx ro hH
    have hcd := cond_elim h
    have hc1 := hcd.1
    simp only [Bool.and_eq_true] at hc1
    obtain ⟨⟨hro, hm⟩, htx⟩ := hc1
    obtain rfl := Nat.eq_of_beq_eq_true htx
    have hro : ro = false := by simpa using hro
    subst hro
    have hh := hcd.2
    split at hh
    · rename_i e
      subst e
      have hr := Req_elim hh
      have hq : lo + n ≤ lx.length := by simpa using hr.1
      have hk := hr.2
      obtain ⟨hown, hF⟩ := hs.each i _ _ hH hx
      obtain ⟨u1, inf, z, u2, u3, u4, u5, u6⟩ := ok.tags t _ ht
      have hmin : Nat.min ly.length n = min n ly.length := Nat.min_comm _ _
      by_cases hz : min n ly.length = 0
      ·
        have hk' : k (vi ((min n ly.length : Nat) : Int)) H := by
          have e : lx.take lo ++ (ly.take (min n ly.length) ++ lx.drop (lo + min n ly.length)) = lx := by rw [hz]; simp
          have hset : H.set i (.row ty lx false) = H := by
            apply List.ext_getElem?
            intro j
            rw [List.getElem?_set]
            split
            · rename_i e; subst e; have := (List.getElem?_eq_some_iff.1 hH).1; simp only [this, if_true]; exact hH.symm
            · rfl
          have hk2 := hk
          rw [show (lx.take lo ++ (ly.take (min n ly.length) ++ lx.drop (lo + min n ly.length))) = lx from e] at hk2
          rw [hset] at hk2
          exact hk2
        refine ⟨_, goInt (Nat.min ly.length n), ρ, F, H, w, hk', .inr ?_, .refl hs, ?_⟩
        · simp only [V.den, vi, goInt, hmin]
        · subst hxv
          have hm0 : Nat.min ly.length n = 0 := by rw [hmin]; exact hz
          cases ad with
          | none =>
            have e1 := hcap rfl
            subst e1
            simp [Builtin.copy_, run_underlying u1, Builtin.lenOf, Builtin.firstCells, sizeOf, typeInfo, u2, storeCells]
            split <;> simp [storeCells]
          | some a =>
            refine run_copy u1 u2 w _ n _ a ly.length cap [] (by rw [hm0]; simp) (by simp) (fun b _ => by simp [storeCells]) (fun _ => rfl)
      · have hn0 : 0 < n := by omega
        have hly0 : 0 < ly.length := by omega
        rcases hown.2 with ⟨h', h0⟩ | ⟨g, cap', cur, h', _, hg, hcp, hcm, hcs, htake⟩
        · omega
        · injection h' with e1 e2 e3
          subst e1; subst e2; subst e3
          have hne : ¬ capx = lo := by omega
          have hmp := elM_pos ty
          have hflat1 : 0 < (flat ty ly).length := by rw [flat_len]; exact Nat.mul_pos hly0 hmp
          obtain ⟨a, hada, _⟩ := hc 0 _ (List.getElem?_eq_getElem hflat1)
          subst hada
          let c := min n ly.length
          let cs := (flat ty ly).take (c * elM ty)
          have hcl : c ≤ ly.length := Nat.min_le_right _ _
          have hcn : c ≤ n := Nat.min_le_left _ _
          have hcslen : cs.length = c * elM ty := by
            show ((flat ty ly).take (c * elM ty)).length = _
            rw [List.length_take, flat_len]
            have := Nat.mul_le_mul_right (elM ty) hcl
            omega
          have hcsf : cs = flat ty (ly.take c) := (flat_take ty c ly).symm
          have hflat := flat_len ty lx
          have hloc : (lo + c) * elM ty ≤ lx.length * elM ty := Nat.mul_le_mul_right _ (by omega)
          have hcapm : lx.length * elM ty ≤ cur.size := by rw [hcs]; exact Nat.mul_le_mul_right _ hcp
          have hroom : lo * elM ty + cs.length ≤ cur.size := by rw [hcslen]; rw [Nat.add_mul] at hloc; omega
          have hst := run_storeCells_at cfg.P g (lo * elM ty) (cfg.elT ty) cs 0 cur w hg (by simpa using hroom) (fun v hv => by rw [hcsf] at hv; exact flat_one ty _ v hv)
          simp only [Nat.add_zero] at hst
          refine ⟨_, goInt (Nat.min ly.length n), ρ, fset F i [g], _, w.setRow g (cur.toList.take (lo * elM ty) ++ cs ++ cur.toList.drop (lo * elM ty + cs.length)).toArray, hk, .inr ?_, ?_, ?_⟩
          · simp only [V.den, vi, goInt, hmin]
          · refine .set (w' := w.setRow g _) hs (G := [g]) hH rfl hx (mayWrite_lk hm) rfl rfl rfl (by simp [World.setRow]) (fun n hn hno => setRow_other w g n _ (fun e => hno (by simp [hF, Value.ownBlock, e]))) (fun n hn => by simp only [hF, Value.ownBlock]; exact hn) ?_
            have hlen' : (lx.take lo ++ (ly.take c ++ lx.drop (lo + c))).length = lx.length := by
              simp only [List.length_append, List.length_take, List.length_drop]; omega
            show World.ownsRow (w.setRow g _) 0 (cfg.elT ty) (elM ty) (.slice (some ⟨g, 0, none⟩) lx.length capx) (lx.take lo ++ (ly.take c ++ lx.drop (lo + c))).length (flat ty (lx.take lo ++ (ly.take c ++ lx.drop (lo + c)))) ∧ _
            refine ⟨⟨by rw [flat_len], .inr ⟨g, capx, _, by rw [hlen'], Nat.zero_le _, setRow_heap w g _ _ _ _ hg, by rw [hlen']; exact hcp, hcm, ?_, ?_⟩⟩, by simp [Value.ownBlock]⟩
            · rw [← hcs, List.size_toArray, List.length_append, List.length_append, List.length_take, List.length_drop]
              have hcl2 : cur.toList.length = cur.size := Array.length_toList
              omega
            · have hcur : cur.toList = flat ty lx ++ cur.toList.drop (lx.length * elM ty) := by rw [← htake]; simp
              rw [hlen', flat_append, flat_append, flat_take, flat_drop, ← hcsf]
              show (((cur.toList.take (lo * elM ty) ++ cs ++ cur.toList.drop (lo * elM ty + cs.length)).toArray).toList).take _ = _
              generalize cur.toList.drop (lx.length * elM ty) = R at hcur
              rw [hcur, ← hflat]
              have := take_of_parts (flat ty lx) R cs (lo * elM ty) (lo * elM ty + cs.length) (by rw [hflat, hcslen, ← Nat.add_mul]; exact hloc) rfl
              rw [show ((flat ty lx ++ R).take (lo * elM ty) ++ cs ++ (flat ty lx ++ R).drop (lo * elM ty + cs.length)).toArray.toList = ((flat ty lx ++ R).take (lo * elM ty) ++ cs ++ (flat ty lx ++ R).drop (lo * elM ty + cs.length)) from by simp]
              rw [this, hcslen, ← Nat.add_mul, List.append_assoc]
          · subst hxv
            rw [if_neg hne]
            have hb : (some (⟨g, 0, none⟩ : Addr)).map (·.add (lo * elM ty)) = some ⟨g, lo * elM ty, none⟩ := by
              rw [Option.map_some, add_lit0, Nat.zero_add]
            rw [hb]
            refine run_copy u1 u2 w _ n _ a ly.length cap cs (by rw [hcslen, u5, hmin]) (fun j v hj => ?_) (fun b hb => ?_) (fun hb => by cases hb)
            · have hj' : (flat ty ly)[j]? = some v := by
                have hj : ((flat ty ly).take (c * elM ty))[j]? = some v := hj
                rw [List.getElem?_take] at hj
                split at hj
                · exact hj
                · cases hj
              obtain ⟨a', e, hh⟩ := hc j v hj'
              injection e with e; subst e; exact hh
            · injection hb with hb; subst hb; exact hst
    · exact hh.elim
  · exact h.elim
theorem copyV_sound (ok : CfgOK cfg) {t : TypeId} {x y : V} {a b : Value} {tyR : TypeId} (h : copyV cfg lk t x y H k) (hx : Rel ρ x a) (hy : Rel ρ y b) (hs : Sat cfg.elT ρ F H w) :
    ∃ v z ρ' F' H' w', k v H' ∧ Rel ρ' v z ∧ Step cfg lk ρ F H w ρ' F' H' w' ∧ (Builtin.copy_ #[t, t] tyR #[a, b]).run cfg.P w = .ok z w' := by
  unfold copyV at h
  split at h
  · exact h.elim
  · rename_i tg ht
    split at h
    · rename_i i
      split at h
      · rename_i tx l ro hH
        obtain ⟨ty, ly, ad, cap, hk, rfl, h1, _, h2⟩ := rowOf_sound h hy hs
        have hr := den_row hx
        obtain ⟨adx, capx, hxs, hcx, _⟩ := hs.shape i _ _ _ hH
        rw [hr] at hxs; injection hxs with hxs; subst hxs
        refine copyTo_sound ok ht hk hr hs h1 ?_ h2 ?_
        · cases ad with
          | none =>
            left
            have := flat_nil_of (Q := fun a y j => w.cell? (a.add j) = some y) rfl h2
            subst this; simp
          | some a => exact .inr (by simp)
        · by_cases e : capx = 0
          · rw [if_pos e, Nat.sub_zero]
          · rw [if_neg e, Nat.zero_mul, Nat.sub_zero]
            cases adx with
            | none => rfl
            | some a => simp [Addr.add]
      · exact h.elim
    · rename_i i lo n m
      have hc := cond_elim h
      obtain rfl := Nat.eq_of_beq_eq_true hc.1
      obtain ⟨ty, ly, ad, cap, hk, rfl, h1, _, h2⟩ := rowOf_sound hc.2 hy hs
      obtain ⟨adx, lenx, capx, hr, rfl⟩ := den_sub hx
      refine copyTo_sound ok ht hk hr hs h1 ?_ h2 rfl
      cases ad with
      | none =>
        left
        have := flat_nil_of (Q := fun a y j => w.cell? (a.add j) = some y) rfl h2
        subst this; simp
      | some a => exact .inr (by simp)
    · exact h.elim
end Go.Rx
end

section
namespace Go.Rx
variable {cfg : Cfg} {lk : Option (Blk → Bool)} {H : Heap} {ρ : List Value} {F : Nat → List Nat} {w : World} {k : V → Heap → Prop} {ds : List Deferred}
theorem upon_value' {P : Program} {o : Oper} {a : Act} {next : Act → World → Prop} {Q : Exit → Act → World → Prop} {s : Sem Next} {x : Value} {w w' : World} (h : s.run P w = .ok (.value x) w') (hn : next (a.put o.dst x) w') :
    o.upon P a next Q (s.run P w) := by rw [h]; exact hn
theorem upon_skip' {P : Program} {o : Oper} {a : Act} {next : Act → World → Prop} {Q : Exit → Act → World → Prop} {s : Sem Next} {w w' : World} (h : s.run P w = .ok .skip w') (hn : next (a.put o.dst undef) w') :
    o.upon P a next Q (s.run P w) := by rw [h]; exact hn
theorem run_alloc' {P : Program} {T : TypeId} {inf : TypeInfo} {z : Value} (h1 : P.info? T = some inf) (h2 : inf.zero = some z) (w : World) :
    (Instr.alloc T true (.tuple #[])).run P w = .ok (.pointer (some ⟨w.heap.size, 0, none⟩)) (w.alloc (.cells z.cells T)) := by
  simp only [Instr.alloc, Sem.run_bind, zeroValue, typeInfo, newVar, newRow, run_newObj', Result.andThen_ok, Sem.run_pure, program, Sem.run, h1, h2, pure]
theorem run_box' {P : Program} {T : TypeId} (v : Value) (w : World) :
    (Instr.box T v).run P w = .ok (.pointer (some ⟨w.heap.size, 0, none⟩)) (w.alloc (.cells v.cells T)) := by
  simp only [Instr.box, Sem.run_bind, newVar, newRow, run_newObj', Result.andThen_ok, Sem.run_pure]
theorem told_next {P : Program} {m : Sem Value} {x : Value} {w w' : World} (h : m.run P w = .ok x w') : ((do pure (.value (← m))) : Sem Next).run P w = .ok (.value x) w' := by
  rw [Sem.run_bind, h]; rfl
theorem told_skip {P : Program} {m : Sem Unit} {w w' : World} (h : m.run P w = .ok () w') : ((do m; pure .skip) : Sem Next).run P w = .ok .skip w' := by
  rw [Sem.run_bind, h]; rfl
theorem run_callFunc {P : Program} {g : FuncId} {fn : Func} (h1 : P.funcs[g]? = some fn) (h2 : (fn.name == "runtime.NumGoroutine") = false) (h3 : fn.body.isNone = false) (args : Array Value) (w : World) :
    (callFunc g args).run P w = .ok (.enter g args) w := by
  have h2' : ¬ fn.name = "runtime.NumGoroutine" := by simpa using h2
  have h3' : ¬ fn.body = none := fun e => by rw [e] at h3; cases h3
  simp [callFunc, h1, h2', h3']
theorem Kept.refl {lk : Option (Blk → Bool)} {H : Heap} {F : Nat → List Nat} {w : World} : Kept lk H F w H F w := fun _ _ _ _ hb _ => ⟨hb, rfl, fun _ _ => rfl⟩
theorem Kept.weak {lk : Option (Blk → Bool)} {H H' : Heap} {F F' : Nat → List Nat} {w w' : World} (h : Kept (some fun _ => true) H F w H' F' w') : Kept lk H F w H' F' w' :=
  fun _ _ i b hb _ => h _ rfl i b hb rfl
theorem lkOK_all : LkOK (some fun _ => true) := by
  intro f hf g b c h
  injection hf with hf
  subst hf
  rfl
theorem lkOK_q {q : QM} {i : Nat} {lk : Option (Blk → Bool)} (h : LkOK lk) : LkOK (lkq q i lk) := by
  unfold lkq
  cases Nat.beq q.late (i + 1) with
  | true => intro f hf; cases hf
  | false => exact h
theorem loudOp_sound (ok : CfgOK cfg) (hsig : ∀ g s, cfg.sigs g = some s → SpecOK cfg.P cfg.elT g s) (hlk : LkOK lk) {o : Oper} {env : Env} {a : Act} (h : loudOp cfg lk o env H k) (hE : ∀ t, Rel ρ (env t) (a.tmps.getD t undef))
    (hs : Sat cfg.elT ρ F H w) {next : Act → World → Prop} {Q : Exit → Act → World → Prop}
    (hn : ∀ v x ρ' F' H' w', k v H' → Rel ρ' v x → Step cfg lk ρ F H w ρ' F' H' w' → next (a.put o.dst x) w') : o.wp cfg.P a w next Q := by
  obtain ⟨dst, op, type, pos, after, guard⟩ := o
  have he := fun x => REnv.ev hE x
  unfold Oper.wp
  unfold loudOp at h
  split at h <;> first | exact h.elim | (rename_i hop; simp only at hop; subst hop)
  · rename_i T
    split at h
    · rename_i i hi
      obtain ⟨inf, z, i1, i2, i3, i4, i5⟩ := Cfg.ty_spec hi
      unfold allocV at h
      split at h
      · rename_i _ _ tg ht hz
        have st1 : Step cfg lk ρ F H w _ _ (H ++ [.row tg [] false]) w := .push hs (b := .row tg [] false) (x := .slice none 0 0) (G := []) rfl rfl rfl (Nat.le_refl _) (fun _ _ => rfl) (by simp) ⟨World.ownsRow_nil _ _ _ _, rfl⟩
        have hd : denL (ρ ++ [Value.slice none 0 0]) [.row H.length] = some i.zero := by
          rw [hz]
          simp only [denL, V.den, get_new hs]
        have hlen : (H ++ [Blk.row tg [] false]).length = H.length + 1 := by simp
        refine upon_value' (told_next (run_alloc' i1 i3 w)) (hn _ _ _ _ _ _ h ?_ (st1.trans (by have := Step.cells (lk := lk) (T := T) (U := allocTy cfg dst T) st1.sat hd; rw [i5, Array.toArray_toList] at this; exact this)))
        have := mk_ptr (o := 0) (get_new st1.sat (.pointer (some ⟨w.heap.size, 0, none⟩)))
        rw [hlen] at this
        exact this
      · refine upon_value' (told_next (run_alloc' i1 i3 w)) (hn _ _ _ _ _ _ h ?_ (by have := Step.cells (lk := lk) (T := T) (U := allocTy cfg dst T) hs (denL_ext (ρ := ρ) i.zero); rw [i5, Array.toArray_toList] at this; rw [i5]; exact this))
        exact mk_ptr (get_new hs _)
    · exact h.elim
  · rename_i T x
    have hc := cond_elim h
    have hd := vcells_den (he x) hc.1
    refine upon_value' (told_next (run_box' (a.eval x) w)) (hn _ _ _ _ _ _ hc.2 ?_ (by have := Step.cells (lk := lk) (T := T) (U := T) hs hd; rw [Array.toArray_toList] at this; exact this))
    exact mk_ptr (get_new hs _)
  · rename_i T x y
    obtain ⟨F', H', w', h1, h2, h3⟩ := storeV_sound h (he x) (he y) hs
    exact upon_skip' (told_skip h3) (hn _ _ _ _ _ _ h1 (.inr rfl) h2)
  · rename_i t n parts
    obtain ⟨v, z, ρ', F', H', w', h1, h2, h3, h4⟩ := buildSliceV_sound (lk := lk) ok h hE hs
    exact upon_value' (told_next h4) (hn _ _ _ _ _ _ h1 h2 h3)
  · rename_i t x y
    obtain ⟨v, z, ρ', F', H', w', h1, h2, h3, h4⟩ := makeSliceV_sound (lk := lk) ok h (he x) (he y) hs
    exact upon_value' (told_next h4) (hn _ _ _ _ _ _ h1 h2 h3)
  · rename_i t r
    obtain ⟨v, z, ρ', F', H', w', h1, h2, h3, h4⟩ := makeMapV_sound (lk := lk) (r' := r.map a.eval) h (fun v hv => by
      cases r with
      | none => cases hv
      | some x => injection hv with hv; subst hv; exact ⟨_, rfl, he x⟩) (fun hr => by
      cases r with
      | none => rfl
      | some x => cases hr) hs
    exact upon_value' (told_next h4) (hn _ _ _ _ _ _ h1 h2 h3)
  · rename_i t m x v
    obtain ⟨F', H', w', h1, h2, h3⟩ := mapUpdateV_sound h (he m) (he x) (he v) hs
    exact upon_skip' (told_skip h3) (hn _ _ _ _ _ _ h1 (.inr rfl) h2)
  · rename_i t x
    obtain ⟨v, z, ρ', F', H', w', h1, h2, h3, h4⟩ := rangeV_sound h (he x) hs
    exact upon_value' (told_next h4) (hn _ _ _ _ _ _ h1 h2 h3)
  · rename_i it str
    obtain ⟨v, z, F', H', w', h1, h2, h3, h4⟩ := nextV_sound (ty := type) h (he it) hs
    exact upon_value' (told_next h4) (hn _ _ _ _ _ _ h1 h2 h3)
  · rename_i c
    obtain ⟨callee, args, argTypes⟩ := c
    split at h
    · rename_i b hb
      simp only at hb
      subst hb
      split at h
      · rename_i x y t t' hargs hts
        obtain rfl := list2 hargs
        obtain rfl := list2 hts
        have hc := cond_elim h
        obtain rfl := Nat.eq_of_beq_eq_true hc.1
        obtain ⟨v, z, ρ', F', H', w', h1, h2, h3, h4⟩ := appendV_sound ok (tyR := type) hc.2 (he x) (he y) hs
        refine upon_value' ?_ (hn _ _ _ _ _ _ h1 h2 h3)
        have := told_next h4
        simpa [execOp, resolve, invoke, builtin] using this
      · rename_i x y t t' hargs hts
        obtain rfl := list2 hargs
        obtain rfl := list2 hts
        have hc := cond_elim h
        obtain rfl := Nat.eq_of_beq_eq_true hc.1
        obtain ⟨v, z, ρ', F', H', w', h1, h2, h3, h4⟩ := copyV_sound ok (tyR := type) hc.2 (he x) (he y) hs
        refine upon_value' ?_ (hn _ _ _ _ _ _ h1 h2 h3)
        have := told_next h4
        simpa [execOp, resolve, invoke, builtin] using this
      · exact h.elim
    · rename_i f hf
      simp only at hf
      subst hf
      split at h
      · rename_i g caps hg
        split at h
        · rename_i s hsg
          have hc := cond_elim h
          have hfd := he f
          rw [hg] at hfd
          have hfd := hfd.den (by simp)
          simp only [V.den] at hfd
          split at hfd
          · rename_i cs hcs
            injection hfd with hfd
            have hargs := noJunk_den hE args.toList hc.1
            have hall := denL_append hargs hcs
            obtain ⟨⟨fn, f1, f2, f3⟩, _⟩ := hsig g s hsg
            have hrun : (execOp a.eval { dst := dst, op := .call { callee := .value f, args := args, argTypes := argTypes }, type := type, pos := pos, after := after, guard := guard : Oper }).run cfg.P w = .ok (.enter g (args.toList.map a.eval ++ cs).toArray) w := by
              have e : (args.toList.map a.eval ++ cs).toArray = #[] ++ args.map a.eval ++ cs.toArray := by
                apply Array.ext'; simp
              simp only [execOp, resolve, ← hfd, Deferred.ofValue, invoke, Sem.run_bind, Sem.run_pure, Result.andThen_ok, run_callFunc f1 f2 f3, e]
            rw [hrun, Oper.upon_enter]
            refine (callC_sound hlk (hsig g s hsg) hc.2 hall hs).mono ?_
            rintro e w' ⟨v, x, ρ', F', H', rfl, h1, h2, h3⟩
            exact hn _ _ _ _ _ _ h1 h2 h3
          · cases hfd
        · exact h.elim
      · rename_i g y hg
        split at h
        · rename_i s hsg
          have hc := cond_elim h
          have hfd := he f
          rw [hg] at hfd
          have hfd := hfd.den (by simp)
          simp only [V.den] at hfd
          split at hfd
          · rename_i yv hy
            injection hfd with hfd
            have hargs := noJunk_den hE args.toList hc.1
            have hall : denL ρ (y :: args.toList.map (ev env)) = some (yv :: args.toList.map a.eval) := by simp only [denL, hy, hargs]
            obtain ⟨⟨fn, f1, f2, f3⟩, _⟩ := hsig g s hsg
            have hrun : (execOp a.eval { dst := dst, op := .call { callee := .value f, args := args, argTypes := argTypes }, type := type, pos := pos, after := after, guard := guard : Oper }).run cfg.P w = .ok (.enter g (yv :: args.toList.map a.eval).toArray) w := by
              have e : (yv :: args.toList.map a.eval).toArray = #[yv] ++ args.map a.eval ++ #[] := by
                apply Array.ext'; simp
              simp only [execOp, resolve, ← hfd, Deferred.ofValue, invoke, Sem.run_bind, Sem.run_pure, Result.andThen_ok, run_callFunc f1 f2 f3, e]
            rw [hrun, Oper.upon_enter]
            refine (callC_sound hlk (hsig g s hsg) hc.2 hall hs).mono ?_
            rintro e w' ⟨v, x, ρ', F', H', rfl, h1, h2, h3⟩
            exact hn _ _ _ _ _ _ h1 h2 h3
          · cases hfd
        · exact h.elim
      · exact h.elim
    · exact h.elim
theorem REnv.put {nt : Nat} {env : Env} {a : Act} (hnt : a.tmps.size = nt) (hE : ∀ t, Rel ρ (env t) (a.tmps.getD t undef)) {ρ' : List Value} (hl : Le ρ ρ') {v : V} {x : Value} (hx : Rel ρ' v x) (d : Option Nat) :
    (∀ t, Rel ρ' (updO nt env d v t) ((a.put d x).tmps.getD t undef)) ∧ (a.put d x).tmps.size = nt := by
  cases d with
  | none => exact ⟨fun t => (hE t).le hl, hnt⟩
  | some d =>
    refine ⟨fun t => ?_, by simp [Act.put, hnt]⟩
    simp only [updO]
    cases hd : Nat.ble nt d with
    | true =>
      have := Nat.le_of_ble_eq_true hd
      have e : (a.put (some d) x).tmps = a.tmps := by simp only [Act.put]; rw [Array.setIfInBounds_eq_of_size_le (by omega)]
      rw [e]
      exact (hE t).le hl
    | false =>
      have hdl : d < a.tmps.size := by
        rw [hnt]
        rcases Nat.lt_or_ge d nt with h | h
        · exact h
        · rw [Nat.ble_eq_true_of_le h] at hd; cases hd
      simp only [cond_false, upd, Act.put]
      cases ht : Nat.beq t d with
      | true =>
        obtain rfl := Nat.eq_of_beq_eq_true ht
        simp only [cond_true]
        simpa [Array.getD, hdl] using hx
      | false =>
        have hne : d ≠ t := fun e => by subst e; simp at ht
        simp only [cond_false]
        have e : (a.tmps.setIfInBounds d x).getD t undef = a.tmps.getD t undef := by
          simp only [Array.getD_eq_getD_getElem?, Array.getElem?_setIfInBounds_ne hne]
        rw [e]
        exact (hE t).le hl
structure St (cfg : Cfg) (nt : Nat) (ds : List Deferred) (ρ : List Value) (F : Nat → List Nat) (env : Env) (H : Heap) (a : Act) (w : World) : Prop where
  env : ∀ t, Rel ρ (env t) (a.tmps.getD t undef)
  size : a.tmps.size = nt
  defers : a.defers = ds
  sat : Sat cfg.elT ρ F H w
theorem St.put {nt : Nat} {env : Env} {a : Act} (h : St cfg nt ds ρ F env H a w) {ρ' : List Value} {F' : Nat → List Nat} {H' : Heap} {w' : World} (st : Step cfg lk ρ F H w ρ' F' H' w') {v : V} {x : Value} (hx : Rel ρ' v x) (d : Option Nat) :
    St cfg nt ds ρ' F' (updO nt env d v) H' (a.put d x) w' :=
  let p := REnv.put h.size h.env st.le hx d
  ⟨p.1, p.2, by cases d <;> exact h.defers, st.sat⟩
theorem guard_wanted {ops : Array Oper} {a : Act} {j d : Nat} {p o : Oper} {b want : Bool} (hp : ops[j]? = some p) (hd : p.dst = some d) (hv : a.tmps.getD d undef = .bool b) (hds : d < a.tmps.size) (hg : o.guard = some (j, want)) :
    Region.wanted o (yielded ops a.tmps) = (b == want) := by
  have hy : yielded ops a.tmps j = some b := by
    unfold yielded
    rw [hp]
    simp only [Option.bind_some, hd]
    rw [Array.getElem?_eq_getElem hds]
    have : a.tmps[d] = .bool b := by simpa [Array.getD, hds] using hv
    rw [this]
  unfold Region.wanted
  rw [hg]
  simp only [hy]
  cases b <;> cases want <;> rfl
theorem guard_unasked {ops : Array Oper} {a : Act} {j d : Nat} {p o : Oper} {vs : Array Value} {want : Bool} (hp : ops[j]? = some p) (hd : p.dst = some d) (hv : a.tmps.getD d undef = .tuple vs) (hg : o.guard = some (j, want)) :
    Region.wanted o (yielded ops a.tmps) = false := by
  have hy : yielded ops a.tmps j = none := by
    unfold yielded
    rw [hp]
    simp only [Option.bind_some, hd]
    rcases Nat.lt_or_ge d a.tmps.size with hds | hds
    · rw [Array.getElem?_eq_getElem hds]
      have : a.tmps[d] = .tuple vs := by simpa [Array.getD, hds] using hv
      rw [this]
    · rw [Array.getElem?_eq_none hds]
  unfold Region.wanted
  rw [hg]
  simp only [hy]
  rfl
def opGoes (cfg : Cfg) (nt : Nat) (ds : List Deferred) (lk : Option (Blk → Bool)) (q : QM) (ρ : List Value) (F : Nat → List Nat) (H : Heap) (w : World) (o : Oper) (a : Act) (J : Env → Heap → Prop) (next : Act → World → Prop) : Prop :=
  ∀ ρ' F' H' w' env' a', J env' H' → St cfg nt ds ρ' F' env' H' a' w' → Step cfg lk ρ F H w ρ' F' H' w' → (isLoud o = true → isQuiet q o = true → Kept (some fun _ => true) H F w H' F' w') → next a' w'
theorem St.known {nt : Nat} {env : Env} {a : Act} (h : St cfg nt ds ρ F env H a w) {d : Nat} {b : Bool} (hv : env d = .ext (.bool b)) : St cfg nt ds ρ F (updO nt env (some d) (vb b)) H a w := by
  refine ⟨fun t => ?_, h.size, h.defers, h.sat⟩
  simp only [updO]
  cases Nat.ble nt d with
  | true => exact h.env t
  | false =>
    simp only [cond_false, upd]
    cases ht : Nat.beq t d with
    | true =>
      obtain rfl := Nat.eq_of_beq_eq_true ht
      have := h.env t
      rw [hv] at this
      exact this
    | false => exact h.env t
theorem bool_size {nt : Nat} {env : Env} {a : Act} (h : St cfg nt ds ρ F env H a w) {d : Nat} {b : Bool} (hv : env d = .ext (.bool b)) : a.tmps.getD d undef = .bool b ∧ d < a.tmps.size := by
  have h1 := h.env d
  rw [hv] at h1
  have h2 := den_ext h1
  refine ⟨h2, ?_⟩
  rcases Nat.lt_or_ge d a.tmps.size with hl | hl
  · exact hl
  · simp [Array.getD, Nat.not_lt.2 hl, undef] at h2
theorem exOp_wp (ok : CfgOK cfg) (hsig : ∀ g s, cfg.sigs g = some s → SpecOK cfg.P cfg.elT g s) (hlk : LkOK lk) {nt : Nat} {q : QM} {ea : Bool} {HR : Option Heap} {o : Oper} {env : Env} {a : Act} {J : Env → Heap → Prop}
    (hq : isLoud o = true ∨ HR = none) (h : exOp cfg lk q ea HR o env H (fun v H => J (updO nt env o.dst v) H)) (hs : St cfg nt ds ρ F env H a w) {next : Act → World → Prop} {Q : Exit → Act → World → Prop}
    (hn : opGoes cfg nt ds lk q ρ F H w o a J next) : o.wp cfg.P a w next Q := by
  unfold exOp at h
  cases hl : isLoud o with
  | true =>
    rw [hl] at h
    simp only [cond_true] at h
    cases hqo : isQuiet q o with
    | false =>
      rw [hqo] at h
      exact loudOp_sound ok hsig hlk h hs.env hs.sat (fun v x ρ' F' H' w' h1 h2 h3 => hn ρ' F' H' w' _ _ h1 (hs.put h3 h2 _) h3 (fun _ hc => by rw [hqo] at hc; cases hc))
    | true =>
      rw [hqo] at h
      exact loudOp_sound ok hsig lkOK_all h hs.env hs.sat (fun v x ρ' F' H' w' h1 h2 h3 => hn ρ' F' H' w' _ _ h1 (hs.put h3 h2 _) ⟨h3.le, h3.sat, h3.fr, h3.kept.weak⟩ (fun _ _ => h3.kept))
  | false =>
    rw [hl] at h hq
    obtain rfl : HR = none := by rcases hq with h | h; cases h; exact h
    simp only [cond_false] at h
    obtain ⟨v, x, h1, h2, h3⟩ := pureOp_sound (F := F) ok h hs.env (hs.sat.reads _) hs.sat.shape
    unfold Oper.wp
    have st : Step cfg lk ρ F H w ρ F H w := .refl hs.sat
    exact upon_value' (h3 w (hs.sat.reads _)) (hn ρ F H w _ _ h1 (hs.put st h2 _) st (fun hc => by rw [hl] at hc; cases hc))
theorem exOps_wpOp (ok : CfgOK cfg) (hsig : ∀ g s, cfg.sigs g = some s → SpecOK cfg.P cfg.elT g s) (hlk : LkOK lk) {nt : Nat} {q : QM} {ea : Nat → Bool} {HR : Option Heap} {ops : Array Oper} {i : Nat} {rest : List Nat} {env : Env} {a : Act}
    {J : Env → Heap → Prop} (hq : ∀ o, ops[i]? = some o → isLoud o = true ∨ HR = none) (h : exOps cfg nt lk q ea HR ops.toList (i :: rest) env H J) (hs : St cfg nt ds ρ F env H a w) {K : Act → World → Prop} {Q : Exit → Act → World → Prop}
    (hn : ∀ ρ' F' H' w' env' a', exOps cfg nt lk q ea HR ops.toList rest env' H' J → St cfg nt ds ρ' F' env' H' a' w' → Step cfg (lkq q i lk) ρ F H w ρ' F' H' w' → (∀ o, ops[i]? = some o → isLoud o = true → isQuiet q o = true → Kept (some fun _ => true) H F w H' F' w') → K a' w') : wpOp cfg.P ops Q i K a w := by
  simp only [exOps] at h
  unfold wpOp
  split at h
  · exact h.elim
  · rename_i o ho
    have ho' : ops[i]? = some o := by rw [← Array.getElem?_toList]; exact ho
    simp only [ho']
    split at h
    · rename_i hg
      have hw : Region.wanted o (yielded ops a.tmps) = true := by unfold Region.wanted; rw [hg]
      simp only [hw, if_true]
      exact .inl (exOp_wp (J := fun env H => exOps cfg nt lk q ea HR ops.toList rest env H J) ok hsig (lkOK_q hlk) (hq o ho') h hs (fun ρ' F' H' w' env' a' h1 h2 h3 h4 => hn ρ' F' H' w' env' a' h1 h2 h3 (fun o2 ho2 => by rw [ho'] at ho2; injection ho2 with ho2; subst ho2; exact h4)))
    · rename_i j want hg
      split at h
      · exact h.elim
      · rename_i p hp
        have hp' : ops[j]? = some p := by rw [← Array.getElem?_toList]; exact hp
        split at h
        · exact h.elim
        · rename_i d hd
          split at h
          · rename_i b hb
            obtain ⟨hv, hds⟩ := bool_size hs hb
            have hw := guard_wanted hp' hd hv hds hg
            have hs' := hs.known hb
            have fin : ∀ wn : Bool, Region.wanted o (yielded ops a.tmps) = wn →
                (bif wn then exOp cfg (lkq q i lk) q (ea i) HR o (updO nt env (some d) (vb b)) H (fun v H => exOps cfg nt lk q ea HR ops.toList rest (updO nt (updO nt env (some d) (vb b)) o.dst v) H J)
                  else exOps cfg nt lk q ea HR ops.toList rest (updO nt (updO nt env (some d) (vb b)) o.dst (.ext undef)) H J) →
                if Region.wanted o (yielded ops a.tmps) = true then o.wp cfg.P a w K Q ∨ (o.asks cfg.P a w ∧ LetsOut Q) else K (a.put o.dst undef) w := by
              intro wn hwn hh
              rw [hwn]
              cases wn with
              | true =>
                simp only [if_true]
                exact .inl (exOp_wp (J := fun env H => exOps cfg nt lk q ea HR ops.toList rest env H J) ok hsig (lkOK_q hlk) (hq o ho') hh hs' (fun ρ' F' H' w' env' a' h1 h2 h3 h4 => hn ρ' F' H' w' env' a' h1 h2 h3 (fun o2 ho2 => by rw [ho'] at ho2; injection ho2 with ho2; subst ho2; exact h4)))
              | false =>
                simp only [Bool.false_eq_true, if_false]
                have st : Step cfg (lkq q i lk) ρ F H w ρ F H w := .refl hs.sat
                exact hn ρ F H w _ _ hh (hs'.put st (.inr rfl) _) st (fun _ _ _ _ => Kept.refl)
            rcases br_elim h with ⟨rfl, h⟩ | ⟨rfl, h⟩
            · refine fin want (by rw [hw]; cases want <;> rfl) h
            · refine fin (!want) (by rw [hw]; cases want <;> rfl) h
          · rename_i vs hb
            cases e : vs.toList.isEmpty with
            | false => rw [e] at h; exact h.elim
            | true =>
              rw [e] at h
              simp only [cond_true] at h
              have h1 := hs.env d
              rw [hb] at h1
              rw [guard_unasked hp' hd (den_ext h1) hg]
              simp only [Bool.false_eq_true, if_false]
              have st : Step cfg (lkq q i lk) ρ F H w ρ F H w := .refl hs.sat
              exact hn ρ F H w _ _ h (hs.put st (.inr rfl) _) st (fun _ _ _ _ => Kept.refl)
          · exact h.elim
theorem exOps_wpOps (ok : CfgOK cfg) (hsig : ∀ g s, cfg.sigs g = some s → SpecOK cfg.P cfg.elT g s) {nt : Nat} {ea : Nat → Bool} {ops : Array Oper} {Q : Exit → Act → World → Prop} {J : Env → Heap → Prop} :
    ∀ (l : List Nat) (ρ : List Value) (F : Nat → List Nat) (H : Heap) (w : World) (env : Env) (a : Act), exOps cfg nt none qm0 ea none ops.toList l env H J → St cfg nt ds ρ F env H a w →
    (∀ ρ' F' H' w' env' a', J env' H' → St cfg nt ds ρ' F' env' H' a' w' → Step cfg none ρ F H w ρ' F' H' w' → Q .normal a' w') → wpOps cfg.P ops Q l a w
  | [], ρ, F, H, w, env, a, h, hs, hn => hn ρ F H w env a h hs (.refl hs.sat)
  | i :: rest, ρ, F, H, w, env, a, h, hs, hn => by
    rw [wpOps_cons]
    exact exOps_wpOp ok hsig (fun f hf => by cases hf) (fun o _ => .inr rfl) h hs (fun ρ' F' H' w' env' a' h1 h2 h3 _ =>
      exOps_wpOps ok hsig rest ρ' F' H' w' env' a' h1 h2 (fun ρ2 F2 H2 w2 env2 a2 g1 g2 g3 => hn ρ2 F2 H2 w2 env2 a2 g1 g2 (h3.trans g3)))
end Go.Rx
end

section
namespace Go.Rx
section
variable {P : Program} {ops : Array Oper} {Q : Exit → Act → World → Prop} {S : Array Bool → World → Prop}
def wpAnyG (P : Program) (ops : Array Oper) (Q : Exit → Act → World → Prop) (S : Array Bool → World → Prop) : Nat → Array Bool → Act → World → Prop
  | 0, listed, a, w => Region.ready .any ops listed = [] ∧ Q .normal a w
  | fuel + 1, listed, a, w =>
    (Region.ready .any ops listed = [] → Q .normal a w) ∧
    ∀ i ∈ Region.ready .any ops listed, wpOp P ops Q i (fun a' w' => S (listed.setIfInBounds i true) w' ∧ wpAnyG P ops Q S fuel (listed.setIfInBounds i true) a' w') a w
theorem wpAny_of_G : ∀ (fuel : Nat) (listed : Array Bool) (a : Act) (w : World), wpAnyG P ops Q S fuel listed a w → wpAny P .any ops Q fuel listed a w
  | 0, _, _, _, h => h
  | fuel + 1, _, _, _, h => ⟨h.1, fun i hi => wpOp_mono (fun a' w' h' => wpAny_of_G fuel _ a' w' h'.2) (h.2 i hi)⟩
theorem wpOp_putG {j : Nat} {oi oj : Oper} {v : Value} {Y : Act → Prop} (hj : ops[j]? = some oj) (hap : oi.apart ops oj = true)
    (hsj : ∀ cs b, oj.op ≠ .select cs b) (keep : ∀ a u, Y a → Y (a.put oj.dst u)) (keepD : ∀ (a : Act) d, Y a → Y { a with defers := d :: a.defers })
    (hQ : ∀ c a w, Q (.panic c) (a.put oi.dst v) w → Q (.panic c) a w) {K : Act → World → Prop} {a : Act} {w : World}
    (hy : Y a) (h : wpOp P ops Q j K (a.put oi.dst v) w) :
    wpOp P ops Q j (fun a' w' => Y a' ∧ K (a'.put oi.dst v) w') a w := by
  obtain ⟨h1, h2, h3⟩ := Oper.apart_spec hap
  unfold wpOp at *
  simp only [hj] at *
  rw [wanted_put oj a oi.dst v h1] at h
  split
  · rename_i hw
    simp only [hw, if_true] at h
    rcases h with h | ⟨hasks, hlets⟩
    case inr => exact .inr ⟨by unfold Oper.asks at *; rw [execOp_put oj hsj a oi.dst v h1] at hasks; exact hasks, hlets⟩
    refine .inl ?_
    unfold Oper.wp at *
    rw [execOp_put oj hsj a oi.dst v h1] at h
    generalize (execOp a.eval oj).run P w = r at *
    cases r with
    | ok n w' =>
      cases n <;> simp only [Oper.upon] at h ⊢
      case value u => exact ⟨keep a u hy, by rw [← Act.put_comm a v u h2]; exact h⟩
      case skip => exact ⟨keep a _ hy, by rw [← Act.put_comm a v undef h2]; exact h⟩
      case defer d =>
        refine ⟨keep _ _ (keepD a d hy), ?_⟩
        rw [← Act.put_comm _ v undef h2, ← Act.put_defers]
        exact h
      case enter f args =>
        refine Calls.mono h fun e w'' he => ?_
        cases e with
        | returned u => exact ⟨keep a u hy, by rw [← Act.put_comm a v u h2]; exact he⟩
        | panicked c => exact hQ _ _ _ he
        | outgrown => exact he
      case row row args => exact Rows.mono h fun u w'' he => ⟨keep a u hy, by rw [← Act.put_comm a v u h2]; exact he⟩
    | halt x w' =>
      cases x <;> simp only [Oper.upon] at h ⊢
      case panic u => exact hQ _ _ _ h
  · rename_i hw
    simp only [hw] at h
    exact ⟨keep a _ hy, by rw [← Act.put_comm a v undef h2]; exact h⟩
def Closed (ops : Array Oper) (listed : Array Bool) : Prop :=
  ∀ (j : Nat) (o : Oper), ops[j]? = some o → listed.getD j false = true → ∀ e ∈ o.after, Region.binds .any e = true → listed.getD e.on false = true
theorem Closed.next {listed : Array Bool} (h : Closed ops listed) {i : Nat} (hr : i ∈ Region.ready .any ops listed) : Closed ops (listed.setIfInBounds i true) := by
  intro j o ho hl e he hb
  obtain ⟨hun, oi, hoi, hall⟩ := mem_ready.1 hr
  by_cases hij : i = j
  · subst hij
    rw [hoi] at ho; injection ho with ho; subst ho
    exact getD_set_true (hall e he hb)
  · rw [getD_set_ne false hij] at hl
    exact getD_set_true (h j o ho hl e he hb)
def YieldsG (P : Program) (ops : Array Oper) (S : Array Bool → World → Prop) (i : Nat) (oi : Oper) (v : Value) (a : Act) : Prop :=
  (Region.wanted oi (yielded ops a.tmps) = true ∧ ∀ listed w, Closed ops listed → listed.getD i true = false → S listed w → (execOp a.eval oi).run P w = .ok (.value v) w) ∨
  (Region.wanted oi (yielded ops a.tmps) = false ∧ v = undef)
theorem YieldsG.of_same {i : Nat} {o : Oper} {v : Value} {a a' : Act} (hy : YieldsG P ops S i o v a) (he : execOp a'.eval o = execOp a.eval o)
    (hw : Region.wanted o (yielded ops a'.tmps) = Region.wanted o (yielded ops a.tmps)) : YieldsG P ops S i o v a' := by
  unfold YieldsG at *
  rw [he, hw]
  exact hy
theorem YieldsG.wpOp {i : Nat} {o : Oper} {v : Value} {a : Act} (hi : ops[i]? = some o) (hy : YieldsG P ops S i o v a) {listed : Array Bool} (hcl : Closed ops listed) (hun : listed.getD i true = false)
    {K : Act → World → Prop} {w : World} (hS : S listed w) (h : K (a.put o.dst v) w) : wpOp P ops Q i K a w := by
  unfold Go.wpOp
  simp only [hi]
  rcases hy with ⟨hw, hv⟩ | ⟨hw, rfl⟩
  · simp only [hw, if_true, Oper.wp, hv listed w hcl hun hS, Oper.upon]; exact .inl h
  · simp only [hw, Bool.false_eq_true, if_false]; exact h
theorem wpAnyG_first {i : Nat} {oi : Oper} {v : Value} (hi : ops[i]? = some oi) (hsel : ∀ (j : Nat) (o : Oper) cs b, ops[j]? = some o → o.op ≠ .select cs b)
    (hQ : ∀ c a w, Q (.panic c) (a.put oi.dst v) w → Q (.panic c) a w) (hSi : ∀ listed w, S (listed.setIfInBounds i true) w ↔ S listed w) :
    ∀ (fuel : Nat) (listed : Array Bool) (a : Act) (w : World),
      (∀ j oj, ops[j]? = some oj → j ≠ i → listed.getD j true = false → (∀ e ∈ oj.after, Region.binds .any e = true → e.on ≠ i) → oi.apart ops oj = true) →
      Closed ops listed → i ∈ Region.ready .any ops listed → YieldsG P ops S i oi v a → S listed w →
      wpAnyG P ops Q S fuel (listed.setIfInBounds i true) (a.put oi.dst v) w → wpAnyG P ops Q S (fuel + 1) listed a w := by
  intro fuel
  induction fuel with
  | zero =>
    intro listed a w _ hcl hr hy hS H
    refine ⟨fun h => (by rw [h] at hr; cases hr), fun j hj => ?_⟩
    by_cases hji : j = i
    · subst hji; exact hy.wpOp hi hcl (mem_ready.1 hj).1 hS ⟨(hSi _ _).2 hS, H⟩
    · have := ready_mono hj hji
      rw [H.1] at this
      cases this
  | succ fuel ih =>
    intro listed a w hfree hcl hr hy hS H
    refine ⟨fun h => (by rw [h] at hr; cases hr), fun j hj => ?_⟩
    by_cases hji : j = i
    · subst hji; exact hy.wpOp hi hcl (mem_ready.1 hj).1 hS ⟨(hSi _ _).2 hS, H⟩
    · have h1 := H.2 j (ready_mono hj hji)
      obtain ⟨hjun, oj, hoj, hall⟩ := mem_ready.1 hj
      have hnot : ∀ e ∈ oj.after, Region.binds .any e = true → e.on ≠ i := fun e he hb heq => by
        have h1 := hall e he hb
        have h0 := (mem_ready.1 hr).1
        rw [heq] at h1
        rcases Nat.lt_or_ge i listed.size with h' | h'
        · simp [h'] at h0 h1; rw [h0] at h1; cases h1
        · simp [Array.getElem?_eq_none h'] at h1
      obtain ⟨a1, a2, a3⟩ := Oper.apart_spec (hfree j oj hoj hji hjun hnot)
      have h2 := wpOp_putG (Y := YieldsG P ops S i oi v) hoj (hfree j oj hoj hji hjun hnot) (fun cs b => hsel j oj cs b hoj)
        (fun a u hy => hy.of_same (execOp_put oi (fun cs b => hsel i oi cs b hi) a oj.dst u a3) (wanted_put oi a oj.dst u a3)) (fun a d hy => hy.of_same rfl rfl) hQ hy h1
      have hfree' : ∀ k ok, ops[k]? = some ok → k ≠ i → (listed.setIfInBounds j true).getD k true = false →
          (∀ e ∈ ok.after, Region.binds .any e = true → e.on ≠ i) → oi.apart ops ok = true := fun k ok hk hki hun hno => by
        refine hfree k ok hk hki ?_ hno
        by_cases hjk : j = k
        · subst hjk; exact hjun
        · rw [getD_set_ne true hjk] at hun; exact hun
      refine wpOp_mono (fun a' w' h3 => ?_) h2
      have hS' : S (listed.setIfInBounds j true) w' := by
        have := h3.2.1
        rw [Array.setIfInBounds_comm _ _ (Ne.symm hji)] at this
        exact (hSi _ _).1 this
      refine ⟨hS', ih (listed.setIfInBounds j true) a' w' hfree' (hcl.next hj) (ready_mono hr (Ne.symm hji)) h3.1 hS' ?_⟩
      rw [Array.setIfInBounds_comm _ _ hji]
      exact h3.2.2
end
variable {cfg : Cfg} {nt : Nat} {f : Blk → Bool} {ops : Array Oper} {ds : List Deferred}
def NoLoud (q : QM) (ops : Array Oper) (listed : Array Bool) : Prop := ∀ (j : Nat) (o : Oper), ops[j]? = some o → (isLoud o && !isQuiet q o) = true → listed.getD j false = false
def SD (q : QM) (ops : Array Oper) (f : Blk → Bool) (Hs : Heap) (Fs : Nat → List Nat) (ws : World) (listed : Array Bool) (w : World) : Prop :=
  (∀ e, q.late = e + 1 → listed.getD e false = false) → ((∀ (i : Nat) (b : Blk), Hs[i]? = some b → f b = true → ∀ n ∈ Fs i, w.heap[n]? = ws.heap[n]?) ∧ (NoLoud q ops listed → ∀ (i : Nat) (b : Blk), Hs[i]? = some b → ∀ n ∈ Fs i, w.heap[n]? = ws.heap[n]?))
theorem NoLoud.still {q : QM} {i : Nat} {o : Oper} (ho : ops[i]? = some o) (hl : (isLoud o && !isQuiet q o) = false) (listed : Array Bool) : NoLoud q ops (listed.setIfInBounds i true) ↔ NoLoud q ops listed := by
  constructor
  · intro h j p hp hpl
    have hij : i ≠ j := fun e => by subst e; rw [ho] at hp; injection hp with hp; subst hp; rw [hl] at hpl; cases hpl
    have := h j p hp hpl
    rwa [getD_set_ne false hij] at this
  · intro h j p hp hpl
    have hij : i ≠ j := fun e => by subst e; rw [ho] at hp; injection hp with hp; subst hp; rw [hl] at hpl; cases hpl
    rw [getD_set_ne false hij]
    exact h j p hp hpl
theorem dep_listed {i : Nat} {listed : Array Bool} (hc : Closed ops listed) : ∀ (n j : Nat), depOn ops.toList i n j = true → listed.getD j false = true → listed.getD i false = true
  | 0, _, h, _ => by cases h
  | n + 1, j, h, hj => by
    unfold depOn at h
    split at h
    · rename_i o ho
      have ho : ops[j]? = some o := by rw [← Array.getElem?_toList]; exact ho
      simp only [List.any_eq_true, Bool.and_eq_true, Bool.or_eq_true] at h
      obtain ⟨e, he, h1, h2⟩ := h
      have hl := hc j o ho hj e (by simpa using he) h1
      rcases h2 with h2 | h2
      · rw [← Nat.eq_of_beq_eq_true h2]; exact hl
      · exact dep_listed hc n e.on h2 hl
    · cases h
theorem noLoud_of_early {q : QM} {i : Nat} (h : early q ops.toList i = true) {listed : Array Bool} (hc : Closed ops listed) (hun : listed.getD i true = false) : NoLoud q ops listed := by
  intro j o ho hl
  cases hj : listed.getD j false with
  | false => rfl
  | true =>
    unfold early at h
    have hjl : j < ops.toList.length := by rw [Array.length_toList]; exact (Array.getElem?_eq_some_iff.1 ho).1
    have hj' := List.all_eq_true.1 h j (List.mem_range.2 hjl)
    have ho' : ops.toList[j]? = some o := by rw [Array.getElem?_toList]; exact ho
    simp only [ho'] at hj'
    rw [hl] at hj'
    simp only [Bool.not_true, Bool.false_or] at hj'
    have := dep_listed hc _ j hj' hj
    rcases Nat.lt_or_ge i listed.size with h' | h'
    · simp [h'] at this hun; rw [this] at hun; cases hun
    · simp [Array.getElem?_eq_none h'] at this
theorem late_dep {q : QM} {ops : Array Oper} (h : lateOk ops q.late = true) {e : Nat} (he : q.late = e + 1) : loudAt ops e = true ∧ ∀ j, j < ops.size → j ≠ e → depOn ops.toList j ops.toList.length e = true := by
  rw [he] at h
  simp only [lateOk, Bool.and_eq_true, List.all_eq_true, List.mem_range, Bool.or_eq_true] at h
  exact ⟨h.1, fun j hj hne => (h.2 j hj).resolve_left (fun hb => hne (Nat.eq_of_beq_eq_true hb))⟩
theorem late_not {q : QM} {ops : Array Oper} (h : lateOk ops q.late = true) {i : Nat} {o : Oper} (ho : ops[i]? = some o) (hl : isLoud o = false) : q.late ≠ i + 1 := by
  intro he
  have := (late_dep h he).1
  unfold loudAt at this
  rw [ho] at this
  simp only [hl] at this
  cases this
theorem late_un {q : QM} {ops : Array Oper} (h : lateOk ops q.late = true) {i : Nat} (hi : i < ops.size) {listed : Array Bool} (hc : Closed ops listed) (hun : listed.getD i true = false) : ∀ e, q.late = e + 1 → listed.getD e false = false := by
  intro e he
  cases hj : listed.getD e false with
  | false => rfl
  | true =>
    exfalso
    have hl : listed.getD i false = true := by
      by_cases hie : i = e
      · rw [hie]; exact hj
      · exact dep_listed hc _ e ((late_dep h he).2 i hi hie) hj
    rcases Nat.lt_or_ge i listed.size with h' | h'
    · simp [h'] at hl hun; rw [hl] at hun; cases hun
    · simp [Array.getElem?_eq_none h'] at hl
theorem lkq_still {q : QM} {i : Nat} (h : q.late ≠ i + 1) (lk : Option (Blk → Bool)) : lkq q i lk = lk := by
  unfold lkq
  have e : Nat.beq q.late (i + 1) = false := by
    cases hb : Nat.beq q.late (i + 1) with
    | false => rfl
    | true => exact (h (Nat.eq_of_beq_eq_true hb)).elim
  rw [e]; rfl
theorem satR_of_SD {q : QM} {ρs ρ : List Value} {Fs : Nat → List Nat} {Hs : Heap} {ws w : World} (hs : Sat cfg.elT ρs Fs Hs ws) (hl : Le ρs ρ) {i : Nat} {listed : Array Bool} (hc : Closed ops listed) (hun : listed.getD i true = false)
    (hlt : lateOk ops q.late = true) (hisz : i < ops.size) (h0 : SD q ops f Hs Fs ws listed w) : SatR cfg (bif early q ops.toList i then none else some f) ρ Fs Hs w := by
  have h := h0 (late_un hlt hisz hc hun)
  have hi : ∀ (j : Nat) (b : Blk), Hs[j]? = some b → (∀ n ∈ Fs j, w.heap[n]? = ws.heap[n]?) → ∃ x, ρ[j]? = some x ∧ b.holds cfg.elT ρ w x (Fs j) := by
    intro j b hb hw
    obtain ⟨x, hx1, hx2⟩ := hs.reads none j b hb rfl
    exact ⟨x, hl j x hx1, Blk.holds_le hl hw b hx2⟩
  intro j b hb hm
  cases he : early q ops.toList i with
  | true => exact hi j b hb (h.2 (noLoud_of_early he hc hun) j b hb)
  | false =>
    rw [he] at hm
    exact hi j b hb (h.1 j b hb hm)
theorem exOps_still (ok : CfgOK cfg) {q : QM} (hlt : lateOk ops q.late = true) {ρs ρ : List Value} {Fs F : Nat → List Nat} {Hs H : Heap} {ws w : World} (hss : Sat cfg.elT ρs Fs Hs ws) (hl : Le ρs ρ) {i : Nat} {rest : List Nat} {env : Env} {a : Act} {J : Env → Heap → Prop} {o : Oper} (ho : ops[i]? = some o)
    (hst : isLoud o = false) (h : exOps cfg nt (some f) q (early q ops.toList) (some Hs) ops.toList (i :: rest) env H J) (hs : St cfg nt ds ρ F env H a w) {listed : Array Bool} (hc : Closed ops listed) (hun : listed.getD i true = false) (hS : SD q ops f Hs Fs ws listed w) :
    ∃ x env', exOps cfg nt (some f) q (early q ops.toList) (some Hs) ops.toList rest env' H J ∧ St cfg nt ds ρ F env' H (a.put o.dst x) w ∧ YieldsG cfg.P ops (SD q ops f Hs Fs ws) i o x a := by
  have st : Step cfg (some f) ρ F H w ρ F H w := .refl hs.sat
  have hlk : lkq q i (some f) = some f := lkq_still (late_not hlt ho hst) _
  have hisz : i < ops.size := (Array.getElem?_eq_some_iff.1 ho).1
  have pure : ∀ env1, St cfg nt ds ρ F env1 H a w → Region.wanted o (yielded ops a.tmps) = true →
      exOp cfg (some f) q (early q ops.toList i) (some Hs) o env1 H (fun v H => exOps cfg nt (some f) q (early q ops.toList) (some Hs) ops.toList rest (updO nt env1 o.dst v) H J) →
      ∃ x env', exOps cfg nt (some f) q (early q ops.toList) (some Hs) ops.toList rest env' H J ∧ St cfg nt ds ρ F env' H (a.put o.dst x) w ∧ YieldsG cfg.P ops (SD q ops f Hs Fs ws) i o x a := by
    intro env1 hs1 hw h1
    unfold exOp at h1
    rw [hst] at h1
    simp only [cond_false] at h1
    obtain ⟨v, x, g1, g2, g3⟩ := pureOp_sound (F := Fs) ok h1 hs1.env (satR_of_SD hss hl hc hun hlt hisz hS) (hss.shape.le hl)
    exact ⟨x, _, g1, hs1.put st g2 _, .inl ⟨hw, fun listed' w' hc' hun' hS' => g3 w' (satR_of_SD hss hl hc' hun' hlt hisz hS')⟩⟩
  simp only [exOps, hlk] at h
  split at h
  · exact h.elim
  · rename_i o' ho'
    have ho2 : ops[i]? = some o' := by rw [← Array.getElem?_toList]; exact ho'
    rw [ho] at ho2; injection ho2 with ho2; subst ho2
    split at h
    · rename_i hg
      exact pure env hs (by unfold Region.wanted; rw [hg]) h
    · rename_i j want hg
      split at h
      · exact h.elim
      · rename_i p hp
        have hp' : ops[j]? = some p := by rw [← Array.getElem?_toList]; exact hp
        split at h
        · exact h.elim
        · rename_i d hd
          split at h
          · rename_i b hb
            obtain ⟨hv, hds⟩ := bool_size hs hb
            have hw := guard_wanted hp' hd hv hds hg
            have hs' := hs.known hb
            have fin : ∀ wn : Bool, Region.wanted o (yielded ops a.tmps) = wn →
                (bif wn then exOp cfg (some f) q (early q ops.toList i) (some Hs) o (updO nt env (some d) (vb b)) H (fun v H => exOps cfg nt (some f) q (early q ops.toList) (some Hs) ops.toList rest (updO nt (updO nt env (some d) (vb b)) o.dst v) H J)
                  else exOps cfg nt (some f) q (early q ops.toList) (some Hs) ops.toList rest (updO nt (updO nt env (some d) (vb b)) o.dst (.ext undef)) H J) →
                ∃ x env', exOps cfg nt (some f) q (early q ops.toList) (some Hs) ops.toList rest env' H J ∧ St cfg nt ds ρ F env' H (a.put o.dst x) w ∧ YieldsG cfg.P ops (SD q ops f Hs Fs ws) i o x a := by
              intro wn hwn hh
              cases wn with
              | true => exact pure _ hs' hwn hh
              | false => exact ⟨undef, _, hh, hs'.put st (.inr rfl) _, .inr ⟨hwn, rfl⟩⟩
            rcases br_elim h with ⟨rfl, h⟩ | ⟨rfl, h⟩
            · exact fin want (by rw [hw]; cases want <;> rfl) h
            · exact fin (!want) (by rw [hw]; cases want <;> rfl) h
          · rename_i vs hb
            cases e : vs.toList.isEmpty with
            | false => rw [e] at h; exact h.elim
            | true =>
              rw [e] at h
              simp only [cond_true] at h
              have h1 := hs.env d
              rw [hb] at h1
              exact ⟨undef, _, h, hs.put st (.inr rfl) _, .inr ⟨guard_unasked hp' hd (den_ext h1) hg, rfl⟩⟩
          · exact h.elim
theorem Step.none {lk : Option (Blk → Bool)} {ρ ρ' : List Value} {F F' : Nat → List Nat} {H H' : Heap} {w w' : World} (h : Step cfg lk ρ F H w ρ' F' H' w') : Step cfg none ρ F H w ρ' F' H' w' :=
  ⟨h.le, h.sat, h.fr, fun _ hf => by cases hf⟩
theorem late_all {q : QM} {ops : Array Oper} (h : lateOk ops q.late = true) {e : Nat} (he : q.late = e + 1) {listed : Array Bool} (hsz : listed.size = ops.size) (hc : Closed ops (listed.setIfInBounds e true)) : ∀ j, j < ops.size → (listed.setIfInBounds e true).getD j true = true := by
  obtain ⟨h1, h2⟩ := late_dep h he
  have hes : e < ops.size := by
    unfold loudAt at h1
    split at h1
    · cases h1
    · rename_i o ho; exact (Array.getElem?_eq_some_iff.1 ho).1
  have hself : (listed.setIfInBounds e true).getD e false = true := by simp [hsz, hes]
  intro j hj
  have hl : (listed.setIfInBounds e true).getD j false = true := by
    by_cases hje : j = e
    · rw [hje]; exact hself
    · exact dep_listed hc _ e (h2 j hj hje) hself
  have hjs : j < (listed.setIfInBounds e true).size := by simp [hsz, hj]
  simp [hsz, hj] at hl ⊢
  exact hl
theorem not_ready {ops : Array Oper} {listed : Array Bool} (h : ∀ j, j < ops.size → listed.getD j true = true) (i : Nat) : i ∉ Region.ready .any ops listed := by
  intro hi
  obtain ⟨hun, o, ho, _⟩ := mem_ready.1 hi
  rw [h i (Array.getElem?_eq_some_iff.1 ho).1] at hun
  cases hun
theorem ready_nil {ops : Array Oper} {listed : Array Bool} (h : ∀ j, j < ops.size → listed.getD j true = true) : Region.ready .any ops listed = [] := by
  cases hr : Region.ready .any ops listed with
  | nil => rfl
  | cons x r => exact (not_ready h x (by rw [hr]; simp)).elim
theorem planGo_nil {ops : Array Oper} {listed : Array Bool} {rest : List Nat} (hp : planGo ops rest listed = true) (h : ∀ j, j < ops.size → listed.getD j true = true) : rest = [] := by
  cases rest with
  | nil => rfl
  | cons i r =>
    exfalso
    simp only [planGo, Bool.and_eq_true] at hp
    have h1 := hp.1
    split at h1
    · cases h1
    · rename_i o ho
      cases hl : isLoud o with
      | true =>
        rw [hl] at h1
        simp only [cond_true] at h1
        have hr : Region.ready .any ops listed = [i] := by simpa using h1
        exact not_ready h i (by rw [hr]; simp)
      | false =>
        rw [hl] at h1
        simp only [cond_false, Bool.and_eq_true] at h1
        exact not_ready h i (by simpa using h1.1)
theorem SD.still {q : QM} {ops : Array Oper} {Hs : Heap} {Fs : Nat → List Nat} {ws : World} (hlt : lateOk ops q.late = true) {i : Nat} {o : Oper} (ho : ops[i]? = some o) (hl : isLoud o = false) (hlq : (isLoud o && !isQuiet q o) = false) (listed : Array Bool) (w : World) :
    SD q ops f Hs Fs ws (listed.setIfInBounds i true) w ↔ SD q ops f Hs Fs ws listed w := by
  have hg : (∀ e, q.late = e + 1 → (listed.setIfInBounds i true).getD e false = false) ↔ (∀ e, q.late = e + 1 → listed.getD e false = false) := by
    have hne : ∀ e, q.late = e + 1 → i ≠ e := fun e he hie => late_not hlt ho hl (by rw [he, hie])
    constructor
    · intro h e he
      have := h e he
      rwa [getD_set_ne false (hne e he)] at this
    · intro h e he
      rw [getD_set_ne false (hne e he)]
      exact h e he
  unfold SD
  rw [hg, NoLoud.still ho hlq]
theorem exOps_drawn {q : QM} (ok : CfgOK cfg) (hlt : lateOk ops q.late = true) (hsig : ∀ g s, cfg.sigs g = some s → SpecOK cfg.P cfg.elT g s) (hlk : LkOK (some f)) (hsel : Region.noSelect ops = true) {Q : Exit → Act → World → Prop} (hQ : ∀ c a w, ¬ Q (.panic c) a w) {J : Env → Heap → Prop}
    {ρs : List Value} {Fs : Nat → List Nat} {Hs : Heap} {ws : World} (hss : Sat cfg.elT ρs Fs Hs ws) :
    ∀ (plan : List Nat) (listed : Array Bool) (ρ : List Value) (F : Nat → List Nat) (H : Heap) (w : World) (env : Env) (a : Act), planGo ops plan listed = true → listed.size = ops.size → Closed ops listed →
      exOps cfg nt (some f) q (early q ops.toList) (some Hs) ops.toList plan env H J → St cfg nt ds ρ F env H a w → Step cfg (some f) ρs Fs Hs ws ρ F H w → (NoLoud q ops listed → Kept (some fun _ => true) Hs Fs ws H F w) →
      (∀ ρ' F' H' w' env' a', J env' H' → St cfg nt ds ρ' F' env' H' a' w' → Step cfg none ρs Fs Hs ws ρ' F' H' w' → Q .normal a' w') →
      wpAnyG cfg.P ops Q (SD q ops f Hs Fs ws) plan.length listed a w
  | [], listed, ρ, F, H, w, env, a, hp, hsz, hc, h, hs, st, hnl, hn => by
    have hr : Region.ready .any ops listed = [] := by simpa [planGo] using hp
    exact ⟨hr, hn ρ F H w env a h hs st.none⟩
  | i :: rest, listed, ρ, F, H, w, env, a, hp, hsz, hc, h, hs, st, hnl, hn => by
    simp only [planGo, Bool.and_eq_true] at hp
    obtain ⟨hp1, hp2⟩ := hp
    have hS : SD q ops f Hs Fs ws listed w := fun _ => ⟨fun j b hb hfb => (st.kept f rfl j b hb hfb).2.2, fun hno j b hb => (hnl hno _ rfl j b hb rfl).2.2⟩
    have hsz' : (listed.setIfInBounds i true).size = ops.size := by simpa using hsz
    cases ho : ops[i]? with
    | none => rw [ho] at hp1; cases hp1
    | some o =>
      rw [ho] at hp1
      simp only at hp1
      cases hl : isLoud o with
      | true =>
        rw [hl] at hp1
        simp only [cond_true] at hp1
        have hr : Region.ready .any ops listed = [i] := by simpa using hp1
        have hri : i ∈ Region.ready .any ops listed := by rw [hr]; simp
        have hil : i < listed.size := by rw [hsz]; exact (Array.getElem?_eq_some_iff.1 ho).1
        refine ⟨(fun h0 => by rw [hr] at h0; cases h0), fun j hj => ?_⟩
        rw [hr] at hj
        simp only [List.mem_singleton] at hj
        subst hj
        refine exOps_wpOp ok hsig hlk (fun o' ho' => .inl (by rw [ho] at ho'; injection ho' with ho'; subst ho'; exact hl)) h hs (fun ρ' F' H' w' env' a' h1 h2 h3 h4 => ?_)
        by_cases hle : q.late = j + 1
        · have hall := late_all hlt hle hsz (hc.next hri)
          have hrest : rest = [] := planGo_nil hp2 hall
          subst hrest
          refine ⟨fun hg => ?_, ready_nil hall, hn ρ' F' H' w' env' a' h1 h2 (st.none.trans h3.none)⟩
          have := hg j hle
          simp [hil] at this
        rw [lkq_still hle] at h3
        have st' := st.trans h3
        have hnl' : NoLoud q ops (listed.setIfInBounds j true) → Kept (some fun _ => true) Hs Fs ws H' F' w' := by
          intro hno
          cases hqo : isQuiet q o with
          | false =>
            have := hno j o ho (by rw [hl, hqo]; rfl)
            simp [hil] at this
          | true => exact (hnl ((NoLoud.still ho (by rw [hqo]; simp) listed).1 hno)).trans (h4 o ho hl hqo)
        exact ⟨fun _ => ⟨fun k b hb hfb => (st'.kept f rfl k b hb hfb).2.2, fun hno k b hb => (hnl' hno _ rfl k b hb rfl).2.2⟩, exOps_drawn ok hlt hsig hlk hsel hQ hss rest _ ρ' F' H' w' env' a' hp2 hsz' (hc.next hri) h1 h2 st' hnl' hn⟩
      | false =>
        rw [hl] at hp1
        simp only [cond_false, Bool.and_eq_true] at hp1
        have hri : i ∈ Region.ready .any ops listed := by simpa using hp1.1
        have hun := (mem_ready.1 hri).1
        obtain ⟨x, env', h1, h2, h3⟩ := exOps_still ok hlt hss st.le ho hl h hs hc hun hS
        have hlq : (isLoud o && !isQuiet q o) = false := by rw [hl]; rfl
        have hnl' : NoLoud q ops (listed.setIfInBounds i true) → Kept (some fun _ => true) Hs Fs ws H F w := fun hno => hnl ((NoLoud.still ho hlq listed).1 hno)
        refine wpAnyG_first ho (Region.noSelect_spec hsel) (fun c a w hq => absurd hq (hQ c _ w)) (fun listed w => ?_) rest.length listed a w (Region.free_spec ho hp1.2) hc hri h3 hS
          (exOps_drawn ok hlt hsig hlk hsel hQ hss rest _ ρ F H w env' _ hp2 hsz' (hc.next hri) h1 h2 st hnl' hn)
        exact SD.still hlt ho hl hlq listed w
theorem closed_start (ops : Array Oper) : Closed ops (Array.replicate ops.size false) := by
  intro j o ho hl
  exfalso
  have : (Array.replicate ops.size false).getD j false = false := by simp [Array.getD]
  rw [this] at hl
  cases hl
theorem lkOK_lkOf (kd : Nat) : LkOK (some (lkOf kd)) := by
  intro f hf g b c h
  injection hf with hf
  subst hf
  cases b with
  | dead => simp only [Blk.ren, Option.some.injEq] at h; subst h; rfl
  | cells T cs =>
    simp only [Blk.ren] at h
    split at h
    · injection h with h; subst h
      match kd with
      | 0 => rfl
      | 1 => rfl
      | 2 => rfl
      | 3 => rfl
      | 4 => rfl
      | _ + 5 => rfl
    · cases h
  | rcells cs =>
    simp only [Blk.ren] at h
    split at h
    · injection h with h; subst h
      match kd with
      | 0 => rfl
      | 1 => rfl
      | 2 => rfl
      | 3 => rfl
      | 4 => rfl
      | _ + 5 => rfl
    · cases h
  | row t l ro => simp only [Blk.ren, Option.some.injEq] at h; subst h; rfl
  | map m n => simp only [Blk.ren, Option.some.injEq] at h; subst h; rfl
  | iter m left n c => simp only [Blk.ren, Option.some.injEq] at h; subst h; rfl
  | pk tg st xs rs =>
    simp only [Blk.ren] at h
    split at h
    · injection h with h; subst h
      match kd with
      | 0 => rfl
      | 1 => rfl
      | 2 => rfl
      | 3 => rfl
      | 4 => rfl
      | _ + 5 => rfl
    · cases h
end Go.Rx
end

section
namespace Go.Rx
section
variable {P : Program} {ops : Array Oper} {Q : Exit → Act → World → Prop} {S : Array Bool → World → Prop}
theorem wpAnyG_more : ∀ (fuel : Nat) (listed : Array Bool) (a : Act) (w : World), wpAnyG P ops Q S fuel listed a w → wpAnyG P ops Q S (fuel + 1) listed a w
  | 0, listed, a, w, h => ⟨fun _ => h.2, fun i hi => by rw [h.1] at hi; cases hi⟩
  | fuel + 1, listed, a, w, h => ⟨h.1, fun i hi => wpOp_mono (fun a' w' h' => ⟨h'.1, wpAnyG_more fuel _ a' w' h'.2⟩) (h.2 i hi)⟩
theorem wpAnyG_le {m n : Nat} (h : m ≤ n) {listed : Array Bool} {a : Act} {w : World} (hw : wpAnyG P ops Q S m listed a w) : wpAnyG P ops Q S n listed a w := by
  induction h with
  | refl => exact hw
  | step _ ih => exact wpAnyG_more _ _ _ _ ih
end
variable {cfg : Cfg} {nt : Nat} {f : Blk → Bool} {ops : Array Oper} {ds : List Deferred}
theorem planGoT_nil {ops : Array Oper} {listed : Array Bool} (h : ∀ j, j < ops.size → listed.getD j true = true) {t : PT} (hp : planGoT ops false t listed = true) : t = .fin := by
  cases t with
  | fin => rfl
  | op i t =>
    exfalso
    simp only [planGoT, Bool.and_eq_true] at hp
    have h1 := hp.1
    split at h1
    · cases h1
    · rename_i o ho
      cases hl : isLoud o with
      | true =>
        rw [hl] at h1
        simp only [cond_true, Bool.false_or] at h1
        have hr : Region.ready .any ops listed = [i] := by simpa using h1
        exact not_ready h i (by rw [hr]; simp)
      | false =>
        rw [hl] at h1
        simp only [cond_false, Bool.and_eq_true] at h1
        exact not_ready h i (by simpa using h1.2.1)
  | alt t u =>
    exfalso
    simp only [planGoT, Bool.and_eq_true, Bool.false_or, Bool.not_eq_true'] at hp
    have := hp.1.1
    rw [ready_nil h] at this
    cases this
theorem exOps_tree {q : QM} (ok : CfgOK cfg) (hlt : lateOk ops q.late = true) (hsig : ∀ g s, cfg.sigs g = some s → SpecOK cfg.P cfg.elT g s) (hlk : LkOK (some f)) (hsel : Region.noSelect ops = true) {Q : Exit → Act → World → Prop} (hQ : ∀ c a w, ¬ Q (.panic c) a w) {J : Env → Heap → Prop}
    {ρs : List Value} {Fs : Nat → List Nat} {Hs : Heap} {ws : World} (hss : Sat cfg.elT ρs Fs Hs ws)
    (hn : ∀ ρ' F' H' w' env' a', J env' H' → St cfg nt ds ρ' F' env' H' a' w' → Step cfg none ρs Fs Hs ws ρ' F' H' w' → Q .normal a' w') :
    ∀ (p : PT) (b : Bool) (listed : Array Bool) (ρ : List Value) (F : Nat → List Nat) (H : Heap) (w : World) (env : Env) (a : Act), planGoT ops b p listed = true → listed.size = ops.size → Closed ops listed →
      exOpsT cfg nt (some f) q (early q ops.toList) (some Hs) ops.toList p env H J → St cfg nt ds ρ F env H a w → Step cfg (some f) ρs Fs Hs ws ρ F H w → (NoLoud q ops listed → Kept (some fun _ => true) Hs Fs ws H F w) →
      match b with
      | false => wpAnyG cfg.P ops Q (SD q ops f Hs Fs ws) p.size listed a w
      | true => ∀ i ∈ heads p, i ∈ Region.ready .any ops listed → ∀ n, p.size ≤ n + 1 → wpOp cfg.P ops Q i (fun a' w' => SD q ops f Hs Fs ws (listed.setIfInBounds i true) w' ∧ wpAnyG cfg.P ops Q (SD q ops f Hs Fs ws) n (listed.setIfInBounds i true) a' w') a w
  | .fin, b, listed, ρ, F, H, w, env, a, hp, hsz, hc, h, hs, st, hnl => by
    simp only [planGoT, Bool.and_eq_true, Bool.not_eq_true'] at hp
    obtain ⟨rfl, hp⟩ := hp
    have hr : Region.ready .any ops listed = [] := by simpa using hp
    exact ⟨hr, hn ρ F H w env a h hs st.none⟩
  | .op i t, b, listed, ρ, F, H, w, env, a, hp, hsz, hc, h, hs, st, hnl => by
    simp only [planGoT, Bool.and_eq_true] at hp
    obtain ⟨hp1, hp2⟩ := hp
    have hsz' : (listed.setIfInBounds i true).size = ops.size := by simpa using hsz
    simp only [exOpsT] at h
    have hS : SD q ops f Hs Fs ws listed w := fun _ => ⟨fun j b hb hfb => (st.kept f rfl j b hb hfb).2.2, fun hno j b hb => (hnl hno _ rfl j b hb rfl).2.2⟩
    cases ho : ops[i]? with
    | none => rw [ho] at hp1; cases hp1
    | some o =>
      rw [ho] at hp1
      simp only at hp1
      have hil : i < listed.size := by rw [hsz]; exact (Array.getElem?_eq_some_iff.1 ho).1
      cases hl : isLoud o with
      | true =>
        rw [hl] at hp1
        simp only [cond_true] at hp1
        have go : i ∈ Region.ready .any ops listed → wpOp cfg.P ops Q i (fun a' w' => SD q ops f Hs Fs ws (listed.setIfInBounds i true) w' ∧ wpAnyG cfg.P ops Q (SD q ops f Hs Fs ws) t.size (listed.setIfInBounds i true) a' w') a w := by
          intro hri
          refine exOps_wpOp ok hsig hlk (fun o' ho' => .inl (by rw [ho] at ho'; injection ho' with ho'; subst ho'; exact hl)) h hs (fun ρ' F' H' w' env' a' h1 h2 h3 h4 => ?_)
          by_cases hle : q.late = i + 1
          · have hall := late_all hlt hle hsz (hc.next hri)
            have ht : t = .fin := planGoT_nil hall hp2
            subst ht
            refine ⟨fun hg => ?_, ready_nil hall, hn ρ' F' H' w' env' a' h1 h2 (st.none.trans h3.none)⟩
            have := hg i hle
            simp [hil] at this
          rw [lkq_still hle] at h3
          have st' := st.trans h3
          have hnl' : NoLoud q ops (listed.setIfInBounds i true) → Kept (some fun _ => true) Hs Fs ws H' F' w' := by
            intro hno
            cases hqo : isQuiet q o with
            | false =>
              have := hno i o ho (by rw [hl, hqo]; rfl)
              simp [hil] at this
            | true => exact (hnl ((NoLoud.still ho (by rw [hqo]; simp) listed).1 hno)).trans (h4 o ho hl hqo)
          exact ⟨fun _ => ⟨fun k b hb hfb => (st'.kept f rfl k b hb hfb).2.2, fun hno k b hb => (hnl' hno _ rfl k b hb rfl).2.2⟩, exOps_tree ok hlt hsig hlk hsel hQ hss hn t false _ ρ' F' H' w' env' a' hp2 hsz' (hc.next hri) h1 h2 st' hnl'⟩
        cases b with
        | false =>
          have hr : Region.ready .any ops listed = [i] := by simpa using hp1
          refine ⟨(fun h0 => by rw [hr] at h0; cases h0), fun j hj => ?_⟩
          rw [hr] at hj
          simp only [List.mem_singleton] at hj
          subst hj
          exact go (by rw [hr]; simp)
        | true =>
          intro j hj hri n hle
          simp only [heads, List.mem_singleton] at hj
          subst hj
          simp only [PT.size] at hle
          exact wpOp_mono (fun a' w' h' => ⟨h'.1, wpAnyG_le (by omega) h'.2⟩) (go hri)
      | false =>
        rw [hl] at hp1
        simp only [cond_false, Bool.and_eq_true, Bool.not_eq_true'] at hp1
        obtain ⟨rfl, hp1⟩ := hp1
        have hri : i ∈ Region.ready .any ops listed := by simpa using hp1.1
        have hun := (mem_ready.1 hri).1
        obtain ⟨x, env', h1, h2, h3⟩ := exOps_still ok hlt hss st.le ho hl h hs hc hun hS
        have hlq : (isLoud o && !isQuiet q o) = false := by rw [hl]; rfl
        have hnl' : NoLoud q ops (listed.setIfInBounds i true) → Kept (some fun _ => true) Hs Fs ws H F w := fun hno => hnl ((NoLoud.still ho hlq listed).1 hno)
        refine wpAnyG_first ho (Region.noSelect_spec hsel) (fun c a w hq => absurd hq (hQ c _ w)) (fun listed w => ?_) t.size listed a w (Region.free_spec ho hp1.2) hc hri h3 hS
          (exOps_tree ok hlt hsig hlk hsel hQ hss hn t false _ ρ F H w env' _ hp2 hsz' (hc.next hri) h1 h2 st hnl')
        exact SD.still hlt ho hl hlq listed w
  | .alt t u, b, listed, ρ, F, H, w, env, a, hp, hsz, hc, h, hs, st, hnl => by
    simp only [planGoT, Bool.and_eq_true] at hp
    obtain ⟨hp0, hp1, hp2⟩ := hp
    obtain ⟨g1, g2⟩ := h
    have r1 := exOps_tree ok hlt hsig hlk hsel hQ hss hn t true listed ρ F H w env a hp1 hsz hc g1 hs st hnl
    have r2 := exOps_tree ok hlt hsig hlk hsel hQ hss hn u true listed ρ F H w env a hp2 hsz hc g2 hs st hnl
    have both : ∀ i ∈ heads (.alt t u), i ∈ Region.ready .any ops listed → ∀ n, (PT.alt t u).size ≤ n + 1 → wpOp cfg.P ops Q i (fun a' w' => SD q ops f Hs Fs ws (listed.setIfInBounds i true) w' ∧ wpAnyG cfg.P ops Q (SD q ops f Hs Fs ws) n (listed.setIfInBounds i true) a' w') a w := by
      intro i hi hri n hle
      simp only [PT.size] at hle
      simp only [heads, List.mem_append] at hi
      rcases hi with hi | hi
      · exact r1 i hi hri n (by omega)
      · exact r2 i hi hri n (by omega)
    cases b with
    | true => exact both
    | false =>
      simp only [Bool.false_or, Bool.and_eq_true, Bool.not_eq_true', List.all_eq_true] at hp0
      obtain ⟨hne, hall⟩ := hp0
      have hne' : Region.ready .any ops listed ≠ [] := by intro e; rw [e] at hne; cases hne
      have hpos : ∃ i, i ∈ Region.ready .any ops listed := List.exists_mem_of_ne_nil _ hne'
      have hsize : ∃ n, (PT.alt t u).size = n + 1 := by
        obtain ⟨i, hi⟩ := hpos
        have hm := hall i hi
        have : ∀ p : PT, heads p ≠ [] → 0 < p.size := by
          intro p
          induction p with
          | fin => intro h; exact absurd rfl h
          | op i t ih => intro _; simp [PT.size]
          | alt t u ih1 ih2 =>
            intro h
            simp only [heads] at h
            simp only [PT.size]
            by_cases h1 : heads t = []
            · have h2 : heads u ≠ [] := fun h2 => h (by rw [h1, h2]; rfl)
              have := ih2 h2; omega
            · have := ih1 h1; omega
        have hp := this (.alt t u) (fun e => by rw [e] at hm; simp at hm)
        exact ⟨(PT.alt t u).size - 1, by omega⟩
      obtain ⟨n, hn'⟩ := hsize
      show wpAnyG cfg.P ops Q (SD q ops f Hs Fs ws) (PT.alt t u).size listed a w
      rw [hn']
      refine ⟨fun h0 => absurd h0 hne', fun i hi => both i (by simpa using hall i hi) hi n (by omega)⟩
end Go.Rx
end

section
namespace Go.Rx
variable {cfg : Cfg} {H : Heap} {ρ : List Value} {F : Nat → List Nat} {w : World} {ds : List Deferred}
def RelL (ρ : List Value) : List V → List Value → Prop
  | [], [] => True
  | v :: vs, x :: xs => Rel ρ v x ∧ RelL ρ vs xs
  | _, _ => False
theorem RelL.le {ρ ρ' : List Value} (hl : Le ρ ρ') : ∀ {vs : List V} {xs : List Value}, RelL ρ vs xs → RelL ρ' vs xs
  | [], [], _ => trivial
  | _ :: _, _ :: _, h => ⟨h.1.le hl, RelL.le hl h.2⟩
theorem rowifyL_sound {lk : Option (Blk → Bool)} : ∀ (ps : List (Option Nat × V)) (xs : List Value) (H : Heap) (ρ : List Value) (F : Nat → List Nat) {vs : List V} {H' : Heap}, rowifyL H ps = (vs, H') → RelL ρ (ps.map (·.2)) xs → Sat cfg.elT ρ F H w →
    ∃ ρ' F', RelL ρ' vs xs ∧ Step cfg lk ρ F H w ρ' F' H' w
  | [], xs, H, ρ, F, vs, H', h, hx, hs => by
    simp only [rowifyL] at h
    injection h with h1 h2
    subst h1; subst h2
    exact ⟨ρ, F, hx, .refl hs⟩
  | (tg, v) :: r, [], H, ρ, F, vs, H', h, hx, hs => hx.elim
  | (tg, v) :: r, x :: xs, H, ρ, F, vs, H', h, hx, hs => by
    simp only [rowifyL] at h
    cases h1 : rowify H tg v with
    | mk v1 H1 =>
    rw [h1] at h
    simp only at h
    cases h2 : rowifyL H1 r with
    | mk vs1 H2 =>
    rw [h2] at h
    injection h with e1 e2
    subst e1; subst e2
    obtain ⟨ρ1, F1, g1, st1⟩ := rowify_sound (lk := lk) h1 hx.1 hs
    obtain ⟨ρ2, F2, g2, st2⟩ := rowifyL_sound (lk := lk) r xs H1 ρ1 F1 h2 (RelL.le st1.le hx.2) st1.sat
    exact ⟨ρ2, F2, ⟨g1.le st2.le, g2⟩, st1.trans st2⟩
theorem addNew_prefix : ∀ (l acc : List Nat), ∃ r, addNew acc l = acc ++ r
  | [], acc => ⟨[], by simp [addNew]⟩
  | i :: l, acc => by
    simp only [addNew]
    cases mem i acc with
    | true => exact addNew_prefix l acc
    | false =>
      obtain ⟨r, h⟩ := addNew_prefix l (acc ++ [i])
      exact ⟨[i] ++ r, by simp only [cond_false]; rw [h]; simp⟩
theorem reach_prefix (H : Heap) : ∀ (n : Nat) (acc : List Nat), ∃ r, reach H n acc = acc ++ r
  | 0, acc => ⟨[], by simp [reach]⟩
  | n + 1, acc => by
    simp only [reach]
    obtain ⟨r, h⟩ := addNew_prefix (acc.flatMap (idsAt H)) acc
    obtain ⟨r', h'⟩ := reach_prefix H n (addNew acc (acc.flatMap (idsAt H)))
    exact ⟨r ++ r', by rw [h', h]; simp⟩
theorem regroup {ids : List Nat} {Hc : Heap} (hs : Sat cfg.elT ρ F H w) (hsel : sel H (idx ids) ids = some Hc) (hnd : nodup ids = true) :
    ∃ ρ' F', (∀ i j, idx ids i = some j → ρ'[j]? = ρ[i]?) ∧ (∀ p i : Nat, ids[p]? = some i → ρ'[p]? = ρ[i]?) ∧ Sat cfg.elT ρ' F' Hc w ∧ Fr H F w Hc F' w := by
  obtain ⟨hlen, hget⟩ := sel_spec hsel
  have hρc : ∀ i j, idx ids i = some j → (ids.map fun i => ρ.getD i undef)[j]? = ρ[i]? := by
    intro i j hij
    have hj := idx_spec hij
    have hjl : j < ids.length := (List.getElem?_eq_some_iff.1 hj).1
    have hjc : j < Hc.length := by rw [hlen]; exact hjl
    obtain ⟨i', b, e1, e2, _⟩ := hget j _ (List.getElem?_eq_getElem hjc)
    rw [hj] at e1; injection e1 with e1; subst e1
    have hil : i < ρ.length := by rw [hs.len]; exact (List.getElem?_eq_some_iff.1 e2).1
    rw [List.getElem?_map, hj]
    simp [List.getD, List.getElem?_eq_getElem hil]
  refine ⟨ids.map fun i => ρ.getD i undef, fun p => F (ids.getD p 0), hρc, fun p i h => hρc i p (idx_complete hnd h), ?_, ⟨rfl, rfl, rfl, Nat.le_refl _, fun _ _ _ => rfl, fun p c hc hw n hn => ?_, fun p c hc n hn => ?_⟩⟩
  · refine ⟨by simp [hlen], fun p c y hcp hy => ?_, fun p c hcp n hn => ?_, fun p q c d hcp hdq hpq hw n hn => ?_⟩
    · obtain ⟨i, b, e1, e2, e3⟩ := hget p c hcp
      have hp := hρc i p (idx_complete hnd e1)
      rw [hy] at hp
      have hgd : ids.getD p 0 = i := by simp [List.getD, e1]
      show c.holds cfg.elT _ w y (F (ids.getD p 0))
      rw [hgd]
      exact Blk.ren_holds hρc e3 (hs.each i b y e2 hp.symm)
    · obtain ⟨i, b, e1, e2, e3⟩ := hget p c hcp
      have hgd : ids.getD p 0 = i := by simp [List.getD, e1]
      simp only [hgd] at hn
      exact hs.lt i b e2 n hn
    · obtain ⟨i, b, e1, e2, e3⟩ := hget p c hcp
      obtain ⟨j, b2, f1, f2, f3⟩ := hget q d hdq
      have hgd : ids.getD p 0 = i := by simp [List.getD, e1]
      have hgd2 : ids.getD q 0 = j := by simp [List.getD, f1]
      simp only [hgd] at hn
      simp only [hgd2]
      exact hs.disj i j b b2 e2 f2 (fun e => by subst e; exact hpq (nodup_spec hnd p q i e1 f1)) (by rw [← Blk.ren_writable e3]; exact hw) n hn
  · obtain ⟨i, b, e1, e2, e3⟩ := hget p c hc
    have hgd : ids.getD p 0 = i := by simp [List.getD, e1]
    simp only [hgd] at hn
    exact .inr ⟨i, b, e2, by rw [← Blk.ren_writable e3]; exact hw, hn⟩
  · obtain ⟨i, b, e1, e2, e3⟩ := hget p c hc
    have hgd : ids.getD p 0 = i := by simp [List.getD, e1]
    simp only [hgd] at hn
    exact .inr ⟨i, b, e2, hn⟩
theorem renL_rel {ρ ρ' : List Value} {f : Nat → Option Nat} (hf : ∀ i j, f i = some j → ρ'[j]? = ρ[i]?) : ∀ {vs vs' : List V} {xs : List Value}, renL f vs = some vs' → RelL ρ vs xs → RelL ρ' vs' xs
  | [], vs', [], h, _ => by simp only [renL, Option.some.injEq] at h; subst h; trivial
  | [], vs', _ :: _, h, hx => hx.elim
  | v :: r, vs', [], h, hx => hx.elim
  | v :: r, vs', x :: xs, h, hx => by
    simp only [renL] at h
    split at h
    · rename_i v1 r1 hv hr
      injection h with h
      subst h
      exact ⟨ren_rel hf hv hx.1, renL_rel hf hr hx.2⟩
    · cases h
structure St0 (cfg : Cfg) (cx : Cx) (ds : List Deferred) (ρ0 : List Value) (F0 : Nat → List Nat) (H0 : Heap) (w0 : World) (ρ : List Value) (F : Nat → List Nat) (env : Env) (H : Heap) (a : Act) (w : World) : Prop where
  st : St cfg cx.nt ds ρ F env H a w
  fr : Fr H0 F0 w0 H F w
  pins : ∀ i, i < cx.pins → ρ[i]? = ρ0[i]?
variable {cx : Cx} {ρ0 : List Value} {F0 : Nat → List Nat} {H0 : Heap} {w0 : World}
theorem St0.step {lk : Option (Blk → Bool)} {env env' : Env} {a a' : Act} {ρ' : List Value} {F' : Nat → List Nat} {H' : Heap} {w' : World} (h : St0 cfg cx ds ρ0 F0 H0 w0 ρ F env H a w) (hp : cx.pins ≤ ρ0.length) (hs : St cfg cx.nt ds ρ' F' env' H' a' w') (st : Step cfg lk ρ F H w ρ' F' H' w') :
    St0 cfg cx ds ρ0 F0 H0 w0 ρ' F' env' H' a' w' := by
  refine ⟨hs, h.fr.trans st.fr, fun i hi => ?_⟩
  have h1 := h.pins i hi
  have hil : i < ρ0.length := by omega
  rw [List.getElem?_eq_getElem hil] at h1 ⊢
  exact st.le i _ h1
theorem mkEnv_rel {tmps : Array Value} : ∀ (keep : List (Nat × Option Nat)) (vs : List V), RelL ρ vs (keep.map fun p => tmps.getD p.1 undef) → ∀ t, Rel ρ (mkEnv (zipKeep keep vs) t) (tmps.getD t undef)
  | [], [], _, t => .inl rfl
  | [], _ :: _, h, t => h.elim
  | (u, tg) :: r, [], h, t => h.elim
  | (u, tg) :: r, v :: vs, h, t => by
    simp only [zipKeep, mkEnv]
    cases ht : Nat.beq t u with
    | true => obtain rfl := Nat.eq_of_beq_eq_true ht; exact h.1
    | false => exact mkEnv_rel r vs h.2 t
theorem relL_env {env : Env} {a : Act} (hE : ∀ t, Rel ρ (env t) (a.tmps.getD t undef)) : ∀ (keep : List (Nat × Option Nat)), RelL ρ ((keep.map fun p => (p.2, env p.1)).map (·.2)) (keep.map fun p => a.tmps.getD p.1 undef)
  | [] => trivial
  | (t, _) :: r => ⟨hE t, relL_env hE r⟩
theorem range_get (n i : Nat) (h : i < n) : (List.range n)[i]? = some i := List.getElem?_range h
theorem gc_sound {keep : List (Nat × Option Nat)} {env : Env} {a : Act} {K : Env → Heap → Prop} (hp : cx.pins ≤ ρ0.length) (h : gc cx.pins keep env H K) (hs : St0 cfg cx ds ρ0 F0 H0 w0 ρ F env H a w) :
    ∃ ρ' F' env' H', K env' H' ∧ St0 cfg cx ds ρ0 F0 H0 w0 ρ' F' env' H' a w := by
  unfold gc at h
  split at h
  rename_i vs H1 hr
  obtain ⟨ρ1, F1, g1, st1⟩ := rowifyL_sound (lk := none) _ _ H ρ F hr (relL_env hs.st.env keep) hs.st.sat
  generalize hids : reach H1 3 (addNew (List.range cx.pins) (idsL vs)) = ids at h
  simp only at h
  split at h
  · rename_i vs' Hc hren hsel
    have hc := cond_elim h
    obtain ⟨ρ2, F2, q1, q2, q3, q4⟩ := regroup st1.sat hsel hc.1
    have hrel := renL_rel q1 hren g1
    have s1 := hs.step hp (a' := a) (env' := env) ⟨fun t => (hs.st.env t).le st1.le, hs.st.size, hs.st.defers, st1.sat⟩ st1
    refine ⟨ρ2, F2, _, Hc, hc.2, ⟨⟨mkEnv_rel keep vs' hrel, hs.st.size, hs.st.defers, q3⟩, s1.fr.trans q4, fun i hi => ?_⟩⟩
    have hpre : ids[i]? = some i := by
      obtain ⟨r1, e1⟩ := addNew_prefix (idsL vs) (List.range cx.pins)
      obtain ⟨r2, e2⟩ := reach_prefix H1 3 (addNew (List.range cx.pins) (idsL vs))
      rw [← hids, e2, e1, List.append_assoc, List.getElem?_append_left (by simpa using hi)]
      exact range_get _ _ hi
    rw [q2 i i hpre]
    exact s1.pins i hi
  · exact h.elim
theorem gcO_sound {keep : Option (List (Nat × Option Nat))} {env : Env} {a : Act} {K : Env → Heap → Prop} (hp : cx.pins ≤ ρ0.length) (h : gcO cx.pins keep env H K) (hs : St0 cfg cx ds ρ0 F0 H0 w0 ρ F env H a w) :
    ∃ ρ' F' env' H', K env' H' ∧ St0 cfg cx ds ρ0 F0 H0 w0 ρ' F' env' H' a w := by
  unfold gcO at h
  split at h
  · exact gc_sound hp h hs
  · exact ⟨ρ, F, env, H, h, hs⟩
def QK (cfg : Cfg) (cx : Cx) (ds : List Deferred) (ρ0 : List Value) (F0 : Nat → List Nat) (H0 : Heap) (w0 : World) (K : Ex → Env → Heap → Prop) : Exit → Act → World → Prop
  | .normal, a, w => ∃ ρ F env H, St0 cfg cx ds ρ0 F0 H0 w0 ρ F env H a w ∧ K .normal env H
  | .exit i, a, w => ∃ ρ F env H, St0 cfg cx ds ρ0 F0 H0 w0 ρ F env H a w ∧ K (.exit i) env H
  | .ret, a, w => ∃ ρ F env H, St0 cfg cx ds ρ0 F0 H0 w0 ρ F env H a w ∧ K .ret env H
  | _, _, _ => False
theorem ybx (ok : CfgOK cfg) (hsig : ∀ g s, cfg.sigs g = some s → SpecOK cfg.P cfg.elT g s) (hp : cx.pins ≤ ρ0.length) : ∀ (c : Code) (K : Ex → Env → Heap → Prop) (env : Env) (H : Heap) (ρ : List Value) (F : Nat → List Nat) (a : Act) (w : World),
    ex cfg cx c env H K → St0 cfg cx ds ρ0 F0 H0 w0 ρ F env H a w → c.wp cfg.P (QK cfg cx ds ρ0 F0 H0 w0 K) a w := by
  intro c
  induction c with
  | skip => intro K env H ρ F a w h hs; exact wp_skip ⟨ρ, F, env, H, hs, h⟩
  | label l => intro K env H ρ F a w h hs; exact wp_label ⟨ρ, F, env, H, hs, h⟩
  | exit id => intro K env H ρ F a w h hs; exact wp_exit ⟨ρ, F, env, H, hs, h⟩
  | ret => intro K env H ρ F a w h hs; exact wp_ret ⟨ρ, F, env, H, hs, h⟩
  | goto l => intro K env H ρ F a w h hs; exact h.elim
  | refuse why => intro K env H ρ F a w h hs; exact h.elim
  | rangeFunc f ps x y _ _ => intro K env H ρ F a w h hs; exact h.elim
  | region id ops draw =>
    intro K env H ρ F a w h hs
    cases draw with
    | false =>
      have h : exOps cfg cx.nt none qm0 (fun _ => true) none ops.toList (List.range ops.toList.length) env H (K .normal) := h
      rw [Array.length_toList] at h
      exact wp_region (exOps_wpOps ok hsig _ ρ F H w env a h hs.st (fun ρ' F' H' w' env' a' h1 h2 h3 => ⟨ρ', F', env', H', hs.step hp h2 h3, h1⟩))
    | true =>
      have hd := hs.st.sat.drew
      have hst : St cfg cx.nt ds ρ F env H a w.drew := ⟨hs.st.env, hs.st.size, hs.st.defers, hd⟩
      have hs1 : St0 cfg cx ds ρ0 F0 H0 w0 ρ F env H a w.drew := ⟨hst, hs.fr.trans Fr.drew, hs.pins⟩
      have h : (match cfg.planT id with
       | some (p, kd) => bif planOkT ops p && lateOk ops (kdQ kd).late then exOpsT cfg cx.nt (some (lkOf (kdB kd))) (kdQ kd) (early (kdQ kd) ops.toList) (some H) ops.toList p env H (K .normal) else False
       | none => match cfg.plan id with
        | some (plan, kd) => bif planOk ops plan && lateOk ops (kdQ kd).late then exOps cfg cx.nt (some (lkOf (kdB kd))) (kdQ kd) (early (kdQ kd) ops.toList) (some H) ops.toList plan env H (K .normal) else False
        | none => False) := h
      split at h
      · rename_i p kd hpl
        have hc := cond_elim h
        have hc1 := hc.1
        simp only [planOkT, Bool.and_eq_true] at hc1
        obtain ⟨hc1, hlt⟩ := hc1
        obtain ⟨⟨hsel, hle⟩, hgo⟩ := hc1
        refine wp_region_any ok.mixed (wpAny_of_G (S := SD (kdQ kd) ops (lkOf (kdB kd)) H F w.drew) _ _ _ _ ?_)
        exact wpAnyG_le (Nat.le_of_ble_eq_true hle) (exOps_tree (nt := cx.nt) (f := lkOf (kdB kd)) (q := kdQ kd) (ops := ops) ok hlt hsig (lkOK_lkOf (kdB kd)) hsel (Q := QK cfg cx ds ρ0 F0 H0 w0 K) (fun _ _ _ h => h) hd
          (fun ρ' F' H' w' env' a' h1 h2 h3 => ⟨ρ', F', env', H', hs1.step hp h2 h3, h1⟩) p false (Array.replicate ops.size false) ρ F H w.drew env a hgo (by simp) (closed_start ops) hc.2 hst (.refl hd) (fun _ => Kept.refl))
      · split at h
        rotate_left
        · exact h.elim
        rename_i plan kd hpl
        have hc := cond_elim h
        have hc1 := hc.1
        simp only [planOk, Bool.and_eq_true] at hc1
        obtain ⟨hc1, hlt⟩ := hc1
        obtain ⟨⟨hsel, hlen⟩, hgo⟩ := hc1
        have hlen : plan.length = ops.size := by simpa using hlen
        refine wp_region_any ok.mixed (wpAny_of_G (S := SD (kdQ kd) ops (lkOf (kdB kd)) H F w.drew) _ _ _ _ ?_)
        rw [← hlen]
        have := exOps_drawn (nt := cx.nt) (f := lkOf (kdB kd)) (q := kdQ kd) (ops := ops) ok hlt hsig (lkOK_lkOf (kdB kd)) hsel (Q := QK cfg cx ds ρ0 F0 H0 w0 K) (fun _ _ _ h => h) hd plan (Array.replicate ops.size false) ρ F H w.drew env a hgo (by simp) (closed_start ops) hc.2 hst (.refl hd) (fun _ => Kept.refl)
          (fun ρ' F' H' w' env' a' h1 h2 h3 => ⟨ρ', F', env', H', hs1.step hp h2 h3, h1⟩)
        rw [← hlen] at this
        exact this
  | seq x y ihx ihy =>
    intro K env H ρ F a w h hs
    refine wp_seq (wp_mono (ihx _ env H ρ F a w h hs) (fun e a w hq => ?_))
    cases e with
    | normal => obtain ⟨ρ', F', env', H', h1, h2⟩ := hq; exact ihy K env' H' ρ' F' a w h2 h1
    | exit i => exact hq
    | ret => exact hq
    | goto l => exact hq
    | panic ch => exact hq
    | outgrown => exact hq
  | cond c x y ihx ihy =>
    intro K env H ρ F a w h hs
    have h : (match ev env c with
      | .ext (.bool t) => br t (ex cfg cx x (setC cx.nt env c true) H K) (ex cfg cx y (setC cx.nt env c false) H K)
      | _ => False) := h
    split at h
    · rename_i t ht
      have hc := REnv.ev hs.st.env c
      rw [ht] at hc
      have hc := den_ext hc
      refine wp_cond hc ?_
      rcases br_elim h with ⟨rfl, h⟩ | ⟨rfl, h⟩
      · exact ihx K env H ρ F a w (by rw [setC_eq ht] at h; exact h) hs
      · exact ihy K env H ρ F a w (by rw [setC_eq ht] at h; exact h) hs
    · exact h.elim
  | block id x ih =>
    intro K env H ρ F a w h hs
    refine wp_block (wp_mono (ih _ env H ρ F a w h hs) (fun e a w hq => ?_))
    cases e with
    | normal =>
      obtain ⟨ρ', F', env', H', h1, h2⟩ := hq
      obtain ⟨ρ2, F2, env2, H2, g1, g2⟩ := gcO_sound hp h2 h1
      exact ⟨ρ2, F2, env2, H2, g2, g1⟩
    | exit i =>
      obtain ⟨ρ', F', env', H', h1, h2⟩ := hq
      simp only [Exit.inBlock]
      have h2 : bif Nat.beq i id then gcO cx.pins (cfg.keepB id) env' H' (K .normal) else K (.exit i) env' H' := h2
      cases hi : Nat.beq i id with
      | true =>
        rw [hi] at h2
        have e := Nat.eq_of_beq_eq_true hi
        rw [if_pos e]
        obtain ⟨ρ2, F2, env2, H2, g1, g2⟩ := gcO_sound hp h2 h1
        exact ⟨ρ2, F2, env2, H2, g2, g1⟩
      | false =>
        rw [hi] at h2
        have hne : i ≠ id := fun e => by subst e; simp at hi
        rw [if_neg hne]
        exact ⟨ρ', F', env', H', h1, h2⟩
    | ret => exact hq
    | goto l => exact hq
    | panic ch => exact hq
    | outgrown => exact hq
  | scope x ih =>
    intro K env H ρ F a w h hs
    refine wp_scope_straight (wp_mono (ih _ env H ρ F a w h hs) (fun e a w hq => ?_))
    cases e <;> exact hq
  | loop x ih =>
    intro K env H ρ F a w h hs
    obtain ⟨ρ1, F1, env1, H1, g0, g2⟩ := gcO_sound hp (h : gcO cx.pins (cfg.keep (firstRegion x)) env H _) hs
    have g0' : LoopQ x (ex cfg cx x) (gcO cx.pins (cfg.keep (firstRegion x))) env1 H1 K := by
      revert g0
      cases cfg.unroll (firstRegion x) with
      | none => exact id
      | some n => exact fun h => ⟨n, h⟩
    clear g0
    obtain ⟨n, g1⟩ := g0'
    refine wp_loop_rounds n ?_
    clear h hs
    induction n generalizing env1 H1 ρ1 F1 a w with
    | zero => exact g1.elim
    | succ n ihn =>
      rw [rounds_succ]
      refine wp_mono (ih _ env1 H1 ρ1 F1 a w g1 g2) (fun e a w hq => ?_)
      cases e with
      | normal =>
        obtain ⟨ρ', F', env', H', h1, h2⟩ := hq
        obtain ⟨ρ2, F2, env2, H2, q1, q2⟩ := gcO_sound hp (h2 : gcO cx.pins (cfg.keep (firstRegion x)) env' H' _) h1
        exact ihn a w ρ2 F2 env2 H2 q2 q1
      | exit i => exact hq
      | ret => exact hq
      | goto l => exact hq
      | panic ch => exact hq
      | outgrown => exact hq
theorem resV_sound {env : Env} {a : Act} : ∀ (rs : List ResultVar) (tys : List TypeId) (H : Heap) (ρ : List Value) (F : Nat → List Nat) {vs : List V} {H' : Heap}, resV cfg env H rs tys = some (vs, H') → (∀ t, Rel ρ (env t) (a.tmps.getD t undef)) → Sat cfg.elT ρ F H w →
    ∃ ρ' F' xs, RelL ρ' vs xs ∧ Step cfg none ρ F H w ρ' F' H' w ∧ xs.length = rs.length ∧
      (rs.mapM fun r => (match r with | .tmp t => pure (a.tmps.getD t undef) | .cell c t => do loadVar t (← asAddr (a.tmps.getD c undef)) : Sem Value)).run cfg.P w = .ok xs w
  | [], [], H, ρ, F, vs, H', h, hE, hs => by
    simp only [resV, Option.some.injEq, Prod.mk.injEq] at h
    obtain ⟨rfl, rfl⟩ := h
    exact ⟨ρ, F, [], trivial, .refl hs, rfl, by simp⟩
  | [], _ :: _, H, ρ, F, vs, H', h, hE, hs => by simp [resV] at h
  | .tmp t :: r, [], H, ρ, F, vs, H', h, hE, hs => by simp [resV] at h
  | .cell c t :: r, [], H, ρ, F, vs, H', h, hE, hs => by simp [resV] at h
  | .cell c t :: r, ty :: tys, H, ρ, F, vs, H', h, hE, hs => by
    simp only [resV] at h
    split at h
    · rename_i v vs1 H2 h1 h2
      simp only [Option.some.injEq, Prod.mk.injEq] at h
      obtain ⟨rfl, rfl⟩ := h
      have hl : loadV cfg none H t (env c) (fun u => u = v) := by
        unfold cellV at h1
        unfold loadV
        split at h1
        · rename_i i b o hi hx
          rw [hi, hx]
          simp only
          split at h1
          · rename_i T cs hH
            try rw [hH]
            simp only [mayRead, cond_true]
            cases hd : isAggD i.desc with
            | true =>
              rw [hd] at h1
              simp only [cond_true] at h1 ⊢
              cases hb : Nat.ble (o + i.size) cs.length with
              | true => rw [hb] at h1; injection h1
              | false => rw [hb] at h1; cases h1
            | false =>
              rw [hd] at h1
              simp only [cond_false] at h1 ⊢
              rw [h1]
          · cases h1
        · cases h1
      obtain ⟨u, x, rfl, hx, hrun⟩ := loadV_sound hl (hE c) (hs.reads none)
      obtain ⟨ρ2, F2, xs, g2, st2, g3, g4⟩ := resV_sound r tys H ρ F h2 hE hs
      refine ⟨ρ2, F2, x :: xs, ⟨hx.le st2.le, g2⟩, st2, by simp [g3], ?_⟩
      rw [List.mapM_cons, Sem.run_bind]
      have e : (do loadVar t (← asAddr (a.tmps.getD c undef)) : Sem Value).run cfg.P w = .ok x w := by
        have h3 := hrun w (hs.reads none)
        have hp : ∃ b o, env c = .ptr b o := by
          unfold cellV at h1
          split at h1
          · exact ⟨_, _, by assumption⟩
          · cases h1
        obtain ⟨b, o, hp⟩ := hp
        obtain ⟨g, _, hg⟩ := den_ptr (hp ▸ hE c)
        rw [hg] at h3 ⊢
        simpa [Instr.loadAt, Instr.sureAddr, asAddr] using h3
      rw [e]
      simp only [Result.andThen_ok, Sem.run_bind, g4, Sem.run_pure]
    · cases h
  | .tmp t :: r, ty :: tys, H, ρ, F, vs, H', h, hE, hs => by
    simp only [resV] at h
    cases h1 : rowify H (cfg.tagOf ty) (env t) with
    | mk v1 H1 =>
    rw [h1] at h
    simp only at h
    cases h2 : resV cfg env H1 r tys with
    | none => rw [h2] at h; cases h
    | some p =>
      obtain ⟨vs1, H2⟩ := p
      rw [h2] at h
      simp only [Option.some.injEq, Prod.mk.injEq] at h
      obtain ⟨rfl, rfl⟩ := h
      obtain ⟨ρ1, F1, g1, st1⟩ := rowify_sound (lk := none) h1 (hE t) hs
      obtain ⟨ρ2, F2, xs, g2, st2, g3, g4⟩ := resV_sound r tys H1 ρ1 F1 h2 (fun t => (hE t).le st1.le) st1.sat
      refine ⟨ρ2, F2, a.tmps.getD t undef :: xs, ⟨g1.le st2.le, g2⟩, st1.trans st2, by simp [g3], ?_⟩
      rw [List.mapM_cons, Sem.run_bind]
      simp only [Sem.run_pure, Result.andThen_ok, Sem.run_bind, g4]
theorem one_rel : ∀ {vs : List V} {xs : List Value}, RelL ρ vs xs → (∀ v ∈ vs, vs.length ≠ 1 → v ≠ .junk) → Rel ρ (one vs) (if h : xs.length = 1 then xs[0] else .tuple xs.toArray)
  | [], [], _, _ => .inr (by simp [one, V.den, denL])
  | [v], [x], h, _ => by simpa [one] using h.1
  | v :: v2 :: r, x :: x2 :: xs, h, hj => by
    have hl : ∀ (ws : List V) (ys : List Value), RelL ρ ws ys → (∀ v ∈ ws, v ≠ .junk) → denL ρ ws = some ys := by
      intro ws
      induction ws with
      | nil => intro ys h _; cases ys with
        | nil => rfl
        | cons _ _ => exact h.elim
      | cons u ws ih => intro ys h hj; cases ys with
        | nil => exact h.elim
        | cons y ys => simp only [denL, h.1.den (hj u (by simp)), ih ys h.2 (fun v hv => hj v (by simp [hv]))]
    have hd := hl _ _ h (fun v hv => hj v hv (by simp))
    refine .inr ?_
    simp only [one, V.den, hd]
    simp
  | [_], [], h, _ => h.elim
  | [], _ :: _, h, _ => h.elim
  | [_], _ :: _ :: _, h, _ => h.2.elim
  | _ :: _ :: _, [], h, _ => h.elim
  | _ :: _ :: _, [_], h, _ => h.2.elim
theorem results_run {fn : Func} {tmps : Array Value} {xs : List Value} {P : Program} (hl : xs.length = fn.results.toList.length)
    (h : (fn.results.toList.mapM fun r => (match r with | .tmp t => pure (tmps.getD t undef) | .cell c t => do loadVar t (← asAddr (tmps.getD c undef)) : Sem Value)).run P w = .ok xs w) :
    (results fn tmps).run P w = .ok (if h : xs.length = 1 then xs[0] else .tuple xs.toArray) w := by
  have hm : ∀ f : ResultVar → Sem Value, (∀ r, f r = (match r with | .tmp t => pure (tmps.getD t undef) | .cell c t => do loadVar t (← asAddr (tmps.getD c undef)) : Sem Value)) →
      (fn.results.mapM f).run P w = .ok xs.toArray w := by
    intro f hf
    have e : fn.results = fn.results.toList.toArray := by simp
    have hff : f = fun r => (match r with | .tmp t => pure (tmps.getD t undef) | .cell c t => do loadVar t (← asAddr (tmps.getD c undef)) : Sem Value) := funext hf
    rw [e, List.mapM_toArray, hff, map_eq_pure_bind, Sem.run_bind, h]
    rfl
  unfold results
  rw [Sem.run_bind, hm _ (fun r => by cases r <;> rfl)]
  simp only [Result.andThen_ok, Sem.run_pure]
  congr 1
theorem argEnv_rel {args : List V} {vals : List Value} (h : denL ρ args = some vals) (n t : Nat) : Rel ρ (argEnv args t) ((vals.toArray ++ Array.replicate n undef).getD t undef) := by
  unfold argEnv
  have hl := denL_len h
  cases ht : args[t]? with
  | some v =>
    obtain ⟨x, h1, h2⟩ := denL_get h t v ht
    have htl : t < vals.length := (List.getElem?_eq_some_iff.1 h1).1
    refine .inr ?_
    rw [h2]
    congr 1
    simp [Array.getD_eq_getD_getElem?, Array.getElem?_append, htl]
    rw [List.getElem?_eq_getElem htl] at h1
    injection h1 with h1
    exact h1.symm
  | none =>
    refine .inr ?_
    simp only [V.den]
    congr 1
    have htl : ¬ t < vals.length := by
      intro h'
      rw [List.getElem?_eq_getElem (by omega)] at ht; cases ht
    simp only [Array.getD_eq_getD_getElem?, Array.getElem?_append, List.size_toArray, htl, if_false, Array.getElem?_replicate]
    split <;> rfl
theorem ret_sound {fn : Func} {args : List V} {H : Heap} {K : V → Heap → Prop} {ρ : List Value} {F : Nat → List Nat} {w w' : World} (hsat : Sat cfg.elT ρ F H w) {e : Ex} {ρ1 : List Value} {F1 : Nat → List Nat} {env1 : Env} {H1 : Heap} {a' : Act}
    (hs1 : St0 cfg (cxOf fn args H) ds ρ F H w ρ1 F1 env1 H1 a' w') (hr : retK cfg fn H.length K e env1 H1) :
    ∃ v, (results fn a'.tmps).run cfg.P w' = .ok v w' ∧ ∃ v' x ρ' F' H', Ending.returned v = .returned x ∧ K v' H' ∧ Rel ρ' v' x ∧ Le ρ ρ' ∧ Sat cfg.elT ρ' F' H' w' ∧ Fr H F w H' F' w' := by
  have hr : match resV cfg env1 H1 fn.results.toList fn.resultTypes.toList with
      | none => False
      | some (vs, H2) =>
        match renL (idx (reach H2 3 (addNew (List.range H.length) (idsL vs)))) vs, sel H2 (idx (reach H2 3 (addNew (List.range H.length) (idsL vs)))) (reach H2 3 (addNew (List.range H.length) (idsL vs))) with
        | some vs', some H3 => bif nodup (reach H2 3 (addNew (List.range H.length) (idsL vs))) && noJunk vs' then K (one vs') H3 else False
        | _, _ => False := by
    cases e with
    | exit i => exact hr.elim
    | normal => exact hr
    | ret => exact hr
  split at hr
  · exact hr.elim
  · rename_i vs H2 hres
    obtain ⟨ρ2, F2, xs, g1, st2, g3, g4⟩ := resV_sound (w := w') _ _ H1 ρ1 F1 hres hs1.st.env hs1.st.sat
    generalize hids : reach H2 3 (addNew (List.range H.length) (idsL vs)) = ids at hr
    split at hr
    · rename_i vs' H3 hren hsel
      have hcd := cond_elim hr
      have hc1 := hcd.1
      simp only [Bool.and_eq_true] at hc1
      obtain ⟨ρ3, F3, q1, q2, q3, q4⟩ := regroup st2.sat hsel hc1.1
      have hrel := renL_rel q1 hren g1
      refine ⟨_, results_run g3 g4, one vs', _, ρ3, F3, H3, rfl, hcd.2, one_rel hrel (fun v hv _ => ?_), fun i x hx => ?_, q3, (hs1.fr.trans st2.fr).trans q4⟩
      · rintro rfl
        have : ∀ ws : List V, V.junk ∈ ws → noJunk ws = true → False := by
          intro ws
          induction ws with
          | nil => intro h _; cases h
          | cons u ws ih =>
            intro hm hn
            rcases List.mem_cons.1 hm with e | hm
            · subst e; simp [noJunk] at hn
            · refine ih hm ?_
              cases u <;> simp_all [noJunk]
        exact this _ hv hc1.2
      · have hil : i < H.length := by rw [← hsat.len]; exact (List.getElem?_eq_some_iff.1 hx).1
        have hpre : ids[i]? = some i := by
          obtain ⟨r1, e1⟩ := addNew_prefix (idsL vs) (List.range H.length)
          obtain ⟨r2, e2⟩ := reach_prefix H2 3 (addNew (List.range H.length) (idsL vs))
          rw [← hids, e2, e1, List.append_assoc, List.getElem?_append_left (by simpa using hil)]
          exact range_get _ _ hil
        rw [q2 i i hpre]
        have hpi := hs1.pins i hil
        rw [hx] at hpi
        exact st2.le i x hpi
    · exact hr.elim
theorem wp_of_exF (ok : CfgOK cfg) (hsig : ∀ g s, cfg.sigs g = some s → SpecOK cfg.P cfg.elT g s) {fn : Func} {c : Code} (hc : fn.body = some c) {args : List V} {H : Heap} {K : V → Heap → Prop} (hex : exF cfg fn args H K)
    {ρ : List Value} {F : Nat → List Nat} {w : World} {vals : List Value} (hden : denL ρ args = some vals) (hsat : Sat cfg.elT ρ F H w) :
    c.wp cfg.P (bodyPost cfg.P fn fun e w' => ∃ v x ρ' F' H', e = .returned x ∧ K v H' ∧ Rel ρ' v x ∧ Le ρ ρ' ∧ Sat cfg.elT ρ' F' H' w' ∧ Fr H F w H' F' w') { tmps := vals.toArray ++ Array.replicate (fn.ntmps - vals.toArray.size) undef, defers := [] } w := by
  unfold exF at hex
  rw [hc] at hex
  simp only at hex
  have hlen := denL_len hden
  have hst : St cfg (cxOf fn args H).nt [] ρ F (argEnv args) H { tmps := vals.toArray ++ Array.replicate (fn.ntmps - vals.toArray.size) undef, defers := [] } w :=
    ⟨argEnv_rel hden _, by simp [cxOf, hlen], rfl, hsat⟩
  have hs0 : St0 cfg (cxOf fn args H) [] ρ F H w ρ F (argEnv args) H { tmps := vals.toArray ++ Array.replicate (fn.ntmps - vals.toArray.size) undef, defers := [] } w :=
    ⟨hst, Fr.refl, fun _ _ => rfl⟩
  have hp : (cxOf fn args H).pins ≤ ρ.length := by rw [hsat.len]; exact Nat.le_refl _
  have hwp := ybx ok hsig hp c _ (argEnv args) H ρ F _ w hex hs0
  refine wp_mono hwp (fun e a' w' hq => ?_)
  have fin : ∀ (e : Ex) (ρ1 : List Value) (F1 : Nat → List Nat) (env1 : Env) (H1 : Heap), St0 cfg (cxOf fn args H) [] ρ F H w ρ1 F1 env1 H1 a' w' → retK cfg fn H.length K e env1 H1 →
      a'.defers = [] ∧ ∃ v, (results fn a'.tmps).run cfg.P w' = .ok v w' ∧ ∃ v' x ρ' F' H', Ending.returned v = .returned x ∧ K v' H' ∧ Rel ρ' v' x ∧ Le ρ ρ' ∧ Sat cfg.elT ρ' F' H' w' ∧ Fr H F w H' F' w' :=
    fun e ρ1 F1 env1 H1 hs1 hr => ⟨hs1.st.defers, ret_sound hsat hs1 hr⟩
  cases e with
  | normal => obtain ⟨ρ1, F1, env1, H1, h1, h2⟩ := hq; exact fin _ ρ1 F1 env1 H1 h1 h2
  | ret => obtain ⟨ρ1, F1, env1, H1, h1, h2⟩ := hq; exact fin _ ρ1 F1 env1 H1 h1 h2
  | exit i => obtain ⟨ρ1, F1, env1, H1, h1, h2⟩ := hq; exact h2.elim
  | goto l => exact hq.elim
  | panic ch => exact hq.elim
  | outgrown => exact hq.elim
theorem spec_of_exF (ok : CfgOK cfg) (hsig : ∀ g s, cfg.sigs g = some s → SpecOK cfg.P cfg.elT g s) {g : FuncId} {fn : Func} {s : Spec} (hg : cfg.P.funcs[g]? = some fn) (hname : (fn.name == "runtime.NumGoroutine") = false) (hb : fn.body.isNone = false)
    (h : ∀ (args : List V) (H : Heap) (K : V → Heap → Prop), s.tr args H K → exF cfg fn args H K) : SpecOK cfg.P cfg.elT g s := by
  refine ⟨⟨fn, hg, hname, hb⟩, fun args H K htr ρ F w vals hden hsat => ?_⟩
  have hex := h args H K htr
  cases hc : fn.body with
  | none => rw [hc] at hb; cases hb
  | some c => exact calls_of_wp hg hc (wp_of_exF ok hsig hc hex hden hsat)
theorem loop_ind {cfg : Cfg} {cx : Cx} {c : Code} {K : Ex → Env → Heap → Prop} {σ : Type} (E : σ → Env) (Hp : σ → Heap) (I : σ → Prop) (μ : σ → Nat)
    (round : ∀ s, I s → ∀ J : Env → Heap → Prop, (∀ s', I s' → μ s' < μ s → J (E s') (Hp s')) → ex cfg cx c (E s) (Hp s) (roundK cfg cx c K J)) (s : σ) (hs : I s) : Loop cfg cx c (E s) (Hp s) K := by
  have key : ∀ n s, I s → μ s ≤ n → loopM c (ex cfg cx c) (gcO cx.pins (cfg.keep (firstRegion c))) K (n + 1) (E s) (Hp s) := by
    intro n
    induction n with
    | zero =>
      intro s hs hm
      exact round s hs _ (fun s' _ h => by omega)
    | succ n ih =>
      intro s hs hm
      exact round s hs _ (fun s' hs' h => ih s' hs' (by omega))
  exact ⟨_, key (μ s) s hs (Nat.le_refl _)⟩
end Go.Rx
end

section
namespace Go.Rx
theorem br_true {b : Bool} {A B : Prop} (hb : b = true) (h : A) : br b A B := by subst hb; exact h
theorem br_false {b : Bool} {A B : Prop} (hb : b = false) (h : B) : br b A B := by subst hb; exact h
theorem br_intro {b : Bool} {A B : Prop} (h1 : b = true → A) (h2 : b = false → B) : br b A B := by
  cases b with
  | true => exact h1 rfl
  | false => exact h2 rfl
theorem inR_nat {i n : Nat} (h : i < n) : inR (i : Int) n = true := by simp [inR]; omega
theorem inR_int {i : Int} {n : Nat} (h0 : 0 ≤ i) (h : i < (n : Int)) : inR i n = true := by simp [inR]; omega
theorem wrap_id {x : Int} (h0 : -9223372036854775808 ≤ x) (h1 : x ≤ 9223372036854775807) : IntKind.i64.wrap x = x := by rw [IntKind.wrap_i64]; omega
theorem wrap_succ {i : Nat} (h : i ≤ 4611686018427387904) : IntKind.i64.wrap ((i : Int) + 1) = ((i + 1 : Nat) : Int) := by rw [wrap_id (by omega) (by omega)]; omega
theorem tag_ok {P : Program} {elT : ET} {t tg : Nat} (h1 : P.underlying t = some (.slice (elT tg))) (h2 : P.info? (elT tg) = some ((P.info? (elT tg)).getD default))
    (h3 : ((P.info? (elT tg)).getD default).zero = some (((P.info? (elT tg)).getD default).zero.getD undef)) (h4 : (((P.info? (elT tg)).getD default).zero.getD undef).cells = (elEnc tg (elD tg)).toArray)
    (h5 : ((P.info? (elT tg)).getD default).size = elM tg) (h6 : Nat.ble ((P.info? (elT tg)).getD default).bytes 65536 = true) :
    P.underlying t = some (.slice (elT tg)) ∧ ∃ i z, P.info? (elT tg) = some i ∧ i.zero = some z ∧ z.cells = (elEnc tg (elD tg)).toArray ∧ i.size = elM tg ∧ i.bytes ≤ 65536 :=
  ⟨h1, _, _, h2, h3, h4, h5, Nat.le_of_ble_eq_true h6⟩
theorem extsV_map : ∀ {cs : List V} {vs : List Value}, extsV cs = some vs → cs = vs.map .ext
  | [], vs, h => by simp only [extsV, Option.some.injEq] at h; subst h; rfl
  | v :: r, vs, h => by
    simp only [extsV] at h
    cases v with
    | ext x =>
      simp only [extV] at h
      cases hr : extsV r with
      | none => simp [hr] at h
      | some ys => simp only [hr, Option.some.injEq] at h; subst h; rw [extsV_map hr]; rfl
    | _ => simp [extV] at h
theorem spec_mono {P : Program} {elT : ET} {g : FuncId} {s1 s2 : Spec} (h : ∀ (args : List V) (H : Heap) (K : V → Heap → Prop), s2.tr args H K → s1.tr args H K) (ok : SpecOK P elT g s1) : SpecOK P elT g s2 :=
  ⟨ok.1, fun args H K ht => ok.2 args H K (h args H K ht)⟩
end Go.Rx
end

section
namespace Go.Rx
variable {P : Program} {elT : ET} {ρ : List Value} {F : Nat → List Nat} {H : Heap} {w : World}
theorem Sat0.to (h : Sat0 elT ρ F H w) : Sat elT ρ F H w :=
  ⟨h.len, fun i b x hb hx => Blk.holds_of (h.each i b x hb hx), h.lt, h.disj⟩
end Go.Rx
end

section
namespace Go.Rx
def keyOf (e : List Int) : Int := e.getD 0 0
def valOf (e : List Int) : Int := e.getD 1 0
def lookI : List (List Int) → Int → Option Int
  | [], _ => none
  | e :: r, a => if keyOf e = a then some (valOf e) else lookI r a
structure ViewOK (ws cur : List Int) (m : Int → Option Int) (nd : List Pr) (its : List (List Int)) : Prop where
  small : ws.length ≤ 1048576
  len : cur.length = ws.length
  sorted : its.Pairwise (fun x y => keyOf x < keyOf y)
  keys : ∀ e ∈ its, 0 ≤ keyOf e ∧ keyOf e < (ws.length : Int)
  cur : ∀ i : Nat, i < ws.length → cur.getD i 0 = (lookI its (i : Int)).getD (ws.getD i 0)
  asked : ∀ p ∈ nd, (m p.Addr).getD 0 ≠ 0
  told : ∀ p ∈ nd, 0 ≤ p.Addr ∧ p.Addr < (ws.length : Int)
  once : nd.Pairwise (fun x y => x.Addr ≠ y.Addr)
theorem ViewOK.fresh {ws : List Int} (h : ws.length ≤ 1048576) (m : Int → Option Int) : ViewOK ws ws m [] [] :=
  ⟨h, rfl, .nil, by simp, fun i _ => rfl, by simp, by simp, .nil⟩
def viewHeap (f : FuncId) (b : Blk) (m : Int → Option Int) (n : Nat) (nd : List Pr) (its : List (List Int)) : Heap :=
  [.cells 0 [.mth f (.ptr 1 0), .ptr 3 0, vb true], .cells 0 [.row 2, .mp 4, .row 5], b, .cells 0 [.row 6], .map m n, .row 2 nd false, .row 5 its false]
def absView (f : FuncId) (tg : Nat) (st : List (List Int)) (Hc : Heap) : Prop :=
  match tg, st with
  | 0, [ws, cur] => ∃ m n nd its, Hc = viewHeap f .dead m n nd its ∧ ViewOK ws cur m nd its
  | _, _ => False
variable {cfg : Cfg} {ρ : List Value} {F : Nat → List Nat} {H : Heap} {w : World}
end Go.Rx
end

section
namespace Go.Rx
variable {cfg : Cfg} {ρ : List Value} {F : Nat → List Nat} {H : Heap} {w : World}
end Go.Rx
end

section
namespace Go.Rx
def inlS (cfg : Cfg) (fn : Func) : Spec where
  tr := fun args H K => exF cfg fn args H K
theorem inlS_ok {cfg : Cfg} (ok : CfgOK cfg) (hsig : ∀ g s, cfg.sigs g = some s → SpecOK cfg.P cfg.elT g s) {g : FuncId} {fn : Func}
    (hg : cfg.P.funcs[g]? = some fn) (hname : (fn.name == "runtime.NumGoroutine") = false) (hb : fn.body.isNone = false) : SpecOK cfg.P cfg.elT g (inlS cfg fn) :=
  spec_of_exF ok hsig hg hname hb fun _ _ _ h => h
def inlSR (ro : RO) (cfg : Cfg) (fn : Func) : Spec := ⟨(inlS cfg fn).tr, ro⟩
theorem inlSR_ok {ro : RO} {P : Program} {e : ET} {cfg : Cfg} {g : FuncId} {fn : Func} (h : SpecOK P e g (inlS cfg fn)) : SpecOK P e g (inlSR ro cfg fn) := h
end Go.Rx
end

section
namespace Go.Rx
variable {cfg : Cfg} {ρ : List Value} {F : Nat → List Nat} {H : Heap} {w : World}
end Go.Rx
end

section
namespace Go.Rx
variable {cfg : Cfg} {ρ : List Value} {F : Nat → List Nat} {H : Heap} {w : World}
end Go.Rx
end

section
namespace Go.Rx
def So {α : Type} (o : Option α) (k : α → Prop) : Prop := match o with | none => False | some x => k x
variable {α β : Type} {F : α → Prop} {A B : Prop}
theorem So_eq {o : Option α} {x : α} (h : o = some x) (hk : F x) : So o F := by subst h; exact hk
theorem br_So {c : Bool} {X Y : Option α} (p : So X F → A) (q : So Y F → B) : So (bif c then X else Y) F → br c A B := by
  cases c with
  | true => exact p
  | false => exact q
theorem req_So {c : Bool} {X : Option α} (p : So X F → A) : So (bif c then X else none) F → Req c A := by
  cases c with
  | true => exact p
  | false => exact fun h => h.elim
theorem bind_So {o : Option β} {X : β → Option α} {A : β → Prop} (p : ∀ x, So (X x) F → A x) : So (o.bind X) F → So o A := by
  cases o with
  | none => exact fun h => h.elim
  | some x => exact p x
theorem alt_So {X : Option α} (p : So X F → A) (q : So X F → B) : So X F → A ∧ B := fun h => ⟨p h, q h⟩
def iterO {σ ρ : Type} (step : σ → Option (σ ⊕ ρ)) : Nat → σ → Option ρ
  | 0, _ => none
  | n + 1, s => match step s with
    | none => none
    | some (.inl s') => iterO step n s'
    | some (.inr r) => some r
section
variable {σ ρ : Type} {step : σ → Option (σ ⊕ ρ)}
theorem iterO_succ : ∀ {n : Nat} {s : σ} {r : ρ}, iterO step n s = some r → iterO step (n + 1) s = some r
  | 0, _, _, h => by cases h
  | n + 1, s, r, h => by
    unfold iterO at h ⊢
    cases hs : step s with
    | none => rw [hs] at h; cases h
    | some x =>
      rw [hs] at h
      cases x with
      | inl s' => exact iterO_succ (n := n) h
      | inr y => exact h
theorem iterO_le {m n : Nat} (hmn : m ≤ n) {s : σ} {r : ρ} (h : iterO step m s = some r) : iterO step n s = some r := by
  obtain ⟨k, rfl⟩ := Nat.exists_eq_add_of_le hmn
  induction k with
  | zero => exact h
  | succ k ih => exact iterO_succ (ih (by omega))
noncomputable def loopO (step : σ → Option (σ ⊕ ρ)) (s : σ) : Option ρ :=
  open Classical in if h : ∃ n r, iterO step n s = some r then iterO step (Classical.choose h) s else none
theorem loopO_of {n : Nat} {s : σ} {r : ρ} (h : iterO step n s = some r) : loopO step s = some r := by
  have hx : ∃ n r, iterO step n s = some r := ⟨n, r, h⟩
  unfold loopO
  rw [dif_pos hx]
  obtain ⟨r', hr'⟩ := Classical.choose_spec hx
  rw [hr']
  have h1 := iterO_le (Nat.le_max_left n (Classical.choose hx)) h
  have h2 := iterO_le (Nat.le_max_right n (Classical.choose hx)) hr'
  rw [h1] at h2
  exact h2.symm
theorem loopO_ex {s : σ} {r : ρ} (h : loopO step s = some r) : ∃ n, iterO step n s = some r := by
  unfold loopO at h
  split at h
  · exact ⟨_, h⟩
  · cases h
theorem loopO_eq (s : σ) : loopO step s = (match step s with | none => none | some (.inl s') => loopO step s' | some (.inr r) => some r) := by
  cases hs : step s with
  | none =>
    cases h : loopO step s with
    | none => rfl
    | some r =>
      obtain ⟨n, hn⟩ := loopO_ex h
      cases n with
      | zero => cases hn
      | succ n => unfold iterO at hn; rw [hs] at hn; cases hn
  | some x =>
    cases x with
    | inr r => exact loopO_of (n := 1) (by unfold iterO; rw [hs])
    | inl s' =>
      show loopO step s = loopO step s'
      cases h' : loopO step s' with
      | some r =>
        obtain ⟨n, hn⟩ := loopO_ex h'
        exact loopO_of (n := n + 1) (by unfold iterO; rw [hs]; exact hn)
      | none =>
        cases h : loopO step s with
        | none => rfl
        | some r =>
          obtain ⟨n, hn⟩ := loopO_ex h
          cases n with
          | zero => cases hn
          | succ n =>
            unfold iterO at hn; rw [hs] at hn
            rw [loopO_of hn] at h'; cases h'
theorem loopO_go {s s' : σ} (h : step s = some (.inl s')) : loopO step s = loopO step s' := by rw [loopO_eq, h]
theorem loopO_end {s : σ} {r : ρ} (h : step s = some (.inr r)) : loopO step s = some r := by rw [loopO_eq, h]
theorem loop_So {cfg : Cfg} {cx : Cx} {c : Code} {K : Ex → Env → Heap → Prop} (E : σ → Env) (Hp : σ → Heap) (G : ρ → Prop)
    (round : ∀ (s : σ) (J : Env → Heap → Prop), So (step s) (fun x => match x with | .inl s' => J (E s') (Hp s') | .inr r => G r) → ex cfg cx c (E s) (Hp s) (roundK cfg cx c K J)) (s : σ) :
    So (loopO step s) G → Loop cfg cx c (E s) (Hp s) K := by
  intro h
  cases hl : loopO step s with
  | none => rw [hl] at h; exact h.elim
  | some r =>
    rw [hl] at h
    obtain ⟨n, hn⟩ := loopO_ex hl
    have key : ∀ n s, iterO step n s = some r → loopM c (ex cfg cx c) (gcO cx.pins (cfg.keep (firstRegion c))) K n (E s) (Hp s) := by
      intro n
      induction n with
      | zero => intro s hn; cases hn
      | succ n ih =>
        intro s hn
        unfold iterO at hn
        refine round s _ ?_
        cases hs : step s with
        | none => rw [hs] at hn; cases hn
        | some x =>
          rw [hs] at hn
          cases x with
          | inl s' => exact ih s' hn
          | inr y => injection hn with hn; subst hn; exact h
    exact ⟨n, key n s hn⟩
end
def aInt (v : V) (k : Int → Prop) : Prop := match v with | .ext (.int .i64 x) => k x | _ => False
def aBool (v : V) (k : Bool → Prop) : Prop := match v with | .ext (.bool x) => k x | _ => False
def aPtr (i : Nat) (v : V) (k : Prop) : Prop := match v with | .ptr j 0 => bif Nat.beq j i then k else False | _ => False
def aRow (i : Nat) (v : V) (k : Prop) : Prop := match v with | .row j => bif Nat.beq j i then k else False | _ => False
def aMp (i : Nat) (v : V) (k : Prop) : Prop := match v with | .mp j => bif Nat.beq j i then k else False | _ => False
def aAgg (v : V) (k : List V → Prop) : Prop := match v with | .agg cs => k cs | _ => False
def aNilS (v : V) (k : Prop) : Prop := match v with | .ext (.slice none 0 0) => k | _ => False
def aFn (g : FuncId) (v : V) (k : List V → Prop) : Prop := match v with | .fn f cs => bif Nat.beq f g then k cs else False | _ => False
def aC {α : Type} (l : List α) (k : α → List α → Prop) : Prop := match l with | a :: r => k a r | [] => False
def aN {α : Type} (l : List α) (k : Prop) : Prop := match l with | [] => k | _ => False
def bView (j : Nat) (b : Blk) (k : List Int → List Int → List Value → Prop) : Prop := match b with
  | .pk 0 [ws, cur] xs [.row i] => bif Nat.beq i j then k ws cur xs else False
  | _ => False
def bRow (tg : Nat) (ro : Bool) (b : Blk) (k : List (El tg) → Prop) : Prop := match b with
  | .row t l r => if h : t = tg then (bif r == ro then k (h ▸ l) else False) else False
  | _ => False
def bCells (b : Blk) (k : TypeId → List V → Prop) : Prop := match b with | .cells T cs => k T cs | _ => False
theorem aInt_el {v : V} {k : Int → Prop} (h : aInt v k) : ∃ x, v = vi x ∧ k x := by
  unfold aInt at h
  split at h
  · exact ⟨_, rfl, h⟩
  · exact h.elim
theorem aBool_el {v : V} {k : Bool → Prop} (h : aBool v k) : ∃ x, v = vb x ∧ k x := by
  unfold aBool at h
  split at h
  · exact ⟨_, rfl, h⟩
  · exact h.elim
theorem beq_el {i j : Nat} {k : Prop} (h : bif Nat.beq j i then k else False) : j = i ∧ k := by
  cases hb : Nat.beq j i with
  | true => rw [hb] at h; exact ⟨Nat.eq_of_beq_eq_true hb, h⟩
  | false => rw [hb] at h; exact h.elim
theorem aPtr_el {i : Nat} {v : V} {k : Prop} (h : aPtr i v k) : v = .ptr i 0 ∧ k := by
  unfold aPtr at h
  split at h
  · obtain ⟨e, h2⟩ := beq_el h; subst e; exact ⟨rfl, h2⟩
  · exact h.elim
theorem aRow_el {i : Nat} {v : V} {k : Prop} (h : aRow i v k) : v = .row i ∧ k := by
  unfold aRow at h
  split at h
  · obtain ⟨e, h2⟩ := beq_el h; subst e; exact ⟨rfl, h2⟩
  · exact h.elim
theorem aMp_el {i : Nat} {v : V} {k : Prop} (h : aMp i v k) : v = .mp i ∧ k := by
  unfold aMp at h
  split at h
  · obtain ⟨e, h2⟩ := beq_el h; subst e; exact ⟨rfl, h2⟩
  · exact h.elim
theorem aNilS_el {v : V} {k : Prop} (h : aNilS v k) : v = .ext (.slice none 0 0) ∧ k := by
  unfold aNilS at h
  split at h
  · exact ⟨rfl, h⟩
  · exact h.elim
theorem aFn_el {g : FuncId} {v : V} {k : List V → Prop} (h : aFn g v k) : ∃ cs, v = .fn g cs ∧ k cs := by
  unfold aFn at h
  split at h
  · obtain ⟨e, h2⟩ := beq_el h; subst e; exact ⟨_, rfl, h2⟩
  · exact h.elim
theorem aAgg_el {v : V} {k : List V → Prop} (h : aAgg v k) : ∃ cs, v = .agg cs ∧ k cs := by
  unfold aAgg at h
  split at h
  · exact ⟨_, rfl, h⟩
  · exact h.elim
theorem aC_el {α : Type} {l : List α} {k : α → List α → Prop} (h : aC l k) : ∃ a r, l = a :: r ∧ k a r := by
  unfold aC at h
  split at h
  · exact ⟨_, _, rfl, h⟩
  · exact h.elim
theorem aN_el {α : Type} {l : List α} {k : Prop} (h : aN l k) : l = [] ∧ k := by
  unfold aN at h
  split at h
  · exact ⟨rfl, h⟩
  · exact h.elim
theorem bView_el {j : Nat} {b : Blk} {k : List Int → List Int → List Value → Prop} (h : bView j b k) : ∃ ws cur xs, b = .pk 0 [ws, cur] xs [.row j] ∧ k ws cur xs := by
  unfold bView at h
  split at h
  · obtain ⟨e, h2⟩ := beq_el h; subst e; exact ⟨_, _, _, rfl, h2⟩
  · exact h.elim
theorem bRow_el {tg : Nat} {ro : Bool} {b : Blk} {k : List (El tg) → Prop} (h : bRow tg ro b k) : ∃ l, b = .row tg l ro ∧ k l := by
  unfold bRow at h
  split at h
  · rename_i t l r
    split at h
    · rename_i e
      subst e
      cases hr : r == ro with
      | true => rw [hr] at h; rw [eq_of_beq hr]; exact ⟨_, rfl, h⟩
      | false => rw [hr] at h; exact h.elim
    · exact h.elim
  · exact h.elim
theorem bCells_el {b : Blk} {k : TypeId → List V → Prop} (h : bCells b k) : ∃ T cs, b = .cells T cs ∧ k T cs := by
  unfold bCells at h
  split at h
  · exact ⟨_, _, rfl, h⟩
  · exact h.elim
abbrev hV (ws cur : List Int) (xs : List Value) : Heap := [.pk 0 [ws, cur] xs [.row 1], .row 0 ws true]
class Des (P : Prop) (Q : outParam Prop) : Prop where
  el : P → Q
section
variable {α : Type}
instance (v : V) (k : Int → Prop) : Des (aInt v k) (∃ x, v = vi x ∧ k x) := ⟨aInt_el⟩
instance (v : V) (k : Bool → Prop) : Des (aBool v k) (∃ x, v = vb x ∧ k x) := ⟨aBool_el⟩
instance (i : Nat) (v : V) (k : Prop) : Des (aPtr i v k) (v = .ptr i 0 ∧ k) := ⟨aPtr_el⟩
instance (i : Nat) (v : V) (k : Prop) : Des (aRow i v k) (v = .row i ∧ k) := ⟨aRow_el⟩
instance (i : Nat) (v : V) (k : Prop) : Des (aMp i v k) (v = .mp i ∧ k) := ⟨aMp_el⟩
instance (v : V) (k : Prop) : Des (aNilS v k) (v = .ext (.slice none 0 0) ∧ k) := ⟨aNilS_el⟩
instance (g : FuncId) (v : V) (k : List V → Prop) : Des (aFn g v k) (∃ cs, v = .fn g cs ∧ k cs) := ⟨aFn_el⟩
instance (v : V) (k : List V → Prop) : Des (aAgg v k) (∃ cs, v = .agg cs ∧ k cs) := ⟨aAgg_el⟩
instance (l : List α) (k : α → List α → Prop) : Des (aC l k) (∃ a r, l = a :: r ∧ k a r) := ⟨aC_el⟩
instance (l : List α) (k : Prop) : Des (aN l k) (l = [] ∧ k) := ⟨aN_el⟩
instance (j : Nat) (b : Blk) (k : List Int → List Int → List Value → Prop) : Des (bView j b k) (∃ ws cur xs, b = .pk 0 [ws, cur] xs [.row j] ∧ k ws cur xs) := ⟨bView_el⟩
instance (tg : Nat) (ro : Bool) (b : Blk) (k : List (El tg) → Prop) : Des (bRow tg ro b k) (∃ l, b = .row tg l ro ∧ k l) := ⟨bRow_el⟩
instance (ro : Bool) (b : Blk) (k : List Int → Prop) : Des (bRow 0 ro b k) (∃ l : List Int, b = .row 0 l ro ∧ k l) := ⟨bRow_el⟩
instance (ro : Bool) (b : Blk) (k : List Bool → Prop) : Des (bRow 1 ro b k) (∃ l : List Bool, b = .row 1 l ro ∧ k l) := ⟨bRow_el⟩
instance (ro : Bool) (b : Blk) (k : List Pr → Prop) : Des (bRow 2 ro b k) (∃ l : List Pr, b = .row 2 l ro ∧ k l) := ⟨bRow_el⟩
instance (ro : Bool) (b : Blk) (k : List Ev → Prop) : Des (bRow 3 ro b k) (∃ l : List Ev, b = .row 3 l ro ∧ k l) := ⟨bRow_el⟩
instance (b : Blk) (k : TypeId → List V → Prop) : Des (bCells b k) (∃ T cs, b = .cells T cs ∧ k T cs) := ⟨bCells_el⟩
end
end Go.Rx
namespace Go.Rx
def sumK {σ ρ : Type} (f : σ → Prop) (g : ρ → Prop) : σ ⊕ ρ → Prop
  | .inl s => f s
  | .inr r => g r
theorem mapK_So {σ ρ : Type} {o : Option ρ} {f : σ → Prop} {g : ρ → Prop} {A : Prop} (p : So o g → A) : So (o.bind fun z => some (.inr z)) (sumK f g) → A := by
  intro h
  apply p
  cases o with
  | none => exact h.elim
  | some x => exact h
theorem loopK_So {cfg : Cfg} {cx : Cx} {c : Code} {K : Ex → Env → Heap → Prop} {σ ρ : Type} {step : σ → Option (σ ⊕ ρ)} (E : σ → Env) (Hp : σ → Heap) (G : ρ → Prop)
    (round : ∀ (s : σ) (J : Env → Heap → Prop), So (step s) (sumK (fun s' => J (E s') (Hp s')) G) → ex cfg cx c (E s) (Hp s) (roundK cfg cx c K J)) (s : σ) :
    So (loopO step s) G → Loop cfg cx c (E s) (Hp s) K :=
  loop_So E Hp G (fun s J h => round s J (by
    cases hs : step s with
    | none => rw [hs] at h; exact h.elim
    | some x => rw [hs] at h; cases x <;> exact h)) s
def sigC (n : FuncId) (s : Spec) (f : FuncId → Option Spec) : FuncId → Option Spec := fun g => bif Nat.beq g n then some s else f g
def sigN : FuncId → Option Spec := fun _ => none
theorem yp {P : Program} {e : ET} : ∀ g s, sigN g = some s → SpecOK P e g s := fun _ _ h => by cases h
theorem yj {P : Program} {e : ET} {n : FuncId} {s0 : Spec} {f : FuncId → Option Spec} (h0 : SpecOK P e n s0) (h : ∀ g s, f g = some s → SpecOK P e g s) : ∀ g s, sigC n s0 f g = some s → SpecOK P e g s := by
  intro g s hs
  unfold sigC at hs
  cases hb : Nat.beq g n with
  | true => rw [hb] at hs; injection hs with hs; subst hs; rw [Nat.eq_of_beq_eq_true hb]; exact h0
  | false => rw [hb] at hs; exact h g s hs
end Go.Rx
end

section
namespace Go.Rx
def altP (p : Nat) (g : FuncId) (s t : Spec) : Spec := ⟨fun args H K => match args[p]? with
  | some (.fn f _) => bif Nat.beq f g then s.tr args H K else t.tr args H K
  | _ => False, ⟨s.ro.b, fun i => s.ro.m i || t.ro.m i, fun i => s.ro.c i && t.ro.c i⟩⟩
theorem altP_ok {P : Program} {e : ET} {n g : FuncId} {p : Nat} {s t : Spec} (hs : SpecOK P e n s) (ht : SpecOK P e n t) : SpecOK P e n (altP p g s t) := by
  refine ⟨hs.1, fun args H K h => ?_⟩
  unfold altP at h
  simp only at h
  split at h
  · rename_i f _ _
    cases hb : Nat.beq f g with
    | true => rw [hb] at h; exact hs.2 _ H K h
    | false => rw [hb] at h; exact ht.2 _ H K h
  · exact h.elim
end Go.Rx
end

section
namespace Go.Rx
variable {cfg : Cfg} {ρ : List Value} {F : Nat → List Nat} {H : Heap} {w : World}
def aRest (l : List V) (k : List V → Prop) : Prop := k l
end Go.Rx
end

section
namespace Go.Rx
variable {cfg : Cfg} {cx : Cx} {ds : List Deferred} {ρ0 : List Value} {F0 : Nat → List Nat} {H0 : Heap} {w0 : World} {ρ : List Value} {F : Nat → List Nat} {H H' : Heap} {w : World}
end Go.Rx
end

section
namespace Go.Rx
def derefs (H : Heap) : V → List Nat → Option Nat
  | .ptr i 0, [] => some i
  | .ptr i 0, s :: r => match H[i]? with
    | some (.cells _ cs) => match cs[s]? with
      | some v => derefs H v r
      | none => none
    | _ => none
  | _, _ => none
def wkSlot (b s tg : Nat) (H : Heap) : Option Heap := match H[b]? with
  | some (.cells U cs) => match cs[s]? with
    | some (.ext (.slice none 0 0)) => some ((H ++ [Blk.row tg [] false]).set b (.cells U (cs.set s (V.row H.length))))
    | some (.row i) => match H[i]? with
      | some (.row t l false) => some ((kill H i ++ [Blk.row t l false]).set b (.cells U (cs.set s (V.row H.length))))
      | _ => none
    | _ => none
  | _ => none
def wkMark (b : Nat) (H : Heap) : Option Heap := match H[b]? with
  | some (.cells _ cs) => some (H.set b (.cells 0 cs))
  | _ => none
def wkDrop (b : Nat) (H : Heap) : Option Heap := match H[b]? with
  | some (.row t l false) => some (kill H b ++ [Blk.row t l false])
  | some _ => some H
  | none => none
structure WK where
  res : Bool
  k : Nat
  path : List Nat
  slot : Nat
  tag : Nat
  mark : Bool
def wkOne (vs : List V) (q : WK) (H : Heap) : Option Heap :=
  match (bif q.res then vs[q.k]? else some (.ptr q.k 0)) with
  | some (.ext _) => some H
  | some v => match derefs H v q.path with
    | some b => bif q.mark then (bif Nat.beq q.tag 1 then wkDrop b H else wkMark b H) else wkSlot b q.slot q.tag H
    | none => none
  | none => none
def wkAll (vs : List V) : List WK → Heap → Option Heap
  | [], H => some H
  | q :: r, H => match wkOne vs q H with
    | some H' => wkAll vs r H'
    | none => none
def retW (cfg : Cfg) (wk : List WK) (fn : Func) (pins : Nat) (K : V → Heap → Prop) (e : Ex) (env : Env) (H : Heap) : Prop :=
  match e with
  | .exit _ => False
  | _ => match resV cfg env H fn.results.toList fn.resultTypes.toList with
    | none => False
    | some (vs, H) => match wkAll vs wk H with
      | none => False
      | some H =>
        let ids := reach H 3 (addNew (List.range pins) (idsL vs))
        match renL (idx ids) vs, sel H (idx ids) ids with
        | some vs, some H => bif nodup ids && noJunk vs then K (one vs) H else False
        | _, _ => False
def exFW (cfg : Cfg) (pre wk : List WK) (fn : Func) (args : List V) (H : Heap) (K : V → Heap → Prop) : Prop :=
  match fn.body with
  | some c => match wkAll [] pre H with
    | some H1 => ex cfg (cxOf fn args H) c (argEnv args) H1 (retW cfg wk fn H.length K)
    | none => False
  | none => False
variable {cfg : Cfg} {cx : Cx} {ds : List Deferred} {ρ : List Value} {F : Nat → List Nat} {H H' : Heap} {w : World}
theorem recell_step {b : Nat} {U U' : TypeId} {cs cs' : List V} (hs : Sat cfg.elT ρ F H w) (hb : H[b]? = some (.cells U cs)) (he : ∀ vs, denL ρ cs = some vs → denL ρ cs' = some vs) :
    Step cfg none ρ F H w ρ F (H.set b (.cells U' cs')) w := by
  have hbl : b < H.length := (List.getElem?_eq_some_iff.1 hb).1
  have hget : ∀ (i : Nat) (c : Blk), (H.set b (.cells U' cs'))[i]? = some c → ∃ c0, H[i]? = some c0 ∧ c0.writable = c.writable ∧ ((i = b ∧ c = .cells U' cs') ∨ (i ≠ b ∧ c = c0)) := by
    intro i c hc
    rw [List.getElem?_set] at hc
    by_cases hi : b = i
    · subst hi
      simp [hbl] at hc
      subst hc
      exact ⟨_, hb, rfl, .inl ⟨rfl, rfl⟩⟩
    · rw [if_neg hi] at hc
      exact ⟨c, hc, rfl, .inr ⟨fun e => hi e.symm, rfl⟩⟩
  refine ⟨Le.refl _, ⟨by rw [List.length_set]; exact hs.len, fun i c x hc hx => ?_, fun i c hc n hn => ?_, fun i j c d hc hd hij hw n hn => ?_⟩, ?_, fun f hf => by cases hf⟩
  · obtain ⟨c0, h0, _, h1⟩ := hget i c hc
    have hh := hs.each i c0 x h0 hx
    rcases h1 with ⟨rfl, rfl⟩ | ⟨_, rfl⟩
    · rw [hb] at h0
      injection h0 with h0
      subst h0
      obtain ⟨bk, vs, e1, e2, e3, e4⟩ := hh
      exact ⟨bk, vs, e1, e2, he vs e3, e4⟩
    · exact hh
  · obtain ⟨c0, h0, _, _⟩ := hget i c hc
    exact hs.lt i c0 h0 n hn
  · obtain ⟨c0, h0, hw0, _⟩ := hget i c hc
    obtain ⟨d0, k0, _, _⟩ := hget j d hd
    exact hs.disj i j c0 d0 h0 k0 hij (by rw [hw0]; exact hw) n hn
  · refine ⟨rfl, rfl, rfl, Nat.le_refl _, fun _ _ _ => rfl, fun i c hc hw n hn => ?_, fun i c hc n hn => ?_⟩
    · obtain ⟨c0, h0, hw0, _⟩ := hget i c hc
      exact .inr ⟨i, c0, h0, by rw [hw0]; exact hw, hn⟩
    · obtain ⟨c0, h0, _, _⟩ := hget i c hc
      exact .inr ⟨i, c0, h0, hn⟩
theorem set_same {α : Type} {l : List α} {i : Nat} {x : α} (h : l[i]? = some x) : l.set i x = l := by
  apply List.ext_getElem?
  intro j
  rw [List.getElem?_set]
  split
  · rename_i e
    subst e
    have hi := (List.getElem?_eq_some_iff.1 h).1
    rw [if_pos hi]; exact h.symm
  · rfl
theorem den_slot {ρ' : List Value} {cs : List V} {s : Nat} {v v' : V} {x : Value} (hv : cs[s]? = some v) (hx : v.den ρ' = some x) (hx' : v'.den ρ' = some x) {vs : List Value} (h : denL ρ' cs = some vs) : denL ρ' (cs.set s v') = some vs := by
  obtain ⟨y, h1, h2⟩ := denL_get h s v hv
  rw [hx] at h2
  injection h2 with h2
  subst h2
  have := denL_set s v' x h hx'
  rw [set_same h1] at this
  exact this
theorem wkSlot_step {b s tg : Nat} (h : wkSlot b s tg H = some H') (hs : Sat cfg.elT ρ F H w) : ∃ ρ' F', Step cfg none ρ F H w ρ' F' H' w := by
  unfold wkSlot at h
  split at h
  · rename_i U cs hb
    have hbl : b < H.length := (List.getElem?_eq_some_iff.1 hb).1
    split at h
    · rename_i hsl
      injection h with h
      subst h
      have st : Step cfg none ρ F H w _ _ (H ++ [.row tg [] false]) w := .push hs (b := .row tg [] false) (x := .slice none 0 0) (G := []) rfl rfl rfl (Nat.le_refl _) (fun _ _ => rfl) (by simp) ⟨World.ownsRow_nil _ _ _ _, rfl⟩
      have hb1 : (H ++ [Blk.row tg [] false])[b]? = some (.cells U cs) := by rw [List.getElem?_append_left hbl]; exact hb
      have st2 := recell_step (U' := U) (cs' := cs.set s (V.row H.length)) st.sat hb1 (fun vs hv => den_slot (x := .slice none 0 0) hsl (by simp [V.den]) (by simp only [V.den, get_new hs]) hv)
      exact ⟨_, _, st.trans st2⟩
    · rename_i i hsl
      split at h
      · rename_i t l hi
        injection h with h
        subst h
        have hil : i < H.length := (List.getElem?_eq_some_iff.1 hi).1
        have hr : i < ρ.length := by rw [hs.len]; exact hil
        have hx : ρ[i]? = some ρ[i] := List.getElem?_eq_getElem hr
        obtain ⟨hown, hF⟩ := hs.each i _ _ hi hx
        have st : Step cfg none ρ F H w _ _ (kill H i ++ [.row t l false]) w := .move hs hi rfl (fun f hf => by cases hf) (b' := .row t l false) (x := ρ[i]) (G := F i) rfl rfl rfl (Nat.le_refl _) (fun _ _ _ => rfl) (fun n hn => ⟨hs.lt i _ hi n hn, .inl hn⟩) ⟨hown, hF⟩
        have hne : i ≠ b := fun e => by subst e; rw [hb] at hi; cases hi
        have hb1 : (kill H i ++ [Blk.row t l false])[b]? = some (.cells U cs) := by
          rw [List.getElem?_append_left (by unfold kill; rw [List.length_set]; exact hbl)]
          unfold kill
          rw [List.getElem?_set_ne hne]; exact hb
        have hsl' : ∃ a n c, ρ[i] = .slice a n c := by
          rcases hown.2 with ⟨e, _⟩ | ⟨g, c, cur, e, _⟩
          · exact ⟨_, _, _, e⟩
          · exact ⟨_, _, _, e⟩
        obtain ⟨a, n, c, ev⟩ := hsl'
        have d1 : (V.row i).den (ρ ++ [ρ[i]]) = some ρ[i] := by
          simp only [V.den]
          rw [st.le i _ hx, ev]
        have d2 : (V.row H.length).den (ρ ++ [ρ[i]]) = some ρ[i] := by
          simp only [V.den, get_new hs]
          rw [ev]
        have st2 := recell_step (U' := U) (cs' := cs.set s (V.row H.length)) st.sat hb1 (fun vs hv => den_slot (x := ρ[i]) hsl d1 d2 hv)
        exact ⟨_, _, st.trans st2⟩
      · cases h
    · cases h
  · cases h
theorem wkDrop_step {b : Nat} (h : wkDrop b H = some H') (hs : Sat cfg.elT ρ F H w) : ∃ ρ' F', Step cfg none ρ F H w ρ' F' H' w := by
  unfold wkDrop at h
  split at h
  · rename_i t l hi
    injection h with h
    subst h
    have hil : b < H.length := (List.getElem?_eq_some_iff.1 hi).1
    have hr : b < ρ.length := by rw [hs.len]; exact hil
    have hx : ρ[b]? = some ρ[b] := List.getElem?_eq_getElem hr
    obtain ⟨hown, hF⟩ := hs.each b _ _ hi hx
    exact ⟨_, _, .move hs hi rfl (fun f hf => by cases hf) (b' := .row t l false) (x := ρ[b]) (G := F b) rfl rfl rfl (Nat.le_refl _) (fun _ _ _ => rfl) (fun n hn => ⟨hs.lt b _ hi n hn, .inl hn⟩) ⟨hown, hF⟩⟩
  · injection h with h
    subst h
    exact ⟨ρ, F, .refl hs⟩
  · cases h
theorem wkAll_step : ∀ {vs : List V} (wk : List WK) {H H' : Heap} {ρ : List Value} {F : Nat → List Nat}, wkAll vs wk H = some H' → Sat cfg.elT ρ F H w → ∃ ρ' F', Step cfg none ρ F H w ρ' F' H' w
  | vs, [], H, H', ρ, F, h, hs => by
    injection h with h
    subst h
    exact ⟨ρ, F, .refl hs⟩
  | vs, q :: r, H, H', ρ, F, h, hs => by
    simp only [wkAll] at h
    split at h
    · rename_i H1 h1
      have key : ∃ ρ' F', Step cfg none ρ F H w ρ' F' H1 w := by
        unfold wkOne at h1
        split at h1
        · injection h1 with h1
          subst h1
          exact ⟨ρ, F, .refl hs⟩
        · split at h1
          · rename_i b _
            cases hm : q.mark with
            | false => rw [hm] at h1; exact wkSlot_step h1 hs
            | true =>
              rw [hm, cond_true] at h1
              cases ht : Nat.beq q.tag 1 with
              | true => rw [ht] at h1; exact wkDrop_step h1 hs
              | false =>
                rw [ht] at h1
                simp only [cond_false, wkMark] at h1
                split at h1
                · rename_i U cs hb
                  injection h1 with h1
                  subst h1
                  exact ⟨_, _, recell_step hs hb (fun vs hv => hv)⟩
                · cases h1
          · cases h1
        · cases h1
      obtain ⟨ρ1, F1, st⟩ := key
      obtain ⟨ρ2, F2, st2⟩ := wkAll_step r h st.sat
      exact ⟨ρ2, F2, st.trans st2⟩
    · cases h
theorem retW_sound {wk : List WK} {fn : Func} {args : List V} {H : Heap} {K : V → Heap → Prop} {ρ : List Value} {F : Nat → List Nat} {w w' : World} (hsat : Sat cfg.elT ρ F H w) {e : Ex} {ρ1 : List Value} {F1 : Nat → List Nat} {env1 : Env} {H1 : Heap} {a' : Act}
    (hs1 : St0 cfg (cxOf fn args H) ds ρ F H w ρ1 F1 env1 H1 a' w') (hr : retW cfg wk fn H.length K e env1 H1) :
    ∃ v, (results fn a'.tmps).run cfg.P w' = .ok v w' ∧ ∃ v' x ρ' F' H', Ending.returned v = .returned x ∧ K v' H' ∧ Rel ρ' v' x ∧ Le ρ ρ' ∧ Sat cfg.elT ρ' F' H' w' ∧ Fr H F w H' F' w' := by
  have hr : match resV cfg env1 H1 fn.results.toList fn.resultTypes.toList with
      | none => False
      | some (vs, H2) => match wkAll vs wk H2 with
        | none => False
        | some H2 =>
          match renL (idx (reach H2 3 (addNew (List.range H.length) (idsL vs)))) vs, sel H2 (idx (reach H2 3 (addNew (List.range H.length) (idsL vs)))) (reach H2 3 (addNew (List.range H.length) (idsL vs))) with
          | some vs', some H3 => bif nodup (reach H2 3 (addNew (List.range H.length) (idsL vs))) && noJunk vs' then K (one vs') H3 else False
          | _, _ => False := by
    cases e with
    | exit i => exact hr.elim
    | normal => exact hr
    | ret => exact hr
  split at hr
  · exact hr.elim
  · rename_i vs H2 hres
    obtain ⟨ρ2, F2, xs, g1, st2, g3, g4⟩ := resV_sound (w := w') _ _ H1 ρ1 F1 hres hs1.st.env hs1.st.sat
    split at hr
    · exact hr.elim
    · rename_i H2' hwk
      obtain ⟨ρ2', F2', stw⟩ := wkAll_step (w := w') wk hwk st2.sat
      generalize hids : reach H2' 3 (addNew (List.range H.length) (idsL vs)) = ids at hr
      split at hr
      · rename_i vs' H3 hren hsel
        have hcd := cond_elim hr
        have hc1 := hcd.1
        simp only [Bool.and_eq_true] at hc1
        obtain ⟨ρ3, F3, q1, q2, q3, q4⟩ := regroup stw.sat hsel hc1.1
        have hrel := renL_rel q1 hren (g1.le stw.le)
        refine ⟨_, results_run g3 g4, one vs', _, ρ3, F3, H3, rfl, hcd.2, one_rel hrel (fun v hv _ => ?_), fun i x hx => ?_, q3, ((hs1.fr.trans st2.fr).trans stw.fr).trans q4⟩
        · rintro rfl
          have : ∀ ws : List V, V.junk ∈ ws → noJunk ws = true → False := by
            intro ws
            induction ws with
            | nil => intro h _; cases h
            | cons u ws ih =>
              intro hm hn
              rcases List.mem_cons.1 hm with e | hm
              · subst e; simp [noJunk] at hn
              · refine ih hm ?_
                cases u <;> simp_all [noJunk]
          exact this _ hv hc1.2
        · have hil : i < H.length := by rw [← hsat.len]; exact (List.getElem?_eq_some_iff.1 hx).1
          have hpre : ids[i]? = some i := by
            obtain ⟨r1, e1⟩ := addNew_prefix (idsL vs) (List.range H.length)
            obtain ⟨r2, e2⟩ := reach_prefix H2' 3 (addNew (List.range H.length) (idsL vs))
            rw [← hids, e2, e1, List.append_assoc, List.getElem?_append_left (by simpa using hil)]
            exact range_get _ _ hil
          rw [q2 i i hpre]
          have hpi := hs1.pins i hil
          rw [hx] at hpi
          exact stw.le i x (st2.le i x hpi)
      · exact hr.elim
theorem spec_of_exFW (ok : CfgOK cfg) (hsig : ∀ g s, cfg.sigs g = some s → SpecOK cfg.P cfg.elT g s) {pre wk : List WK} {g : FuncId} {fn : Func} {s : Spec} (hg : cfg.P.funcs[g]? = some fn) (hname : (fn.name == "runtime.NumGoroutine") = false) (hb : fn.body.isNone = false)
    (h : ∀ (args : List V) (H : Heap) (K : V → Heap → Prop), s.tr args H K → exFW cfg pre wk fn args H K) : SpecOK cfg.P cfg.elT g s := by
  refine ⟨⟨fn, hg, hname, hb⟩, fun args H K htr ρ F w vals hden hsat => ?_⟩
  have hex := h args H K htr
  cases hc : fn.body with
  | none => rw [hc] at hb; cases hb
  | some c =>
    unfold exFW at hex
    rw [hc] at hex
    simp only at hex
    split at hex
    · rename_i H1 hpre
      have hlen := denL_len hden
      have hst : St cfg (cxOf fn args H).nt [] ρ F (argEnv args) H { tmps := vals.toArray ++ Array.replicate (fn.ntmps - vals.toArray.size) undef, defers := [] } w :=
        ⟨argEnv_rel hden _, by simp [cxOf, hlen], rfl, hsat⟩
      have hs0 : St0 cfg (cxOf fn args H) [] ρ F H w ρ F (argEnv args) H { tmps := vals.toArray ++ Array.replicate (fn.ntmps - vals.toArray.size) undef, defers := [] } w :=
        ⟨hst, Fr.refl, fun _ _ => rfl⟩
      have hp : (cxOf fn args H).pins ≤ ρ.length := by rw [hsat.len]; exact Nat.le_refl _
      obtain ⟨ρ1, F1, st⟩ := wkAll_step (w := w) pre hpre hsat
      have hs1 := hs0.step hp (a' := { tmps := vals.toArray ++ Array.replicate (fn.ntmps - vals.toArray.size) undef, defers := [] }) (env' := argEnv args) ⟨fun t => (hst.env t).le st.le, hst.size, hst.defers, st.sat⟩ st
      have hwp := ybx ok hsig hp c _ (argEnv args) H1 ρ1 F1 _ w hex hs1
      refine calls_of_wp hg hc (wp_mono hwp (fun e a' w' hq => ?_))
      have fin : ∀ (e : Ex) (ρ1 : List Value) (F1 : Nat → List Nat) (env1 : Env) (H1 : Heap), St0 cfg (cxOf fn args H) [] ρ F H w ρ1 F1 env1 H1 a' w' → retW cfg wk fn H.length K e env1 H1 →
          a'.defers = [] ∧ ∃ v, (results fn a'.tmps).run cfg.P w' = .ok v w' ∧ ∃ v' x ρ' F' H', Ending.returned v = .returned x ∧ K v' H' ∧ Rel ρ' v' x ∧ Le ρ ρ' ∧ Sat cfg.elT ρ' F' H' w' ∧ Fr H F w H' F' w' :=
        fun e ρ1 F1 env1 H1 hs1 hr => ⟨hs1.st.defers, retW_sound hsat hs1 hr⟩
      cases e with
      | normal => obtain ⟨ρ1, F1, env1, H1, h1, h2⟩ := hq; exact fin _ ρ1 F1 env1 H1 h1 h2
      | ret => obtain ⟨ρ1, F1, env1, H1, h1, h2⟩ := hq; exact fin _ ρ1 F1 env1 H1 h1 h2
      | exit i => obtain ⟨ρ1, F1, env1, H1, h1, h2⟩ := hq; exact h2.elim
      | goto l => exact hq.elim
      | panic ch => exact hq.elim
      | outgrown => exact hq.elim
    · exact hex.elim
def altNil (s n : Spec) : Spec := ⟨fun args H K => match args with
  | .ext (.pointer none) :: _ => n.tr args H K
  | _ => s.tr args H K, s.ro⟩
end Go.Rx
end

section
namespace Go.Rx
def aNilP (v : V) (k : Prop) : Prop := match v with | .ext (.pointer none) => k | _ => False
theorem aNilP_el {v : V} {k : Prop} (h : aNilP v k) : v = .ext (.pointer none) ∧ k := by
  unfold aNilP at h
  split at h
  · exact ⟨rfl, h⟩
  · exact h.elim
instance (v : V) (k : Prop) : Des (aNilP v k) (v = .ext (.pointer none) ∧ k) := ⟨aNilP_el⟩
def bRCells (b : Blk) (k : List V → Prop) : Prop := match b with | .rcells cs => k cs | _ => False
theorem bRCells_el {b : Blk} {k : List V → Prop} (h : bRCells b k) : ∃ cs, b = .rcells cs ∧ k cs := by
  unfold bRCells at h
  split at h
  · exact ⟨_, rfl, h⟩
  · exact h.elim
instance (b : Blk) (k : List V → Prop) : Des (bRCells b k) (∃ cs, b = .rcells cs ∧ k cs) := ⟨bRCells_el⟩
theorem altNil_ok {P : Program} {e : ET} {n : FuncId} {s t : Spec} (hs : SpecOK P e n s) (ht : SpecOK P e n t) : SpecOK P e n (altNil s t) := by
  refine ⟨hs.1, fun args H K h => ?_⟩
  unfold altNil at h
  simp only at h
  split at h
  · exact ht.2 _ H K h
  · exact hs.2 _ H K h
end Go.Rx
end

section
namespace Go.Rx
open Go.Proofs
def chainT : List Nat → PT → PT
  | [], t => t
  | i :: r, t => .op i (chainT r t)
def tagT : TypeId → Option Nat := fun t => match t with | 24 => some 19 | 35 => some 6 | 36 => some 0 | 51 => some 2 | 52 => some 2 | 73 => some 3 | 103 => some 38 | 115 => some 70 | _ => none
def elTT : ET := ⟨fun t => match t with | 0 => 3 | 1 => 4 | 2 => 67 | 3 => 105 | 6 => 59 | 8 => 42 | 10 => 44 | 14 => 23 | 19 => 48 | 38 => 102 | 46 => 46 | 70 => 127 | _ => 0, absView 0⟩
instance (ro : Bool) (b : Blk) (k : List (List Int) → Prop) : Des (bRow 6 ro b k) (∃ l : List (List Int), b = .row 6 l ro ∧ k l) := ⟨bRow_el⟩
instance (ro : Bool) (b : Blk) (k : List (List Int) → Prop) : Des (bRow 19 ro b k) (∃ l : List (List Int), b = .row 19 l ro ∧ k l) := ⟨bRow_el⟩
instance (ro : Bool) (b : Blk) (k : List (List Int) → Prop) : Des (bRow 38 ro b k) (∃ l : List (List Int), b = .row 38 l ro ∧ k l) := ⟨bRow_el⟩
instance (ro : Bool) (b : Blk) (k : List (List Int) → Prop) : Des (bRow 70 ro b k) (∃ l : List (List Int), b = .row 70 l ro ∧ k l) := ⟨bRow_el⟩
noncomputable def cfgB : Cfg where
  P := Try.prog
  tagOf := tagT
  elT := elTT
  sigs := fun _ => none
  keep := fun _ => none
  keepB := fun _ => none
  plan := fun _ => none
theorem tags_ok : ∀ (t tg : Nat), tagT t = some tg → Try.prog.underlying t = some (.slice (elTT tg)) ∧ ∃ i z, Try.prog.info? (elTT tg) = some i ∧ i.zero = some z ∧ z.cells = (elEnc tg (elD tg)).toArray ∧ i.size = elM tg ∧ i.bytes ≤ 65536 := by
  intro t tg h
  unfold tagT at h
  split at h
  · injection h with h; subst h; exact tag_ok (by kernel_rfl) (by kernel_rfl) (by kernel_rfl) (by kernel_rfl) (by kernel_rfl) (by kernel_rfl)
  · injection h with h; subst h; exact tag_ok (by kernel_rfl) (by kernel_rfl) (by kernel_rfl) (by kernel_rfl) (by kernel_rfl) (by kernel_rfl)
  · injection h with h; subst h; exact tag_ok (by kernel_rfl) (by kernel_rfl) (by kernel_rfl) (by kernel_rfl) (by kernel_rfl) (by kernel_rfl)
  · injection h with h; subst h; exact tag_ok (by kernel_rfl) (by kernel_rfl) (by kernel_rfl) (by kernel_rfl) (by kernel_rfl) (by kernel_rfl)
  · injection h with h; subst h; exact tag_ok (by kernel_rfl) (by kernel_rfl) (by kernel_rfl) (by kernel_rfl) (by kernel_rfl) (by kernel_rfl)
  · injection h with h; subst h; exact tag_ok (by kernel_rfl) (by kernel_rfl) (by kernel_rfl) (by kernel_rfl) (by kernel_rfl) (by kernel_rfl)
  · injection h with h; subst h; exact tag_ok (by kernel_rfl) (by kernel_rfl) (by kernel_rfl) (by kernel_rfl) (by kernel_rfl) (by kernel_rfl)
  · injection h with h; subst h; exact tag_ok (by kernel_rfl) (by kernel_rfl) (by kernel_rfl) (by kernel_rfl) (by kernel_rfl) (by kernel_rfl)
  · cases h
theorem small_ok : ∀ (t tg : Nat), tagT t = some tg → elM tg ≤ 4096 := by
  intro t tg h
  unfold tagT at h
  split at h
  · injection h with h; subst h; decide
  · injection h with h; subst h; decide
  · injection h with h; subst h; decide
  · injection h with h; subst h; decide
  · injection h with h; subst h; decide
  · injection h with h; subst h; decide
  · injection h with h; subst h; decide
  · injection h with h; subst h; decide
  · cases h
theorem mixed_ok : Try.prog.follows .mixedOrders = true := by kernel_rfl
theorem yn {cfg : Cfg} (h1 : cfg.P = Try.prog) (h2 : cfg.tagOf = tagT) (h3 : cfg.elT = elTT) : CfgOK cfg := by
  obtain ⟨P, tagOf, elT, a, b, c, d, e, f, g, i⟩ := cfg
  simp only at h1 h2 h3
  subst h1; subst h2; subst h3
  exact ⟨small_ok, tags_ok, mixed_ok⟩
theorem nosig {cfg : Cfg} (h : cfg.sigs = fun _ => none) : ∀ g s, cfg.sigs g = some s → SpecOK cfg.P cfg.elT g s := by
  intro g s hs; rw [h] at hs; cases hs
structure yb where
  mk ::
  Workers : Int
  CPUs : Int
  Pages : Int
  Stripes : Int
  Tries : Int
  Wait : Int
  Clock : Int
  Private : Int
  Cache : Int
  Bin : Int
  Batch : Int
def yl (x : yb) : List V := [vi x.Workers, vi x.CPUs, vi x.Pages, vi x.Stripes, vi x.Tries, vi x.Wait, vi x.Clock, vi x.Private, vi x.Cache, vi x.Bin, vi x.Batch]
def y26 (cs : List V) (k : yb → Prop) : Prop := aC cs fun a0 r => aInt a0 fun x0 => aC r fun a1 r => aInt a1 fun x1 => aC r fun a2 r => aInt a2 fun x2 => aC r fun a3 r => aInt a3 fun x3 => aC r fun a4 r => aInt a4 fun x4 => aC r fun a5 r => aInt a5 fun x5 => aC r fun a6 r => aInt a6 fun x6 => aC r fun a7 r => aInt a7 fun x7 => aC r fun a8 r => aInt a8 fun x8 => aC r fun a9 r => aInt a9 fun x9 => aC r fun a10 r => aInt a10 fun x10 => aN r (k ⟨x0, x1, x2, x3, x4, x5, x6, x7, x8, x9, x10⟩)
theorem yf4 {cs : List V} {k : yb → Prop} (h : y26 cs k) : ∃ x, cs = yl x ∧ k x := by
  unfold y26 at h
  replace h := aC_el h
  obtain ⟨_, _, rfl, h⟩ := h
  replace h := aInt_el h
  obtain ⟨x0, rfl, h⟩ := h
  replace h := aC_el h
  obtain ⟨_, _, rfl, h⟩ := h
  replace h := aInt_el h
  obtain ⟨x1, rfl, h⟩ := h
  replace h := aC_el h
  obtain ⟨_, _, rfl, h⟩ := h
  replace h := aInt_el h
  obtain ⟨x2, rfl, h⟩ := h
  replace h := aC_el h
  obtain ⟨_, _, rfl, h⟩ := h
  replace h := aInt_el h
  obtain ⟨x3, rfl, h⟩ := h
  replace h := aC_el h
  obtain ⟨_, _, rfl, h⟩ := h
  replace h := aInt_el h
  obtain ⟨x4, rfl, h⟩ := h
  replace h := aC_el h
  obtain ⟨_, _, rfl, h⟩ := h
  replace h := aInt_el h
  obtain ⟨x5, rfl, h⟩ := h
  replace h := aC_el h
  obtain ⟨_, _, rfl, h⟩ := h
  replace h := aInt_el h
  obtain ⟨x6, rfl, h⟩ := h
  replace h := aC_el h
  obtain ⟨_, _, rfl, h⟩ := h
  replace h := aInt_el h
  obtain ⟨x7, rfl, h⟩ := h
  replace h := aC_el h
  obtain ⟨_, _, rfl, h⟩ := h
  replace h := aInt_el h
  obtain ⟨x8, rfl, h⟩ := h
  replace h := aC_el h
  obtain ⟨_, _, rfl, h⟩ := h
  replace h := aInt_el h
  obtain ⟨x9, rfl, h⟩ := h
  replace h := aC_el h
  obtain ⟨_, _, rfl, h⟩ := h
  replace h := aInt_el h
  obtain ⟨x10, rfl, h⟩ := h
  replace h := aN_el h
  obtain ⟨rfl, h⟩ := h
  exact ⟨⟨x0, x1, x2, x3, x4, x5, x6, x7, x8, x9, x10⟩, rfl, h⟩
instance (cs : List V) (k : yb → Prop) : Des (y26 cs k) (∃ x, cs = yl x ∧ k x) := ⟨yf4⟩
structure T_assartref02_Layout where
  mk ::
  C : yb
def y05 (x : T_assartref02_Layout) : List V := [vi x.C.Workers, vi x.C.CPUs, vi x.C.Pages, vi x.C.Stripes, vi x.C.Tries, vi x.C.Wait, vi x.C.Clock, vi x.C.Private, vi x.C.Cache, vi x.C.Bin, vi x.C.Batch]
def y1s (cs : List V) (k : T_assartref02_Layout → Prop) : Prop := aC cs fun a0 r => aInt a0 fun x0 => aC r fun a1 r => aInt a1 fun x1 => aC r fun a2 r => aInt a2 fun x2 => aC r fun a3 r => aInt a3 fun x3 => aC r fun a4 r => aInt a4 fun x4 => aC r fun a5 r => aInt a5 fun x5 => aC r fun a6 r => aInt a6 fun x6 => aC r fun a7 r => aInt a7 fun x7 => aC r fun a8 r => aInt a8 fun x8 => aC r fun a9 r => aInt a9 fun x9 => aC r fun a10 r => aInt a10 fun x10 => aN r (k ⟨⟨x0, x1, x2, x3, x4, x5, x6, x7, x8, x9, x10⟩⟩)
theorem ybr {cs : List V} {k : T_assartref02_Layout → Prop} (h : y1s cs k) : ∃ x, cs = y05 x ∧ k x := by
  unfold y1s at h
  replace h := aC_el h
  obtain ⟨_, _, rfl, h⟩ := h
  replace h := aInt_el h
  obtain ⟨x0, rfl, h⟩ := h
  replace h := aC_el h
  obtain ⟨_, _, rfl, h⟩ := h
  replace h := aInt_el h
  obtain ⟨x1, rfl, h⟩ := h
  replace h := aC_el h
  obtain ⟨_, _, rfl, h⟩ := h
  replace h := aInt_el h
  obtain ⟨x2, rfl, h⟩ := h
  replace h := aC_el h
  obtain ⟨_, _, rfl, h⟩ := h
  replace h := aInt_el h
  obtain ⟨x3, rfl, h⟩ := h
  replace h := aC_el h
  obtain ⟨_, _, rfl, h⟩ := h
  replace h := aInt_el h
  obtain ⟨x4, rfl, h⟩ := h
  replace h := aC_el h
  obtain ⟨_, _, rfl, h⟩ := h
  replace h := aInt_el h
  obtain ⟨x5, rfl, h⟩ := h
  replace h := aC_el h
  obtain ⟨_, _, rfl, h⟩ := h
  replace h := aInt_el h
  obtain ⟨x6, rfl, h⟩ := h
  replace h := aC_el h
  obtain ⟨_, _, rfl, h⟩ := h
  replace h := aInt_el h
  obtain ⟨x7, rfl, h⟩ := h
  replace h := aC_el h
  obtain ⟨_, _, rfl, h⟩ := h
  replace h := aInt_el h
  obtain ⟨x8, rfl, h⟩ := h
  replace h := aC_el h
  obtain ⟨_, _, rfl, h⟩ := h
  replace h := aInt_el h
  obtain ⟨x9, rfl, h⟩ := h
  replace h := aC_el h
  obtain ⟨_, _, rfl, h⟩ := h
  replace h := aInt_el h
  obtain ⟨x10, rfl, h⟩ := h
  replace h := aN_el h
  obtain ⟨rfl, h⟩ := h
  exact ⟨⟨⟨x0, x1, x2, x3, x4, x5, x6, x7, x8, x9, x10⟩⟩, rfl, h⟩
instance (cs : List V) (k : T_assartref02_Layout → Prop) : Des (y1s cs k) (∃ x, cs = y05 x ∧ k x) := ⟨ybr⟩
structure yc where
  mk ::
  Kind : Int
  Addr : Int
  Size : Int
  Align : Int
  Value : Int
def y0p (x : yc) : List V := [vi x.Kind, vi x.Addr, vi x.Size, vi x.Align, vi x.Value]
def y1z (cs : List V) (k : yc → Prop) : Prop := aC cs fun a0 r => aInt a0 fun x0 => aC r fun a1 r => aInt a1 fun x1 => aC r fun a2 r => aInt a2 fun x2 => aC r fun a3 r => aInt a3 fun x3 => aC r fun a4 r => aInt a4 fun x4 => aN r (k ⟨x0, x1, x2, x3, x4⟩)
theorem yfu {cs : List V} {k : yc → Prop} (h : y1z cs k) : ∃ x, cs = y0p x ∧ k x := by
  unfold y1z at h
  replace h := aC_el h
  obtain ⟨_, _, rfl, h⟩ := h
  replace h := aInt_el h
  obtain ⟨x0, rfl, h⟩ := h
  replace h := aC_el h
  obtain ⟨_, _, rfl, h⟩ := h
  replace h := aInt_el h
  obtain ⟨x1, rfl, h⟩ := h
  replace h := aC_el h
  obtain ⟨_, _, rfl, h⟩ := h
  replace h := aInt_el h
  obtain ⟨x2, rfl, h⟩ := h
  replace h := aC_el h
  obtain ⟨_, _, rfl, h⟩ := h
  replace h := aInt_el h
  obtain ⟨x3, rfl, h⟩ := h
  replace h := aC_el h
  obtain ⟨_, _, rfl, h⟩ := h
  replace h := aInt_el h
  obtain ⟨x4, rfl, h⟩ := h
  replace h := aN_el h
  obtain ⟨rfl, h⟩ := h
  exact ⟨⟨x0, x1, x2, x3, x4⟩, rfl, h⟩
instance (cs : List V) (k : yc → Prop) : Des (y1z cs k) (∃ x, cs = y0p x ∧ k x) := ⟨yfu⟩
structure ya where
  mk ::
  Blocks : Int
  Asked : Int
  Words : Int
  Kept : Int
  Open : Int
  Mapped : Int
  Used : Int
def y58 (x : ya) : List V := [vi x.Blocks, vi x.Asked, vi x.Words, vi x.Kept, vi x.Open, vi x.Mapped, vi x.Used]
def y56 (cs : List V) (k : ya → Prop) : Prop := aC cs fun a0 r => aInt a0 fun x0 => aC r fun a1 r => aInt a1 fun x1 => aC r fun a2 r => aInt a2 fun x2 => aC r fun a3 r => aInt a3 fun x3 => aC r fun a4 r => aInt a4 fun x4 => aC r fun a5 r => aInt a5 fun x5 => aC r fun a6 r => aInt a6 fun x6 => aN r (k ⟨x0, x1, x2, x3, x4, x5, x6⟩)
theorem ygd {cs : List V} {k : ya → Prop} (h : y56 cs k) : ∃ x, cs = y58 x ∧ k x := by
  unfold y56 at h
  replace h := aC_el h
  obtain ⟨_, _, rfl, h⟩ := h
  replace h := aInt_el h
  obtain ⟨x0, rfl, h⟩ := h
  replace h := aC_el h
  obtain ⟨_, _, rfl, h⟩ := h
  replace h := aInt_el h
  obtain ⟨x1, rfl, h⟩ := h
  replace h := aC_el h
  obtain ⟨_, _, rfl, h⟩ := h
  replace h := aInt_el h
  obtain ⟨x2, rfl, h⟩ := h
  replace h := aC_el h
  obtain ⟨_, _, rfl, h⟩ := h
  replace h := aInt_el h
  obtain ⟨x3, rfl, h⟩ := h
  replace h := aC_el h
  obtain ⟨_, _, rfl, h⟩ := h
  replace h := aInt_el h
  obtain ⟨x4, rfl, h⟩ := h
  replace h := aC_el h
  obtain ⟨_, _, rfl, h⟩ := h
  replace h := aInt_el h
  obtain ⟨x5, rfl, h⟩ := h
  replace h := aC_el h
  obtain ⟨_, _, rfl, h⟩ := h
  replace h := aInt_el h
  obtain ⟨x6, rfl, h⟩ := h
  replace h := aN_el h
  obtain ⟨rfl, h⟩ := h
  exact ⟨⟨x0, x1, x2, x3, x4, x5, x6⟩, rfl, h⟩
instance (cs : List V) (k : ya → Prop) : Des (y56 cs k) (∃ x, cs = y58 x ∧ k x) := ⟨ygd⟩
structure T_api_Reply where
  mk ::
  Err : Int
  Addr : Int
  Size : Int
  Value : Int
  Stats : ya
def y07 (x : T_api_Reply) : List V := [vi x.Err, vi x.Addr, vi x.Size, vi x.Value, vi x.Stats.Blocks, vi x.Stats.Asked, vi x.Stats.Words, vi x.Stats.Kept, vi x.Stats.Open, vi x.Stats.Mapped, vi x.Stats.Used]
def y24 (cs : List V) (k : T_api_Reply → Prop) : Prop := aC cs fun a0 r => aInt a0 fun x0 => aC r fun a1 r => aInt a1 fun x1 => aC r fun a2 r => aInt a2 fun x2 => aC r fun a3 r => aInt a3 fun x3 => aC r fun a4 r => aInt a4 fun x4 => aC r fun a5 r => aInt a5 fun x5 => aC r fun a6 r => aInt a6 fun x6 => aC r fun a7 r => aInt a7 fun x7 => aC r fun a8 r => aInt a8 fun x8 => aC r fun a9 r => aInt a9 fun x9 => aC r fun a10 r => aInt a10 fun x10 => aN r (k ⟨x0, x1, x2, x3, ⟨x4, x5, x6, x7, x8, x9, x10⟩⟩)
theorem yjq {cs : List V} {k : T_api_Reply → Prop} (h : y24 cs k) : ∃ x, cs = y07 x ∧ k x := by
  unfold y24 at h
  replace h := aC_el h
  obtain ⟨_, _, rfl, h⟩ := h
  replace h := aInt_el h
  obtain ⟨x0, rfl, h⟩ := h
  replace h := aC_el h
  obtain ⟨_, _, rfl, h⟩ := h
  replace h := aInt_el h
  obtain ⟨x1, rfl, h⟩ := h
  replace h := aC_el h
  obtain ⟨_, _, rfl, h⟩ := h
  replace h := aInt_el h
  obtain ⟨x2, rfl, h⟩ := h
  replace h := aC_el h
  obtain ⟨_, _, rfl, h⟩ := h
  replace h := aInt_el h
  obtain ⟨x3, rfl, h⟩ := h
  replace h := aC_el h
  obtain ⟨_, _, rfl, h⟩ := h
  replace h := aInt_el h
  obtain ⟨x4, rfl, h⟩ := h
  replace h := aC_el h
  obtain ⟨_, _, rfl, h⟩ := h
  replace h := aInt_el h
  obtain ⟨x5, rfl, h⟩ := h
  replace h := aC_el h
  obtain ⟨_, _, rfl, h⟩ := h
  replace h := aInt_el h
  obtain ⟨x6, rfl, h⟩ := h
  replace h := aC_el h
  obtain ⟨_, _, rfl, h⟩ := h
  replace h := aInt_el h
  obtain ⟨x7, rfl, h⟩ := h
  replace h := aC_el h
  obtain ⟨_, _, rfl, h⟩ := h
  replace h := aInt_el h
  obtain ⟨x8, rfl, h⟩ := h
  replace h := aC_el h
  obtain ⟨_, _, rfl, h⟩ := h
  replace h := aInt_el h
  obtain ⟨x9, rfl, h⟩ := h
  replace h := aC_el h
  obtain ⟨_, _, rfl, h⟩ := h
  replace h := aInt_el h
  obtain ⟨x10, rfl, h⟩ := h
  replace h := aN_el h
  obtain ⟨rfl, h⟩ := h
  exact ⟨⟨x0, x1, x2, x3, ⟨x4, x5, x6, x7, x8, x9, x10⟩⟩, rfl, h⟩
instance (cs : List V) (k : T_api_Reply → Prop) : Des (y24 cs k) (∃ x, cs = y07 x ∧ k x) := ⟨yjq⟩
structure y34 where
  mk ::
  A : Int
  Asked : Int
  Words : Int
def y5n (x : y34) : List V := [vi x.A, vi x.Asked, vi x.Words]
structure ye where
  mk ::
  c : yb
  at_0 : Int
  at_1 : Int
  at_2 : Int
  at_3 : Int
  at_4 : Int
  at_5 : Int
  at_6 : Int
  at_7 : Int
  at_8 : Int
  at_9 : Int
  at_10 : Int
  at_11 : Int
def yk (x : ye) : List V := [vi x.c.Workers, vi x.c.CPUs, vi x.c.Pages, vi x.c.Stripes, vi x.c.Tries, vi x.c.Wait, vi x.c.Clock, vi x.c.Private, vi x.c.Cache, vi x.c.Bin, vi x.c.Batch, vi x.at_0, vi x.at_1, vi x.at_2, vi x.at_3, vi x.at_4, vi x.at_5, vi x.at_6, vi x.at_7, vi x.at_8, vi x.at_9, vi x.at_10, vi x.at_11]
def y1u (cs : List V) (k : ye → Prop) : Prop := aC cs fun a0 r => aInt a0 fun x0 => aC r fun a1 r => aInt a1 fun x1 => aC r fun a2 r => aInt a2 fun x2 => aC r fun a3 r => aInt a3 fun x3 => aC r fun a4 r => aInt a4 fun x4 => aC r fun a5 r => aInt a5 fun x5 => aC r fun a6 r => aInt a6 fun x6 => aC r fun a7 r => aInt a7 fun x7 => aC r fun a8 r => aInt a8 fun x8 => aC r fun a9 r => aInt a9 fun x9 => aC r fun a10 r => aInt a10 fun x10 => aC r fun a11 r => aInt a11 fun x11 => aC r fun a12 r => aInt a12 fun x12 => aC r fun a13 r => aInt a13 fun x13 => aC r fun a14 r => aInt a14 fun x14 => aC r fun a15 r => aInt a15 fun x15 => aC r fun a16 r => aInt a16 fun x16 => aC r fun a17 r => aInt a17 fun x17 => aC r fun a18 r => aInt a18 fun x18 => aC r fun a19 r => aInt a19 fun x19 => aC r fun a20 r => aInt a20 fun x20 => aC r fun a21 r => aInt a21 fun x21 => aC r fun a22 r => aInt a22 fun x22 => aN r (k ⟨⟨x0, x1, x2, x3, x4, x5, x6, x7, x8, x9, x10⟩, x11, x12, x13, x14, x15, x16, x17, x18, x19, x20, x21, x22⟩)
theorem yd6 {cs : List V} {k : ye → Prop} (h : y1u cs k) : ∃ x, cs = yk x ∧ k x := by
  unfold y1u at h
  replace h := aC_el h
  obtain ⟨_, _, rfl, h⟩ := h
  replace h := aInt_el h
  obtain ⟨x0, rfl, h⟩ := h
  replace h := aC_el h
  obtain ⟨_, _, rfl, h⟩ := h
  replace h := aInt_el h
  obtain ⟨x1, rfl, h⟩ := h
  replace h := aC_el h
  obtain ⟨_, _, rfl, h⟩ := h
  replace h := aInt_el h
  obtain ⟨x2, rfl, h⟩ := h
  replace h := aC_el h
  obtain ⟨_, _, rfl, h⟩ := h
  replace h := aInt_el h
  obtain ⟨x3, rfl, h⟩ := h
  replace h := aC_el h
  obtain ⟨_, _, rfl, h⟩ := h
  replace h := aInt_el h
  obtain ⟨x4, rfl, h⟩ := h
  replace h := aC_el h
  obtain ⟨_, _, rfl, h⟩ := h
  replace h := aInt_el h
  obtain ⟨x5, rfl, h⟩ := h
  replace h := aC_el h
  obtain ⟨_, _, rfl, h⟩ := h
  replace h := aInt_el h
  obtain ⟨x6, rfl, h⟩ := h
  replace h := aC_el h
  obtain ⟨_, _, rfl, h⟩ := h
  replace h := aInt_el h
  obtain ⟨x7, rfl, h⟩ := h
  replace h := aC_el h
  obtain ⟨_, _, rfl, h⟩ := h
  replace h := aInt_el h
  obtain ⟨x8, rfl, h⟩ := h
  replace h := aC_el h
  obtain ⟨_, _, rfl, h⟩ := h
  replace h := aInt_el h
  obtain ⟨x9, rfl, h⟩ := h
  replace h := aC_el h
  obtain ⟨_, _, rfl, h⟩ := h
  replace h := aInt_el h
  obtain ⟨x10, rfl, h⟩ := h
  replace h := aC_el h
  obtain ⟨_, _, rfl, h⟩ := h
  replace h := aInt_el h
  obtain ⟨x11, rfl, h⟩ := h
  replace h := aC_el h
  obtain ⟨_, _, rfl, h⟩ := h
  replace h := aInt_el h
  obtain ⟨x12, rfl, h⟩ := h
  replace h := aC_el h
  obtain ⟨_, _, rfl, h⟩ := h
  replace h := aInt_el h
  obtain ⟨x13, rfl, h⟩ := h
  replace h := aC_el h
  obtain ⟨_, _, rfl, h⟩ := h
  replace h := aInt_el h
  obtain ⟨x14, rfl, h⟩ := h
  replace h := aC_el h
  obtain ⟨_, _, rfl, h⟩ := h
  replace h := aInt_el h
  obtain ⟨x15, rfl, h⟩ := h
  replace h := aC_el h
  obtain ⟨_, _, rfl, h⟩ := h
  replace h := aInt_el h
  obtain ⟨x16, rfl, h⟩ := h
  replace h := aC_el h
  obtain ⟨_, _, rfl, h⟩ := h
  replace h := aInt_el h
  obtain ⟨x17, rfl, h⟩ := h
  replace h := aC_el h
  obtain ⟨_, _, rfl, h⟩ := h
  replace h := aInt_el h
  obtain ⟨x18, rfl, h⟩ := h
  replace h := aC_el h
  obtain ⟨_, _, rfl, h⟩ := h
  replace h := aInt_el h
  obtain ⟨x19, rfl, h⟩ := h
  replace h := aC_el h
  obtain ⟨_, _, rfl, h⟩ := h
  replace h := aInt_el h
  obtain ⟨x20, rfl, h⟩ := h
  replace h := aC_el h
  obtain ⟨_, _, rfl, h⟩ := h
  replace h := aInt_el h
  obtain ⟨x21, rfl, h⟩ := h
  replace h := aC_el h
  obtain ⟨_, _, rfl, h⟩ := h
  replace h := aInt_el h
  obtain ⟨x22, rfl, h⟩ := h
  replace h := aN_el h
  obtain ⟨rfl, h⟩ := h
  exact ⟨⟨⟨x0, x1, x2, x3, x4, x5, x6, x7, x8, x9, x10⟩, x11, x12, x13, x14, x15, x16, x17, x18, x19, x20, x21, x22⟩, rfl, h⟩
instance (cs : List V) (k : ye → Prop) : Des (y1u cs k) (∃ x, cs = yk x ∧ k x) := ⟨yd6⟩
structure yi where
  mk ::
  asked : Int
  words : Int
def y1t (x : yi) : List V := [vi x.asked, vi x.words]
def y3w (cs : List V) (k : yi → Prop) : Prop := aC cs fun a0 r => aInt a0 fun x0 => aC r fun a1 r => aInt a1 fun x1 => aN r (k ⟨x0, x1⟩)
theorem yfq {cs : List V} {k : yi → Prop} (h : y3w cs k) : ∃ x, cs = y1t x ∧ k x := by
  unfold y3w at h
  replace h := aC_el h
  obtain ⟨_, _, rfl, h⟩ := h
  replace h := aInt_el h
  obtain ⟨x0, rfl, h⟩ := h
  replace h := aC_el h
  obtain ⟨_, _, rfl, h⟩ := h
  replace h := aInt_el h
  obtain ⟨x1, rfl, h⟩ := h
  replace h := aN_el h
  obtain ⟨rfl, h⟩ := h
  exact ⟨⟨x0, x1⟩, rfl, h⟩
instance (cs : List V) (k : yi → Prop) : Des (y3w cs k) (∃ x, cs = y1t x ∧ k x) := ⟨yfq⟩
structure y0e where
  mk ::
  n : Int
  low : Int
  high : Int
def y8q (x : y0e) : List V := [vi x.n, vi x.low, vi x.high]
def y5l (cs : List V) (k : y0e → Prop) : Prop := aC cs fun a0 r => aInt a0 fun x0 => aC r fun a1 r => aInt a1 fun x1 => aC r fun a2 r => aInt a2 fun x2 => aN r (k ⟨x0, x1, x2⟩)
theorem yhx {cs : List V} {k : y0e → Prop} (h : y5l cs k) : ∃ x, cs = y8q x ∧ k x := by
  unfold y5l at h
  replace h := aC_el h
  obtain ⟨_, _, rfl, h⟩ := h
  replace h := aInt_el h
  obtain ⟨x0, rfl, h⟩ := h
  replace h := aC_el h
  obtain ⟨_, _, rfl, h⟩ := h
  replace h := aInt_el h
  obtain ⟨x1, rfl, h⟩ := h
  replace h := aC_el h
  obtain ⟨_, _, rfl, h⟩ := h
  replace h := aInt_el h
  obtain ⟨x2, rfl, h⟩ := h
  replace h := aN_el h
  obtain ⟨rfl, h⟩ := h
  exact ⟨⟨x0, x1, x2⟩, rfl, h⟩
instance (cs : List V) (k : y0e → Prop) : Des (y5l cs k) (∃ x, cs = y8q x ∧ k x) := ⟨yhx⟩
structure yh where
  mk ::
  Worker : Int
  Call : yc
  Reply : T_api_Reply
  Begin : Int
  End : Int
  Stamp : Int
  Wrote : Bool
  Sure : Bool
  Done : Bool
def y2c (x : yh) : List V := [vi x.Worker, vi x.Call.Kind, vi x.Call.Addr, vi x.Call.Size, vi x.Call.Align, vi x.Call.Value, vi x.Reply.Err, vi x.Reply.Addr, vi x.Reply.Size, vi x.Reply.Value, vi x.Reply.Stats.Blocks, vi x.Reply.Stats.Asked, vi x.Reply.Stats.Words, vi x.Reply.Stats.Kept, vi x.Reply.Stats.Open, vi x.Reply.Stats.Mapped, vi x.Reply.Stats.Used, vi x.Begin, vi x.End, vi x.Stamp, vb x.Wrote, vb x.Sure, vb x.Done]
def y3h (cs : List V) (k : yh → Prop) : Prop := aC cs fun a0 r => aInt a0 fun x0 => aC r fun a1 r => aInt a1 fun x1 => aC r fun a2 r => aInt a2 fun x2 => aC r fun a3 r => aInt a3 fun x3 => aC r fun a4 r => aInt a4 fun x4 => aC r fun a5 r => aInt a5 fun x5 => aC r fun a6 r => aInt a6 fun x6 => aC r fun a7 r => aInt a7 fun x7 => aC r fun a8 r => aInt a8 fun x8 => aC r fun a9 r => aInt a9 fun x9 => aC r fun a10 r => aInt a10 fun x10 => aC r fun a11 r => aInt a11 fun x11 => aC r fun a12 r => aInt a12 fun x12 => aC r fun a13 r => aInt a13 fun x13 => aC r fun a14 r => aInt a14 fun x14 => aC r fun a15 r => aInt a15 fun x15 => aC r fun a16 r => aInt a16 fun x16 => aC r fun a17 r => aInt a17 fun x17 => aC r fun a18 r => aInt a18 fun x18 => aC r fun a19 r => aInt a19 fun x19 => aC r fun a20 r => aBool a20 fun x20 => aC r fun a21 r => aBool a21 fun x21 => aC r fun a22 r => aBool a22 fun x22 => aN r (k ⟨x0, ⟨x1, x2, x3, x4, x5⟩, ⟨x6, x7, x8, x9, ⟨x10, x11, x12, x13, x14, x15, x16⟩⟩, x17, x18, x19, x20, x21, x22⟩)
theorem yi8 {cs : List V} {k : yh → Prop} (h : y3h cs k) : ∃ x, cs = y2c x ∧ k x := by
  unfold y3h at h
  replace h := aC_el h
  obtain ⟨_, _, rfl, h⟩ := h
  replace h := aInt_el h
  obtain ⟨x0, rfl, h⟩ := h
  replace h := aC_el h
  obtain ⟨_, _, rfl, h⟩ := h
  replace h := aInt_el h
  obtain ⟨x1, rfl, h⟩ := h
  replace h := aC_el h
  obtain ⟨_, _, rfl, h⟩ := h
  replace h := aInt_el h
  obtain ⟨x2, rfl, h⟩ := h
  replace h := aC_el h
  obtain ⟨_, _, rfl, h⟩ := h
  replace h := aInt_el h
  obtain ⟨x3, rfl, h⟩ := h
  replace h := aC_el h
  obtain ⟨_, _, rfl, h⟩ := h
  replace h := aInt_el h
  obtain ⟨x4, rfl, h⟩ := h
  replace h := aC_el h
  obtain ⟨_, _, rfl, h⟩ := h
  replace h := aInt_el h
  obtain ⟨x5, rfl, h⟩ := h
  replace h := aC_el h
  obtain ⟨_, _, rfl, h⟩ := h
  replace h := aInt_el h
  obtain ⟨x6, rfl, h⟩ := h
  replace h := aC_el h
  obtain ⟨_, _, rfl, h⟩ := h
  replace h := aInt_el h
  obtain ⟨x7, rfl, h⟩ := h
  replace h := aC_el h
  obtain ⟨_, _, rfl, h⟩ := h
  replace h := aInt_el h
  obtain ⟨x8, rfl, h⟩ := h
  replace h := aC_el h
  obtain ⟨_, _, rfl, h⟩ := h
  replace h := aInt_el h
  obtain ⟨x9, rfl, h⟩ := h
  replace h := aC_el h
  obtain ⟨_, _, rfl, h⟩ := h
  replace h := aInt_el h
  obtain ⟨x10, rfl, h⟩ := h
  replace h := aC_el h
  obtain ⟨_, _, rfl, h⟩ := h
  replace h := aInt_el h
  obtain ⟨x11, rfl, h⟩ := h
  replace h := aC_el h
  obtain ⟨_, _, rfl, h⟩ := h
  replace h := aInt_el h
  obtain ⟨x12, rfl, h⟩ := h
  replace h := aC_el h
  obtain ⟨_, _, rfl, h⟩ := h
  replace h := aInt_el h
  obtain ⟨x13, rfl, h⟩ := h
  replace h := aC_el h
  obtain ⟨_, _, rfl, h⟩ := h
  replace h := aInt_el h
  obtain ⟨x14, rfl, h⟩ := h
  replace h := aC_el h
  obtain ⟨_, _, rfl, h⟩ := h
  replace h := aInt_el h
  obtain ⟨x15, rfl, h⟩ := h
  replace h := aC_el h
  obtain ⟨_, _, rfl, h⟩ := h
  replace h := aInt_el h
  obtain ⟨x16, rfl, h⟩ := h
  replace h := aC_el h
  obtain ⟨_, _, rfl, h⟩ := h
  replace h := aInt_el h
  obtain ⟨x17, rfl, h⟩ := h
  replace h := aC_el h
  obtain ⟨_, _, rfl, h⟩ := h
  replace h := aInt_el h
  obtain ⟨x18, rfl, h⟩ := h
  replace h := aC_el h
  obtain ⟨_, _, rfl, h⟩ := h
  replace h := aInt_el h
  obtain ⟨x19, rfl, h⟩ := h
  replace h := aC_el h
  obtain ⟨_, _, rfl, h⟩ := h
  replace h := aBool_el h
  obtain ⟨x20, rfl, h⟩ := h
  replace h := aC_el h
  obtain ⟨_, _, rfl, h⟩ := h
  replace h := aBool_el h
  obtain ⟨x21, rfl, h⟩ := h
  replace h := aC_el h
  obtain ⟨_, _, rfl, h⟩ := h
  replace h := aBool_el h
  obtain ⟨x22, rfl, h⟩ := h
  replace h := aN_el h
  obtain ⟨rfl, h⟩ := h
  exact ⟨⟨x0, ⟨x1, x2, x3, x4, x5⟩, ⟨x6, x7, x8, x9, ⟨x10, x11, x12, x13, x14, x15, x16⟩⟩, x17, x18, x19, x20, x21, x22⟩, rfl, h⟩
instance (cs : List V) (k : yh → Prop) : Des (y3h cs k) (∃ x, cs = y2c x ∧ k x) := ⟨yi8⟩
end Go.Rx
end

noncomputable section
namespace Go.Rx
open Go.Proofs
set_option maxRecDepth 100000
set_option maxHeartbeats 4000000
abbrev Y29 := ye → Option yb
def y5y (m_ : Y29) (args : List V) (H : Heap) (K : V → Heap → Prop) : Prop :=
  aC args fun a0 r => aN r <| aAgg a0 fun c0 => y1u c0 fun l2 => aN H <| So (m_ l2) fun x => K (.agg (yl x)) []
def y57 (m_ : Y29) : Spec := ⟨y5y m_, (true : Bool)⟩
abbrev Y6 := ye → Option Int
def y7o (m_ : Y6) (args : List V) (H : Heap) (K : V → Heap → Prop) : Prop :=
  aC args fun a0 r => aN r <| aAgg a0 fun c0 => y1u c0 fun l2 => aN H <| So (m_ l2) fun x => K (vi x) []
def y8p (m_ : Y6) : Spec := ⟨y7o m_, (true : Bool)⟩
def y6c (m_ : Y6) (args : List V) (H : Heap) (K : V → Heap → Prop) : Prop :=
  aC args fun a0 r => aN r <| aAgg a0 fun c0 => y1u c0 fun l2 => aN H <| So (m_ l2) fun x => K (vi x) []
def y2a (m_ : Y6) : Spec := ⟨y6c m_, (true : Bool)⟩
abbrev Y2 := Int → Option Int
def y9l (m_ : Y2) (args : List V) (H : Heap) (K : V → Heap → Prop) : Prop :=
  aC args fun a0 r => aN r <| aInt a0 fun pages => aN H <| So (m_ pages) fun x => K (vi x) []
def yd1 (m_ : Y2) : Spec := ⟨y9l m_, (true : Bool)⟩
abbrev Y35 := ye → Int → Option Bool
def y6w (m_ : Y35) (args : List V) (H : Heap) (K : V → Heap → Prop) : Prop :=
  aC args fun a0 r => aC r fun a1 r => aN r <| aAgg a0 fun c0 => y1u c0 fun l2 => aInt a1 fun a => aN H <| So (m_ l2 a) fun x => K (vb x) []
def yai (m_ : Y35) : Spec := ⟨y6w m_, (true : Bool)⟩
abbrev Y4 := ye → Int → Option (Int × Int × Bool)
def y5s (m_ : Y4) (args : List V) (H : Heap) (K : V → Heap → Prop) : Prop :=
  aC args fun a0 r => aC r fun a1 r => aN r <| aAgg a0 fun c0 => y1u c0 fun l2 => aInt a1 fun a => aN H <| So (m_ l2 a) fun x => K (.tup [vi x.1, vi x.2.1, vb x.2.2]) []
def y2w (m_ : Y4) : Spec := ⟨y5s m_, (true : Bool)⟩
abbrev Y36 := y0e → Option Bool
def y6o (m_ : Y36) (args : List V) (H : Heap) (K : V → Heap → Prop) : Prop :=
  aC args fun a0 r => aN r <| aAgg a0 fun c0 => y5l c0 fun xv => aN H <| So (m_ xv) fun x => K (vb x) []
def yc5 (m_ : Y36) : Spec := ⟨y6o m_, (true : Bool)⟩
abbrev Y34 := yb → Option Int
def y8m (m_ : Y34) (args : List V) (H : Heap) (K : V → Heap → Prop) : Prop :=
  aC args fun a0 r => aN r <| aAgg a0 fun c0 => y26 c0 fun c => aN H <| So (m_ c) fun x => K (vi x) []
def y6v (m_ : Y34) : Spec := ⟨y8m m_, (true : Bool)⟩
abbrev Y28 := yb → Option (ye × Int)
def y79 (m_ : Y28) (args : List V) (H : Heap) (K : V → Heap → Prop) : Prop :=
  aC args fun a0 r => aN r <| aAgg a0 fun c0 => y26 c0 fun c => aN H <| So (m_ c) fun x => K (.tup [.agg (yk x.1), vi x.2]) []
def y7k (m_ : Y28) : Spec := ⟨y79 m_, (true : Bool)⟩
def yap  : Cfg := { cfgB with
  sigs := sigN }
def yaq  : Cfg := { cfgB with
  sigs := sigN }
def ycq  : Cfg := { cfgB with
  sigs := sigN }
def yag  : Cfg := { cfgB with
  sigs := sigN }
def yd9  : Cfg := { cfgB with
  sigs := sigN }
def yc9 (y38 : Y35) : Cfg := { cfgB with
  sigs := (sigC 105 (yai y38) sigN) }
def yc8  : Cfg := { cfgB with
  sigs := sigN }
def ybs (y0v : Y36) : Cfg := { cfgB with
  sigs := (sigC 57 (yc5 y0v) sigN),
  keep := fun r => match r with | 2 => some [(38, some 38), (39, none), (40, none)] | _ => none,
  unroll := fun r => match r with | 2 => some 12 | _ => none }
def ya8 (y1n : Y34) (y2j : Y2) : Cfg := { cfgB with
  sigs := (sigC 25 (y6v y1n) (sigC 68 (yd1 y2j) sigN)),
  keep := fun r => match r with | 8 => some [(1, none), (2, none), (5, none), (6, none), (23, some 0), (24, none), (25, none)] | 19 => some [(2, none), (5, none), (6, none), (9, none), (59, none)] | _ => none,
  unroll := fun r => match r with | 8 => some 6 | 19 => some 12 | _ => none }
theorem yf2 (l2 : ye) (K : V → Heap → Prop) : (exF yap Try.f40 [.agg (yk l2)] [] K) = (
    K (.agg (yl l2.c)) []) := by kernel_rfl
theorem yiu (l2 : ye) (K : V → Heap → Prop) : (exF yaq Try.f24 [.agg (yk l2)] [] K) = (
    K (vi l2.at_11) []) := by kernel_rfl
theorem yeo (l2 : ye) (K : V → Heap → Prop) : (exF ycq Try.f23 [.agg (yk l2)] [] K) = (
    K (vi l2.at_10) []) := by kernel_rfl
theorem yff (pages : Int) (K : V → Heap → Prop) : (exF yag Try.f68 [vi pages] [] K) = (
    K (vi (IntKind.i64.wrap (Int.tdiv (IntKind.i64.wrap (IntKind.i64.wrap (pages + 4) - 1)) 4))) []) := by kernel_rfl
theorem yhu (l2 : ye) (a : Int) (K : V → Heap → Prop) : (exF yd9 Try.f105 [.agg (yk l2), vi a] [] K) = (
    br (decide (a ≥ l2.at_10)) (K (vb (decide (a < l2.at_11))) []) (K (vb false) [])) := by kernel_rfl
theorem ygq (y38 : Y35) (l2 : ye) (a : Int) (K : V → Heap → Prop) : (exF (yc9 y38) Try.f86 [.agg (yk l2), vi a] [] K) = (
    So (y38 l2 a) (fun (y0 : Bool) => (br (!y0) (K (.tup [vi 0, vi 0, vb false]) []) (K (.tup [vi (IntKind.i64.wrap (Int.tdiv (IntKind.i64.wrap (a - l2.at_10)) 32)), vi (Int.tmod (IntKind.i64.wrap (a - l2.at_10)) 32), vb true]) [])))) := by kernel_rfl
theorem yg8 (xv : y0e) (K : V → Heap → Prop) : (exF yc8 Try.f57 [.agg (y8q xv)] [] K) = (
    br (decide (xv.n ≥ xv.low)) (K (vb (decide (xv.n ≤ xv.high))) []) (K (vb false) [])) := by kernel_rfl
theorem ygw (y0v : Y36) (c : yb) (K : V → Heap → Prop) : (exF (ybs y0v) Try.f25 [.agg (yl c)] [] K) = (
    So (y0v (y0e.mk c.Workers 1 64)) (fun (y0 : Bool) => (br (!y0) (K (vi 2) []) (So (y0v (y0e.mk c.CPUs 1 8)) (fun (y1 : Bool) => (br (!y1) (K (vi 2) []) (So (y0v (y0e.mk c.Pages 1 256)) (fun (y2 : Bool) => (br (!y2) (K (vi 2) []) (So (y0v (y0e.mk c.Stripes 1 64)) (fun (y3 : Bool) => (br (!y3) (K (vi 2) []) (So (y0v (y0e.mk c.Tries 0 16)) (fun (y4 : Bool) => (br (!y4) (K (vi 2) []) (So (y0v (y0e.mk c.Wait 0 64)) (fun (y5 : Bool) => (br (!y5) (K (vi 2) []) (So (y0v (y0e.mk c.Clock 1 1099511627776)) (fun (y6 : Bool) => (br (!y6) (K (vi 2) []) (So (y0v (y0e.mk c.Private 1 8)) (fun (y7 : Bool) => (br (!y7) (K (vi 2) []) (So (y0v (y0e.mk c.Cache 0 8)) (fun (y8 : Bool) => (br (!y8) (K (vi 2) []) (So (y0v (y0e.mk c.Bin 0 16)) (fun (y9 : Bool) => (br (!y9) (K (vi 2) []) (So (y0v (y0e.mk c.Batch 1 8)) (fun (y10 : Bool) => (br (!y10) (K (vi 2) []) (K (vi 0) [])))))))))))))))))))))))))))))))))) := by kernel_rfl
theorem yf1 (y1n : Y34) (y2j : Y2) (c : yb) (K : V → Heap → Prop) : (exF (ya8 y1n y2j) Try.f31 [.agg (yl c)] [] K) = (
    So (y1n c) (fun (y0 : Int) => (br (y0 != 0) (K (.tup [.agg [vi 0, vi 0, vi 0, vi 0, vi 0, vi 0, vi 0, vi 0, vi 0, vi 0, vi 0, vi 0, vi 0, vi 0, vi 0, vi 0, vi 0, vi 0, vi 0, vi 0, vi 0, vi 0, vi 0], vi y0]) []) (So (y2j c.Pages) (fun (y1 : Int) => (K (.tup [.agg (yl c ++ [vi (IntKind.i64.wrap (3 + c.Stripes)), vi (IntKind.i64.wrap (IntKind.i64.wrap (3 + c.Stripes) + y1)), vi (IntKind.i64.wrap (IntKind.i64.wrap (IntKind.i64.wrap (3 + c.Stripes) + y1) + c.Pages)), vi (IntKind.i64.wrap (IntKind.i64.wrap (IntKind.i64.wrap (IntKind.i64.wrap (3 + c.Stripes) + y1) + c.Pages) + c.Pages)), vi (IntKind.i64.wrap (IntKind.i64.wrap (IntKind.i64.wrap (IntKind.i64.wrap (IntKind.i64.wrap (3 + c.Stripes) + y1) + c.Pages) + c.Pages) + c.Pages)), vi (IntKind.i64.wrap (IntKind.i64.wrap (IntKind.i64.wrap (IntKind.i64.wrap (IntKind.i64.wrap (IntKind.i64.wrap (3 + c.Stripes) + y1) + c.Pages) + c.Pages) + c.Pages) + c.Pages)), vi (IntKind.i64.wrap (IntKind.i64.wrap (IntKind.i64.wrap (IntKind.i64.wrap (IntKind.i64.wrap (IntKind.i64.wrap (IntKind.i64.wrap (3 + c.Stripes) + y1) + c.Pages) + c.Pages) + c.Pages) + c.Pages) + c.Pages)), vi (IntKind.i64.wrap (IntKind.i64.wrap (IntKind.i64.wrap (IntKind.i64.wrap (IntKind.i64.wrap (IntKind.i64.wrap (IntKind.i64.wrap (IntKind.i64.wrap (3 + c.Stripes) + y1) + c.Pages) + c.Pages) + c.Pages) + c.Pages) + c.Pages) + 62)), vi (IntKind.i64.wrap (IntKind.i64.wrap (IntKind.i64.wrap (IntKind.i64.wrap (IntKind.i64.wrap (IntKind.i64.wrap (IntKind.i64.wrap (IntKind.i64.wrap (IntKind.i64.wrap (3 + c.Stripes) + y1) + c.Pages) + c.Pages) + c.Pages) + c.Pages) + c.Pages) + 62) + IntKind.i64.wrap (IntKind.i64.wrap (c.CPUs * 5) * IntKind.i64.wrap (c.Cache + 1)))), vi (IntKind.i64.wrap (IntKind.i64.wrap (IntKind.i64.wrap (IntKind.i64.wrap (IntKind.i64.wrap (IntKind.i64.wrap (IntKind.i64.wrap (IntKind.i64.wrap (IntKind.i64.wrap (IntKind.i64.wrap (3 + c.Stripes) + y1) + c.Pages) + c.Pages) + c.Pages) + c.Pages) + c.Pages) + 62) + IntKind.i64.wrap (IntKind.i64.wrap (c.CPUs * 5) * IntKind.i64.wrap (c.Cache + 1))) + IntKind.i64.wrap (5 * IntKind.i64.wrap (c.Bin + 1)))), vi (IntKind.i64.wrap (IntKind.i64.wrap (Int.tdiv (IntKind.i64.wrap (IntKind.i64.wrap (IntKind.i64.wrap (IntKind.i64.wrap (IntKind.i64.wrap (IntKind.i64.wrap (IntKind.i64.wrap (IntKind.i64.wrap (IntKind.i64.wrap (IntKind.i64.wrap (IntKind.i64.wrap (IntKind.i64.wrap (IntKind.i64.wrap (3 + c.Stripes) + y1) + c.Pages) + c.Pages) + c.Pages) + c.Pages) + c.Pages) + 62) + IntKind.i64.wrap (IntKind.i64.wrap (c.CPUs * 5) * IntKind.i64.wrap (c.Cache + 1))) + IntKind.i64.wrap (5 * IntKind.i64.wrap (c.Bin + 1))) + IntKind.i64.wrap (c.Pages * 32)) + 128) - 1)) 128) * 128)), vi (IntKind.i64.wrap (IntKind.i64.wrap (IntKind.i64.wrap (Int.tdiv (IntKind.i64.wrap (IntKind.i64.wrap (IntKind.i64.wrap (IntKind.i64.wrap (IntKind.i64.wrap (IntKind.i64.wrap (IntKind.i64.wrap (IntKind.i64.wrap (IntKind.i64.wrap (IntKind.i64.wrap (IntKind.i64.wrap (IntKind.i64.wrap (IntKind.i64.wrap (3 + c.Stripes) + y1) + c.Pages) + c.Pages) + c.Pages) + c.Pages) + c.Pages) + 62) + IntKind.i64.wrap (IntKind.i64.wrap (c.CPUs * 5) * IntKind.i64.wrap (c.Cache + 1))) + IntKind.i64.wrap (5 * IntKind.i64.wrap (c.Bin + 1))) + IntKind.i64.wrap (c.Pages * 32)) + 128) - 1)) 128) * 128) + IntKind.i64.wrap (c.Pages * 32)))]), vi 0]) [])))))) := by kernel_rfl
def y1i (l2 : ye) : Option yb :=
  some l2.c
def y0j (l2 : ye) : Option Int :=
  some l2.at_11
def ym (l2 : ye) : Option Int :=
  some l2.at_10
def y2j (pages : Int) : Option Int :=
  some (IntKind.i64.wrap (Int.tdiv (IntKind.i64.wrap (IntKind.i64.wrap (pages + 4) - 1)) 4))
def y38 (l2 : ye) (a : Int) : Option Bool :=
  (bif (decide (a ≥ l2.at_10)) then some (decide (a < l2.at_11)) else some false)
def yq (l2 : ye) (a : Int) : Option (Int × Int × Bool) :=
  ((y38 l2 a).bind fun y0 => (bif (!y0) then some (0, 0, false) else some ((IntKind.i64.wrap (Int.tdiv (IntKind.i64.wrap (a - l2.at_10)) 32)), (Int.tmod (IntKind.i64.wrap (a - l2.at_10)) 32), true)))
def y0v (xv : y0e) : Option Bool :=
  (bif (decide (xv.n ≥ xv.low)) then some (decide (xv.n ≤ xv.high)) else some false)
def y1n (c : yb) : Option Int :=
  ((y0v (y0e.mk c.Workers 1 64)).bind fun y0 => (bif (!y0) then some 2 else ((y0v (y0e.mk c.CPUs 1 8)).bind fun y1 => (bif (!y1) then some 2 else ((y0v (y0e.mk c.Pages 1 256)).bind fun y2 => (bif (!y2) then some 2 else ((y0v (y0e.mk c.Stripes 1 64)).bind fun y3 => (bif (!y3) then some 2 else ((y0v (y0e.mk c.Tries 0 16)).bind fun y4 => (bif (!y4) then some 2 else ((y0v (y0e.mk c.Wait 0 64)).bind fun y5 => (bif (!y5) then some 2 else ((y0v (y0e.mk c.Clock 1 1099511627776)).bind fun y6 => (bif (!y6) then some 2 else ((y0v (y0e.mk c.Private 1 8)).bind fun y7 => (bif (!y7) then some 2 else ((y0v (y0e.mk c.Cache 0 8)).bind fun y8 => (bif (!y8) then some 2 else ((y0v (y0e.mk c.Bin 0 16)).bind fun y9 => (bif (!y9) then some 2 else ((y0v (y0e.mk c.Batch 1 8)).bind fun y10 => (bif (!y10) then some 2 else some 0))))))))))))))))))))))
def y1q (c : yb) : Option (ye × Int) :=
  ((y1n c).bind fun y0 => (bif (y0 != 0) then some ((ye.mk (yb.mk 0 0 0 0 0 0 0 0 0 0 0) 0 0 0 0 0 0 0 0 0 0 0 0), y0) else ((y2j c.Pages).bind fun y1 => some ((ye.mk c (IntKind.i64.wrap (3 + c.Stripes)) (IntKind.i64.wrap (IntKind.i64.wrap (3 + c.Stripes) + y1)) (IntKind.i64.wrap (IntKind.i64.wrap (IntKind.i64.wrap (3 + c.Stripes) + y1) + c.Pages)) (IntKind.i64.wrap (IntKind.i64.wrap (IntKind.i64.wrap (IntKind.i64.wrap (3 + c.Stripes) + y1) + c.Pages) + c.Pages)) (IntKind.i64.wrap (IntKind.i64.wrap (IntKind.i64.wrap (IntKind.i64.wrap (IntKind.i64.wrap (3 + c.Stripes) + y1) + c.Pages) + c.Pages) + c.Pages)) (IntKind.i64.wrap (IntKind.i64.wrap (IntKind.i64.wrap (IntKind.i64.wrap (IntKind.i64.wrap (IntKind.i64.wrap (3 + c.Stripes) + y1) + c.Pages) + c.Pages) + c.Pages) + c.Pages)) (IntKind.i64.wrap (IntKind.i64.wrap (IntKind.i64.wrap (IntKind.i64.wrap (IntKind.i64.wrap (IntKind.i64.wrap (IntKind.i64.wrap (3 + c.Stripes) + y1) + c.Pages) + c.Pages) + c.Pages) + c.Pages) + c.Pages)) (IntKind.i64.wrap (IntKind.i64.wrap (IntKind.i64.wrap (IntKind.i64.wrap (IntKind.i64.wrap (IntKind.i64.wrap (IntKind.i64.wrap (IntKind.i64.wrap (3 + c.Stripes) + y1) + c.Pages) + c.Pages) + c.Pages) + c.Pages) + c.Pages) + 62)) (IntKind.i64.wrap (IntKind.i64.wrap (IntKind.i64.wrap (IntKind.i64.wrap (IntKind.i64.wrap (IntKind.i64.wrap (IntKind.i64.wrap (IntKind.i64.wrap (IntKind.i64.wrap (3 + c.Stripes) + y1) + c.Pages) + c.Pages) + c.Pages) + c.Pages) + c.Pages) + 62) + IntKind.i64.wrap (IntKind.i64.wrap (c.CPUs * 5) * IntKind.i64.wrap (c.Cache + 1)))) (IntKind.i64.wrap (IntKind.i64.wrap (IntKind.i64.wrap (IntKind.i64.wrap (IntKind.i64.wrap (IntKind.i64.wrap (IntKind.i64.wrap (IntKind.i64.wrap (IntKind.i64.wrap (IntKind.i64.wrap (3 + c.Stripes) + y1) + c.Pages) + c.Pages) + c.Pages) + c.Pages) + c.Pages) + 62) + IntKind.i64.wrap (IntKind.i64.wrap (c.CPUs * 5) * IntKind.i64.wrap (c.Cache + 1))) + IntKind.i64.wrap (5 * IntKind.i64.wrap (c.Bin + 1)))) (IntKind.i64.wrap (IntKind.i64.wrap (Int.tdiv (IntKind.i64.wrap (IntKind.i64.wrap (IntKind.i64.wrap (IntKind.i64.wrap (IntKind.i64.wrap (IntKind.i64.wrap (IntKind.i64.wrap (IntKind.i64.wrap (IntKind.i64.wrap (IntKind.i64.wrap (IntKind.i64.wrap (IntKind.i64.wrap (IntKind.i64.wrap (3 + c.Stripes) + y1) + c.Pages) + c.Pages) + c.Pages) + c.Pages) + c.Pages) + 62) + IntKind.i64.wrap (IntKind.i64.wrap (c.CPUs * 5) * IntKind.i64.wrap (c.Cache + 1))) + IntKind.i64.wrap (5 * IntKind.i64.wrap (c.Bin + 1))) + IntKind.i64.wrap (c.Pages * 32)) + 128) - 1)) 128) * 128)) (IntKind.i64.wrap (IntKind.i64.wrap (IntKind.i64.wrap (Int.tdiv (IntKind.i64.wrap (IntKind.i64.wrap (IntKind.i64.wrap (IntKind.i64.wrap (IntKind.i64.wrap (IntKind.i64.wrap (IntKind.i64.wrap (IntKind.i64.wrap (IntKind.i64.wrap (IntKind.i64.wrap (IntKind.i64.wrap (IntKind.i64.wrap (IntKind.i64.wrap (3 + c.Stripes) + y1) + c.Pages) + c.Pages) + c.Pages) + c.Pages) + c.Pages) + 62) + IntKind.i64.wrap (IntKind.i64.wrap (c.CPUs * 5) * IntKind.i64.wrap (c.Cache + 1))) + IntKind.i64.wrap (5 * IntKind.i64.wrap (c.Bin + 1))) + IntKind.i64.wrap (c.Pages * 32)) + 128) - 1)) 128) * 128) + IntKind.i64.wrap (c.Pages * 32)))), 0))))
attribute [local irreducible] Loop ex exF contK roundK retK at_ bodyOf mkEnv
theorem y8c : SpecOK Try.prog elTT 40 (y57 y1i) := by
  refine spec_of_exF (cfg := yap) (yn rfl rfl rfl) yp (fn := Try.f40) (by kernel_rfl) (by kernel_rfl) (by kernel_rfl) ?_
  intro args H K h
  change y5y y1i args H K at h
  unfold y5y at h
  repeat first | (obtain ⟨_, h⟩ := h) | replace h := Des.el h
  subst_vars
  refine Eq.mpr (yf2 _ K) ?_
  unfold y1i at h
  revert h
  exact fun h => h
theorem ya1 : SpecOK Try.prog elTT 24 (y8p y0j) := by
  refine spec_of_exF (cfg := yaq) (yn rfl rfl rfl) yp (fn := Try.f24) (by kernel_rfl) (by kernel_rfl) (by kernel_rfl) ?_
  intro args H K h
  change y7o y0j args H K at h
  unfold y7o at h
  repeat first | (obtain ⟨_, h⟩ := h) | replace h := Des.el h
  subst_vars
  refine Eq.mpr (yiu _ K) ?_
  unfold y0j at h
  revert h
  exact fun h => h
theorem y3x : SpecOK Try.prog elTT 23 (y2a ym) := by
  refine spec_of_exF (cfg := ycq) (yn rfl rfl rfl) yp (fn := Try.f23) (by kernel_rfl) (by kernel_rfl) (by kernel_rfl) ?_
  intro args H K h
  change y6c ym args H K at h
  unfold y6c at h
  repeat first | (obtain ⟨_, h⟩ := h) | replace h := Des.el h
  subst_vars
  refine Eq.mpr (yeo _ K) ?_
  unfold ym at h
  revert h
  exact fun h => h
theorem yjc : SpecOK Try.prog elTT 68 (yd1 y2j) := by
  refine spec_of_exF (cfg := yag) (yn rfl rfl rfl) yp (fn := Try.f68) (by kernel_rfl) (by kernel_rfl) (by kernel_rfl) ?_
  intro args H K h
  change y9l y2j args H K at h
  unfold y9l at h
  repeat first | (obtain ⟨_, h⟩ := h) | replace h := Des.el h
  subst_vars
  refine Eq.mpr (yff _ K) ?_
  unfold y2j at h
  revert h
  exact fun h => h
theorem yji : SpecOK Try.prog elTT 105 (yai y38) := by
  refine spec_of_exF (cfg := yd9) (yn rfl rfl rfl) yp (fn := Try.f105) (by kernel_rfl) (by kernel_rfl) (by kernel_rfl) ?_
  intro args H K h
  change y6w y38 args H K at h
  unfold y6w at h
  repeat first | (obtain ⟨_, h⟩ := h) | replace h := Des.el h
  subst_vars
  refine Eq.mpr (yhu _ _ K) ?_
  unfold y38 at h
  revert h
  exact br_So (fun h => h) (fun h => h)
theorem y4w : SpecOK Try.prog elTT 86 (y2w yq) := by
  refine spec_of_exF (cfg := (yc9 y38)) (yn rfl rfl rfl) (yj yji yp) (fn := Try.f86) (by kernel_rfl) (by kernel_rfl) (by kernel_rfl) ?_
  intro args H K h
  change y5s yq args H K at h
  unfold y5s at h
  repeat first | (obtain ⟨_, h⟩ := h) | replace h := Des.el h
  subst_vars
  refine Eq.mpr (ygq y38 _ _ K) ?_
  unfold yq at h
  revert h
  exact bind_So fun y0 => br_So (fun h => h) (fun h => h)
theorem yhy : SpecOK Try.prog elTT 57 (yc5 y0v) := by
  refine spec_of_exF (cfg := yc8) (yn rfl rfl rfl) yp (fn := Try.f57) (by kernel_rfl) (by kernel_rfl) (by kernel_rfl) ?_
  intro args H K h
  change y6o y0v args H K at h
  unfold y6o at h
  repeat first | (obtain ⟨_, h⟩ := h) | replace h := Des.el h
  subst_vars
  refine Eq.mpr (yg8 _ K) ?_
  unfold y0v at h
  revert h
  exact br_So (fun h => h) (fun h => h)
theorem ybu : SpecOK Try.prog elTT 25 (y6v y1n) := by
  refine spec_of_exF (cfg := (ybs y0v)) (yn rfl rfl rfl) (yj yhy yp) (fn := Try.f25) (by kernel_rfl) (by kernel_rfl) (by kernel_rfl) ?_
  intro args H K h
  change y8m y1n args H K at h
  unfold y8m at h
  repeat first | (obtain ⟨_, h⟩ := h) | replace h := Des.el h
  subst_vars
  refine Eq.mpr (ygw y0v _ K) ?_
  unfold y1n at h
  revert h
  exact bind_So fun y0 => br_So (fun h => h) (bind_So fun y1 => br_So (fun h => h) (bind_So fun y2 => br_So (fun h => h) (bind_So fun y3 => br_So (fun h => h) (bind_So fun y4 => br_So (fun h => h) (bind_So fun y5 => br_So (fun h => h) (bind_So fun y6 => br_So (fun h => h) (bind_So fun y7 => br_So (fun h => h) (bind_So fun y8 => br_So (fun h => h) (bind_So fun y9 => br_So (fun h => h) (bind_So fun y10 => br_So (fun h => h) (fun h => h)))))))))))
theorem yea : SpecOK Try.prog elTT 31 (y7k y1q) := by
  refine spec_of_exF (cfg := (ya8 y1n y2j)) (yn rfl rfl rfl) (yj ybu (yj yjc yp)) (fn := Try.f31) (by kernel_rfl) (by kernel_rfl) (by kernel_rfl) ?_
  intro args H K h
  change y79 y1q args H K at h
  unfold y79 at h
  repeat first | (obtain ⟨_, h⟩ := h) | replace h := Des.el h
  subst_vars
  refine Eq.mpr (yf1 y1n y2j _ K) ?_
  unfold y1q at h
  revert h
  exact bind_So fun y0 => br_So (fun h => h) (bind_So fun y1 => fun h => h)
end Go.Rx
end

section
namespace Go.Rx
open Go.Proofs
structure RightC (c : yb) : Prop where
  workers : 1 ≤ c.Workers ∧ c.Workers ≤ 64
  cpus : 1 ≤ c.CPUs ∧ c.CPUs ≤ 8
  pages : 1 ≤ c.Pages ∧ c.Pages ≤ 256
  stripes : 1 ≤ c.Stripes ∧ c.Stripes ≤ 64
  tries : 0 ≤ c.Tries ∧ c.Tries ≤ 16
  wait : 0 ≤ c.Wait ∧ c.Wait ≤ 64
  clock : 1 ≤ c.Clock ∧ c.Clock ≤ 1099511627776
  private_ : 1 ≤ c.Private ∧ c.Private ≤ 8
  cache : 0 ≤ c.Cache ∧ c.Cache ≤ 8
  bin : 0 ≤ c.Bin ∧ c.Bin ≤ 16
  batch : 1 ≤ c.Batch ∧ c.Batch ≤ 8
instance (c : yb) : Decidable (RightC c) :=
  decidable_of_iff ((1 ≤ c.Workers ∧ c.Workers ≤ 64) ∧ (1 ≤ c.CPUs ∧ c.CPUs ≤ 8) ∧ (1 ≤ c.Pages ∧ c.Pages ≤ 256) ∧ (1 ≤ c.Stripes ∧ c.Stripes ≤ 64) ∧ (0 ≤ c.Tries ∧ c.Tries ≤ 16) ∧ (0 ≤ c.Wait ∧ c.Wait ≤ 64) ∧
    (1 ≤ c.Clock ∧ c.Clock ≤ 1099511627776) ∧ (1 ≤ c.Private ∧ c.Private ≤ 8) ∧ (0 ≤ c.Cache ∧ c.Cache ≤ 8) ∧ (0 ≤ c.Bin ∧ c.Bin ≤ 16) ∧ (1 ≤ c.Batch ∧ c.Batch ≤ 8))
    ⟨fun ⟨a, b, d, e, f, g, h, i, j, k, l⟩ => ⟨a, b, d, e, f, g, h, i, j, k, l⟩, fun ⟨a, b, d, e, f, g, h, i, j, k, l⟩ => ⟨a, b, d, e, f, g, h, i, j, k, l⟩⟩
theorem holds_eq (x : y0e) : y0v x = some (decide (x.low ≤ x.n ∧ x.n ≤ x.high)) := by
  unfold y0v
  by_cases a : x.low ≤ x.n <;> by_cases b : x.n ≤ x.high <;> simp [a, b]
theorem Check_eq (c : yb) : y1n c = some (if RightC c then 0 else 2) := by
  unfold y1n
  simp only [holds_eq, Option.bind_some]
  by_cases h : RightC c
  · obtain ⟨a, b, d, e, f, g, h', i, j, k, l⟩ := h
    have hR : RightC c := ⟨a, b, d, e, f, g, h', i, j, k, l⟩
    simp [a, b, d, e, f, g, h', i, j, k, l, hR]
  · rw [if_neg h]
    by_cases a : 1 ≤ c.Workers ∧ c.Workers ≤ 64
    case neg => rw [decide_eq_false a]; rfl
    rw [decide_eq_true a]; simp only [Bool.not_true, cond_false]
    by_cases b : 1 ≤ c.CPUs ∧ c.CPUs ≤ 8
    case neg => rw [decide_eq_false b]; rfl
    rw [decide_eq_true b]; simp only [Bool.not_true, cond_false]
    by_cases d : 1 ≤ c.Pages ∧ c.Pages ≤ 256
    case neg => rw [decide_eq_false d]; rfl
    rw [decide_eq_true d]; simp only [Bool.not_true, cond_false]
    by_cases e : 1 ≤ c.Stripes ∧ c.Stripes ≤ 64
    case neg => rw [decide_eq_false e]; rfl
    rw [decide_eq_true e]; simp only [Bool.not_true, cond_false]
    by_cases f : 0 ≤ c.Tries ∧ c.Tries ≤ 16
    case neg => rw [decide_eq_false f]; rfl
    rw [decide_eq_true f]; simp only [Bool.not_true, cond_false]
    by_cases g : 0 ≤ c.Wait ∧ c.Wait ≤ 64
    case neg => rw [decide_eq_false g]; rfl
    rw [decide_eq_true g]; simp only [Bool.not_true, cond_false]
    by_cases h' : 1 ≤ c.Clock ∧ c.Clock ≤ 1099511627776
    case neg => rw [decide_eq_false h']; rfl
    rw [decide_eq_true h']; simp only [Bool.not_true, cond_false]
    by_cases i : 1 ≤ c.Private ∧ c.Private ≤ 8
    case neg => rw [decide_eq_false i]; rfl
    rw [decide_eq_true i]; simp only [Bool.not_true, cond_false]
    by_cases j : 0 ≤ c.Cache ∧ c.Cache ≤ 8
    case neg => rw [decide_eq_false j]; rfl
    rw [decide_eq_true j]; simp only [Bool.not_true, cond_false]
    by_cases k : 0 ≤ c.Bin ∧ c.Bin ≤ 16
    case neg => rw [decide_eq_false k]; rfl
    rw [decide_eq_true k]; simp only [Bool.not_true, cond_false]
    by_cases l : 1 ≤ c.Batch ∧ c.Batch ≤ 8
    case neg => rw [decide_eq_false l]; rfl
    rw [decide_eq_true l]; simp only [Bool.not_true, cond_false]
    exact (h ⟨a, b, d, e, f, g, h', i, j, k, l⟩).elim
def layC (c : yb) : ye :=
  let a0 := 3 + c.Stripes
  let a1 := a0 + (c.Pages + 3) / 4
  let a6 := a1 + 5 * c.Pages
  let a7 := a6 + 62
  let a8 := a7 + c.CPUs * 5 * (c.Cache + 1)
  let a9 := a8 + 5 * (c.Bin + 1)
  let a10 := (a9 + c.Pages * 32 + 127) / 128 * 128
  ⟨c, a0, a1, a1 + c.Pages, a1 + 2 * c.Pages, a1 + 3 * c.Pages, a1 + 4 * c.Pages, a6, a7, a8, a9, a10, a10 + c.Pages * 32⟩
def cOf (L : ye) : yb := L.c
theorem prodC {c : yb} (h : RightC c) : 5 ≤ c.CPUs * 5 * (c.Cache + 1) ∧ c.CPUs * 5 * (c.Cache + 1) ≤ 360 := by
  obtain ⟨h1, h2⟩ := h.cpus
  obtain ⟨h3, h4⟩ := h.cache
  have e : c.CPUs = 1 ∨ c.CPUs = 2 ∨ c.CPUs = 3 ∨ c.CPUs = 4 ∨ c.CPUs = 5 ∨ c.CPUs = 6 ∨ c.CPUs = 7 ∨ c.CPUs = 8 := by omega
  rcases e with e | e | e | e | e | e | e | e <;> rw [e] <;> omega
theorem chunks_eq {p : Int} (h : 0 ≤ p ∧ p ≤ 1000000) : y2j p = some ((p + 3) / 4) := by
  unfold y2j
  rw [wrap_id (x := p + 4) (by omega) (by omega), wrap_id (x := p + 4 - 1) (by omega) (by omega), Int.tdiv_eq_ediv_of_nonneg (by omega), wrap_id (by omega) (by omega)]
  congr 2; omega
theorem Of_eq (c : yb) : y1q c = some (if RightC c then (layC c, 0) else (⟨⟨0,0,0,0,0,0,0,0,0,0,0⟩,0,0,0,0,0,0,0,0,0,0,0,0⟩, 2)) := by
  unfold y1q
  rw [Check_eq]
  by_cases h : RightC c
  · simp only [if_pos h, Option.bind_some]
    rw [chunks_eq (by have := h.pages; omega)]
    have hp := prodC h
    have h1 := h.pages
    have h2 := h.stripes
    have h3 := h.cpus
    have h4 := h.cache
    have h5 := h.bin
    simp only [Option.bind_some, bne_self_eq_false, cond_false]
    have w5 : IntKind.i64.wrap (c.CPUs * 5) = c.CPUs * 5 := wrap_id (by omega) (by omega)
    have w6 : IntKind.i64.wrap (c.Cache + 1) = c.Cache + 1 := wrap_id (by omega) (by omega)
    have w7 : IntKind.i64.wrap (c.CPUs * 5 * (c.Cache + 1)) = c.CPUs * 5 * (c.Cache + 1) := wrap_id (by omega) (by omega)
    rw [w5, w6, w7]
    unfold layC
    generalize c.CPUs * 5 * (c.Cache + 1) = q at *
    simp (disch := omega) only [wrap_id, Int.tdiv_eq_ediv_of_nonneg]
    congr 2
    simp only [ye.mk.injEq, true_and]
    refine ⟨?_, ?_, ?_, ?_, ?_, ?_, ?_, ?_, ?_⟩ <;> omega
  · simp only [if_neg h, Option.bind_some]
    rfl
structure LayOK (L : ye) : Prop where
  cpus : 1 ≤ L.c.CPUs ∧ L.c.CPUs ≤ 8
  pages : 1 ≤ L.c.Pages ∧ L.c.Pages ≤ 256
  stripes : 1 ≤ L.c.Stripes ∧ L.c.Stripes ≤ 64
  private_ : 1 ≤ L.c.Private ∧ L.c.Private ≤ 8
  cache : 0 ≤ L.c.Cache ∧ L.c.Cache ≤ 8
  bin : 0 ≤ L.c.Bin ∧ L.c.Bin ≤ 16
  batch : 1 ≤ L.c.Batch ∧ L.c.Batch ≤ 8
  a0 : L.at_0 = 3 + L.c.Stripes
  a1 : L.at_1 = L.at_0 + (L.c.Pages + 3) / 4
  a2 : L.at_2 = L.at_1 + L.c.Pages
  a3 : L.at_3 = L.at_1 + 2 * L.c.Pages
  a4 : L.at_4 = L.at_1 + 3 * L.c.Pages
  a5 : L.at_5 = L.at_1 + 4 * L.c.Pages
  a6 : L.at_6 = L.at_1 + 5 * L.c.Pages
  a7 : L.at_7 = L.at_6 + 62
  a8 : L.at_8 = L.at_7 + L.c.CPUs * 5 * (L.c.Cache + 1)
  a8b : L.at_7 + 5 ≤ L.at_8 ∧ L.at_8 ≤ L.at_7 + 360
  a9 : L.at_9 = L.at_8 + 5 * (L.c.Bin + 1)
  a10 : L.at_10 = (L.at_9 + L.c.Pages * 32 + 127) / 128 * 128
  a11 : L.at_11 = L.at_10 + L.c.Pages * 32
theorem layC_ok {c : yb} (h : RightC c) : LayOK (layC c) := by
  have hp := prodC h
  refine ⟨h.cpus, h.pages, h.stripes, h.private_, h.cache, h.bin, h.batch, rfl, rfl, ?_, ?_, ?_, ?_, ?_, ?_, ?_, ?_, ?_, ?_, ?_⟩ <;> simp only [layC] <;> (try omega)
theorem Config_eq (L : ye) : y1i L = some (cOf L) := rfl
theorem Words_eq (L : ye) : y0j L = some L.at_11 := rfl
theorem User_eq (L : ye) : ym L = some L.at_10 := rfl
theorem LayOK.big {L : ye} (h : LayOK L) : 128 ≤ L.at_10 ∧ L.at_10 ≤ 20000 ∧ L.at_9 + L.c.Pages * 32 ≤ L.at_10 ∧ 0 ≤ L.at_9 := by
  have := h.pages; have := h.a0; have := h.stripes; have := h.a1; have := h.a6; have := h.a7; have h3 := h.a8b; have h4 := h.bin; have := h.a9; have := h.a10
  omega
theorem mine_eq {L : ye} (a : Int) : y38 L a = some (decide (L.at_10 ≤ a ∧ a < L.at_11)) := by
  unfold y38
  by_cases x : L.at_10 ≤ a <;> by_cases y : a < L.at_11 <;> simp [x, y]
def lPlace (L : ye) (a : Int) : Int × Int × Bool := if L.at_10 ≤ a ∧ a < L.at_11 then ((a - L.at_10) / 32, (a - L.at_10) % 32, true) else (0, 0, false)
theorem Place_eq {L : ye} (h : LayOK L) (a : Int) : yq L a = some (lPlace L a) := by
  unfold yq
  rw [mine_eq]
  have := h.big; have := h.a11; have := h.pages
  simp only [Option.bind_some, lPlace]
  by_cases x : L.at_10 ≤ a ∧ a < L.at_11
  · rw [decide_eq_true x, if_pos x, wrap_id (x := a - L.at_10) (by omega) (by omega), Int.tdiv_eq_ediv_of_nonneg (by omega), Int.tmod_eq_emod_of_nonneg (by omega), wrap_id (by omega) (by omega)]; rfl
  · rw [decide_eq_false x, if_neg x]; rfl
end Go.Rx
end

noncomputable section
namespace Go.Rx
open Go.Proofs
set_option maxRecDepth 100000
set_option maxHeartbeats 4000000
def y9k (m_ : Y2) (args : List V) (H : Heap) (K : V → Heap → Prop) : Prop :=
  aC args fun a0 r => aN r <| aInt a0 fun c => aN H <| So (m_ c) fun x => K (vi x) []
def yaa (m_ : Y2) : Spec := ⟨y9k m_, (true : Bool)⟩
def y9n (m_ : Y2) (args : List V) (H : Heap) (K : V → Heap → Prop) : Prop :=
  aC args fun a0 r => aN r <| aInt a0 fun n => aN H <| So (m_ n) fun x => K (vi x) []
def yd0 (m_ : Y2) : Spec := ⟨y9n m_, (true : Bool)⟩
def y64 (m_ : Y2) (args : List V) (H : Heap) (K : V → Heap → Prop) : Prop :=
  aC args fun a0 r => aN r <| aInt a0 fun n => aN H <| So (m_ n) fun x => K (vi x) []
def ycw (m_ : Y2) : Spec := ⟨y64 m_, (true : Bool)⟩
abbrev Y21 := Int → Option Bool
def y6u (m_ : Y21) (args : List V) (H : Heap) (K : V → Heap → Prop) : Prop :=
  aC args fun a0 r => aN r <| aInt a0 fun align => aN H <| So (m_ align) fun x => K (vb x) []
def ydn (m_ : Y21) : Spec := ⟨y6u m_, (true : Bool)⟩
abbrev Y5 := Int → Int → Option (Int × Int × Int × Int)
def y7n (m_ : Y5) (args : List V) (H : Heap) (K : V → Heap → Prop) : Prop :=
  aC args fun a0 r => aC r fun a1 r => aN r <| aInt a0 fun n => aInt a1 fun align => aN H <| So (m_ n align) fun x => K (.tup [vi x.1, vi x.2.1, vi x.2.2.1, vi x.2.2.2]) []
def y7v (m_ : Y5) : Spec := ⟨y7n m_, (true : Bool)⟩
abbrev Y18 := Int → Int → Option (Int × Int)
def y95 (m_ : Y18) (args : List V) (H : Heap) (K : V → Heap → Prop) : Prop :=
  aC args fun a0 r => aC r fun a1 r => aN r <| aInt a0 fun n => aInt a1 fun align => aN H <| So (m_ n align) fun x => K (.tup [vi x.1, vi x.2]) []
def yay (m_ : Y18) : Spec := ⟨y95 m_, (true : Bool)⟩
abbrev Y12 := yc → Option Int
def y60 (m_ : Y12) (args : List V) (H : Heap) (K : V → Heap → Prop) : Prop :=
  aC args fun a0 r => aN r <| aAgg a0 fun c0 => y1z c0 fun c => aN H <| So (m_ c) fun x => K (vi x) []
def ya3 (m_ : Y12) : Spec := ⟨y60 m_, (true : Bool)⟩
def y8e (m_ : Y12) (args : List V) (H : Heap) (K : V → Heap → Prop) : Prop :=
  aC args fun a0 r => aN r <| aAgg a0 fun c0 => y1z c0 fun c => aN H <| So (m_ c) fun x => K (vi x) []
def y89 (m_ : Y12) : Spec := ⟨y8e m_, (true : Bool)⟩
abbrev Y25 := ya → Option Bool
def y6g (m_ : Y25) (args : List V) (H : Heap) (K : V → Heap → Prop) : Prop :=
  aC args fun a0 r => aN r <| aAgg a0 fun c0 => y56 c0 fun sv => aN H <| So (m_ sv) fun x => K (vb x) []
def yck (m_ : Y25) : Spec := ⟨y6g m_, (true : Bool)⟩
def ydu  : Cfg := { cfgB with
  sigs := (sigC 108 (inlS ({ cfgB with sigs := (sigC 107 (inlS cfgB Try.f107) sigN) } : Cfg) Try.f108) sigN) }
def ye7  : Cfg := { cfgB with
  sigs := (sigC 108 (inlS ({ cfgB with sigs := (sigC 107 (inlS cfgB Try.f107) sigN) } : Cfg) Try.f108) sigN),
  keep := fun r => match r with | 2 => some [(0, none), (5, some 0), (6, none), (7, none)] | _ => none,
  unroll := fun r => match r with | 2 => some 6 | _ => none }
def ybm  : Cfg := { cfgB with
  sigs := sigN }
def yed  : Cfg := { cfgB with
  sigs := (sigC 107 (inlS cfgB Try.f107) sigN),
  keep := fun r => match r with | 2 => some [(0, none), (5, none), (6, none)] | _ => none,
  unroll := fun r => match r with | 2 => some 9 | _ => none }
def ycs (y2i : Y21) (y2z y3i : Y2) : Cfg := { cfgB with
  sigs := (sigC 96 (ydn y2i) (sigC 97 (yd0 y2z) (sigC 98 (ycw y3i) sigN))) }
def yci (y1h : Y5) (y3p : Y2) : Cfg := { cfgB with
  sigs := (sigC 71 (y7v y1h) (sigC 109 (yaa y3p) sigN)) }
def ydr  : Cfg := { cfgB with
  sigs := sigN }
def ybq (y1v : Y12) (y1h : Y5) : Cfg := { cfgB with
  sigs := (sigC 72 (ya3 y1v) (sigC 71 (y7v y1h) sigN)),
  plan := fun r => match r with | 6 => some (List.range 14, 0) | _ => none }
def y9y  : Cfg := { cfgB with
  sigs := sigN }
theorem yg9 (c : Int) (K : V → Heap → Prop) : (exF ydu Try.f109 [vi c] [] K) = (
    br (decide (c < 0)) (K (vi 0) []) (br (decide (c ≥ 5)) (K (vi 0) []) (Req (inR c (Int.toNat 5)) (br (c == (↑0 : Int)) (K (vi 1) []) (br (c == (↑1 : Int)) (K (vi 2) []) (br (c == (↑2 : Int)) (K (vi 4) []) (br (c == (↑3 : Int)) (K (vi 8) []) (br (c == (↑4 : Int)) (K (vi 16) []) True)))))))) := by kernel_rfl
theorem yez (n : Int) (K : V → Heap → Prop) : (exF ye7 Try.f97 [vi n] [] K) = (
    br (decide (1 ≥ n)) (K (vi 0) []) (br (decide (2 ≥ n)) (K (vi (IntKind.i64.wrap (0 + 1))) []) (br (decide (4 ≥ n)) (K (vi (IntKind.i64.wrap (IntKind.i64.wrap (0 + 1) + 1))) []) (br (decide (8 ≥ n)) (K (vi (IntKind.i64.wrap (IntKind.i64.wrap (IntKind.i64.wrap (0 + 1) + 1) + 1))) []) (br (decide (16 ≥ n)) (K (vi (IntKind.i64.wrap (IntKind.i64.wrap (IntKind.i64.wrap (IntKind.i64.wrap (0 + 1) + 1) + 1) + 1))) []) (K (vi (-1)) [])))))) := by kernel_rfl
theorem yi6 (n : Int) (K : V → Heap → Prop) : (exF ybm Try.f98 [vi n] [] K) = (
    br (decide (n < 1)) (K (vi 0) []) (K (vi (IntKind.i64.wrap (IntKind.i64.wrap (Int.tdiv (IntKind.i64.wrap (n - 1)) 32) + 1))) [])) := by kernel_rfl
theorem yho (align : Int) (K : V → Heap → Prop) : (exF yed Try.f96 [vi align] [] K) = (
    br (1 == align) (K (vb true) []) (br (2 == align) (K (vb true) []) (br (4 == align) (K (vb true) []) (br (8 == align) (K (vb true) []) (br (16 == align) (K (vb true) []) (br (32 == align) (K (vb true) []) (br (64 == align) (K (vb true) []) (br (128 == align) (K (vb true) []) (K (vb false) []))))))))) := by kernel_rfl
theorem yfv (y2i : Y21) (y2z y3i : Y2) (n align : Int) (K : V → Heap → Prop) : (exF (ycs y2i y2z y3i) Try.f71 [vi n, vi align] [] K) = (
    br (decide (n < 0)) (K (.tup [vi 0, vi 0, vi 0, vi 2]) []) (So (y2i align) (fun (y0 : Bool) => (br (!y0) (K (.tup [vi 0, vi 0, vi 0, vi 2]) []) (br (decide ((if align > n then align else n) ≤ (16 : Int))) (So (y2z (if align > n then align else n)) (fun (y1 : Int) => (K (.tup [vi y1, vi 0, vi 0, vi 0]) []))) (So (y3i (if (1 : Int) > n then (1 : Int) else n)) (fun (y2 : Int) => (K (.tup [vi (-1), vi y2, vi (if IntKind.i64.wrap (Int.tdiv align (32 : Int)) > (1 : Int) then IntKind.i64.wrap (Int.tdiv align (32 : Int)) else (1 : Int)), vi 0]) [])))))))) := by kernel_rfl
theorem yf6 (y1h : Y5) (y3p : Y2) (n align : Int) (K : V → Heap → Prop) : (exF (yci y1h y3p) Try.f100 [vi n, vi align] [] K) = (
    So (y1h n align) (fun (y0 : Int × Int × Int × Int) => (br (y0.2.2.2 != 0) (K (.tup [vi 0, vi y0.2.2.2]) []) (br (y0.1 != -1) (So (y3p y0.1) (fun (y1 : Int) => (K (.tup [vi y1, vi 0]) []))) (K (.tup [vi (IntKind.i64.wrap (y0.2.1 * 32)), vi 0]) []))))) := by kernel_rfl
theorem yeh (c : yc) (K : V → Heap → Prop) : (exF ydr Try.f72 [.agg (y0p c)] [] K) = (
    br (c.Kind == 5) (K (vi c.Align) []) (K (vi 1) [])) := by kernel_rfl
theorem yj6 (y1v : Y12) (y1h : Y5) (c : yc) (K : V → Heap → Prop) : (exF (ybq y1v y1h) Try.f35 [.agg (y0p c)] [] K) = (
    br (c.Kind == 1) (So (y1v c) (fun (y0 : Int) => (So (y1h c.Size y0) (fun (y1 : Int × Int × Int × Int) => (K (vi y1.2.2.2) []))))) (br (c.Kind == 3) (So (y1v c) (fun (y2 : Int) => (So (y1h c.Size y2) (fun (y3 : Int × Int × Int × Int) => (K (vi y3.2.2.2) []))))) (br (c.Kind == 4) (So (y1v c) (fun (y4 : Int) => (So (y1h c.Size y4) (fun (y5 : Int × Int × Int × Int) => (K (vi y5.2.2.2) []))))) (br (c.Kind == 5) (So (y1v c) (fun (y6 : Int) => (So (y1h c.Size y6) (fun (y7 : Int × Int × Int × Int) => (K (vi y7.2.2.2) []))))) (br (c.Kind == 2) (K (vi 0) []) (br (c.Kind == 6) (K (vi 0) []) (br (c.Kind == 7) (K (vi 0) []) (br (c.Kind == 8) (K (vi 0) []) (br (c.Kind == 9) (K (vi 0) []) (br (c.Kind == 10) (K (vi 0) []) (br (c.Kind == 11) (K (vi 0) []) (br (c.Kind == 12) (K (vi 0) []) (K (vi 2) []))))))))))))) := by kernel_rfl
theorem yjk (sv : ya) (K : V → Heap → Prop) : (exF y9y Try.f80 [.agg (y58 sv)] [] K) = (
    br (decide ((if sv.Used < if sv.Mapped < if sv.Open < if sv.Kept < if sv.Words < if sv.Asked < sv.Blocks then sv.Asked else sv.Blocks then sv.Words else if sv.Asked < sv.Blocks then sv.Asked else sv.Blocks then sv.Kept else if sv.Words < if sv.Asked < sv.Blocks then sv.Asked else sv.Blocks then sv.Words else if sv.Asked < sv.Blocks then sv.Asked else sv.Blocks then sv.Open else if sv.Kept < if sv.Words < if sv.Asked < sv.Blocks then sv.Asked else sv.Blocks then sv.Words else if sv.Asked < sv.Blocks then sv.Asked else sv.Blocks then sv.Kept else if sv.Words < if sv.Asked < sv.Blocks then sv.Asked else sv.Blocks then sv.Words else if sv.Asked < sv.Blocks then sv.Asked else sv.Blocks then sv.Mapped else if sv.Open < if sv.Kept < if sv.Words < if sv.Asked < sv.Blocks then sv.Asked else sv.Blocks then sv.Words else if sv.Asked < sv.Blocks then sv.Asked else sv.Blocks then sv.Kept else if sv.Words < if sv.Asked < sv.Blocks then sv.Asked else sv.Blocks then sv.Words else if sv.Asked < sv.Blocks then sv.Asked else sv.Blocks then sv.Open else if sv.Kept < if sv.Words < if sv.Asked < sv.Blocks then sv.Asked else sv.Blocks then sv.Words else if sv.Asked < sv.Blocks then sv.Asked else sv.Blocks then sv.Kept else if sv.Words < if sv.Asked < sv.Blocks then sv.Asked else sv.Blocks then sv.Words else if sv.Asked < sv.Blocks then sv.Asked else sv.Blocks then sv.Used else if sv.Mapped < if sv.Open < if sv.Kept < if sv.Words < if sv.Asked < sv.Blocks then sv.Asked else sv.Blocks then sv.Words else if sv.Asked < sv.Blocks then sv.Asked else sv.Blocks then sv.Kept else if sv.Words < if sv.Asked < sv.Blocks then sv.Asked else sv.Blocks then sv.Words else if sv.Asked < sv.Blocks then sv.Asked else sv.Blocks then sv.Open else if sv.Kept < if sv.Words < if sv.Asked < sv.Blocks then sv.Asked else sv.Blocks then sv.Words else if sv.Asked < sv.Blocks then sv.Asked else sv.Blocks then sv.Kept else if sv.Words < if sv.Asked < sv.Blocks then sv.Asked else sv.Blocks then sv.Words else if sv.Asked < sv.Blocks then sv.Asked else sv.Blocks then sv.Mapped else if sv.Open < if sv.Kept < if sv.Words < if sv.Asked < sv.Blocks then sv.Asked else sv.Blocks then sv.Words else if sv.Asked < sv.Blocks then sv.Asked else sv.Blocks then sv.Kept else if sv.Words < if sv.Asked < sv.Blocks then sv.Asked else sv.Blocks then sv.Words else if sv.Asked < sv.Blocks then sv.Asked else sv.Blocks then sv.Open else if sv.Kept < if sv.Words < if sv.Asked < sv.Blocks then sv.Asked else sv.Blocks then sv.Words else if sv.Asked < sv.Blocks then sv.Asked else sv.Blocks then sv.Kept else if sv.Words < if sv.Asked < sv.Blocks then sv.Asked else sv.Blocks then sv.Words else if sv.Asked < sv.Blocks then sv.Asked else sv.Blocks) < (0 : Int))) (K (vb false) []) (br (decide ((if sv.Kept > sv.Words then sv.Kept else sv.Words) > (35184372088832 : Int))) (K (vb false) []) (br (decide (sv.Used > 1099511627776)) (K (vb false) []) (br (decide (sv.Asked > sv.Words)) (K (vb false) []) (br (decide (sv.Blocks > sv.Words)) (K (vb false) []) (br (decide (sv.Used > sv.Mapped)) (K (vb false) []) (K (vb (IntKind.i64.wrap (sv.Words + sv.Kept) == IntKind.i64.wrap (IntKind.i64.wrap (sv.Used * 32) - sv.Open))) []))))))) := by kernel_rfl
def y3p (c : Int) : Option Int :=
  (bif (decide (c < 0)) then some 0 else (bif (decide (c ≥ 5)) then some 0 else (bif (inR c (Int.toNat 5)) then (bif (c == (↑0 : Int)) then some 1 else (bif (c == (↑1 : Int)) then some 2 else (bif (c == (↑2 : Int)) then some 4 else (bif (c == (↑3 : Int)) then some 8 else (bif (c == (↑4 : Int)) then some 16 else none))))) else none)))
def y2z (n : Int) : Option Int :=
  (bif (decide (1 ≥ n)) then some 0 else (bif (decide (2 ≥ n)) then some (IntKind.i64.wrap (0 + 1)) else (bif (decide (4 ≥ n)) then some (IntKind.i64.wrap (IntKind.i64.wrap (0 + 1) + 1)) else (bif (decide (8 ≥ n)) then some (IntKind.i64.wrap (IntKind.i64.wrap (IntKind.i64.wrap (0 + 1) + 1) + 1)) else (bif (decide (16 ≥ n)) then some (IntKind.i64.wrap (IntKind.i64.wrap (IntKind.i64.wrap (IntKind.i64.wrap (0 + 1) + 1) + 1) + 1)) else some (-1))))))
def y3i (n : Int) : Option Int :=
  (bif (decide (n < 1)) then some 0 else some (IntKind.i64.wrap (IntKind.i64.wrap (Int.tdiv (IntKind.i64.wrap (n - 1)) 32) + 1)))
def y2i (align : Int) : Option Bool :=
  (bif (1 == align) then some true else (bif (2 == align) then some true else (bif (4 == align) then some true else (bif (8 == align) then some true else (bif (16 == align) then some true else (bif (32 == align) then some true else (bif (64 == align) then some true else (bif (128 == align) then some true else some false))))))))
def y1h (n align : Int) : Option (Int × Int × Int × Int) :=
  (bif (decide (n < 0)) then some (0, 0, 0, 2) else ((y2i align).bind fun y0 => (bif (!y0) then some (0, 0, 0, 2) else (bif (decide ((if align > n then align else n) ≤ (16 : Int))) then ((y2z (if align > n then align else n)).bind fun y1 => some (y1, 0, 0, 0)) else ((y3i (if (1 : Int) > n then (1 : Int) else n)).bind fun y2 => some ((-1), y2, (if IntKind.i64.wrap (Int.tdiv align (32 : Int)) > (1 : Int) then IntKind.i64.wrap (Int.tdiv align (32 : Int)) else (1 : Int)), 0))))))
def y2r (n align : Int) : Option (Int × Int) :=
  ((y1h n align).bind fun y0 => (bif (y0.2.2.2 != 0) then some (0, y0.2.2.2) else (bif (y0.1 != -1) then ((y3p y0.1).bind fun y1 => some (y1, 0)) else some ((IntKind.i64.wrap (y0.2.1 * 32)), 0))))
def y1v (c : yc) : Option Int :=
  (bif (c.Kind == 5) then some c.Align else some 1)
def y22 (c : yc) : Option Int :=
  (bif (c.Kind == 1) then ((y1v c).bind fun y0 => ((y1h c.Size y0).bind fun y1 => some y1.2.2.2)) else (bif (c.Kind == 3) then ((y1v c).bind fun y2 => ((y1h c.Size y2).bind fun y3 => some y3.2.2.2)) else (bif (c.Kind == 4) then ((y1v c).bind fun y4 => ((y1h c.Size y4).bind fun y5 => some y5.2.2.2)) else (bif (c.Kind == 5) then ((y1v c).bind fun y6 => ((y1h c.Size y6).bind fun y7 => some y7.2.2.2)) else (bif (c.Kind == 2) then some 0 else (bif (c.Kind == 6) then some 0 else (bif (c.Kind == 7) then some 0 else (bif (c.Kind == 8) then some 0 else (bif (c.Kind == 9) then some 0 else (bif (c.Kind == 10) then some 0 else (bif (c.Kind == 11) then some 0 else (bif (c.Kind == 12) then some 0 else some 2))))))))))))
def y27 (sv : ya) : Option Bool :=
  (bif (decide ((if sv.Used < if sv.Mapped < if sv.Open < if sv.Kept < if sv.Words < if sv.Asked < sv.Blocks then sv.Asked else sv.Blocks then sv.Words else if sv.Asked < sv.Blocks then sv.Asked else sv.Blocks then sv.Kept else if sv.Words < if sv.Asked < sv.Blocks then sv.Asked else sv.Blocks then sv.Words else if sv.Asked < sv.Blocks then sv.Asked else sv.Blocks then sv.Open else if sv.Kept < if sv.Words < if sv.Asked < sv.Blocks then sv.Asked else sv.Blocks then sv.Words else if sv.Asked < sv.Blocks then sv.Asked else sv.Blocks then sv.Kept else if sv.Words < if sv.Asked < sv.Blocks then sv.Asked else sv.Blocks then sv.Words else if sv.Asked < sv.Blocks then sv.Asked else sv.Blocks then sv.Mapped else if sv.Open < if sv.Kept < if sv.Words < if sv.Asked < sv.Blocks then sv.Asked else sv.Blocks then sv.Words else if sv.Asked < sv.Blocks then sv.Asked else sv.Blocks then sv.Kept else if sv.Words < if sv.Asked < sv.Blocks then sv.Asked else sv.Blocks then sv.Words else if sv.Asked < sv.Blocks then sv.Asked else sv.Blocks then sv.Open else if sv.Kept < if sv.Words < if sv.Asked < sv.Blocks then sv.Asked else sv.Blocks then sv.Words else if sv.Asked < sv.Blocks then sv.Asked else sv.Blocks then sv.Kept else if sv.Words < if sv.Asked < sv.Blocks then sv.Asked else sv.Blocks then sv.Words else if sv.Asked < sv.Blocks then sv.Asked else sv.Blocks then sv.Used else if sv.Mapped < if sv.Open < if sv.Kept < if sv.Words < if sv.Asked < sv.Blocks then sv.Asked else sv.Blocks then sv.Words else if sv.Asked < sv.Blocks then sv.Asked else sv.Blocks then sv.Kept else if sv.Words < if sv.Asked < sv.Blocks then sv.Asked else sv.Blocks then sv.Words else if sv.Asked < sv.Blocks then sv.Asked else sv.Blocks then sv.Open else if sv.Kept < if sv.Words < if sv.Asked < sv.Blocks then sv.Asked else sv.Blocks then sv.Words else if sv.Asked < sv.Blocks then sv.Asked else sv.Blocks then sv.Kept else if sv.Words < if sv.Asked < sv.Blocks then sv.Asked else sv.Blocks then sv.Words else if sv.Asked < sv.Blocks then sv.Asked else sv.Blocks then sv.Mapped else if sv.Open < if sv.Kept < if sv.Words < if sv.Asked < sv.Blocks then sv.Asked else sv.Blocks then sv.Words else if sv.Asked < sv.Blocks then sv.Asked else sv.Blocks then sv.Kept else if sv.Words < if sv.Asked < sv.Blocks then sv.Asked else sv.Blocks then sv.Words else if sv.Asked < sv.Blocks then sv.Asked else sv.Blocks then sv.Open else if sv.Kept < if sv.Words < if sv.Asked < sv.Blocks then sv.Asked else sv.Blocks then sv.Words else if sv.Asked < sv.Blocks then sv.Asked else sv.Blocks then sv.Kept else if sv.Words < if sv.Asked < sv.Blocks then sv.Asked else sv.Blocks then sv.Words else if sv.Asked < sv.Blocks then sv.Asked else sv.Blocks) < (0 : Int))) then some false else (bif (decide ((if sv.Kept > sv.Words then sv.Kept else sv.Words) > (35184372088832 : Int))) then some false else (bif (decide (sv.Used > 1099511627776)) then some false else (bif (decide (sv.Asked > sv.Words)) then some false else (bif (decide (sv.Blocks > sv.Words)) then some false else (bif (decide (sv.Used > sv.Mapped)) then some false else some (IntKind.i64.wrap (sv.Words + sv.Kept) == IntKind.i64.wrap (IntKind.i64.wrap (sv.Used * 32) - sv.Open))))))))
attribute [local irreducible] Loop ex exF contK roundK retK at_ bodyOf mkEnv
theorem yh2 : SpecOK Try.prog elTT 109 (yaa y3p) := by
  refine spec_of_exF (cfg := ydu) (yn rfl rfl rfl) (yj (inlS_ok (cfg := { cfgB with sigs := (sigC 107 (inlS cfgB Try.f107) sigN) }) (yn rfl rfl rfl) (yj (inlS_ok (cfg := cfgB) (yn rfl rfl rfl) (nosig rfl) (by kernel_rfl) (by kernel_rfl) (by kernel_rfl)) yp) (by kernel_rfl) (by kernel_rfl) (by kernel_rfl)) yp) (fn := Try.f109) (by kernel_rfl) (by kernel_rfl) (by kernel_rfl) ?_
  intro args H K h
  change y9k y3p args H K at h
  unfold y9k at h
  repeat first | (obtain ⟨_, h⟩ := h) | replace h := Des.el h
  subst_vars
  refine Eq.mpr (yg9 _ K) ?_
  unfold y3p at h
  revert h
  exact br_So (fun h => h) (br_So (fun h => h) (req_So (br_So (fun h => h) (br_So (fun h => h) (br_So (fun h => h) (br_So (fun h => h) (br_So (fun h => h) (fun _ => trivial))))))))
theorem yhv : SpecOK Try.prog elTT 97 (yd0 y2z) := by
  refine spec_of_exF (cfg := ye7) (yn rfl rfl rfl) (yj (inlS_ok (cfg := { cfgB with sigs := (sigC 107 (inlS cfgB Try.f107) sigN) }) (yn rfl rfl rfl) (yj (inlS_ok (cfg := cfgB) (yn rfl rfl rfl) (nosig rfl) (by kernel_rfl) (by kernel_rfl) (by kernel_rfl)) yp) (by kernel_rfl) (by kernel_rfl) (by kernel_rfl)) yp) (fn := Try.f97) (by kernel_rfl) (by kernel_rfl) (by kernel_rfl) ?_
  intro args H K h
  change y9n y2z args H K at h
  unfold y9n at h
  repeat first | (obtain ⟨_, h⟩ := h) | replace h := Des.el h
  subst_vars
  refine Eq.mpr (yez _ K) ?_
  unfold y2z at h
  revert h
  exact br_So (fun h => h) (br_So (fun h => h) (br_So (fun h => h) (br_So (fun h => h) (br_So (fun h => h) (fun h => h)))))
theorem yg6 : SpecOK Try.prog elTT 98 (ycw y3i) := by
  refine spec_of_exF (cfg := ybm) (yn rfl rfl rfl) yp (fn := Try.f98) (by kernel_rfl) (by kernel_rfl) (by kernel_rfl) ?_
  intro args H K h
  change y64 y3i args H K at h
  unfold y64 at h
  repeat first | (obtain ⟨_, h⟩ := h) | replace h := Des.el h
  subst_vars
  refine Eq.mpr (yi6 _ K) ?_
  unfold y3i at h
  revert h
  exact br_So (fun h => h) (fun h => h)
theorem yk0 : SpecOK Try.prog elTT 96 (ydn y2i) := by
  refine spec_of_exF (cfg := yed) (yn rfl rfl rfl) (yj (inlS_ok (cfg := cfgB) (yn rfl rfl rfl) (nosig rfl) (by kernel_rfl) (by kernel_rfl) (by kernel_rfl)) yp) (fn := Try.f96) (by kernel_rfl) (by kernel_rfl) (by kernel_rfl) ?_
  intro args H K h
  change y6u y2i args H K at h
  unfold y6u at h
  repeat first | (obtain ⟨_, h⟩ := h) | replace h := Des.el h
  subst_vars
  refine Eq.mpr (yho _ K) ?_
  unfold y2i at h
  revert h
  exact br_So (fun h => h) (br_So (fun h => h) (br_So (fun h => h) (br_So (fun h => h) (br_So (fun h => h) (br_So (fun h => h) (br_So (fun h => h) (br_So (fun h => h) (fun h => h))))))))
theorem ycm : SpecOK Try.prog elTT 71 (y7v y1h) := by
  refine spec_of_exF (cfg := (ycs y2i y2z y3i)) (yn rfl rfl rfl) (yj yk0 (yj yhv (yj yg6 yp))) (fn := Try.f71) (by kernel_rfl) (by kernel_rfl) (by kernel_rfl) ?_
  intro args H K h
  change y7n y1h args H K at h
  unfold y7n at h
  repeat first | (obtain ⟨_, h⟩ := h) | replace h := Des.el h
  subst_vars
  refine Eq.mpr (yfv y2i y2z y3i _ _ K) ?_
  unfold y1h at h
  revert h
  exact br_So (fun h => h) (bind_So fun y0 => br_So (fun h => h) (br_So (bind_So fun y1 => fun h => h) (bind_So fun y2 => fun h => h)))
theorem yha : SpecOK Try.prog elTT 100 (yay y2r) := by
  refine spec_of_exF (cfg := (yci y1h y3p)) (yn rfl rfl rfl) (yj ycm (yj yh2 yp)) (fn := Try.f100) (by kernel_rfl) (by kernel_rfl) (by kernel_rfl) ?_
  intro args H K h
  change y95 y2r args H K at h
  unfold y95 at h
  repeat first | (obtain ⟨_, h⟩ := h) | replace h := Des.el h
  subst_vars
  refine Eq.mpr (yf6 y1h y3p _ _ K) ?_
  unfold y2r at h
  revert h
  exact bind_So fun y0 => br_So (fun h => h) (br_So (bind_So fun y1 => fun h => h) (fun h => h))
theorem yel : SpecOK Try.prog elTT 72 (ya3 y1v) := by
  refine spec_of_exF (cfg := ydr) (yn rfl rfl rfl) yp (fn := Try.f72) (by kernel_rfl) (by kernel_rfl) (by kernel_rfl) ?_
  intro args H K h
  change y60 y1v args H K at h
  unfold y60 at h
  repeat first | (obtain ⟨_, h⟩ := h) | replace h := Des.el h
  subst_vars
  refine Eq.mpr (yeh _ K) ?_
  unfold y1v at h
  revert h
  exact br_So (fun h => h) (fun h => h)
theorem ycy : SpecOK Try.prog elTT 35 (y89 y22) := by
  refine spec_of_exF (cfg := (ybq y1v y1h)) (yn rfl rfl rfl) (yj yel (yj ycm yp)) (fn := Try.f35) (by kernel_rfl) (by kernel_rfl) (by kernel_rfl) ?_
  intro args H K h
  change y8e y22 args H K at h
  unfold y8e at h
  repeat first | (obtain ⟨_, h⟩ := h) | replace h := Des.el h
  subst_vars
  refine Eq.mpr (yj6 y1v y1h _ K) ?_
  unfold y22 at h
  revert h
  exact br_So (bind_So fun y0 => bind_So fun y1 => fun h => h) (br_So (bind_So fun y2 => bind_So fun y3 => fun h => h) (br_So (bind_So fun y4 => bind_So fun y5 => fun h => h) (br_So (bind_So fun y6 => bind_So fun y7 => fun h => h) (br_So (fun h => h) (br_So (fun h => h) (br_So (fun h => h) (br_So (fun h => h) (br_So (fun h => h) (br_So (fun h => h) (br_So (fun h => h) (br_So (fun h => h) (fun h => h))))))))))))
theorem yew : SpecOK Try.prog elTT 80 (yck y27) := by
  refine spec_of_exF (cfg := y9y) (yn rfl rfl rfl) yp (fn := Try.f80) (by kernel_rfl) (by kernel_rfl) (by kernel_rfl) ?_
  intro args H K h
  change y6g y27 args H K at h
  unfold y6g at h
  repeat first | (obtain ⟨_, h⟩ := h) | replace h := Des.el h
  subst_vars
  refine Eq.mpr (yjk _ K) ?_
  unfold y27 at h
  revert h
  exact br_So (fun h => h) (br_So (fun h => h) (br_So (fun h => h) (br_So (fun h => h) (br_So (fun h => h) (br_So (fun h => h) (fun h => h))))))
end Go.Rx
end

noncomputable section
namespace Go.Rx
open Go.Proofs
set_option maxRecDepth 100000
set_option maxHeartbeats 4000000
abbrev Y0 := T_assartref02_Layout → Option Int
def y7s (m_ : Y0) (args : List V) (H : Heap) (K : V → Heap → Prop) : Prop :=
  aC args fun a0 r => aN r <| aAgg a0 fun c0 => y1s c0 fun l2 => aN H <| So (m_ l2) fun x => K (vi x) []
def ydp (m_ : Y0) : Spec := ⟨y7s m_, (true : Bool)⟩
def y6d (m_ : Y0) (args : List V) (H : Heap) (K : V → Heap → Prop) : Prop :=
  aC args fun a0 r => aN r <| aAgg a0 fun c0 => y1s c0 fun l2 => aN H <| So (m_ l2) fun x => K (vi x) []
def ycp (m_ : Y0) : Spec := ⟨y6d m_, (true : Bool)⟩
def y5r (m_ : Y0) (args : List V) (H : Heap) (K : V → Heap → Prop) : Prop :=
  aC args fun a0 r => aN r <| aAgg a0 fun c0 => y1s c0 fun l2 => aN H <| So (m_ l2) fun x => K (vi x) []
def yd5 (m_ : Y0) : Spec := ⟨y5r m_, (true : Bool)⟩
def y6h (m_ : Y0) (args : List V) (H : Heap) (K : V → Heap → Prop) : Prop :=
  aC args fun a0 r => aN r <| aAgg a0 fun c0 => y1s c0 fun l2 => aN H <| So (m_ l2) fun x => K (vi x) []
def ydb (m_ : Y0) : Spec := ⟨y6h m_, (true : Bool)⟩
def y5w (m_ : Y0) (args : List V) (H : Heap) (K : V → Heap → Prop) : Prop :=
  aC args fun a0 r => aN r <| aAgg a0 fun c0 => y1s c0 fun l2 => aN H <| So (m_ l2) fun x => K (vi x) []
def ycg (m_ : Y0) : Spec := ⟨y5w m_, (true : Bool)⟩
def y8f (m_ : Y0) (args : List V) (H : Heap) (K : V → Heap → Prop) : Prop :=
  aC args fun a0 r => aN r <| aAgg a0 fun c0 => y1s c0 fun l2 => aN H <| So (m_ l2) fun x => K (vi x) []
def yca (m_ : Y0) : Spec := ⟨y8f m_, (true : Bool)⟩
def y99 (m_ : Y0) (args : List V) (H : Heap) (K : V → Heap → Prop) : Prop :=
  aC args fun a0 r => aN r <| aAgg a0 fun c0 => y1s c0 fun l2 => aN H <| So (m_ l2) fun x => K (vi x) []
def y4x (m_ : Y0) : Spec := ⟨y99 m_, (true : Bool)⟩
def y6m (m_ : Y0) (args : List V) (H : Heap) (K : V → Heap → Prop) : Prop :=
  aC args fun a0 r => aN r <| aAgg a0 fun c0 => y1s c0 fun l2 => aN H <| So (m_ l2) fun x => K (vi x) []
def yct (m_ : Y0) : Spec := ⟨y6m m_, (true : Bool)⟩
abbrev Y31 := Int → Int → Int → Option Bool
def y61 (m_ : Y31) (args : List V) (H : Heap) (K : V → Heap → Prop) : Prop :=
  aC args fun a0 r => aC r fun a1 r => aC r fun a2 r => aN r <| aInt a0 fun n => aInt a1 fun low => aInt a2 fun high => aN H <| So (m_ n low high) fun x => K (vb x) []
def ych (m_ : Y31) : Spec := ⟨y61 m_, (true : Bool)⟩
abbrev Y26 := yb → Option Bool
def y92 (m_ : Y26) (args : List V) (H : Heap) (K : V → Heap → Prop) : Prop :=
  aC args fun a0 r => aN r <| aAgg a0 fun c0 => y26 c0 fun c => aN H <| So (m_ c) fun x => K (vb x) []
def y6x (m_ : Y26) : Spec := ⟨y92 m_, (true : Bool)⟩
abbrev Y33 := Int → Int → Int → Option Int
def y6q (m_ : Y33) (args : List V) (H : Heap) (K : V → Heap → Prop) : Prop :=
  aC args fun a0 r => aC r fun a1 r => aC r fun a2 r => aN r <| aInt a0 fun n => aInt a1 fun low => aInt a2 fun high => aN H <| So (m_ n low high) fun x => K (vi x) []
def ybt (m_ : Y33) : Spec := ⟨y6q m_, (true : Bool)⟩
abbrev Y30 := yb → Option yb
def y6t (m_ : Y30) (args : List V) (H : Heap) (K : V → Heap → Prop) : Prop :=
  aC args fun a0 r => aN r <| aAgg a0 fun c0 => y26 c0 fun c => aN H <| So (m_ c) fun x => K (.agg (yl x)) []
def yb6 (m_ : Y30) : Spec := ⟨y6t m_, (true : Bool)⟩
def y6l (m_ : Y30) (args : List V) (H : Heap) (K : V → Heap → Prop) : Prop :=
  aC args fun a0 r => aN r <| aAgg a0 fun c0 => y26 c0 fun c => aN H <| So (m_ c) fun x => K (.agg (yl x)) []
def ydi (m_ : Y30) : Spec := ⟨y6l m_, (true : Bool)⟩
def yd3  : Cfg := { cfgB with
  sigs := sigN }
def ycz  : Cfg := { cfgB with
  sigs := sigN }
def ydm (y2h y35 : Y0) : Cfg := { cfgB with
  sigs := (sigC 111 (ycp y2h) (sigC 112 (ydp y35) sigN)),
  plan := fun r => match r with | 1 => some ([0, 2, 5, 6, 7, 8, 1, 3, 4, 9, 10], 0) | _ => none }
def ybe (y2x : Y0) : Cfg := { cfgB with
  sigs := (sigC 106 (yd5 y2x) sigN) }
def ydd (y2n : Y0) : Cfg := { cfgB with
  sigs := (sigC 95 (ydb y2n) sigN),
  plan := fun r => match r with | 1 => some ([0, 2, 3, 4, 5, 6, 7, 8, 9, 10, 1, 11, 12], 0) | _ => none }
def ybl (y2m : Y0) : Cfg := { cfgB with
  sigs := (sigC 70 (ycg y2m) sigN),
  plan := fun r => match r with | 1 => some ([0, 2, 3, 4, 5, 6, 1, 7, 8], 0) | _ => none }
def ya9 (y2t : Y0) : Cfg := { cfgB with
  sigs := (sigC 34 (yca y2t) sigN),
  plan := fun r => match r with | 1 => some ([0, 2, 3, 4, 5, 1, 6, 7, 8, 9, 10], 0) | _ => none }
def yar (yr : Y0) : Cfg := { cfgB with
  sigs := (sigC 12 (y4x yr) sigN),
  plan := fun r => match r with | 1 => some ([0, 2, 3, 4, 5, 1, 6, 7], 0) | _ => none }
def yb3  : Cfg := { cfgB with
  sigs := sigN }
def yax (yz : Y31) : Cfg := { cfgB with
  sigs := (sigC 91 (ych yz) sigN) }
def ye0  : Cfg := { cfgB with
  sigs := sigN }
def yaf (y0u : Y33) : Cfg := { cfgB with
  sigs := (sigC 69 (ybt y0u) sigN),
  plan := fun r => match r with | 1 => some ([0, 1, 3, 4, 6, 7, 9, 10, 12, 13, 15, 16, 18, 19, 21, 22, 24, 25, 27, 28, 30, 31, 2, 5, 8, 11, 14, 17, 20, 23, 26, 29, 32, 33, 34], 3) | _ => none,
  flag := fun d => Nat.beq d 2 }
def yb0 (y39 : Y30) : Cfg := { cfgB with
  sigs := (sigC 32 (yb6 y39) sigN) }
theorem yen (l2 : T_assartref02_Layout) (K : V → Heap → Prop) : (exF yd3 Try.f112 [.agg (y05 l2)] [] K) = (
    K (vi (IntKind.i64.wrap (Int.tdiv (IntKind.i64.wrap (l2.C.Pages + 3)) 4))) []) := by kernel_rfl
theorem yju (l2 : T_assartref02_Layout) (K : V → Heap → Prop) : (exF ycz Try.f111 [.agg (y05 l2)] [] K) = (
    K (vi (IntKind.i64.wrap (3 + l2.C.Stripes))) []) := by kernel_rfl
theorem yil (y2h y35 : Y0) (l2 : T_assartref02_Layout) (K : V → Heap → Prop) : (exF (ydm y2h y35) Try.f106 [.agg (y05 l2)] [] K) = (
    So (y2h l2) (fun (y0 : Int) => (So (y35 l2) (fun (y1 : Int) => (K (vi (IntKind.i64.wrap (IntKind.i64.wrap (y0 + y1) + IntKind.i64.wrap (5 * l2.C.Pages)))) []))))) := by kernel_rfl
theorem ygr (y2x : Y0) (l2 : T_assartref02_Layout) (K : V → Heap → Prop) : (exF (ybe y2x) Try.f95 [.agg (y05 l2)] [] K) = (
    So (y2x l2) (fun (y0 : Int) => (K (vi (IntKind.i64.wrap (y0 + 62))) []))) := by kernel_rfl
theorem yfs (y2n : Y0) (l2 : T_assartref02_Layout) (K : V → Heap → Prop) : (exF (ydd y2n) Try.f70 [.agg (y05 l2)] [] K) = (
    So (y2n l2) (fun (y0 : Int) => (K (vi (IntKind.i64.wrap (y0 + IntKind.i64.wrap (IntKind.i64.wrap (5 * l2.C.CPUs) * IntKind.i64.wrap (l2.C.Cache + 1))))) []))) := by kernel_rfl
theorem yhe (y2m : Y0) (l2 : T_assartref02_Layout) (K : V → Heap → Prop) : (exF (ybl y2m) Try.f34 [.agg (y05 l2)] [] K) = (
    So (y2m l2) (fun (y0 : Int) => (K (vi (IntKind.i64.wrap (y0 + IntKind.i64.wrap (5 * IntKind.i64.wrap (l2.C.Bin + 1))))) []))) := by kernel_rfl
theorem ygt (y2t : Y0) (l2 : T_assartref02_Layout) (K : V → Heap → Prop) : (exF (ya9 y2t) Try.f12 [.agg (y05 l2)] [] K) = (
    So (y2t l2) (fun (y0 : Int) => (K (vi (IntKind.i64.wrap (IntKind.i64.wrap (Int.tdiv (IntKind.i64.wrap (IntKind.i64.wrap (y0 + IntKind.i64.wrap (32 * l2.C.Pages)) + 127)) 128) * 128))) []))) := by kernel_rfl
theorem yg2 (yr : Y0) (l2 : T_assartref02_Layout) (K : V → Heap → Prop) : (exF (yar yr) Try.f53 [.agg (y05 l2)] [] K) = (
    So (yr l2) (fun (y0 : Int) => (K (vi (IntKind.i64.wrap (y0 + IntKind.i64.wrap (32 * l2.C.Pages)))) []))) := by kernel_rfl
theorem yhn (n low high : Int) (K : V → Heap → Prop) : (exF yb3 Try.f91 [vi n, vi low, vi high] [] K) = (
    br (decide (n ≥ low)) (K (vb (decide (n ≤ high))) []) (K (vb false) [])) := by kernel_rfl
theorem yj2 (yz : Y31) (c : yb) (K : V → Heap → Prop) : (exF (yax yz) Try.f63 [.agg (yl c)] [] K) = (
    So (yz c.Workers 1 64) (fun (y0 : Bool) => (br y0 (So (yz c.CPUs 1 8) (fun (y1 : Bool) => (br y1 (So (yz c.Pages 1 256) (fun (y2 : Bool) => (br y2 (So (yz c.Stripes 1 64) (fun (y3 : Bool) => (So (yz c.Tries 0 16) (fun (y4 : Bool) => (br y4 (So (yz c.Wait 0 64) (fun (y5 : Bool) => (br y5 (So (yz c.Clock 1 1099511627776) (fun (y6 : Bool) => (br y3 (br y6 (So (yz c.Private 1 8) (fun (y7 : Bool) => (br y7 (So (yz c.Cache 0 8) (fun (y8 : Bool) => (br y8 (So (yz c.Bin 0 16) (fun (y9 : Bool) => (br y9 (So (yz c.Batch 1 8) (fun (y10 : Bool) => (K (vb y10) []))) (K (vb false) [])))) (K (vb false) [])))) (K (vb false) [])))) (K (vb false) [])) (K (vb false) [])))) (br y3 (K (vb false) []) (K (vb false) []))))) (br y3 (K (vb false) []) (K (vb false) []))))))) (So (yz c.Tries 0 16) (fun (y11 : Bool) => (br y11 (So (yz c.Wait 0 64) (fun (y12 : Bool) => (br y12 (So (yz c.Clock 1 1099511627776) (fun (y13 : Bool) => (K (vb false) []))) (K (vb false) [])))) (K (vb false) []))))))) (So (yz c.Tries 0 16) (fun (y14 : Bool) => (br y14 (So (yz c.Wait 0 64) (fun (y15 : Bool) => (br y15 (So (yz c.Clock 1 1099511627776) (fun (y16 : Bool) => (K (vb false) []))) (K (vb false) [])))) (K (vb false) []))))))) (So (yz c.Tries 0 16) (fun (y17 : Bool) => (br y17 (So (yz c.Wait 0 64) (fun (y18 : Bool) => (br y18 (So (yz c.Clock 1 1099511627776) (fun (y19 : Bool) => (K (vb false) []))) (K (vb false) [])))) (K (vb false) []))))))) := by kernel_rfl
theorem yjp (n low high : Int) (K : V → Heap → Prop) : (exF ye0 Try.f69 [vi n, vi low, vi high] [] K) = (
    Req (!IntKind.u64.wrap (IntKind.i64.wrap (IntKind.i64.wrap (high - low) + 1)) == 0) (K (vi (IntKind.i64.wrap (low + IntKind.i64.wrap (Int.tmod (IntKind.u64.wrap n) (IntKind.u64.wrap (IntKind.i64.wrap (IntKind.i64.wrap (high - low) + 1))))))) [])) := by kernel_rfl
theorem yeu (y0u : Y33) (c : yb) (K : V → Heap → Prop) : (exF (yaf y0u) Try.f32 [.agg (yl c)] [] K) = (
    So (y0u c.Workers 1 64) (fun (y0 : Int) => (So (y0u c.CPUs 1 8) (fun (y1 : Int) => (So (y0u c.Pages 1 256) (fun (y2 : Int) => (So (y0u c.Stripes 1 64) (fun (y3 : Int) => (So (y0u c.Tries 0 16) (fun (y4 : Int) => (So (y0u c.Wait 0 64) (fun (y5 : Int) => (So (y0u c.Clock 1 1099511627776) (fun (y6 : Int) => (So (y0u c.Private 1 8) (fun (y7 : Int) => (So (y0u c.Cache 0 8) (fun (y8 : Int) => (So (y0u c.Bin 0 16) (fun (y9 : Int) => (So (y0u c.Batch 1 8) (fun (y10 : Int) => (K (.agg [vi y0, vi y1, vi y2, vi y3, vi y4, vi y5, vi y6, vi y7, vi y8, vi y9, vi y10]) []))))))))))))))))))))))) := by kernel_rfl
theorem yjl (y39 : Y30) (c : yb) (K : V → Heap → Prop) : (exF (yb0 y39) Try.f9 [.agg (yl c)] [] K) = (
    So (y39 c) (fun (y0 : yb) => (K (.agg [vi (IntKind.i64.wrap (1 + Int.tmod y0.Workers 4)), vi (IntKind.i64.wrap (1 + Int.tmod y0.CPUs 2)), vi (IntKind.i64.wrap (1 + Int.tmod y0.Pages 9)), vi (IntKind.i64.wrap (1 + Int.tmod y0.Stripes 4)), vi y0.Tries, vi y0.Wait, vi y0.Clock, vi (IntKind.i64.wrap (1 + Int.tmod y0.Private 3)), vi (Int.tmod y0.Cache 3), vi (Int.tmod y0.Bin 4), vi (IntKind.i64.wrap (1 + Int.tmod y0.Batch 3))]) []))) := by kernel_rfl
def y35 (l2 : T_assartref02_Layout) : Option Int :=
  some (IntKind.i64.wrap (Int.tdiv (IntKind.i64.wrap (l2.C.Pages + 3)) 4))
def y2h (l2 : T_assartref02_Layout) : Option Int :=
  some (IntKind.i64.wrap (3 + l2.C.Stripes))
def y2x (l2 : T_assartref02_Layout) : Option Int :=
  ((y2h l2).bind fun y0 => ((y35 l2).bind fun y1 => some (IntKind.i64.wrap (IntKind.i64.wrap (y0 + y1) + IntKind.i64.wrap (5 * l2.C.Pages)))))
def y2n (l2 : T_assartref02_Layout) : Option Int :=
  ((y2x l2).bind fun y0 => some (IntKind.i64.wrap (y0 + 62)))
def y2m (l2 : T_assartref02_Layout) : Option Int :=
  ((y2n l2).bind fun y0 => some (IntKind.i64.wrap (y0 + IntKind.i64.wrap (IntKind.i64.wrap (5 * l2.C.CPUs) * IntKind.i64.wrap (l2.C.Cache + 1)))))
def y2t (l2 : T_assartref02_Layout) : Option Int :=
  ((y2m l2).bind fun y0 => some (IntKind.i64.wrap (y0 + IntKind.i64.wrap (5 * IntKind.i64.wrap (l2.C.Bin + 1)))))
def yr (l2 : T_assartref02_Layout) : Option Int :=
  ((y2t l2).bind fun y0 => some (IntKind.i64.wrap (IntKind.i64.wrap (Int.tdiv (IntKind.i64.wrap (IntKind.i64.wrap (y0 + IntKind.i64.wrap (32 * l2.C.Pages)) + 127)) 128) * 128)))
def y0m (l2 : T_assartref02_Layout) : Option Int :=
  ((yr l2).bind fun y0 => some (IntKind.i64.wrap (y0 + IntKind.i64.wrap (32 * l2.C.Pages))))
def yz (n low high : Int) : Option Bool :=
  (bif (decide (n ≥ low)) then some (decide (n ≤ high)) else some false)
def y06 (c : yb) : Option Bool :=
  ((yz c.Workers 1 64).bind fun y0 => (bif y0 then ((yz c.CPUs 1 8).bind fun y1 => (bif y1 then ((yz c.Pages 1 256).bind fun y2 => (bif y2 then ((yz c.Stripes 1 64).bind fun y3 => ((yz c.Tries 0 16).bind fun y4 => (bif y4 then ((yz c.Wait 0 64).bind fun y5 => (bif y5 then ((yz c.Clock 1 1099511627776).bind fun y6 => (bif y3 then (bif y6 then ((yz c.Private 1 8).bind fun y7 => (bif y7 then ((yz c.Cache 0 8).bind fun y8 => (bif y8 then ((yz c.Bin 0 16).bind fun y9 => (bif y9 then ((yz c.Batch 1 8).bind fun y10 => some y10) else some false)) else some false)) else some false)) else some false) else some false)) else (bif y3 then some false else some false))) else (bif y3 then some false else some false)))) else ((yz c.Tries 0 16).bind fun y11 => (bif y11 then ((yz c.Wait 0 64).bind fun y12 => (bif y12 then ((yz c.Clock 1 1099511627776).bind fun y13 => some false) else some false)) else some false)))) else ((yz c.Tries 0 16).bind fun y14 => (bif y14 then ((yz c.Wait 0 64).bind fun y15 => (bif y15 then ((yz c.Clock 1 1099511627776).bind fun y16 => some false) else some false)) else some false)))) else ((yz c.Tries 0 16).bind fun y17 => (bif y17 then ((yz c.Wait 0 64).bind fun y18 => (bif y18 then ((yz c.Clock 1 1099511627776).bind fun y19 => some false) else some false)) else some false))))
def y0u (n low high : Int) : Option Int :=
  (bif (!IntKind.u64.wrap (IntKind.i64.wrap (IntKind.i64.wrap (high - low) + 1)) == 0) then some (IntKind.i64.wrap (low + IntKind.i64.wrap (Int.tmod (IntKind.u64.wrap n) (IntKind.u64.wrap (IntKind.i64.wrap (IntKind.i64.wrap (high - low) + 1)))))) else none)
def y39 (c : yb) : Option yb :=
  ((y0u c.Workers 1 64).bind fun y0 => ((y0u c.CPUs 1 8).bind fun y1 => ((y0u c.Pages 1 256).bind fun y2 => ((y0u c.Stripes 1 64).bind fun y3 => ((y0u c.Tries 0 16).bind fun y4 => ((y0u c.Wait 0 64).bind fun y5 => ((y0u c.Clock 1 1099511627776).bind fun y6 => ((y0u c.Private 1 8).bind fun y7 => ((y0u c.Cache 0 8).bind fun y8 => ((y0u c.Bin 0 16).bind fun y9 => ((y0u c.Batch 1 8).bind fun y10 => some (yb.mk y0 y1 y2 y3 y4 y5 y6 y7 y8 y9 y10))))))))))))
def y2u (c : yb) : Option yb :=
  ((y39 c).bind fun y0 => some (yb.mk (IntKind.i64.wrap (1 + Int.tmod y0.Workers 4)) (IntKind.i64.wrap (1 + Int.tmod y0.CPUs 2)) (IntKind.i64.wrap (1 + Int.tmod y0.Pages 9)) (IntKind.i64.wrap (1 + Int.tmod y0.Stripes 4)) y0.Tries y0.Wait y0.Clock (IntKind.i64.wrap (1 + Int.tmod y0.Private 3)) (Int.tmod y0.Cache 3) (Int.tmod y0.Bin 4) (IntKind.i64.wrap (1 + Int.tmod y0.Batch 3))))
attribute [local irreducible] Loop ex exF contK roundK retK at_ bodyOf mkEnv
theorem ygp : SpecOK Try.prog elTT 112 (ydp y35) := by
  refine spec_of_exF (cfg := yd3) (yn rfl rfl rfl) yp (fn := Try.f112) (by kernel_rfl) (by kernel_rfl) (by kernel_rfl) ?_
  intro args H K h
  change y7s y35 args H K at h
  unfold y7s at h
  repeat first | (obtain ⟨_, h⟩ := h) | replace h := Des.el h
  subst_vars
  refine Eq.mpr (yen _ K) ?_
  unfold y35 at h
  revert h
  exact fun h => h
theorem yft : SpecOK Try.prog elTT 111 (ycp y2h) := by
  refine spec_of_exF (cfg := ycz) (yn rfl rfl rfl) yp (fn := Try.f111) (by kernel_rfl) (by kernel_rfl) (by kernel_rfl) ?_
  intro args H K h
  change y6d y2h args H K at h
  unfold y6d at h
  repeat first | (obtain ⟨_, h⟩ := h) | replace h := Des.el h
  subst_vars
  refine Eq.mpr (yju _ K) ?_
  unfold y2h at h
  revert h
  exact fun h => h
theorem ygg : SpecOK Try.prog elTT 106 (yd5 y2x) := by
  refine spec_of_exF (cfg := (ydm y2h y35)) (yn rfl rfl rfl) (yj yft (yj ygp yp)) (fn := Try.f106) (by kernel_rfl) (by kernel_rfl) (by kernel_rfl) ?_
  intro args H K h
  change y5r y2x args H K at h
  unfold y5r at h
  repeat first | (obtain ⟨_, h⟩ := h) | replace h := Des.el h
  subst_vars
  refine Eq.mpr (yil y2h y35 _ K) ?_
  unfold y2x at h
  revert h
  exact bind_So fun y0 => bind_So fun y1 => fun h => h
theorem yj5 : SpecOK Try.prog elTT 95 (ydb y2n) := by
  refine spec_of_exF (cfg := (ybe y2x)) (yn rfl rfl rfl) (yj ygg yp) (fn := Try.f95) (by kernel_rfl) (by kernel_rfl) (by kernel_rfl) ?_
  intro args H K h
  change y6h y2n args H K at h
  unfold y6h at h
  repeat first | (obtain ⟨_, h⟩ := h) | replace h := Des.el h
  subst_vars
  refine Eq.mpr (ygr y2x _ K) ?_
  unfold y2n at h
  revert h
  exact bind_So fun y0 => fun h => h
theorem yhm : SpecOK Try.prog elTT 70 (ycg y2m) := by
  refine spec_of_exF (cfg := (ydd y2n)) (yn rfl rfl rfl) (yj yj5 yp) (fn := Try.f70) (by kernel_rfl) (by kernel_rfl) (by kernel_rfl) ?_
  intro args H K h
  change y5w y2m args H K at h
  unfold y5w at h
  repeat first | (obtain ⟨_, h⟩ := h) | replace h := Des.el h
  subst_vars
  refine Eq.mpr (yfs y2n _ K) ?_
  unfold y2m at h
  revert h
  exact bind_So fun y0 => fun h => h
theorem yk1 : SpecOK Try.prog elTT 34 (yca y2t) := by
  refine spec_of_exF (cfg := (ybl y2m)) (yn rfl rfl rfl) (yj yhm yp) (fn := Try.f34) (by kernel_rfl) (by kernel_rfl) (by kernel_rfl) ?_
  intro args H K h
  change y8f y2t args H K at h
  unfold y8f at h
  repeat first | (obtain ⟨_, h⟩ := h) | replace h := Des.el h
  subst_vars
  refine Eq.mpr (yhe y2m _ K) ?_
  unfold y2t at h
  revert h
  exact bind_So fun y0 => fun h => h
theorem y52 : SpecOK Try.prog elTT 12 (y4x yr) := by
  refine spec_of_exF (cfg := (ya9 y2t)) (yn rfl rfl rfl) (yj yk1 yp) (fn := Try.f12) (by kernel_rfl) (by kernel_rfl) (by kernel_rfl) ?_
  intro args H K h
  change y99 yr args H K at h
  unfold y99 at h
  repeat first | (obtain ⟨_, h⟩ := h) | replace h := Des.el h
  subst_vars
  refine Eq.mpr (ygt y2t _ K) ?_
  unfold yr at h
  revert h
  exact bind_So fun y0 => fun h => h
theorem yfo : SpecOK Try.prog elTT 53 (yct y0m) := by
  refine spec_of_exF (cfg := (yar yr)) (yn rfl rfl rfl) (yj y52 yp) (fn := Try.f53) (by kernel_rfl) (by kernel_rfl) (by kernel_rfl) ?_
  intro args H K h
  change y6m y0m args H K at h
  unfold y6m at h
  repeat first | (obtain ⟨_, h⟩ := h) | replace h := Des.el h
  subst_vars
  refine Eq.mpr (yg2 yr _ K) ?_
  unfold y0m at h
  revert h
  exact bind_So fun y0 => fun h => h
theorem yh5 : SpecOK Try.prog elTT 91 (ych yz) := by
  refine spec_of_exF (cfg := yb3) (yn rfl rfl rfl) yp (fn := Try.f91) (by kernel_rfl) (by kernel_rfl) (by kernel_rfl) ?_
  intro args H K h
  change y61 yz args H K at h
  unfold y61 at h
  repeat first | (obtain ⟨_, h⟩ := h) | replace h := Des.el h
  subst_vars
  refine Eq.mpr (yhn _ _ _ K) ?_
  unfold yz at h
  revert h
  exact br_So (fun h => h) (fun h => h)
theorem ye3 : SpecOK Try.prog elTT 63 (y6x y06) := by
  refine spec_of_exF (cfg := (yax yz)) (yn rfl rfl rfl) (yj yh5 yp) (fn := Try.f63) (by kernel_rfl) (by kernel_rfl) (by kernel_rfl) ?_
  intro args H K h
  change y92 y06 args H K at h
  unfold y92 at h
  repeat first | (obtain ⟨_, h⟩ := h) | replace h := Des.el h
  subst_vars
  refine Eq.mpr (yj2 yz _ K) ?_
  unfold y06 at h
  revert h
  exact bind_So fun y0 => br_So (bind_So fun y1 => br_So (bind_So fun y2 => br_So (bind_So fun y3 => bind_So fun y4 => br_So (bind_So fun y5 => br_So (bind_So fun y6 => br_So (br_So (bind_So fun y7 => br_So (bind_So fun y8 => br_So (bind_So fun y9 => br_So (bind_So fun y10 => fun h => h) (fun h => h)) (fun h => h)) (fun h => h)) (fun h => h)) (fun h => h)) (br_So (fun h => h) (fun h => h))) (br_So (fun h => h) (fun h => h))) (bind_So fun y11 => br_So (bind_So fun y12 => br_So (bind_So fun y13 => fun h => h) (fun h => h)) (fun h => h))) (bind_So fun y14 => br_So (bind_So fun y15 => br_So (bind_So fun y16 => fun h => h) (fun h => h)) (fun h => h))) (bind_So fun y17 => br_So (bind_So fun y18 => br_So (bind_So fun y19 => fun h => h) (fun h => h)) (fun h => h))
theorem yhw : SpecOK Try.prog elTT 69 (ybt y0u) := by
  refine spec_of_exF (cfg := ye0) (yn rfl rfl rfl) yp (fn := Try.f69) (by kernel_rfl) (by kernel_rfl) (by kernel_rfl) ?_
  intro args H K h
  change y6q y0u args H K at h
  unfold y6q at h
  repeat first | (obtain ⟨_, h⟩ := h) | replace h := Des.el h
  subst_vars
  refine Eq.mpr (yjp _ _ _ K) ?_
  unfold y0u at h
  revert h
  exact req_So (fun h => h)
theorem yh1 : SpecOK Try.prog elTT 32 (yb6 y39) := by
  refine spec_of_exF (cfg := (yaf y0u)) (yn rfl rfl rfl) (yj yhw yp) (fn := Try.f32) (by kernel_rfl) (by kernel_rfl) (by kernel_rfl) ?_
  intro args H K h
  change y6t y39 args H K at h
  unfold y6t at h
  repeat first | (obtain ⟨_, h⟩ := h) | replace h := Des.el h
  subst_vars
  refine Eq.mpr (yeu y0u _ K) ?_
  unfold y39 at h
  revert h
  exact bind_So fun y0 => bind_So fun y1 => bind_So fun y2 => bind_So fun y3 => bind_So fun y4 => bind_So fun y5 => bind_So fun y6 => bind_So fun y7 => bind_So fun y8 => bind_So fun y9 => bind_So fun y10 => fun h => h
theorem yhk : SpecOK Try.prog elTT 9 (ydi y2u) := by
  refine spec_of_exF (cfg := (yb0 y39)) (yn rfl rfl rfl) (yj yh1 yp) (fn := Try.f9) (by kernel_rfl) (by kernel_rfl) (by kernel_rfl) ?_
  intro args H K h
  change y6l y2u args H K at h
  unfold y6l at h
  repeat first | (obtain ⟨_, h⟩ := h) | replace h := Des.el h
  subst_vars
  refine Eq.mpr (yjl y39 _ K) ?_
  unfold y2u at h
  revert h
  exact bind_So fun y0 => fun h => h
end Go.Rx
end
