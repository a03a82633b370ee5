/- Regions that draw their order: several may come next. -/
import Derived.Test.YtimebkgadobpoaaRx8
namespace Go.Rx

section
variable {P : Program} {ops : Array Oper} {Q : Exit → Act → World → Prop} {S : Array Bool → World → Prop}

theorem wpAnyG_more : ∀ (fuel : Nat) (listed : Array Bool) (a : Act) (w : World), wpAnyG P ops Q S fuel listed a w → wpAnyG P ops Q S (fuel + 1) listed a w
  | 0, listed, a, w, h => ⟨fun _ => h.2, fun i hi => by rw [h.1] at hi; cases hi⟩
  | fuel + 1, listed, a, w, h => ⟨h.1, fun i hi => wpOp_mono (fun a' w' h' => ⟨h'.1, wpAnyG_more fuel _ a' w' h'.2⟩) (h.2 i hi)⟩

theorem wpAnyG_le {m n : Nat} (h : m ≤ n) {listed : Array Bool} {a : Act} {w : World} (hw : wpAnyG P ops Q S m listed a w) : wpAnyG P ops Q S n listed a w := by
  induction h with
  | refl => exact hw
  | step _ ih => exact wpAnyG_more _ _ _ _ ih
end

variable {cfg : Cfg} {nt : Nat} {f : Blk → Bool} {ops : Array Oper}

theorem exOps_tree (ok : CfgOK cfg) (hsig : ∀ g s, cfg.sigs g = some s → SpecOK cfg.P cfg.elT g s) (hlk : LkOK (some f)) (hsel : Region.noSelect ops = true) {Q : Exit → Act → World → Prop} (hQ : ∀ c a w, ¬ Q (.panic c) a w) {J : Env → Heap → Prop}
    {ρs : List Value} {Fs : Nat → List Nat} {Hs : Heap} {ws : World} (hss : Sat cfg.elT ρs Fs Hs ws)
    (hn : ∀ ρ' F' H' w' env' a', J env' H' → St cfg nt ρ' F' env' H' a' w' → Step cfg (some f) ρs Fs Hs ws ρ' F' H' w' → Q .normal a' w') :
    ∀ (p : PT) (b : Bool) (listed : Array Bool) (ρ : List Value) (F : Nat → List Nat) (H : Heap) (w : World) (env : Env) (a : Act), planGoT ops b p listed = true → listed.size = ops.size → Closed ops listed →
      exOpsT cfg nt (some f) (early ops.toList) (some Hs) ops.toList p env H J → St cfg nt ρ F env H a w → Step cfg (some f) ρs Fs Hs ws ρ F H w → (NoLoud ops listed → ∀ n, n < ws.heap.size → w.heap[n]? = ws.heap[n]?) →
      match b with
      | false => wpAnyG cfg.P ops Q (SD ops f Hs Fs ws) p.size listed a w
      | true => ∀ i ∈ heads p, i ∈ Region.ready .any ops listed → ∀ n, p.size ≤ n + 1 → wpOp cfg.P ops Q i (fun a' w' => SD ops f Hs Fs ws (listed.setIfInBounds i true) w' ∧ wpAnyG cfg.P ops Q (SD ops f Hs Fs ws) n (listed.setIfInBounds i true) a' w') a w
  | .fin, b, listed, ρ, F, H, w, env, a, hp, hsz, hc, h, hs, st, hnl => by
    simp only [planGoT, Bool.and_eq_true, Bool.not_eq_true'] at hp
    obtain ⟨rfl, hp⟩ := hp
    have hr : Region.ready .any ops listed = [] := by simpa using hp
    exact ⟨hr, hn ρ F H w env a h hs st⟩
  | .op i t, b, listed, ρ, F, H, w, env, a, hp, hsz, hc, h, hs, st, hnl => by
    simp only [planGoT, Bool.and_eq_true] at hp
    obtain ⟨hp1, hp2⟩ := hp
    have hsz' : (listed.setIfInBounds i true).size = ops.size := by simpa using hsz
    simp only [exOpsT] at h
    have hS : SD ops f Hs Fs ws listed w := ⟨fun j b hb hfb => (st.kept f rfl j b hb hfb).2.2, hnl⟩
    cases ho : ops[i]? with
    | none => rw [ho] at hp1; cases hp1
    | some o =>
      rw [ho] at hp1
      simp only at hp1
      have hil : i < listed.size := by rw [hsz]; exact (Array.getElem?_eq_some_iff.1 ho).1
      cases hl : isLoud o with
      | true =>
        rw [hl] at hp1
        simp only [cond_true] at hp1
        have go : i ∈ Region.ready .any ops listed → wpOp cfg.P ops Q i (fun a' w' => SD ops f Hs Fs ws (listed.setIfInBounds i true) w' ∧ wpAnyG cfg.P ops Q (SD ops f Hs Fs ws) t.size (listed.setIfInBounds i true) a' w') a w := by
          intro hri
          refine exOps_wpOp ok hsig hlk (fun o' ho' => .inl (by rw [ho] at ho'; injection ho' with ho'; subst ho'; exact hl)) h hs (fun ρ' F' H' w' env' a' h1 h2 h3 => ?_)
          have st' := st.trans h3
          have hnl' : NoLoud ops (listed.setIfInBounds i true) → ∀ n, n < ws.heap.size → w'.heap[n]? = ws.heap[n]? := by
            intro hno
            have := hno i o ho hl
            simp [hil] at this
          exact ⟨⟨fun k b hb hfb => (st'.kept f rfl k b hb hfb).2.2, hnl'⟩, exOps_tree ok hsig hlk hsel hQ hss hn t false _ ρ' F' H' w' env' a' hp2 hsz' (hc.next hri) h1 h2 st' hnl'⟩
        cases b with
        | false =>
          have hr : Region.ready .any ops listed = [i] := by simpa using hp1
          refine ⟨(fun h0 => by rw [hr] at h0; cases h0), fun j hj => ?_⟩
          rw [hr] at hj
          simp only [List.mem_singleton] at hj
          subst hj
          exact go (by rw [hr]; simp)
        | true =>
          intro j hj hri n hle
          simp only [heads, List.mem_singleton] at hj
          subst hj
          simp only [PT.size] at hle
          exact wpOp_mono (fun a' w' h' => ⟨h'.1, wpAnyG_le (by omega) h'.2⟩) (go hri)
      | false =>
        rw [hl] at hp1
        simp only [cond_false, Bool.and_eq_true, Bool.not_eq_true'] at hp1
        obtain ⟨rfl, hp1⟩ := hp1
        have hri : i ∈ Region.ready .any ops listed := by simpa using hp1.1
        have hun := (mem_ready.1 hri).1
        obtain ⟨x, env', h1, h2, h3⟩ := exOps_still ok hss st.le ho hl h hs hc hun hS
        have hnl' : NoLoud ops (listed.setIfInBounds i true) → ∀ n, n < ws.heap.size → w.heap[n]? = ws.heap[n]? := fun hno => hnl ((NoLoud.still ho hl listed).1 hno)
        refine wpAnyG_first ho (Region.noSelect_spec hsel) (fun c a w hq => absurd hq (hQ c _ w)) (fun listed w => ?_) t.size listed a w (Region.free_spec ho hp1.2) hc hri h3 hS
          (exOps_tree ok hsig hlk hsel hQ hss hn t false _ ρ F H w env' _ hp2 hsz' (hc.next hri) h1 h2 st hnl')
        unfold SD
        rw [NoLoud.still ho hl]
  | .alt t u, b, listed, ρ, F, H, w, env, a, hp, hsz, hc, h, hs, st, hnl => by
    simp only [planGoT, Bool.and_eq_true] at hp
    obtain ⟨hp0, hp1, hp2⟩ := hp
    obtain ⟨g1, g2⟩ := h
    have r1 := exOps_tree ok hsig hlk hsel hQ hss hn t true listed ρ F H w env a hp1 hsz hc g1 hs st hnl
    have r2 := exOps_tree ok hsig hlk hsel hQ hss hn u true listed ρ F H w env a hp2 hsz hc g2 hs st hnl
    have both : ∀ i ∈ heads (.alt t u), i ∈ Region.ready .any ops listed → ∀ n, (PT.alt t u).size ≤ n + 1 → wpOp cfg.P ops Q i (fun a' w' => SD ops f Hs Fs ws (listed.setIfInBounds i true) w' ∧ wpAnyG cfg.P ops Q (SD ops f Hs Fs ws) n (listed.setIfInBounds i true) a' w') a w := by
      intro i hi hri n hle
      simp only [PT.size] at hle
      simp only [heads, List.mem_append] at hi
      rcases hi with hi | hi
      · exact r1 i hi hri n (by omega)
      · exact r2 i hi hri n (by omega)
    cases b with
    | true => exact both
    | false =>
      simp only [Bool.false_or, Bool.and_eq_true, Bool.not_eq_true', List.all_eq_true] at hp0
      obtain ⟨hne, hall⟩ := hp0
      have hne' : Region.ready .any ops listed ≠ [] := by intro e; rw [e] at hne; cases hne
      have hpos : ∃ i, i ∈ Region.ready .any ops listed := List.exists_mem_of_ne_nil _ hne'
      have hsize : ∃ n, (PT.alt t u).size = n + 1 := by
        obtain ⟨i, hi⟩ := hpos
        have hm := hall i hi
        have : ∀ p : PT, heads p ≠ [] → 0 < p.size := by
          intro p
          induction p with
          | fin => intro h; exact absurd rfl h
          | op i t ih => intro _; simp [PT.size]
          | alt t u ih1 ih2 =>
            intro h
            simp only [heads] at h
            simp only [PT.size]
            by_cases h1 : heads t = []
            · have h2 : heads u ≠ [] := fun h2 => h (by rw [h1, h2]; rfl)
              have := ih2 h2; omega
            · have := ih1 h1; omega
        have hp := this (.alt t u) (fun e => by rw [e] at hm; simp at hm)
        exact ⟨(PT.alt t u).size - 1, by omega⟩
      obtain ⟨n, hn'⟩ := hsize
      show wpAnyG cfg.P ops Q (SD ops f Hs Fs ws) (PT.alt t u).size listed a w
      rw [hn']
      refine ⟨fun h0 => absurd h0 hne', fun i hi => both i (by simpa using hall i hi) hi n (by omega)⟩
end Go.Rx
