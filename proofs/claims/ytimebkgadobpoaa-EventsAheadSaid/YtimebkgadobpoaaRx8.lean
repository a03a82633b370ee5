/- Regions that draw their order. -/
import Derived.Test.YtimebkgadobpoaaRx7
namespace Go.Rx

section
variable {P : Program} {ops : Array Oper} {Q : Exit → Act → World → Prop} {S : Array Bool → World → Prop}

/-- Whatever order is picked, and S holds behind every operation. -/
def wpAnyG (P : Program) (ops : Array Oper) (Q : Exit → Act → World → Prop) (S : Array Bool → World → Prop) : Nat → Array Bool → Act → World → Prop
  | 0, listed, a, w => Region.ready .any ops listed = [] ∧ Q .normal a w
  | fuel + 1, listed, a, w =>
    (Region.ready .any ops listed = [] → Q .normal a w) ∧
    ∀ i ∈ Region.ready .any ops listed, wpOp P ops Q i (fun a' w' => S (listed.setIfInBounds i true) w' ∧ wpAnyG P ops Q S fuel (listed.setIfInBounds i true) a' w') a w

theorem wpAny_of_G : ∀ (fuel : Nat) (listed : Array Bool) (a : Act) (w : World), wpAnyG P ops Q S fuel listed a w → wpAny P .any ops Q fuel listed a w
  | 0, _, _, _, h => h
  | fuel + 1, _, _, _, h => ⟨h.1, fun i hi => wpOp_mono (fun a' w' h' => wpAny_of_G fuel _ a' w' h'.2) (h.2 i hi)⟩

theorem wpOp_putG {j : Nat} {oi oj : Oper} {v : Value} {Y : Act → Prop} (hj : ops[j]? = some oj) (hap : oi.apart ops oj = true)
    (hsj : ∀ cs b, oj.op ≠ .select cs b) (keep : ∀ a u, Y a → Y (a.put oj.dst u)) (keepD : ∀ (a : Act) d, Y a → Y { a with defers := d :: a.defers })
    (hQ : ∀ c a w, Q (.panic c) (a.put oi.dst v) w → Q (.panic c) a w) {K : Act → World → Prop} {a : Act} {w : World}
    (hy : Y a) (h : wpOp P ops Q j K (a.put oi.dst v) w) :
    wpOp P ops Q j (fun a' w' => Y a' ∧ K (a'.put oi.dst v) w') a w := by
  obtain ⟨h1, h2, h3⟩ := Oper.apart_spec hap
  unfold wpOp at *
  simp only [hj] at *
  rw [wanted_put oj a oi.dst v h1] at h
  split
  · rename_i hw
    simp only [hw, if_true] at h
    rcases h with h | ⟨hasks, hlets⟩
    case inr => exact .inr ⟨by unfold Oper.asks at *; rw [execOp_put oj hsj a oi.dst v h1] at hasks; exact hasks, hlets⟩
    refine .inl ?_
    unfold Oper.wp at *
    rw [execOp_put oj hsj a oi.dst v h1] at h
    generalize (execOp a.eval oj).run P w = r at *
    cases r with
    | ok n w' =>
      cases n <;> simp only [Oper.upon] at h ⊢
      case value u => exact ⟨keep a u hy, by rw [← Act.put_comm a v u h2]; exact h⟩
      case skip => exact ⟨keep a _ hy, by rw [← Act.put_comm a v undef h2]; exact h⟩
      case defer d =>
        refine ⟨keep _ _ (keepD a d hy), ?_⟩
        rw [← Act.put_comm _ v undef h2, ← Act.put_defers]
        exact h
      case enter f args =>
        refine Calls.mono h fun e w'' he => ?_
        cases e with
        | returned u => exact ⟨keep a u hy, by rw [← Act.put_comm a v u h2]; exact he⟩
        | panicked c => exact hQ _ _ _ he
        | outgrown => exact he
      case row row args => exact Rows.mono h fun u w'' he => ⟨keep a u hy, by rw [← Act.put_comm a v u h2]; exact he⟩
    | halt x w' =>
      cases x <;> simp only [Oper.upon] at h ⊢
      case panic u => exact hQ _ _ _ h
  · rename_i hw
    simp only [hw] at h
    exact ⟨keep a _ hy, by rw [← Act.put_comm a v undef h2]; exact h⟩

/-- What is listed was let by what it waits for. -/
def Closed (ops : Array Oper) (listed : Array Bool) : Prop :=
  ∀ (j : Nat) (o : Oper), ops[j]? = some o → listed.getD j false = true → ∀ e ∈ o.after, Region.binds .any e = true → listed.getD e.on false = true

theorem Closed.next {listed : Array Bool} (h : Closed ops listed) {i : Nat} (hr : i ∈ Region.ready .any ops listed) : Closed ops (listed.setIfInBounds i true) := by
  intro j o ho hl e he hb
  obtain ⟨hun, oi, hoi, hall⟩ := mem_ready.1 hr
  by_cases hij : i = j
  · subst hij
    rw [hoi] at ho; injection ho with ho; subst ho
    exact getD_set_true (hall e he hb)
  · rw [getD_set_ne false hij] at hl
    exact getD_set_true (h j o ho hl e he hb)

/-- It yields this value, and does nothing else, as long as it has not come up. -/
def YieldsG (P : Program) (ops : Array Oper) (S : Array Bool → World → Prop) (i : Nat) (oi : Oper) (v : Value) (a : Act) : Prop :=
  (Region.wanted oi (yielded ops a.tmps) = true ∧ ∀ listed w, Closed ops listed → listed.getD i true = false → S listed w → (execOp a.eval oi).run P w = .ok (.value v) w) ∨
  (Region.wanted oi (yielded ops a.tmps) = false ∧ v = undef)

theorem YieldsG.of_same {i : Nat} {o : Oper} {v : Value} {a a' : Act} (hy : YieldsG P ops S i o v a) (he : execOp a'.eval o = execOp a.eval o)
    (hw : Region.wanted o (yielded ops a'.tmps) = Region.wanted o (yielded ops a.tmps)) : YieldsG P ops S i o v a' := by
  unfold YieldsG at *
  rw [he, hw]
  exact hy

theorem YieldsG.wpOp {i : Nat} {o : Oper} {v : Value} {a : Act} (hi : ops[i]? = some o) (hy : YieldsG P ops S i o v a) {listed : Array Bool} (hcl : Closed ops listed) (hun : listed.getD i true = false)
    {K : Act → World → Prop} {w : World} (hS : S listed w) (h : K (a.put o.dst v) w) : wpOp P ops Q i K a w := by
  unfold Go.wpOp
  simp only [hi]
  rcases hy with ⟨hw, hv⟩ | ⟨hw, rfl⟩
  · simp only [hw, if_true, Oper.wp, hv listed w hcl hun hS, Oper.upon]; exact .inl h
  · simp only [hw, Bool.false_eq_true, if_false]; exact h

theorem wpAnyG_first {i : Nat} {oi : Oper} {v : Value} (hi : ops[i]? = some oi) (hsel : ∀ (j : Nat) (o : Oper) cs b, ops[j]? = some o → o.op ≠ .select cs b)
    (hQ : ∀ c a w, Q (.panic c) (a.put oi.dst v) w → Q (.panic c) a w) (hSi : ∀ listed w, S (listed.setIfInBounds i true) w ↔ S listed w) :
    ∀ (fuel : Nat) (listed : Array Bool) (a : Act) (w : World),
      (∀ j oj, ops[j]? = some oj → j ≠ i → listed.getD j true = false → (∀ e ∈ oj.after, Region.binds .any e = true → e.on ≠ i) → oi.apart ops oj = true) →
      Closed ops listed → i ∈ Region.ready .any ops listed → YieldsG P ops S i oi v a → S listed w →
      wpAnyG P ops Q S fuel (listed.setIfInBounds i true) (a.put oi.dst v) w → wpAnyG P ops Q S (fuel + 1) listed a w := by
  intro fuel
  induction fuel with
  | zero =>
    intro listed a w _ hcl hr hy hS H
    refine ⟨fun h => (by rw [h] at hr; cases hr), fun j hj => ?_⟩
    by_cases hji : j = i
    · subst hji; exact hy.wpOp hi hcl (mem_ready.1 hj).1 hS ⟨(hSi _ _).2 hS, H⟩
    · have := ready_mono hj hji
      rw [H.1] at this
      cases this
  | succ fuel ih =>
    intro listed a w hfree hcl hr hy hS H
    refine ⟨fun h => (by rw [h] at hr; cases hr), fun j hj => ?_⟩
    by_cases hji : j = i
    · subst hji; exact hy.wpOp hi hcl (mem_ready.1 hj).1 hS ⟨(hSi _ _).2 hS, H⟩
    · have h1 := H.2 j (ready_mono hj hji)
      obtain ⟨hjun, oj, hoj, hall⟩ := mem_ready.1 hj
      have hnot : ∀ e ∈ oj.after, Region.binds .any e = true → e.on ≠ i := fun e he hb heq => by
        have h1 := hall e he hb
        have h0 := (mem_ready.1 hr).1
        rw [heq] at h1
        rcases Nat.lt_or_ge i listed.size with h' | h'
        · simp [h'] at h0 h1; rw [h0] at h1; cases h1
        · simp [Array.getElem?_eq_none h'] at h1
      obtain ⟨a1, a2, a3⟩ := Oper.apart_spec (hfree j oj hoj hji hjun hnot)
      have h2 := wpOp_putG (Y := YieldsG P ops S i oi v) hoj (hfree j oj hoj hji hjun hnot) (fun cs b => hsel j oj cs b hoj)
        (fun a u hy => hy.of_same (execOp_put oi (fun cs b => hsel i oi cs b hi) a oj.dst u a3) (wanted_put oi a oj.dst u a3)) (fun a d hy => hy.of_same rfl rfl) hQ hy h1
      have hfree' : ∀ k ok, ops[k]? = some ok → k ≠ i → (listed.setIfInBounds j true).getD k true = false →
          (∀ e ∈ ok.after, Region.binds .any e = true → e.on ≠ i) → oi.apart ops ok = true := fun k ok hk hki hun hno => by
        refine hfree k ok hk hki ?_ hno
        by_cases hjk : j = k
        · subst hjk; exact hjun
        · rw [getD_set_ne true hjk] at hun; exact hun
      refine wpOp_mono (fun a' w' h3 => ?_) h2
      have hS' : S (listed.setIfInBounds j true) w' := by
        have := h3.2.1
        rw [Array.setIfInBounds_comm _ _ (Ne.symm hji)] at this
        exact (hSi _ _).1 this
      refine ⟨hS', ih (listed.setIfInBounds j true) a' w' hfree' (hcl.next hj) (ready_mono hr (Ne.symm hji)) h3.1 hS' ?_⟩
      rw [Array.setIfInBounds_comm _ _ hji]
      exact h3.2.2
end


variable {cfg : Cfg} {nt : Nat} {f : Blk → Bool} {ops : Array Oper}

def NoLoud (ops : Array Oper) (listed : Array Bool) : Prop := ∀ (j : Nat) (o : Oper), ops[j]? = some o → isLoud o = true → listed.getD j false = false

/-- What stays in a region that draws its order. -/
def SD (ops : Array Oper) (f : Blk → Bool) (Hs : Heap) (Fs : Nat → List Nat) (ws : World) (listed : Array Bool) (w : World) : Prop :=
  (∀ (i : Nat) (b : Blk), Hs[i]? = some b → f b = true → ∀ n ∈ Fs i, w.heap[n]? = ws.heap[n]?) ∧ (NoLoud ops listed → ∀ n, n < ws.heap.size → w.heap[n]? = ws.heap[n]?)

theorem NoLoud.still {i : Nat} {o : Oper} (ho : ops[i]? = some o) (hl : isLoud o = false) (listed : Array Bool) : NoLoud ops (listed.setIfInBounds i true) ↔ NoLoud ops listed := by
  constructor
  · intro h j p hp hpl
    have hij : i ≠ j := fun e => by subst e; rw [ho] at hp; injection hp with hp; subst hp; rw [hl] at hpl; cases hpl
    have := h j p hp hpl
    rwa [getD_set_ne false hij] at this
  · intro h j p hp hpl
    have hij : i ≠ j := fun e => by subst e; rw [ho] at hp; injection hp with hp; subst hp; rw [hl] at hpl; cases hpl
    rw [getD_set_ne false hij]
    exact h j p hp hpl

theorem early_spec {i : Nat} (h : early ops.toList i = true) (j : Nat) (o : Oper) (ho : ops[j]? = some o) (hl : isLoud o = true) : ∃ e ∈ o.after, Region.binds .any e = true ∧ e.on = i := by
  unfold early at h
  have hm : o ∈ ops.toList := by rw [← Array.getElem?_toList] at ho; exact List.mem_of_getElem? ho
  have := List.all_eq_true.1 h o hm
  simp only [hl, Bool.not_true, Bool.false_or, List.any_eq_true, Bool.and_eq_true] at this
  obtain ⟨e, he, h1, h2⟩ := this
  exact ⟨e, by simpa using he, h1, Nat.eq_of_beq_eq_true h2⟩

theorem noLoud_of_early {i : Nat} (h : early ops.toList i = true) {listed : Array Bool} (hc : Closed ops listed) (hun : listed.getD i true = false) : NoLoud ops listed := by
  intro j o ho hl
  cases hj : listed.getD j false with
  | false => rfl
  | true =>
    obtain ⟨e, he, hb, rfl⟩ := early_spec h j o ho hl
    have := hc j o ho hj e he hb
    rcases Nat.lt_or_ge e.on listed.size with h' | h'
    · simp [h'] at this hun; rw [this] at hun; cases hun
    · simp [Array.getElem?_eq_none h'] at this

theorem satR_of_SD {ρs ρ : List Value} {Fs : Nat → List Nat} {Hs : Heap} {ws w : World} (hs : Sat cfg.elT ρs Fs Hs ws) (hl : Le ρs ρ) {i : Nat} {listed : Array Bool} (hc : Closed ops listed) (hun : listed.getD i true = false)
    (h : SD ops f Hs Fs ws listed w) : SatR cfg (bif early ops.toList i then none else some f) ρ Fs Hs w := by
  have hi : ∀ (j : Nat) (b : Blk), Hs[j]? = some b → (∀ n ∈ Fs j, w.heap[n]? = ws.heap[n]?) → ∃ x, ρ[j]? = some x ∧ b.holds cfg.elT ρ w x (Fs j) := by
    intro j b hb hw
    obtain ⟨x, hx1, hx2⟩ := hs.reads none j b hb rfl
    exact ⟨x, hl j x hx1, Blk.holds_le hl hw b hx2⟩
  intro j b hb hm
  cases he : early ops.toList i with
  | true => exact hi j b hb (fun n hn => h.2 (noLoud_of_early he hc hun) n (hs.lt j b hb n hn))
  | false =>
    rw [he] at hm
    exact hi j b hb (h.1 j b hb hm)

/-- A still operation of a region that draws its order. -/
theorem exOps_still (ok : CfgOK cfg) {ρs ρ : List Value} {Fs F : Nat → List Nat} {Hs H : Heap} {ws w : World} (hss : Sat cfg.elT ρs Fs Hs ws) (hl : Le ρs ρ) {i : Nat} {rest : List Nat} {env : Env} {a : Act} {J : Env → Heap → Prop} {o : Oper} (ho : ops[i]? = some o)
    (hst : isLoud o = false) (h : exOps cfg nt (some f) (early ops.toList) (some Hs) ops.toList (i :: rest) env H J) (hs : St cfg nt ρ F env H a w) {listed : Array Bool} (hc : Closed ops listed) (hun : listed.getD i true = false) (hS : SD ops f Hs Fs ws listed w) :
    ∃ x env', exOps cfg nt (some f) (early ops.toList) (some Hs) ops.toList rest env' H J ∧ St cfg nt ρ F env' H (a.put o.dst x) w ∧ YieldsG cfg.P ops (SD ops f Hs Fs ws) i o x a := by
  have st : Step cfg (some f) ρ F H w ρ F H w := .refl hs.sat
  have pure : ∀ env1, St cfg nt ρ F env1 H a w → Region.wanted o (yielded ops a.tmps) = true →
      exOp cfg (some f) (early ops.toList i) (some Hs) o env1 H (fun v H => exOps cfg nt (some f) (early ops.toList) (some Hs) ops.toList rest (updO nt env1 o.dst v) H J) →
      ∃ x env', exOps cfg nt (some f) (early ops.toList) (some Hs) ops.toList rest env' H J ∧ St cfg nt ρ F env' H (a.put o.dst x) w ∧ YieldsG cfg.P ops (SD ops f Hs Fs ws) i o x a := by
    intro env1 hs1 hw h1
    unfold exOp at h1
    rw [hst] at h1
    simp only [cond_false] at h1
    obtain ⟨v, x, g1, g2, g3⟩ := pureOp_sound (F := Fs) ok h1 hs1.env (satR_of_SD hss hl hc hun hS) (hss.shape.le hl)
    exact ⟨x, _, g1, hs1.put st g2 _, .inl ⟨hw, fun listed' w' hc' hun' hS' => g3 w' (satR_of_SD hss hl hc' hun' hS')⟩⟩
  simp only [exOps] at h
  split at h
  · exact h.elim
  · rename_i o' ho'
    have ho2 : ops[i]? = some o' := by rw [← Array.getElem?_toList]; exact ho'
    rw [ho] at ho2; injection ho2 with ho2; subst ho2
    split at h
    · rename_i hg
      exact pure env hs (by unfold Region.wanted; rw [hg]) h
    · rename_i j want hg
      split at h
      · exact h.elim
      · rename_i p hp
        have hp' : ops[j]? = some p := by rw [← Array.getElem?_toList]; exact hp
        split at h
        · exact h.elim
        · rename_i d hd
          split at h
          · rename_i b hb
            obtain ⟨hv, hds⟩ := bool_size hs hb
            have hw := guard_wanted hp' hd hv hds hg
            have hs' := hs.known hb
            have fin : ∀ wn : Bool, Region.wanted o (yielded ops a.tmps) = wn →
                (bif wn then exOp cfg (some f) (early ops.toList i) (some Hs) o (updO nt env (some d) (vb b)) H (fun v H => exOps cfg nt (some f) (early ops.toList) (some Hs) ops.toList rest (updO nt (updO nt env (some d) (vb b)) o.dst v) H J)
                  else exOps cfg nt (some f) (early ops.toList) (some Hs) ops.toList rest (updO nt (updO nt env (some d) (vb b)) o.dst (.ext undef)) H J) →
                ∃ x env', exOps cfg nt (some f) (early ops.toList) (some Hs) ops.toList rest env' H J ∧ St cfg nt ρ F env' H (a.put o.dst x) w ∧ YieldsG cfg.P ops (SD ops f Hs Fs ws) i o x a := by
              intro wn hwn hh
              cases wn with
              | true => exact pure _ hs' hwn hh
              | false => exact ⟨undef, _, hh, hs'.put st (.inr rfl) _, .inr ⟨hwn, rfl⟩⟩
            rcases br_elim h with ⟨rfl, h⟩ | ⟨rfl, h⟩
            · exact fin want (by rw [hw]; cases want <;> rfl) h
            · exact fin (!want) (by rw [hw]; cases want <;> rfl) h
          · rename_i vs hb
            cases e : vs.toList.isEmpty with
            | false => rw [e] at h; exact h.elim
            | true =>
              rw [e] at h
              simp only [cond_true] at h
              have h1 := hs.env d
              rw [hb] at h1
              exact ⟨undef, _, h, hs.put st (.inr rfl) _, .inr ⟨guard_unasked hp' hd (den_ext h1) hg, rfl⟩⟩
          · exact h.elim

theorem exOps_drawn (ok : CfgOK cfg) (hsig : ∀ g s, cfg.sigs g = some s → SpecOK cfg.P cfg.elT g s) (hlk : LkOK (some f)) (hsel : Region.noSelect ops = true) {Q : Exit → Act → World → Prop} (hQ : ∀ c a w, ¬ Q (.panic c) a w) {J : Env → Heap → Prop}
    {ρs : List Value} {Fs : Nat → List Nat} {Hs : Heap} {ws : World} (hss : Sat cfg.elT ρs Fs Hs ws) :
    ∀ (plan : List Nat) (listed : Array Bool) (ρ : List Value) (F : Nat → List Nat) (H : Heap) (w : World) (env : Env) (a : Act), planGo ops plan listed = true → listed.size = ops.size → Closed ops listed →
      exOps cfg nt (some f) (early ops.toList) (some Hs) ops.toList plan env H J → St cfg nt ρ F env H a w → Step cfg (some f) ρs Fs Hs ws ρ F H w → (NoLoud ops listed → ∀ n, n < ws.heap.size → w.heap[n]? = ws.heap[n]?) →
      (∀ ρ' F' H' w' env' a', J env' H' → St cfg nt ρ' F' env' H' a' w' → Step cfg (some f) ρs Fs Hs ws ρ' F' H' w' → Q .normal a' w') →
      wpAnyG cfg.P ops Q (SD ops f Hs Fs ws) plan.length listed a w
  | [], listed, ρ, F, H, w, env, a, hp, hsz, hc, h, hs, st, hnl, hn => by
    have hr : Region.ready .any ops listed = [] := by simpa [planGo] using hp
    exact ⟨hr, hn ρ F H w env a h hs st⟩
  | i :: rest, listed, ρ, F, H, w, env, a, hp, hsz, hc, h, hs, st, hnl, hn => by
    simp only [planGo, Bool.and_eq_true] at hp
    obtain ⟨hp1, hp2⟩ := hp
    have hS : SD ops f Hs Fs ws listed w := ⟨fun j b hb hfb => (st.kept f rfl j b hb hfb).2.2, hnl⟩
    have hsz' : (listed.setIfInBounds i true).size = ops.size := by simpa using hsz
    cases ho : ops[i]? with
    | none => rw [ho] at hp1; cases hp1
    | some o =>
      rw [ho] at hp1
      simp only at hp1
      cases hl : isLoud o with
      | true =>
        rw [hl] at hp1
        simp only [cond_true] at hp1
        have hr : Region.ready .any ops listed = [i] := by simpa using hp1
        have hri : i ∈ Region.ready .any ops listed := by rw [hr]; simp
        have hil : i < listed.size := by rw [hsz]; exact (Array.getElem?_eq_some_iff.1 ho).1
        refine ⟨(fun h0 => by rw [hr] at h0; cases h0), fun j hj => ?_⟩
        rw [hr] at hj
        simp only [List.mem_singleton] at hj
        subst hj
        refine exOps_wpOp ok hsig hlk (fun o' ho' => .inl (by rw [ho] at ho'; injection ho' with ho'; subst ho'; exact hl)) h hs (fun ρ' F' H' w' env' a' h1 h2 h3 => ?_)
        have st' := st.trans h3
        have hnl' : NoLoud ops (listed.setIfInBounds j true) → ∀ n, n < ws.heap.size → w'.heap[n]? = ws.heap[n]? := by
          intro hno
          have := hno j o ho hl
          simp [hil] at this
        exact ⟨⟨fun k b hb hfb => (st'.kept f rfl k b hb hfb).2.2, hnl'⟩, exOps_drawn ok hsig hlk hsel hQ hss rest _ ρ' F' H' w' env' a' hp2 hsz' (hc.next hri) h1 h2 st' hnl' hn⟩
      | false =>
        rw [hl] at hp1
        simp only [cond_false, Bool.and_eq_true] at hp1
        have hri : i ∈ Region.ready .any ops listed := by simpa using hp1.1
        have hun := (mem_ready.1 hri).1
        obtain ⟨x, env', h1, h2, h3⟩ := exOps_still ok hss st.le ho hl h hs hc hun hS
        have hnl' : NoLoud ops (listed.setIfInBounds i true) → ∀ n, n < ws.heap.size → w.heap[n]? = ws.heap[n]? := fun hno => hnl ((NoLoud.still ho hl listed).1 hno)
        refine wpAnyG_first ho (Region.noSelect_spec hsel) (fun c a w hq => absurd hq (hQ c _ w)) (fun listed w => ?_) rest.length listed a w (Region.free_spec ho hp1.2) hc hri h3 hS
          (exOps_drawn ok hsig hlk hsel hQ hss rest _ ρ F H w env' _ hp2 hsz' (hc.next hri) h1 h2 st hnl' hn)
        unfold SD
        rw [NoLoud.still ho hl]

theorem closed_start (ops : Array Oper) : Closed ops (Array.replicate ops.size false) := by
  intro j o ho hl
  exfalso
  have : (Array.replicate ops.size false).getD j false = false := by simp [Array.getD]
  rw [this] at hl
  cases hl

theorem lkOK_lkOf (kd : Nat) : LkOK (some (lkOf kd)) := by
  intro f hf g b c h
  injection hf with hf
  subst hf
  cases b with
  | dead => simp only [Blk.ren, Option.some.injEq] at h; subst h; rfl
  | cells T cs =>
    simp only [Blk.ren] at h
    split at h
    · injection h with h; subst h
      match kd with
      | 0 => rfl
      | 1 => rfl
      | 2 => rfl
      | 3 => rfl
      | _ + 4 => rfl
    · cases h
  | row t l ro => simp only [Blk.ren, Option.some.injEq] at h; subst h; rfl
  | map m n => simp only [Blk.ren, Option.some.injEq] at h; subst h; rfl
  | iter m left n c => simp only [Blk.ren, Option.some.injEq] at h; subst h; rfl
  | pk tg st => simp only [Blk.ren, Option.some.injEq] at h; subst h; rfl

end Go.Rx
