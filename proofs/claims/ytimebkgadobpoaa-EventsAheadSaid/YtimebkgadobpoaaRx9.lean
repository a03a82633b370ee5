/- Code, cuts, functions. -/
import Derived.Test.YtimebkgadobpoaaRxT
import Derived.LoopN
import Derived.Scope
namespace Go.Rx

variable {cfg : Cfg} {H : Heap} {ρ : List Value} {F : Nat → List Nat} {w : World}

def RelL (ρ : List Value) : List V → List Value → Prop
  | [], [] => True
  | v :: vs, x :: xs => Rel ρ v x ∧ RelL ρ vs xs
  | _, _ => False

theorem RelL.le {ρ ρ' : List Value} (hl : Le ρ ρ') : ∀ {vs : List V} {xs : List Value}, RelL ρ vs xs → RelL ρ' vs xs
  | [], [], _ => trivial
  | _ :: _, _ :: _, h => ⟨h.1.le hl, RelL.le hl h.2⟩

theorem rowifyL_sound {lk : Option (Blk → Bool)} : ∀ (ps : List (Option Nat × V)) (xs : List Value) (H : Heap) (ρ : List Value) (F : Nat → List Nat) {vs : List V} {H' : Heap}, rowifyL H ps = (vs, H') → RelL ρ (ps.map (·.2)) xs → Sat cfg.elT ρ F H w →
    ∃ ρ' F', RelL ρ' vs xs ∧ Step cfg lk ρ F H w ρ' F' H' w
  | [], xs, H, ρ, F, vs, H', h, hx, hs => by
    simp only [rowifyL] at h
    injection h with h1 h2
    subst h1; subst h2
    exact ⟨ρ, F, hx, .refl hs⟩
  | (tg, v) :: r, [], H, ρ, F, vs, H', h, hx, hs => hx.elim
  | (tg, v) :: r, x :: xs, H, ρ, F, vs, H', h, hx, hs => by
    simp only [rowifyL] at h
    cases h1 : rowify H tg v with
    | mk v1 H1 =>
    rw [h1] at h
    simp only at h
    cases h2 : rowifyL H1 r with
    | mk vs1 H2 =>
    rw [h2] at h
    injection h with e1 e2
    subst e1; subst e2
    obtain ⟨ρ1, F1, g1, st1⟩ := rowify_sound (lk := lk) h1 hx.1 hs
    obtain ⟨ρ2, F2, g2, st2⟩ := rowifyL_sound (lk := lk) r xs H1 ρ1 F1 h2 (RelL.le st1.le hx.2) st1.sat
    exact ⟨ρ2, F2, ⟨g1.le st2.le, g2⟩, st1.trans st2⟩

theorem addNew_prefix : ∀ (l acc : List Nat), ∃ r, addNew acc l = acc ++ r
  | [], acc => ⟨[], by simp [addNew]⟩
  | i :: l, acc => by
    simp only [addNew]
    cases mem i acc with
    | true => exact addNew_prefix l acc
    | false =>
      obtain ⟨r, h⟩ := addNew_prefix l (acc ++ [i])
      exact ⟨[i] ++ r, by simp only [cond_false]; rw [h]; simp⟩

theorem reach_prefix (H : Heap) : ∀ (n : Nat) (acc : List Nat), ∃ r, reach H n acc = acc ++ r
  | 0, acc => ⟨[], by simp [reach]⟩
  | n + 1, acc => by
    simp only [reach]
    obtain ⟨r, h⟩ := addNew_prefix (acc.flatMap (idsAt H)) acc
    obtain ⟨r', h'⟩ := reach_prefix H n (addNew acc (acc.flatMap (idsAt H)))
    exact ⟨r ++ r', by rw [h', h]; simp⟩

/-- Blocks that nobody reaches are let go, the others numbered anew. -/
theorem regroup {ids : List Nat} {Hc : Heap} (hs : Sat cfg.elT ρ F H w) (hsel : sel H (idx ids) ids = some Hc) (hnd : nodup ids = true) :
    ∃ ρ' F', (∀ i j, idx ids i = some j → ρ'[j]? = ρ[i]?) ∧ (∀ p i : Nat, ids[p]? = some i → ρ'[p]? = ρ[i]?) ∧ Sat cfg.elT ρ' F' Hc w ∧ Fr H F w Hc F' w := by
  obtain ⟨hlen, hget⟩ := sel_spec hsel
  have hρc : ∀ i j, idx ids i = some j → (ids.map fun i => ρ.getD i undef)[j]? = ρ[i]? := by
    intro i j hij
    have hj := idx_spec hij
    have hjl : j < ids.length := (List.getElem?_eq_some_iff.1 hj).1
    have hjc : j < Hc.length := by rw [hlen]; exact hjl
    obtain ⟨i', b, e1, e2, _⟩ := hget j _ (List.getElem?_eq_getElem hjc)
    rw [hj] at e1; injection e1 with e1; subst e1
    have hil : i < ρ.length := by rw [hs.len]; exact (List.getElem?_eq_some_iff.1 e2).1
    rw [List.getElem?_map, hj]
    simp [List.getD, List.getElem?_eq_getElem hil]
  refine ⟨ids.map fun i => ρ.getD i undef, fun p => F (ids.getD p 0), hρc, fun p i h => hρc i p (idx_complete hnd h), ?_, ⟨rfl, rfl, rfl, Nat.le_refl _, fun _ _ _ => rfl, fun p c hc hw n hn => ?_, fun p c hc n hn => ?_⟩⟩
  · refine ⟨by simp [hlen], fun p c y hcp hy => ?_, fun p c hcp n hn => ?_, fun p q c d hcp hdq hpq hw n hn => ?_⟩
    · obtain ⟨i, b, e1, e2, e3⟩ := hget p c hcp
      have hp := hρc i p (idx_complete hnd e1)
      rw [hy] at hp
      have hgd : ids.getD p 0 = i := by simp [List.getD, e1]
      show c.holds cfg.elT _ w y (F (ids.getD p 0))
      rw [hgd]
      exact Blk.ren_holds hρc e3 (hs.each i b y e2 hp.symm)
    · obtain ⟨i, b, e1, e2, e3⟩ := hget p c hcp
      have hgd : ids.getD p 0 = i := by simp [List.getD, e1]
      simp only [hgd] at hn
      exact hs.lt i b e2 n hn
    · obtain ⟨i, b, e1, e2, e3⟩ := hget p c hcp
      obtain ⟨j, b2, f1, f2, f3⟩ := hget q d hdq
      have hgd : ids.getD p 0 = i := by simp [List.getD, e1]
      have hgd2 : ids.getD q 0 = j := by simp [List.getD, f1]
      simp only [hgd] at hn
      simp only [hgd2]
      exact hs.disj i j b b2 e2 f2 (fun e => by subst e; exact hpq (nodup_spec hnd p q i e1 f1)) (by rw [← Blk.ren_writable e3]; exact hw) n hn
  · obtain ⟨i, b, e1, e2, e3⟩ := hget p c hc
    have hgd : ids.getD p 0 = i := by simp [List.getD, e1]
    simp only [hgd] at hn
    exact .inr ⟨i, b, e2, by rw [← Blk.ren_writable e3]; exact hw, hn⟩
  · obtain ⟨i, b, e1, e2, e3⟩ := hget p c hc
    have hgd : ids.getD p 0 = i := by simp [List.getD, e1]
    simp only [hgd] at hn
    exact .inr ⟨i, b, e2, hn⟩

theorem renL_rel {ρ ρ' : List Value} {f : Nat → Option Nat} (hf : ∀ i j, f i = some j → ρ'[j]? = ρ[i]?) : ∀ {vs vs' : List V} {xs : List Value}, renL f vs = some vs' → RelL ρ vs xs → RelL ρ' vs' xs
  | [], vs', [], h, _ => by simp only [renL, Option.some.injEq] at h; subst h; trivial
  | [], vs', _ :: _, h, hx => hx.elim
  | v :: r, vs', [], h, hx => hx.elim
  | v :: r, vs', x :: xs, h, hx => by
    simp only [renL] at h
    split at h
    · rename_i v1 r1 hv hr
      injection h with h
      subst h
      exact ⟨ren_rel hf hv hx.1, renL_rel hf hr hx.2⟩
    · cases h

/-- A state, and how it stands to the beginning of the function. -/
structure St0 (cfg : Cfg) (cx : Cx) (ρ0 : List Value) (F0 : Nat → List Nat) (H0 : Heap) (w0 : World) (ρ : List Value) (F : Nat → List Nat) (env : Env) (H : Heap) (a : Act) (w : World) : Prop where
  st : St cfg cx.nt ρ F env H a w
  fr : Fr H0 F0 w0 H F w
  pins : ∀ i, i < cx.pins → ρ[i]? = ρ0[i]?

variable {cx : Cx} {ρ0 : List Value} {F0 : Nat → List Nat} {H0 : Heap} {w0 : World}

theorem St0.step {lk : Option (Blk → Bool)} {env env' : Env} {a a' : Act} {ρ' : List Value} {F' : Nat → List Nat} {H' : Heap} {w' : World} (h : St0 cfg cx ρ0 F0 H0 w0 ρ F env H a w) (hp : cx.pins ≤ ρ0.length) (hs : St cfg cx.nt ρ' F' env' H' a' w') (st : Step cfg lk ρ F H w ρ' F' H' w') :
    St0 cfg cx ρ0 F0 H0 w0 ρ' F' env' H' a' w' := by
  refine ⟨hs, h.fr.trans st.fr, fun i hi => ?_⟩
  have h1 := h.pins i hi
  have hil : i < ρ0.length := by omega
  rw [List.getElem?_eq_getElem hil] at h1 ⊢
  exact st.le i _ h1

theorem mkEnv_rel {tmps : Array Value} : ∀ (keep : List (Nat × Option Nat)) (vs : List V), RelL ρ vs (keep.map fun p => tmps.getD p.1 undef) → ∀ t, Rel ρ (mkEnv (zipKeep keep vs) t) (tmps.getD t undef)
  | [], [], _, t => .inl rfl
  | [], _ :: _, h, t => h.elim
  | (u, tg) :: r, [], h, t => h.elim
  | (u, tg) :: r, v :: vs, h, t => by
    simp only [zipKeep, mkEnv]
    cases ht : Nat.beq t u with
    | true => obtain rfl := Nat.eq_of_beq_eq_true ht; exact h.1
    | false => exact mkEnv_rel r vs h.2 t

theorem relL_env {env : Env} {a : Act} (hE : ∀ t, Rel ρ (env t) (a.tmps.getD t undef)) : ∀ (keep : List (Nat × Option Nat)), RelL ρ ((keep.map fun p => (p.2, env p.1)).map (·.2)) (keep.map fun p => a.tmps.getD p.1 undef)
  | [] => trivial
  | (t, _) :: r => ⟨hE t, relL_env hE r⟩

theorem range_get (n i : Nat) (h : i < n) : (List.range n)[i]? = some i := List.getElem?_range h

theorem gc_sound {keep : List (Nat × Option Nat)} {env : Env} {a : Act} {K : Env → Heap → Prop} (hp : cx.pins ≤ ρ0.length) (h : gc cx.pins keep env H K) (hs : St0 cfg cx ρ0 F0 H0 w0 ρ F env H a w) :
    ∃ ρ' F' env' H', K env' H' ∧ St0 cfg cx ρ0 F0 H0 w0 ρ' F' env' H' a w := by
  unfold gc at h
  split at h
  rename_i vs H1 hr
  obtain ⟨ρ1, F1, g1, st1⟩ := rowifyL_sound (lk := none) _ _ H ρ F hr (relL_env hs.st.env keep) hs.st.sat
  generalize hids : reach H1 3 (addNew (List.range cx.pins) (idsL vs)) = ids at h
  simp only at h
  split at h
  · rename_i vs' Hc hren hsel
    have hc := cond_elim h
    obtain ⟨ρ2, F2, q1, q2, q3, q4⟩ := regroup st1.sat hsel hc.1
    have hrel := renL_rel q1 hren g1
    have s1 := hs.step hp (a' := a) (env' := env) ⟨fun t => (hs.st.env t).le st1.le, hs.st.size, hs.st.defers, st1.sat⟩ st1
    refine ⟨ρ2, F2, _, Hc, hc.2, ⟨⟨mkEnv_rel keep vs' hrel, hs.st.size, hs.st.defers, q3⟩, s1.fr.trans q4, fun i hi => ?_⟩⟩
    have hpre : ids[i]? = some i := by
      obtain ⟨r1, e1⟩ := addNew_prefix (idsL vs) (List.range cx.pins)
      obtain ⟨r2, e2⟩ := reach_prefix H1 3 (addNew (List.range cx.pins) (idsL vs))
      rw [← hids, e2, e1, List.append_assoc, List.getElem?_append_left (by simpa using hi)]
      exact range_get _ _ hi
    rw [q2 i i hpre]
    exact s1.pins i hi
  · exact h.elim

theorem gcO_sound {keep : Option (List (Nat × Option Nat))} {env : Env} {a : Act} {K : Env → Heap → Prop} (hp : cx.pins ≤ ρ0.length) (h : gcO cx.pins keep env H K) (hs : St0 cfg cx ρ0 F0 H0 w0 ρ F env H a w) :
    ∃ ρ' F' env' H', K env' H' ∧ St0 cfg cx ρ0 F0 H0 w0 ρ' F' env' H' a w := by
  unfold gcO at h
  split at h
  · exact gc_sound hp h hs
  · exact ⟨ρ, F, env, H, h, hs⟩

/-- What a piece of code must lead to. -/
def QK (cfg : Cfg) (cx : Cx) (ρ0 : List Value) (F0 : Nat → List Nat) (H0 : Heap) (w0 : World) (K : Ex → Env → Heap → Prop) : Exit → Act → World → Prop
  | .normal, a, w => ∃ ρ F env H, St0 cfg cx ρ0 F0 H0 w0 ρ F env H a w ∧ K .normal env H
  | .exit i, a, w => ∃ ρ F env H, St0 cfg cx ρ0 F0 H0 w0 ρ F env H a w ∧ K (.exit i) env H
  | .ret, a, w => ∃ ρ F env H, St0 cfg cx ρ0 F0 H0 w0 ρ F env H a w ∧ K .ret env H
  | _, _, _ => False

theorem ex_sound (ok : CfgOK cfg) (hsig : ∀ g s, cfg.sigs g = some s → SpecOK cfg.P cfg.elT g s) (hp : cx.pins ≤ ρ0.length) : ∀ (c : Code) (K : Ex → Env → Heap → Prop) (env : Env) (H : Heap) (ρ : List Value) (F : Nat → List Nat) (a : Act) (w : World),
    ex cfg cx c env H K → St0 cfg cx ρ0 F0 H0 w0 ρ F env H a w → c.wp cfg.P (QK cfg cx ρ0 F0 H0 w0 K) a w := by
  intro c
  induction c with
  | skip => intro K env H ρ F a w h hs; exact wp_skip ⟨ρ, F, env, H, hs, h⟩
  | label l => intro K env H ρ F a w h hs; exact wp_label ⟨ρ, F, env, H, hs, h⟩
  | exit id => intro K env H ρ F a w h hs; exact wp_exit ⟨ρ, F, env, H, hs, h⟩
  | ret => intro K env H ρ F a w h hs; exact wp_ret ⟨ρ, F, env, H, hs, h⟩
  | goto l => intro K env H ρ F a w h hs; exact h.elim
  | refuse why => intro K env H ρ F a w h hs; exact h.elim
  | rangeFunc f ps x y _ _ => intro K env H ρ F a w h hs; exact h.elim
  | region id ops draw =>
    intro K env H ρ F a w h hs
    cases draw with
    | false =>
      have h : exOps cfg cx.nt none (fun _ => true) none ops.toList (List.range ops.toList.length) env H (K .normal) := h
      rw [Array.length_toList] at h
      exact wp_region (exOps_wpOps ok hsig _ ρ F H w env a h hs.st (fun ρ' F' H' w' env' a' h1 h2 h3 => ⟨ρ', F', env', H', hs.step hp h2 h3, h1⟩))
    | true =>
      have hd := hs.st.sat.drew
      have hst : St cfg cx.nt ρ F env H a w.drew := ⟨hs.st.env, hs.st.size, hs.st.defers, hd⟩
      have hs1 : St0 cfg cx ρ0 F0 H0 w0 ρ F env H a w.drew := ⟨hst, hs.fr.trans Fr.drew, hs.pins⟩
      have h : (match cfg.planT id with
       | some (p, kd) => bif planOkT ops p then exOpsT cfg cx.nt (some (lkOf kd)) (early ops.toList) (some H) ops.toList p env H (K .normal) else False
       | none => match cfg.plan id with
        | some (plan, kd) => bif planOk ops plan then exOps cfg cx.nt (some (lkOf kd)) (early ops.toList) (some H) ops.toList plan env H (K .normal) else False
        | none => False) := h
      split at h
      · rename_i p kd hpl
        have hc := cond_elim h
        have hc1 := hc.1
        simp only [planOkT, Bool.and_eq_true] at hc1
        obtain ⟨⟨hsel, hle⟩, hgo⟩ := hc1
        refine wp_region_any ok.mixed (wpAny_of_G (S := SD ops (lkOf kd) H F w.drew) _ _ _ _ ?_)
        exact wpAnyG_le (Nat.le_of_ble_eq_true hle) (exOps_tree (nt := cx.nt) (f := lkOf kd) (ops := ops) ok hsig (lkOK_lkOf kd) hsel (Q := QK cfg cx ρ0 F0 H0 w0 K) (fun _ _ _ h => h) hd
          (fun ρ' F' H' w' env' a' h1 h2 h3 => ⟨ρ', F', env', H', hs1.step hp h2 h3, h1⟩) p false (Array.replicate ops.size false) ρ F H w.drew env a hgo (by simp) (closed_start ops) hc.2 hst (.refl hd) (fun _ _ _ => rfl))
      · split at h
        rotate_left
        · exact h.elim
        rename_i plan kd hpl
        have hc := cond_elim h
        have hc1 := hc.1
        simp only [planOk, Bool.and_eq_true] at hc1
        obtain ⟨⟨hsel, hlen⟩, hgo⟩ := hc1
        have hlen : plan.length = ops.size := by simpa using hlen
        refine wp_region_any ok.mixed (wpAny_of_G (S := SD ops (lkOf kd) H F w.drew) _ _ _ _ ?_)
        rw [← hlen]
        have := exOps_drawn (nt := cx.nt) (f := lkOf kd) (ops := ops) ok hsig (lkOK_lkOf kd) hsel (Q := QK cfg cx ρ0 F0 H0 w0 K) (fun _ _ _ h => h) hd plan (Array.replicate ops.size false) ρ F H w.drew env a hgo (by simp) (closed_start ops) hc.2 hst (.refl hd) (fun _ _ _ => rfl)
          (fun ρ' F' H' w' env' a' h1 h2 h3 => ⟨ρ', F', env', H', hs1.step hp h2 h3, h1⟩)
        rw [← hlen] at this
        exact this
  | seq x y ihx ihy =>
    intro K env H ρ F a w h hs
    refine wp_seq (wp_mono (ihx _ env H ρ F a w h hs) (fun e a w hq => ?_))
    cases e with
    | normal => obtain ⟨ρ', F', env', H', h1, h2⟩ := hq; exact ihy K env' H' ρ' F' a w h2 h1
    | exit i => exact hq
    | ret => exact hq
    | goto l => exact hq
    | panic ch => exact hq
    | outgrown => exact hq
  | cond c x y ihx ihy =>
    intro K env H ρ F a w h hs
    have h : (match ev env c with
      | .ext (.bool t) => br t (ex cfg cx x env H K) (ex cfg cx y env H K)
      | _ => False) := h
    split at h
    · rename_i t ht
      have hc := REnv.ev hs.st.env c
      rw [ht] at hc
      have hc := den_ext hc
      refine wp_cond hc ?_
      rcases br_elim h with ⟨rfl, h⟩ | ⟨rfl, h⟩
      · exact ihx K env H ρ F a w h hs
      · exact ihy K env H ρ F a w h hs
    · exact h.elim
  | block id x ih =>
    intro K env H ρ F a w h hs
    refine wp_block (wp_mono (ih _ env H ρ F a w h hs) (fun e a w hq => ?_))
    cases e with
    | normal =>
      obtain ⟨ρ', F', env', H', h1, h2⟩ := hq
      obtain ⟨ρ2, F2, env2, H2, g1, g2⟩ := gcO_sound hp h2 h1
      exact ⟨ρ2, F2, env2, H2, g2, g1⟩
    | exit i =>
      obtain ⟨ρ', F', env', H', h1, h2⟩ := hq
      simp only [Exit.inBlock]
      have h2 : bif Nat.beq i id then gcO cx.pins (cfg.keepB id) env' H' (K .normal) else K (.exit i) env' H' := h2
      cases hi : Nat.beq i id with
      | true =>
        rw [hi] at h2
        have e := Nat.eq_of_beq_eq_true hi
        rw [if_pos e]
        obtain ⟨ρ2, F2, env2, H2, g1, g2⟩ := gcO_sound hp h2 h1
        exact ⟨ρ2, F2, env2, H2, g2, g1⟩
      | false =>
        rw [hi] at h2
        have hne : i ≠ id := fun e => by subst e; simp at hi
        rw [if_neg hne]
        exact ⟨ρ', F', env', H', h1, h2⟩
    | ret => exact hq
    | goto l => exact hq
    | panic ch => exact hq
    | outgrown => exact hq
  | scope x ih =>
    intro K env H ρ F a w h hs
    refine wp_scope_straight (wp_mono (ih _ env H ρ F a w h hs) (fun e a w hq => ?_))
    cases e <;> exact hq
  | loop x ih =>
    intro K env H ρ F a w h hs
    obtain ⟨ρ1, F1, env1, H1, g0, g2⟩ := gcO_sound hp (h : gcO cx.pins (cfg.keep (firstRegion x)) env H _) hs
    have g0' : LoopQ x (ex cfg cx x) (gcO cx.pins (cfg.keep (firstRegion x))) env1 H1 K := by
      revert g0
      cases cfg.unroll (firstRegion x) with
      | none => exact id
      | some n => exact fun h => ⟨n, h⟩
    clear g0
    obtain ⟨n, g1⟩ := g0'
    refine wp_loop_rounds n ?_
    clear h hs
    induction n generalizing env1 H1 ρ1 F1 a w with
    | zero => exact g1.elim
    | succ n ihn =>
      rw [rounds_succ]
      refine wp_mono (ih _ env1 H1 ρ1 F1 a w g1 g2) (fun e a w hq => ?_)
      cases e with
      | normal =>
        obtain ⟨ρ', F', env', H', h1, h2⟩ := hq
        obtain ⟨ρ2, F2, env2, H2, q1, q2⟩ := gcO_sound hp (h2 : gcO cx.pins (cfg.keep (firstRegion x)) env' H' _) h1
        exact ihn a w ρ2 F2 env2 H2 q2 q1
      | exit i => exact hq
      | ret => exact hq
      | goto l => exact hq
      | panic ch => exact hq
      | outgrown => exact hq

/-! A function as a whole. -/
theorem resV_sound {env : Env} {a : Act} : ∀ (rs : List ResultVar) (tys : List TypeId) (H : Heap) (ρ : List Value) (F : Nat → List Nat) {vs : List V} {H' : Heap}, resV cfg env H rs tys = some (vs, H') → (∀ t, Rel ρ (env t) (a.tmps.getD t undef)) → Sat cfg.elT ρ F H w →
    ∃ ρ' F' xs, RelL ρ' vs xs ∧ Step cfg none ρ F H w ρ' F' H' w ∧ xs.length = rs.length ∧
      (rs.mapM fun r => (match r with | .tmp t => pure (a.tmps.getD t undef) | .cell c t => do loadVar t (← asAddr (a.tmps.getD c undef)) : Sem Value)).run cfg.P w = .ok xs w
  | [], [], H, ρ, F, vs, H', h, hE, hs => by
    simp only [resV, Option.some.injEq, Prod.mk.injEq] at h
    obtain ⟨rfl, rfl⟩ := h
    exact ⟨ρ, F, [], trivial, .refl hs, rfl, by simp⟩
  | [], _ :: _, H, ρ, F, vs, H', h, hE, hs => by simp [resV] at h
  | .tmp t :: r, [], H, ρ, F, vs, H', h, hE, hs => by simp [resV] at h
  | .cell c t :: r, [], H, ρ, F, vs, H', h, hE, hs => by simp [resV] at h
  | .cell c t :: r, ty :: tys, H, ρ, F, vs, H', h, hE, hs => by
    simp only [resV] at h
    split at h
    · rename_i v vs1 H2 h1 h2
      simp only [Option.some.injEq, Prod.mk.injEq] at h
      obtain ⟨rfl, rfl⟩ := h
      have hl : loadV cfg none H t (env c) (fun u => u = v) := by
        unfold cellV at h1
        unfold loadV
        split at h1
        · rename_i i b o hi hx
          rw [hi, hx]
          simp only
          split at h1
          · rename_i T cs hH
            try rw [hH]
            simp only [mayRead, cond_true]
            cases hd : isAggD i.desc with
            | true =>
              rw [hd] at h1
              simp only [cond_true] at h1 ⊢
              cases hb : Nat.ble (o + i.size) cs.length with
              | true => rw [hb] at h1; injection h1
              | false => rw [hb] at h1; cases h1
            | false =>
              rw [hd] at h1
              simp only [cond_false] at h1 ⊢
              rw [h1]
          · cases h1
        · cases h1
      obtain ⟨u, x, rfl, hx, hrun⟩ := loadV_sound hl (hE c) (hs.reads none)
      obtain ⟨ρ2, F2, xs, g2, st2, g3, g4⟩ := resV_sound r tys H ρ F h2 hE hs
      refine ⟨ρ2, F2, x :: xs, ⟨hx.le st2.le, g2⟩, st2, by simp [g3], ?_⟩
      rw [List.mapM_cons, Sem.run_bind]
      have e : (do loadVar t (← asAddr (a.tmps.getD c undef)) : Sem Value).run cfg.P w = .ok x w := by
        have h3 := hrun w (hs.reads none)
        have hp : ∃ b o, env c = .ptr b o := by
          unfold cellV at h1
          split at h1
          · exact ⟨_, _, by assumption⟩
          · cases h1
        obtain ⟨b, o, hp⟩ := hp
        obtain ⟨g, _, hg⟩ := den_ptr (hp ▸ hE c)
        rw [hg] at h3 ⊢
        simpa [Instr.loadAt, Instr.sureAddr, asAddr] using h3
      rw [e]
      simp only [Result.andThen_ok, Sem.run_bind, g4, Sem.run_pure]
    · cases h
  | .tmp t :: r, ty :: tys, H, ρ, F, vs, H', h, hE, hs => by
    simp only [resV] at h
    cases h1 : rowify H (cfg.tagOf ty) (env t) with
    | mk v1 H1 =>
    rw [h1] at h
    simp only at h
    cases h2 : resV cfg env H1 r tys with
    | none => rw [h2] at h; cases h
    | some p =>
      obtain ⟨vs1, H2⟩ := p
      rw [h2] at h
      simp only [Option.some.injEq, Prod.mk.injEq] at h
      obtain ⟨rfl, rfl⟩ := h
      obtain ⟨ρ1, F1, g1, st1⟩ := rowify_sound (lk := none) h1 (hE t) hs
      obtain ⟨ρ2, F2, xs, g2, st2, g3, g4⟩ := resV_sound r tys H1 ρ1 F1 h2 (fun t => (hE t).le st1.le) st1.sat
      refine ⟨ρ2, F2, a.tmps.getD t undef :: xs, ⟨g1.le st2.le, g2⟩, st1.trans st2, by simp [g3], ?_⟩
      rw [List.mapM_cons, Sem.run_bind]
      simp only [Sem.run_pure, Result.andThen_ok, Sem.run_bind, g4]

theorem one_rel : ∀ {vs : List V} {xs : List Value}, RelL ρ vs xs → (∀ v ∈ vs, vs.length ≠ 1 → v ≠ .junk) → Rel ρ (one vs) (if h : xs.length = 1 then xs[0] else .tuple xs.toArray)
  | [], [], _, _ => .inr (by simp [one, V.den, denL])
  | [v], [x], h, _ => by simpa [one] using h.1
  | v :: v2 :: r, x :: x2 :: xs, h, hj => by
    have hl : ∀ (ws : List V) (ys : List Value), RelL ρ ws ys → (∀ v ∈ ws, v ≠ .junk) → denL ρ ws = some ys := by
      intro ws
      induction ws with
      | nil => intro ys h _; cases ys with
        | nil => rfl
        | cons _ _ => exact h.elim
      | cons u ws ih => intro ys h hj; cases ys with
        | nil => exact h.elim
        | cons y ys => simp only [denL, h.1.den (hj u (by simp)), ih ys h.2 (fun v hv => hj v (by simp [hv]))]
    have hd := hl _ _ h (fun v hv => hj v hv (by simp))
    refine .inr ?_
    simp only [one, V.den, hd]
    simp
  | [_], [], h, _ => h.elim
  | [], _ :: _, h, _ => h.elim
  | [_], _ :: _ :: _, h, _ => h.2.elim
  | _ :: _ :: _, [], h, _ => h.elim
  | _ :: _ :: _, [_], h, _ => h.2.elim

theorem results_run {fn : Func} {tmps : Array Value} {xs : List Value} {P : Program} (hl : xs.length = fn.results.toList.length)
    (h : (fn.results.toList.mapM fun r => (match r with | .tmp t => pure (tmps.getD t undef) | .cell c t => do loadVar t (← asAddr (tmps.getD c undef)) : Sem Value)).run P w = .ok xs w) :
    (results fn tmps).run P w = .ok (if h : xs.length = 1 then xs[0] else .tuple xs.toArray) w := by
  have hm : ∀ f : ResultVar → Sem Value, (∀ r, f r = (match r with | .tmp t => pure (tmps.getD t undef) | .cell c t => do loadVar t (← asAddr (tmps.getD c undef)) : Sem Value)) →
      (fn.results.mapM f).run P w = .ok xs.toArray w := by
    intro f hf
    have e : fn.results = fn.results.toList.toArray := by simp
    have hff : f = fun r => (match r with | .tmp t => pure (tmps.getD t undef) | .cell c t => do loadVar t (← asAddr (tmps.getD c undef)) : Sem Value) := funext hf
    rw [e, List.mapM_toArray, hff, map_eq_pure_bind, Sem.run_bind, h]
    rfl
  unfold results
  rw [Sem.run_bind, hm _ (fun r => by cases r <;> rfl)]
  simp only [Result.andThen_ok, Sem.run_pure]
  congr 1

/-- The state in which a function begins. -/
theorem argEnv_rel {args : List V} {vals : List Value} (h : denL ρ args = some vals) (n t : Nat) : Rel ρ (argEnv args t) ((vals.toArray ++ Array.replicate n undef).getD t undef) := by
  unfold argEnv
  have hl := denL_len h
  cases ht : args[t]? with
  | some v =>
    obtain ⟨x, h1, h2⟩ := denL_get h t v ht
    have htl : t < vals.length := (List.getElem?_eq_some_iff.1 h1).1
    refine .inr ?_
    rw [h2]
    congr 1
    simp [Array.getD_eq_getD_getElem?, Array.getElem?_append, htl]
    rw [List.getElem?_eq_getElem htl] at h1
    injection h1 with h1
    exact h1.symm
  | none =>
    refine .inr ?_
    simp only [V.den]
    congr 1
    have htl : ¬ t < vals.length := by
      intro h'
      rw [List.getElem?_eq_getElem (by omega)] at ht; cases ht
    simp only [Array.getD_eq_getD_getElem?, Array.getElem?_append, List.size_toArray, htl, if_false, Array.getElem?_replicate]
    split <;> rfl

theorem spec_of_exF (ok : CfgOK cfg) (hsig : ∀ g s, cfg.sigs g = some s → SpecOK cfg.P cfg.elT g s) {g : FuncId} {fn : Func} {s : Spec} (hg : cfg.P.funcs[g]? = some fn) (hname : (fn.name == "runtime.NumGoroutine") = false) (hb : fn.body.isNone = false)
    (h : ∀ (args : List V) (H : Heap) (K : V → Heap → Prop), s.tr args H K → exF cfg fn args H K) : SpecOK cfg.P cfg.elT g s := by
  refine ⟨⟨fn, hg, hname, hb⟩, fun args H K htr ρ F w vals hden hsat => ?_⟩
  have hex := h args H K htr
  unfold exF at hex
  split at hex
  · rename_i c hc
    have hlen := denL_len hden
    have hst : St cfg (cxOf fn args H).nt ρ F (argEnv args) H { tmps := vals.toArray ++ Array.replicate (fn.ntmps - vals.toArray.size) undef, defers := [] } w :=
      ⟨argEnv_rel hden _, by simp [cxOf, hlen], rfl, hsat⟩
    have hs0 : St0 cfg (cxOf fn args H) ρ F H w ρ F (argEnv args) H { tmps := vals.toArray ++ Array.replicate (fn.ntmps - vals.toArray.size) undef, defers := [] } w :=
      ⟨hst, Fr.refl, fun _ _ => rfl⟩
    have hp : (cxOf fn args H).pins ≤ ρ.length := by rw [hsat.len]; exact Nat.le_refl _
    have hwp := ex_sound ok hsig hp c _ (argEnv args) H ρ F _ w hex hs0
    refine calls_of_wp hg hc (wp_mono hwp (fun e a' w' hq => ?_))
    have fin : ∀ (e : Ex) (ρ1 : List Value) (F1 : Nat → List Nat) (env1 : Env) (H1 : Heap), St0 cfg (cxOf fn args H) ρ F H w ρ1 F1 env1 H1 a' w' → retK cfg fn H.length K e env1 H1 →
        a'.defers = [] ∧ ∃ v, (results fn a'.tmps).run cfg.P w' = .ok v w' ∧ ∃ v' x ρ' F' H', Ending.returned v = .returned x ∧ K v' H' ∧ Rel ρ' v' x ∧ Le ρ ρ' ∧ Sat cfg.elT ρ' F' H' w' ∧ Fr H F w H' F' w' := by
      intro e ρ1 F1 env1 H1 hs1 hr
      refine ⟨hs1.st.defers, ?_⟩
      have hr : match resV cfg env1 H1 fn.results.toList fn.resultTypes.toList with
          | none => False
          | some (vs, H2) =>
            match renL (idx (reach H2 3 (addNew (List.range H.length) (idsL vs)))) vs, sel H2 (idx (reach H2 3 (addNew (List.range H.length) (idsL vs)))) (reach H2 3 (addNew (List.range H.length) (idsL vs))) with
            | some vs', some H3 => bif nodup (reach H2 3 (addNew (List.range H.length) (idsL vs))) && noJunk vs' then K (one vs') H3 else False
            | _, _ => False := by
        cases e with
        | exit i => exact hr.elim
        | normal => exact hr
        | ret => exact hr
      split at hr
      · exact hr.elim
      · rename_i vs H2 hres
        obtain ⟨ρ2, F2, xs, g1, st2, g3, g4⟩ := resV_sound (w := w') _ _ H1 ρ1 F1 hres hs1.st.env hs1.st.sat
        generalize hids : reach H2 3 (addNew (List.range H.length) (idsL vs)) = ids at hr
        split at hr
        · rename_i vs' H3 hren hsel
          have hcd := cond_elim hr
          have hc1 := hcd.1
          simp only [Bool.and_eq_true] at hc1
          obtain ⟨ρ3, F3, q1, q2, q3, q4⟩ := regroup st2.sat hsel hc1.1
          have hrel := renL_rel q1 hren g1
          refine ⟨_, results_run g3 g4, one vs', _, ρ3, F3, H3, rfl, hcd.2, one_rel hrel (fun v hv _ => ?_), fun i x hx => ?_, q3, (hs1.fr.trans st2.fr).trans q4⟩
          · rintro rfl
            have : ∀ ws : List V, V.junk ∈ ws → noJunk ws = true → False := by
              intro ws
              induction ws with
              | nil => intro h _; cases h
              | cons u ws ih =>
                intro hm hn
                rcases List.mem_cons.1 hm with e | hm
                · subst e; simp [noJunk] at hn
                · refine ih hm ?_
                  cases u <;> simp_all [noJunk]
            exact this _ hv hc1.2
          · have hil : i < H.length := by rw [← hsat.len]; exact (List.getElem?_eq_some_iff.1 hx).1
            have hpre : ids[i]? = some i := by
              obtain ⟨r1, e1⟩ := addNew_prefix (idsL vs) (List.range H.length)
              obtain ⟨r2, e2⟩ := reach_prefix H2 3 (addNew (List.range H.length) (idsL vs))
              rw [← hids, e2, e1, List.append_assoc, List.getElem?_append_left (by simpa using hil)]
              exact range_get _ _ hil
            rw [q2 i i hpre]
            have hpi := hs1.pins i hil
            rw [hx] at hpi
            exact st2.le i x hpi
        · exact hr.elim
    cases e with
    | normal => obtain ⟨ρ1, F1, env1, H1, h1, h2⟩ := hq; exact fin _ ρ1 F1 env1 H1 h1 h2
    | ret => obtain ⟨ρ1, F1, env1, H1, h1, h2⟩ := hq; exact fin _ ρ1 F1 env1 H1 h1 h2
    | exit i => obtain ⟨ρ1, F1, env1, H1, h1, h2⟩ := hq; exact h2.elim
    | goto l => exact hq.elim
    | panic ch => exact hq.elim
    | outgrown => exact hq.elim
  · exact hex.elim

/-- A loop, by what its states are: each round leads to a smaller one, or leaves. -/
theorem loop_ind {cfg : Cfg} {cx : Cx} {c : Code} {K : Ex → Env → Heap → Prop} {σ : Type} (E : σ → Env) (Hp : σ → Heap) (I : σ → Prop) (μ : σ → Nat)
    (round : ∀ s, I s → ∀ J : Env → Heap → Prop, (∀ s', I s' → μ s' < μ s → J (E s') (Hp s')) → ex cfg cx c (E s) (Hp s) (roundK cfg cx c K J)) (s : σ) (hs : I s) : Loop cfg cx c (E s) (Hp s) K := by
  have key : ∀ n s, I s → μ s ≤ n → loopM c (ex cfg cx c) (gcO cx.pins (cfg.keep (firstRegion c))) K (n + 1) (E s) (Hp s) := by
    intro n
    induction n with
    | zero =>
      intro s hs hm
      exact round s hs _ (fun s' _ h => by omega)
    | succ n ih =>
      intro s hs hm
      exact round s hs _ (fun s' hs' h => ih s' hs' (by omega))
  exact ⟨_, key (μ s) s hs (Nat.le_refl _)⟩


end Go.Rx
