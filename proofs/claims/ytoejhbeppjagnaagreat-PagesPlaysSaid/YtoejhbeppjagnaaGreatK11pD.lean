/- What the row's text of this claim stands on, part 4: the symbolic executor, contracts of the program's functions, plain facts. No condition. -/
import Derived.ScopeJumps
import Derived.Test.YtoejhbeppjagnaaGreatK11pC
noncomputable section
namespace Go.Rx
open Go.Proofs
set_option maxRecDepth 100000
set_option maxHeartbeats 4000000
def ybh (m_ : Y62) (args : List V) (H : Heap) (K : V → Heap → Prop) : Prop :=
  aC args fun a0 r => aN r <| aAgg a0 fun c0 => y5b c0 fun c => aN H <| So (m_ c) fun x => K (.agg (ye x)) []
def yd4 (m_ : Y62) : Spec := ⟨ybh m_, (true : Bool)⟩
abbrev Y46 := yb → Option (ya × T_assartref02_Layout × (List Int))
def ycd (m_ : Y46) (args : List V) (H : Heap) (K : V → Heap → Prop) : Prop :=
  aC args fun a0 r => aN r <| aAgg a0 fun c0 => y5b c0 fun c => aN H <| So (m_ c) fun x => K (.tup [.agg (yd x.1), .agg (y0g x.2.1), .row 0]) [.row 0 x.2.2 false]
def yfl (m_ : Y46) : Spec := ⟨ycd m_, (true : Bool)⟩
def yhy (y3z : Y62) : Cfg := { cfgB with
  sigs := (sigC 66 (yfg y3z) sigN) }
def yj0 (y2d : Y62) (y2r : Y66) (y2o : Y1) : Cfg := { cfgB with
  sigs := (sigC 32 (yd4 y2d) (sigC 33 (ycj y2r) (sigC 37 (y9e y2o) sigN))),
  planT := fun r => match r with | 4 => some ((chainT [0, 1, 2, 3] (.alt (chainT [4, 5, 6, 7] .fin) (chainT [5] (.alt (chainT [4, 6, 7] .fin) (chainT [6, 4, 7] .fin))))), 3) | _ => none,
  flag := fun d => Nat.beq d 2 || Nat.beq d 3 }
theorem yq0 (y3z : Y62) (c : yb) (K : V → Heap → Prop) : (exF (yhy y3z) Tryz.f32 [.agg (ye c)] [] K) = (
    So (y3z c) (fun (y0 : yb) => (K (.agg [vi (IntKind.i64.wrap (1 + Int.tmod y0.Workers 4)), vi (IntKind.i64.wrap (1 + Int.tmod y0.CPUs 2)), vi (IntKind.i64.wrap (1 + Int.tmod y0.Pages 9)), vi (IntKind.i64.wrap (1 + Int.tmod y0.Stripes 4)), vi y0.Tries, vi y0.Wait, vi y0.Clock, vi (IntKind.i64.wrap (1 + Int.tmod y0.Private 3)), vi (Int.tmod y0.Cache 3), vi (Int.tmod y0.Bin 4), vi (IntKind.i64.wrap (1 + Int.tmod y0.Batch 3))]) []))) := by kernel_rfl
theorem yn3 (y2d : Y62) (y2r : Y66) (y2o : Y1) (c : yb) (K : V → Heap → Prop) : (exF (yj0 y2d y2r y2o) Tryz.f7 [.agg (ye c)] [] K) = (
    So (y2d c) (fun (y0 : yb) => (So (y2r y0) (fun (y1 : ya × Int) => (So (y2o (T_assartref02_Layout.mk y0)) (fun (y2 : Int) => ((Req (decide (0 ≤ y2 ∧ y2 ≤ y2 ∧ y2 ≤ 1048576)) (K (.tup [.agg (yd y1.1), .agg (ye y0), .row 0]) [.row 0 (List.replicate (Int.toNat y2) (0 : Int) : List Int) false])) ∧ ((Req (decide (0 ≤ y2 ∧ y2 ≤ y2 ∧ y2 ≤ 1048576)) (K (.tup [.agg (yd y1.1), .agg (ye y0), .row 0]) [.row 0 (List.replicate (Int.toNat y2) (0 : Int) : List Int) false])) ∧ (Req (decide (0 ≤ y2 ∧ y2 ≤ y2 ∧ y2 ≤ 1048576)) (K (.tup [.agg (yd y1.1), .agg (ye y0), .row 0]) [.row 0 (List.replicate (Int.toNat y2) (0 : Int) : List Int) false])))))))))) := by kernel_rfl
def y2d (c : yb) : Option yb :=
  ((y3z c).bind fun y0 => some (yb.mk (IntKind.i64.wrap (1 + Int.tmod y0.Workers 4)) (IntKind.i64.wrap (1 + Int.tmod y0.CPUs 2)) (IntKind.i64.wrap (1 + Int.tmod y0.Pages 9)) (IntKind.i64.wrap (1 + Int.tmod y0.Stripes 4)) y0.Tries y0.Wait y0.Clock (IntKind.i64.wrap (1 + Int.tmod y0.Private 3)) (Int.tmod y0.Cache 3) (Int.tmod y0.Bin 4) (IntKind.i64.wrap (1 + Int.tmod y0.Batch 3))))
def y1t (c : yb) : Option (ya × T_assartref02_Layout × (List Int)) :=
  ((y2d c).bind fun y0 => ((y2r y0).bind fun y1 => ((y2o (T_assartref02_Layout.mk y0)).bind fun y2 => (bif (decide (0 ≤ y2 ∧ y2 ≤ y2 ∧ y2 ≤ 1048576)) then some (y1.1, (T_assartref02_Layout.mk y0), (List.replicate (Int.toNat y2) (0 : Int))) else none))))
attribute [local irreducible] Loop ex exF contK roundK retK at_ bodyOf mkEnv
theorem yg6 : SpecOK Tryz.prog elTT 32 (yd4 y2d) := by
  refine spec_of_exF (cfg := (yhy y3z)) (yg rfl rfl rfl) (yc yoe yh) (fn := Tryz.f32) (by kernel_rfl) (by kernel_rfl) (by kernel_rfl) ?_
  intro args H K h
  change ybh y2d args H K at h
  unfold ybh at h
  repeat first | (obtain ⟨_, h⟩ := h) | replace h := Des.el h
  subst_vars
  refine Eq.mpr (yq0 y3z _ K) ?_
  unfold y2d at h
  revert h
  exact bind_So fun y0 => fun h => h
theorem yom : SpecOK Tryz.prog elTT 7 (yfl y1t) := by
  refine spec_of_exF (cfg := (yj0 y2d y2r y2o)) (yg rfl rfl rfl) (yc yg6 (yc yij (yc yjp yh))) (fn := Tryz.f7) (by kernel_rfl) (by kernel_rfl) (by kernel_rfl) ?_
  intro args H K h
  change ycd y1t args H K at h
  unfold ycd at h
  repeat first | (obtain ⟨_, h⟩ := h) | replace h := Des.el h
  subst_vars
  refine Eq.mpr (yn3 y2d y2r y2o _ K) ?_
  unfold y1t at h
  revert h
  exact bind_So fun y0 => bind_So fun y1 => bind_So fun y2 => alt_So (req_So (fun h => h)) (alt_So (req_So (fun h => h)) (req_So (fun h => h)))
end Go.Rx
end

section
namespace Go.Rx
open Go.Proofs
def I64 (x : Int) : Prop := -9223372036854775808 ≤ x ∧ x ≤ 9223372036854775807
theorem Small_eq (c : yb) : ∃ d, y2d c = some d ∧ RightC d := by
  obtain ⟨d, h1, h2⟩ := Some_eq c
  unfold y2d
  rw [h1, Option.bind_some]
  refine ⟨_, rfl, ?_⟩
  obtain ⟨a, b, d', e, f, g, h', i, j, k, l⟩ := h2
  have md : ∀ x m : Int, 0 ≤ x → 0 < m → m ≤ 10 → Int.tmod x m = x % m ∧ 0 ≤ x % m ∧ x % m < m := fun x m h1 h2 h3 => ⟨Int.tmod_eq_emod_of_nonneg h1, Int.emod_nonneg _ (by omega), Int.emod_lt_of_pos _ h2⟩
  have m1 := md d.Workers 4 (by omega) (by omega) (by omega)
  have m2 := md d.CPUs 2 (by omega) (by omega) (by omega)
  have m3 := md d.Pages 9 (by omega) (by omega) (by omega)
  have m4 := md d.Stripes 4 (by omega) (by omega) (by omega)
  have m5 := md d.Private 3 (by omega) (by omega) (by omega)
  have m6 := md d.Cache 3 (by omega) (by omega) (by omega)
  have m7 := md d.Bin 4 (by omega) (by omega) (by omega)
  have m8 := md d.Batch 3 (by omega) (by omega) (by omega)
  simp only [m1.1, m2.1, m3.1, m4.1, m5.1, m6.1, m7.1, m8.1]
  simp (disch := omega) only [wrap_id]
  exact ⟨by simp only; omega, by simp only; omega, by simp only; omega, by simp only; omega, f, g, h', by simp only; omega, by simp only; omega, by simp only; omega, by simp only; omega⟩
theorem Begin_eq (c : yb) : ∃ d, RightC d ∧ y1t c = some (layC d, ⟨d⟩, List.replicate (layC d).at_11.toNat 0) := by
  obtain ⟨d, h1, h2⟩ := Small_eq c
  have hb := (layC_ok h2).big; have h11 := (layC_ok h2).a11; have hp := (layC_ok h2).pages
  refine ⟨d, h2, ?_⟩
  unfold y1t
  rw [h1, Option.bind_some, Of_eq, if_pos h2, Option.bind_some, rWords_eq h2, Option.bind_some, decide_eq_true (by omega)]
  rfl
theorem rep_VOK {L : ya} (h : LayOK L) : VOK L (List.replicate L.at_11.toNat (0 : Int)).length (List.replicate L.at_11.toNat 0) := by
  have hb := h.big; have h11 := h.a11; have hp := h.pages
  exact ⟨h, rfl, by simp; omega⟩
theorem VOK.le {L : ya} {nw : Nat} {cur : List Int} (v : VOK L nw cur) : 128 ≤ nw := by
  have hb := v.lay.big; have h11 := v.lay.a11; have hp := v.lay.pages; have := v.all
  omega
end Go.Rx
end

section
namespace Go.Rx
def deg (G : Nat) : Code → Code
  | .seq a b => .seq (deg G a) (deg G b)
  | .cond c a b => .cond c (deg G a) (deg G b)
  | .goto _ => .exit G
  | c => c
def degOk (l B G : Nat) : Code → Bool
  | .seq a b => degOk l B G a && degOk l B G b
  | .cond _ a b => degOk l B G a && degOk l B G b
  | .goto l' => Nat.beq l' l
  | .exit i => !(Nat.beq i G) && !(Nat.beq i B)
  | .skip => true
  | .label _ => true
  | .region _ _ _ => true
  | .ret => true
  | _ => false
def goLoop (B G : Nat) (rest : Code) : Code := .block G (.seq (deg G rest) (.exit B))
def goCode (B G : Nat) (c rest : Code) : Code := .block B (.seq (.block G (.seq (deg G c) (.exit B))) (.loop (goLoop B G rest)))
variable {cfg : Cfg} {cx : Cx} {ds : List Deferred} {ρ0 : List Value} {F0 : Nat → List Nat} {H0 : Heap} {w0 : World}
def QG (cfg : Cfg) (cx : Cx) (ds : List Deferred) (ρ0 : List Value) (F0 : Nat → List Nat) (H0 : Heap) (w0 : World) (l B G : Nat) (K : Ex → Env → Heap → Prop) : Exit → Act → World → Prop
  | .normal, a, w => ∃ ρ F env H, St0 cfg cx ds ρ0 F0 H0 w0 ρ F env H a w ∧ K .normal env H
  | .exit i, a, w => Nat.beq i G = false ∧ Nat.beq i B = false ∧ ∃ ρ F env H, St0 cfg cx ds ρ0 F0 H0 w0 ρ F env H a w ∧ K (.exit i) env H
  | .ret, a, w => ∃ ρ F env H, St0 cfg cx ds ρ0 F0 H0 w0 ρ F env H a w ∧ K .ret env H
  | .goto l', a, w => l' = l ∧ ∃ ρ F env H, St0 cfg cx ds ρ0 F0 H0 w0 ρ F env H a w ∧ K (.exit G) env H
  | _, _, _ => False
theorem exG_sound (ok : CfgOK cfg) (hsig : ∀ g s, cfg.sigs g = some s → SpecOK cfg.P cfg.elT g s) (hp : cx.pins ≤ ρ0.length) {l B G : Nat} : ∀ (c : Code), degOk l B G c = true → ∀ (K : Ex → Env → Heap → Prop) (env : Env) (H : Heap) (ρ : List Value) (F : Nat → List Nat) (a : Act) (w : World),
    ex cfg cx (deg G c) env H K → St0 cfg cx ds ρ0 F0 H0 w0 ρ F env H a w → c.wp cfg.P (QG cfg cx ds ρ0 F0 H0 w0 l B G K) a w := by
  intro c
  induction c with
  | skip => intro _ K env H ρ F a w h hs; exact wp_skip ⟨ρ, F, env, H, hs, h⟩
  | label l => intro _ K env H ρ F a w h hs; exact wp_label ⟨ρ, F, env, H, hs, h⟩
  | ret => intro _ K env H ρ F a w h hs; exact wp_ret ⟨ρ, F, env, H, hs, h⟩
  | exit id =>
    intro hd K env H ρ F a w h hs
    simp only [degOk, Bool.and_eq_true, Bool.not_eq_true'] at hd
    exact wp_exit ⟨hd.1, hd.2, ρ, F, env, H, hs, h⟩
  | goto l' =>
    intro hd K env H ρ F a w h hs
    exact wp_goto ⟨Nat.eq_of_beq_eq_true hd, ρ, F, env, H, hs, h⟩
  | region id ops draw =>
    intro _ K env H ρ F a w h hs
    have h' : ex cfg cx (.region id ops draw) env H (fun e => match e with | .normal => K .normal | _ => fun _ _ => False) := by
      cases draw with
      | false => exact h
      | true => exact h
    refine wp_mono (y6y ok hsig hp _ _ env H ρ F a w h' hs) (fun e a w hq => ?_)
    cases e with
    | normal => exact hq
    | exit i => obtain ⟨_, _, _, _, _, hf⟩ := hq; exact hf.elim
    | ret => obtain ⟨_, _, _, _, _, hf⟩ := hq; exact hf.elim
    | goto l => exact hq.elim
    | panic ch => exact hq.elim
    | outgrown => exact hq.elim
  | seq x y ihx ihy =>
    intro hd K env H ρ F a w h hs
    simp only [degOk, Bool.and_eq_true] at hd
    refine wp_seq (wp_mono (ihx hd.1 _ env H ρ F a w h hs) (fun e a w hq => ?_))
    cases e with
    | normal => obtain ⟨ρ', F', env', H', h1, h2⟩ := hq; exact ihy hd.2 K env' H' ρ' F' a w h2 h1
    | exit i => exact hq
    | ret => exact hq
    | goto l => exact hq
    | panic ch => exact hq
    | outgrown => exact hq
  | cond c x y ihx ihy =>
    intro hd K env H ρ F a w h hs
    simp only [degOk, Bool.and_eq_true] at hd
    have h : (match ev env c with
      | .ext (.bool t) => br t (ex cfg cx (deg G x) env H K) (ex cfg cx (deg G y) env H K)
      | _ => False) := h
    split at h
    · rename_i t ht
      have hc := REnv.ev hs.st.env c
      rw [ht] at hc
      have hc := den_ext hc
      refine wp_cond hc ?_
      rcases br_elim h with ⟨rfl, h⟩ | ⟨rfl, h⟩
      · exact ihx hd.1 K env H ρ F a w h hs
      · exact ihy hd.2 K env H ρ F a w h hs
    · exact h.elim
  | block id x ih => intro hd; cases hd
  | loop x ih => intro hd; cases hd
  | scope x ih => intro hd; cases hd
  | rangeFunc f ps x y _ _ => intro hd; cases hd
  | refuse why => intro hd; cases hd
theorem least_ex {p : Nat → Prop} : ∀ n, p n → ∃ m, p m ∧ ∀ k, p k → m ≤ k := by
  intro n
  induction n using Nat.strongRecOn with
  | _ n ih =>
    intro h
    by_cases hx : ∃ k, k < n ∧ p k
    · obtain ⟨k, hk, hp⟩ := hx
      exact ih k hk hp
    · exact ⟨n, h, fun k hk => Nat.le_of_not_lt fun hlt => hx ⟨k, hlt, hk⟩⟩
theorem least_ex' {p : Nat → Prop} (h : ∃ n, p n) : ∃ m, p m ∧ ∀ k, p k → m ≤ k := by
  obtain ⟨n, hn⟩ := h
  exact least_ex n hn
noncomputable def leastN (p : Nat → Prop) : Nat := open Classical in if h : ∃ n, p n then Classical.choose (least_ex' h) else 0
theorem leastN_at {p : Nat → Prop} (h : ∃ n, p n) : p (leastN p) := by
  unfold leastN; rw [dif_pos h]; exact (Classical.choose_spec (least_ex' h)).1
theorem leastN_le {p : Nat → Prop} {n : Nat} (h : p n) : leastN p ≤ n := by
  unfold leastN; rw [dif_pos ⟨n, h⟩]; exact (Classical.choose_spec (least_ex' ⟨n, h⟩)).2 n h
theorem scope_goto (ok : CfgOK cfg) (hsig : ∀ g s, cfg.sigs g = some s → SpecOK cfg.P cfg.elT g s) (hp : cx.pins ≤ ρ0.length) {l B G : Nat} {c rest : Code} (hf : findLabel c l = some rest)
    (hc : degOk l B G c = true) (hr : degOk l B G rest = true) (hBG : Nat.beq B G = false) (hB : cfg.keepB B = none) (hG : cfg.keepB G = none)
    (hu : cfg.unroll (firstRegion (goLoop B G rest)) = none) {K : Ex → Env → Heap → Prop} {env : Env} {H : Heap} {ρ : List Value} {F : Nat → List Nat} {a : Act} {w : World}
    (h : ex cfg cx (goCode B G c rest) env H K) (hs : St0 cfg cx ds ρ0 F0 H0 w0 ρ F env H a w) : (Code.scope c).wp cfg.P (QK cfg cx ds ρ0 F0 H0 w0 K) a w := by
  have hGB : Nat.beq G B = false := by
    cases hx : Nat.beq G B with
    | false => rfl
    | true => rw [Nat.eq_of_beq_eq_true hx] at hBG; simp at hBG
  have hBB : Nat.beq B B = true := by simp
  have hGG : Nat.beq G G = true := by simp
  let K1 := blockK cfg cx B K
  let Lp := fun n => loopM (goLoop B G rest) (ex cfg cx (goLoop B G rest)) (gcO cx.pins (cfg.keep (firstRegion (goLoop B G rest)))) K1 n
  have k1B : ∀ env H, K1 (.exit B) env H → K .normal env H := fun env H h => by
    simp only [K1, blockK, hBB, hB, gcO, cond_true] at h; exact h
  have k1i : ∀ i env H, Nat.beq i B = false → K1 (.exit i) env H → K (.exit i) env H := fun i env H hi h => by
    simp only [K1, blockK, hi, cond_false] at h; exact h
  let Pn := fun (a : Act) (w : World) (n : Nat) => ∃ ρ F env H, St0 cfg cx ds ρ0 F0 H0 w0 ρ F env H a w ∧ Lp n env H
  let J := fun (a : Act) (w : World) => ∃ n, Pn a w n
  have hle : ∀ a w n, Pn a w n → leastN (Pn a w) ≤ n := fun a w n h => leastN_le h
  have hat : ∀ a w, J a w → Pn a w (leastN (Pn a w)) := fun a w h => leastN_at h
  refine wp_scope_jumps l J (fun a w => leastN (Pn a w)) hf ?_ ?_
  · have h1 : ex cfg cx (deg G c) env H (fun e env H => match e with
        | .normal => blockK cfg cx G (fun e env H => match e with
          | .normal => ex cfg cx (.loop (goLoop B G rest)) env H K1
          | .exit i => K1 (.exit i) env H
          | .ret => K1 .ret env H) (.exit B) env H
        | .exit i => blockK cfg cx G (fun e env H => match e with
          | .normal => ex cfg cx (.loop (goLoop B G rest)) env H K1
          | .exit i => K1 (.exit i) env H
          | .ret => K1 .ret env H) (.exit i) env H
        | .ret => K1 .ret env H) := h
    refine wp_mono (exG_sound ok hsig hp c hc _ env H ρ F a w h1 hs) (fun e a w hq => ?_)
    cases e with
    | normal =>
      obtain ⟨ρ', F', env', H', s1, s2⟩ := hq
      simp only [blockK, hBG, cond_false] at s2
      exact ⟨ρ', F', env', H', s1, k1B _ _ s2⟩
    | exit i =>
      obtain ⟨i1, i2, ρ', F', env', H', s1, s2⟩ := hq
      simp only [blockK, i1, cond_false] at s2
      exact ⟨ρ', F', env', H', s1, k1i _ _ _ i2 s2⟩
    | ret =>
      obtain ⟨ρ', F', env', H', s1, s2⟩ := hq
      exact ⟨ρ', F', env', H', s1, s2⟩
    | goto l' =>
      obtain ⟨rfl, ρ', F', env', H', s1, s2⟩ := hq
      simp only [blockK, hGG, hG, gcO, cond_true] at s2
      have s3 : gcO cx.pins (cfg.keep (firstRegion (goLoop B G rest))) env' H' (fun env H => match cfg.unroll (firstRegion (goLoop B G rest)) with
        | some n => loopM (goLoop B G rest) (ex cfg cx (goLoop B G rest)) (gcO cx.pins (cfg.keep (firstRegion (goLoop B G rest)))) K1 n env H
        | none => LoopQ (goLoop B G rest) (ex cfg cx (goLoop B G rest)) (gcO cx.pins (cfg.keep (firstRegion (goLoop B G rest)))) env H K1) := s2
      obtain ⟨ρ2, F2, env2, H2, q1, q2⟩ := gcO_sound hp s3 s1
      rw [hu] at q1
      obtain ⟨n, q1⟩ := q1
      exact ⟨rfl, n, ρ2, F2, env2, H2, q2, q1⟩
    | panic ch => exact hq.elim
    | outgrown => exact hq.elim
  · intro a w hJ
    obtain ⟨ρ', F', env', H', s1, s2⟩ := hat a w hJ
    cases hn : leastN (Pn a w) with
    | zero => rw [hn] at s2; exact s2.elim
    | succ m =>
      rw [hn] at s2
      have h1 : ex cfg cx (deg G rest) env' H' (fun e env H => match e with
        | .normal => blockK cfg cx G (fun e env H => match e with
          | .normal => gcO cx.pins (cfg.keep (firstRegion (goLoop B G rest))) env H (Lp m)
          | .exit i => K1 (.exit i) env H
          | .ret => K1 .ret env H) (.exit B) env H
        | .exit i => blockK cfg cx G (fun e env H => match e with
          | .normal => gcO cx.pins (cfg.keep (firstRegion (goLoop B G rest))) env H (Lp m)
          | .exit i => K1 (.exit i) env H
          | .ret => K1 .ret env H) (.exit i) env H
        | .ret => K1 .ret env H) := s2
      refine wp_mono (exG_sound ok hsig hp rest hr _ env' H' ρ' F' a w h1 s1) (fun e a' w' hq => ?_)
      cases e with
      | normal =>
        obtain ⟨ρ', F', env', H', s1, s2⟩ := hq
        simp only [blockK, hBG, cond_false] at s2
        exact ⟨ρ', F', env', H', s1, k1B _ _ s2⟩
      | exit i =>
        obtain ⟨i1, i2, ρ', F', env', H', s1, s2⟩ := hq
        simp only [blockK, i1, cond_false] at s2
        exact ⟨ρ', F', env', H', s1, k1i _ _ _ i2 s2⟩
      | ret =>
        obtain ⟨ρ', F', env', H', s1, s2⟩ := hq
        exact ⟨ρ', F', env', H', s1, s2⟩
      | goto l' =>
        obtain ⟨rfl, ρ', F', env', H', s1, s2⟩ := hq
        simp only [blockK, hGG, hG, gcO, cond_true] at s2
        obtain ⟨ρ2, F2, env2, H2, q1, q2⟩ := gcO_sound hp (s2 : gcO cx.pins (cfg.keep (firstRegion (goLoop B G rest))) env' H' (Lp m)) s1
        have hP : Pn a' w' m := ⟨ρ2, F2, env2, H2, q2, q1⟩
        have := hle a' w' m hP
        exact ⟨rfl, ⟨m, hP⟩, by omega⟩
      | panic ch => exact hq.elim
      | outgrown => exact hq.elim
theorem spec_of_exG (ok : CfgOK cfg) (hsig : ∀ g s, cfg.sigs g = some s → SpecOK cfg.P cfg.elT g s) {g : FuncId} {fn : Func} {s : Spec} {l B G : Nat} {r0 c rest : Code} (hg : cfg.P.funcs[g]? = some fn) (hname : (fn.name == "runtime.NumGoroutine") = false)
    (hb : fn.body = some (.seq r0 (.scope c))) (hf : findLabel c l = some rest) (hc : degOk l B G c = true) (hr : degOk l B G rest = true) (hBG : Nat.beq B G = false) (hB : cfg.keepB B = none) (hG : cfg.keepB G = none)
    (hu : cfg.unroll (firstRegion (goLoop B G rest)) = none)
    (h : ∀ (args : List V) (H : Heap) (K : V → Heap → Prop), s.tr args H K → exF cfg { fn with body := some (.seq r0 (goCode B G c rest)) } args H K) : SpecOK cfg.P cfg.elT g s := by
  refine ⟨⟨fn, hg, hname, by rw [hb]; rfl⟩, fun args H K htr ρ F w vals hden hsat => ?_⟩
  have hex : ex cfg (cxOf fn args H) (.seq r0 (goCode B G c rest)) (argEnv args) H (retK cfg fn H.length K) := h args H K htr
  refine calls_of_wp hg hb ?_
  have hlen := denL_len hden
  have hst : St cfg (cxOf fn args H).nt [] ρ F (argEnv args) H { tmps := vals.toArray ++ Array.replicate (fn.ntmps - vals.toArray.size) undef, defers := [] } w :=
    ⟨argEnv_rel hden _, by simp [cxOf, hlen], rfl, hsat⟩
  have hs0 : St0 cfg (cxOf fn args H) [] ρ F H w ρ F (argEnv args) H { tmps := vals.toArray ++ Array.replicate (fn.ntmps - vals.toArray.size) undef, defers := [] } w :=
    ⟨hst, Fr.refl, fun _ _ => rfl⟩
  have hp : (cxOf fn args H).pins ≤ ρ.length := by rw [hsat.len]; exact Nat.le_refl _
  have hwp : (Code.seq r0 (.scope c)).wp cfg.P (QK cfg (cxOf fn args H) [] ρ F H w (retK cfg fn H.length K)) { tmps := vals.toArray ++ Array.replicate (fn.ntmps - vals.toArray.size) undef, defers := [] } w := by
    refine wp_seq (wp_mono (y6y ok hsig hp r0 _ (argEnv args) H ρ F _ w hex hs0) (fun e a w hq => ?_))
    cases e with
    | normal => obtain ⟨ρ', F', env', H', h1, h2⟩ := hq; exact scope_goto ok hsig hp hf hc hr hBG hB hG hu h2 h1
    | exit i => exact hq
    | ret => exact hq
    | goto l => exact hq
    | panic ch => exact hq
    | outgrown => exact hq
  refine wp_mono hwp (fun e a' w' hq => ?_)
  have fin : ∀ (e : Ex) (ρ1 : List Value) (F1 : Nat → List Nat) (env1 : Env) (H1 : Heap), St0 cfg (cxOf fn args H) [] ρ F H w ρ1 F1 env1 H1 a' w' → retK cfg fn H.length K e env1 H1 →
      a'.defers = [] ∧ ∃ v, (results fn a'.tmps).run cfg.P w' = .ok v w' ∧ ∃ v' x ρ' F' H', Ending.returned v = .returned x ∧ K v' H' ∧ Rel ρ' v' x ∧ Le ρ ρ' ∧ Sat cfg.elT ρ' F' H' w' ∧ Fr H F w H' F' w' :=
    fun e ρ1 F1 env1 H1 hs1 hr => ⟨hs1.st.defers, ret_sound hsat hs1 hr⟩
  cases e with
  | normal => obtain ⟨ρ1, F1, env1, H1, h1, h2⟩ := hq; exact fin _ ρ1 F1 env1 H1 h1 h2
  | ret => obtain ⟨ρ1, F1, env1, H1, h1, h2⟩ := hq; exact fin _ ρ1 F1 env1 H1 h1 h2
  | exit i => obtain ⟨ρ1, F1, env1, H1, h1, h2⟩ := hq; exact h2.elim
  | goto l => exact hq.elim
  | panic ch => exact hq.elim
  | outgrown => exact hq.elim
end Go.Rx
end

noncomputable section
namespace Go.Rx
open Go.Proofs
set_option maxRecDepth 100000
set_option maxHeartbeats 4000000
def y86 (m_ : Y3) (args : List V) (H : Heap) (K : V → Heap → Prop) : Prop :=
  aC args fun a0 r => aN r <| aInt a0 fun c => aN H <| So (m_ c) fun x => K (vi x) []
def y5p (m_ : Y3) : Spec := ⟨y86 m_, (true : Bool)⟩
def yah (m_ : Y3) (args : List V) (H : Heap) (K : V → Heap → Prop) : Prop :=
  aC args fun a0 r => aN r <| aInt a0 fun c => aN H <| So (m_ c) fun x => K (vi x) []
def y5u (m_ : Y3) : Spec := ⟨yah m_, (true : Bool)⟩
abbrev Y69 := Int → (List Int) → Option Int
def yav (m_ : Y69) (args : List V) (H : Heap) (K : V → Heap → Prop) : Prop :=
  aC args fun a0 r => aC r fun a1 r => aN r <| aRow 0 a0 <| aInt a1 fun v => aC H fun b0 r => aN r <| bRow 0 true b0 fun (sv : List Int) => So (m_ v sv) fun x => K (vi x) [.row 0 sv true]
def yg5 (m_ : Y69) : Spec := ⟨yav m_, (true : Bool)⟩
abbrev Y67 := Int → (List Int) → Option Bool
def y93 (m_ : Y67) (args : List V) (H : Heap) (K : V → Heap → Prop) : Prop :=
  aC args fun a0 r => aC r fun a1 r => aN r <| aRow 0 a0 <| aInt a1 fun v => aC H fun b0 r => aN r <| bRow 0 true b0 fun (sv : List Int) => So (m_ v sv) fun x => K (vb x) [.row 0 sv true]
def yho (m_ : Y67) : Spec := ⟨y93 m_, (true : Bool)⟩
abbrev Y6 := Nat → (List Int) → ya → Int → Int → Int → Option (Int × Int × Int × Int × Int × Int × Int × Int × Int × Int × Int × Int × Int × Int × Int × Int × Int × Int × Int × Int × Int × Int × Int × Int × Bool)
def ya4 (m_ : Y6) (args : List V) (H : Heap) (K : V → Heap → Prop) : Prop :=
  aC args fun a0 r => aC r fun a1 r => aC r fun a2 r => aC r fun a3 r => aC r fun a4 r => aN r <| aPtr 0 a0 <| aAgg a1 fun c1 => yy c1 fun l2 => aInt a2 fun p => aInt a3 fun c => aInt a4 fun f => aC H fun b0 r => aC r fun b1 r => aN r <| bView 1 b0 fun ws cur xs => bRow 0 true b1 fun (l : List Int) => ws = l ∧ xs.length ≤ 2 ∧ So (m_ ws.length cur l2 p c f) fun x => K (.tup [.agg [.ptr 0 0, vi x.1, vi x.2.1, vi x.2.2.1, vi x.2.2.2.1, vi x.2.2.2.2.1, vi x.2.2.2.2.2.1, vi x.2.2.2.2.2.2.1, vi x.2.2.2.2.2.2.2.1, vi x.2.2.2.2.2.2.2.2.1, vi x.2.2.2.2.2.2.2.2.2.1, vi x.2.2.2.2.2.2.2.2.2.2.1, vi x.2.2.2.2.2.2.2.2.2.2.2.1, vi x.2.2.2.2.2.2.2.2.2.2.2.2.1, vi x.2.2.2.2.2.2.2.2.2.2.2.2.2.1, vi x.2.2.2.2.2.2.2.2.2.2.2.2.2.2.1, vi x.2.2.2.2.2.2.2.2.2.2.2.2.2.2.2.1, vi x.2.2.2.2.2.2.2.2.2.2.2.2.2.2.2.2.1, vi x.2.2.2.2.2.2.2.2.2.2.2.2.2.2.2.2.2.1, vi x.2.2.2.2.2.2.2.2.2.2.2.2.2.2.2.2.2.2.1, vi x.2.2.2.2.2.2.2.2.2.2.2.2.2.2.2.2.2.2.2.1, vi x.2.2.2.2.2.2.2.2.2.2.2.2.2.2.2.2.2.2.2.2.1, vi x.2.2.2.2.2.2.2.2.2.2.2.2.2.2.2.2.2.2.2.2.2.1, vi x.2.2.2.2.2.2.2.2.2.2.2.2.2.2.2.2.2.2.2.2.2.2.1, vi x.2.2.2.2.2.2.2.2.2.2.2.2.2.2.2.2.2.2.2.2.2.2.2.1], vb x.2.2.2.2.2.2.2.2.2.2.2.2.2.2.2.2.2.2.2.2.2.2.2.2]) [.pk 0 [ws, cur] xs [.row 1], .row 0 l true]
def yc4 (m_ : Y6) : Spec := ⟨ya4 m_, (true : Bool)⟩
abbrev Y15 := Nat → (List Int) → Int → Int → Int → Int → Int → Int → Int → Int → Int → Int → Int → Int → Int → Int → Int → Int → Int → Int → Int → Int → Int → Int → Int → Int → Option (List Int)
def y8d (m_ : Y15) (args : List V) (H : Heap) (K : V → Heap → Prop) : Prop :=
  aC args fun a0 r => aN r <| aAgg a0 fun c0 => aC c0 fun a0_0 r => aPtr 0 a0_0 <| aC r fun a0_1 r => aInt a0_1 fun x_l_c_Workers => aC r fun a0_2 r => aInt a0_2 fun x_l_c_CPUs => aC r fun a0_3 r => aInt a0_3 fun x_l_c_Pages => aC r fun a0_4 r => aInt a0_4 fun x_l_c_Stripes => aC r fun a0_5 r => aInt a0_5 fun x_l_c_Tries => aC r fun a0_6 r => aInt a0_6 fun x_l_c_Wait => aC r fun a0_7 r => aInt a0_7 fun x_l_c_Clock => aC r fun a0_8 r => aInt a0_8 fun x_l_c_Private => aC r fun a0_9 r => aInt a0_9 fun x_l_c_Cache => aC r fun a0_10 r => aInt a0_10 fun x_l_c_Bin => aC r fun a0_11 r => aInt a0_11 fun x_l_c_Batch => aC r fun a0_12 r => aInt a0_12 fun x_l_at_0 => aC r fun a0_13 r => aInt a0_13 fun x_l_at_1 => aC r fun a0_14 r => aInt a0_14 fun x_l_at_2 => aC r fun a0_15 r => aInt a0_15 fun x_l_at_3 => aC r fun a0_16 r => aInt a0_16 fun x_l_at_4 => aC r fun a0_17 r => aInt a0_17 fun x_l_at_5 => aC r fun a0_18 r => aInt a0_18 fun x_l_at_6 => aC r fun a0_19 r => aInt a0_19 fun x_l_at_7 => aC r fun a0_20 r => aInt a0_20 fun x_l_at_8 => aC r fun a0_21 r => aInt a0_21 fun x_l_at_9 => aC r fun a0_22 r => aInt a0_22 fun x_l_at_10 => aC r fun a0_23 r => aInt a0_23 fun x_l_at_11 => aC r fun a0_24 r => aInt a0_24 fun x_head => aN r <| aC H fun b0 r => aC r fun b1 r => aN r <| bView 1 b0 fun ws cur xs => bRow 0 true b1 fun (l : List Int) => ws = l ∧ xs.length ≤ 2 ∧ So (m_ ws.length cur x_l_c_Workers x_l_c_CPUs x_l_c_Pages x_l_c_Stripes x_l_c_Tries x_l_c_Wait x_l_c_Clock x_l_c_Private x_l_c_Cache x_l_c_Bin x_l_c_Batch x_l_at_0 x_l_at_1 x_l_at_2 x_l_at_3 x_l_at_4 x_l_at_5 x_l_at_6 x_l_at_7 x_l_at_8 x_l_at_9 x_l_at_10 x_l_at_11 x_head) fun x => K (.row 2) [.pk 0 [ws, cur] xs [.row 1], .row 0 l true, .row 0 x false]
def ygn (m_ : Y15) : Spec := ⟨y8d m_, (true : Bool)⟩
abbrev Y12 := Nat → (List Int) → ya → Int → Int → Int → Option (Bool × (List Int))
def y8s (m_ : Y12) (args : List V) (H : Heap) (K : V → Heap → Prop) : Prop :=
  aC args fun a0 r => aC r fun a1 r => aC r fun a2 r => aC r fun a3 r => aC r fun a4 r => aN r <| aPtr 0 a0 <| aAgg a1 fun c1 => yy c1 fun l2 => aInt a2 fun p => aInt a3 fun c => aInt a4 fun f => aC H fun b0 r => aC r fun b1 r => aN r <| bView 1 b0 fun ws cur xs => bRow 0 true b1 fun (l : List Int) => ws = l ∧ xs.length ≤ 2 ∧ So (m_ ws.length cur l2 p c f) fun x => K (vb x.1) [.pk 0 [ws, x.2] xs [.row 1], .row 0 l true]
def yjo (m_ : Y12) : Spec := ⟨y8s m_, (true : Bool)⟩
def ybs (m_ : Y12) (args : List V) (H : Heap) (K : V → Heap → Prop) : Prop :=
  aC args fun a0 r => aC r fun a1 r => aC r fun a2 r => aC r fun a3 r => aC r fun a4 r => aN r <| aPtr 0 a0 <| aAgg a1 fun c1 => yy c1 fun l2 => aInt a2 fun p => aInt a3 fun c => aInt a4 fun f => aC H fun b0 r => aC r fun b1 r => aN r <| bView 1 b0 fun ws cur xs => bRow 0 true b1 fun (l : List Int) => ws = l ∧ xs.length ≤ 2 ∧ So (m_ ws.length cur l2 p c f) fun x => K (vb x.1) [.pk 0 [ws, x.2] xs [.row 1], .row 0 l true]
def yeh (m_ : Y12) : Spec := ⟨ybs m_, (true : Bool)⟩
abbrev Y2 := Nat → (List Int) → ya → Int → Option Int
def y8v (m_ : Y2) (args : List V) (H : Heap) (K : V → Heap → Prop) : Prop :=
  aC args fun a0 r => aC r fun a1 r => aC r fun a2 r => aN r <| aPtr 0 a0 <| aAgg a1 fun c1 => yy c1 fun l2 => aInt a2 fun c => aC H fun b0 r => aC r fun b1 r => aN r <| bView 1 b0 fun ws cur xs => bRow 0 true b1 fun (l : List Int) => ws = l ∧ xs.length ≤ 2 ∧ So (m_ ws.length cur l2 c) fun x => K (vi x) [.pk 0 [ws, cur] xs [.row 1], .row 0 l true]
def ybr (m_ : Y2) : Spec := ⟨y8v m_, (true : Bool)⟩
def yfa  : Cfg := { cfgB with
  sigs := (sigC 50 (inlS ({ cfgB with sigs := (sigC 91 (inlS cfgB Tryz.f91) sigN) } : Cfg) Tryz.f50) sigN) }
def yiq (yx : Y3) : Cfg := { cfgB with
  sigs := (sigC 19 (y5p yx) sigN) }
def y4d  : Cfg := { cfgB with
  sigs := sigN,
  keep := fun r => match r with | 2 => some [(0, some 0), (1, none), (7, none), (8, none)] | _ => none }
def yjq (y4x : Y69) : Cfg := { cfgB with
  sigs := (sigC 157 (yg5 y4x) sigN) }
def ye5 (y0t : Y57) (yk : Y41) : Cfg := { cfgB with
  sigs := (sigC 93 (y9a y0t) (sigC 17 (y5c yk) sigN)),
  plan := fun r => match r with | 2 => some (List.range 17, 2064) | _ => none,
  planT := fun r => match r with | 1 => some ((chainT [0, 1, 2, 3, 4] (.alt (chainT [5, 6, 7, 8] .fin) (chainT [7, 5, 6, 8] .fin))), 8208) | _ => none,
  flag := fun d => Nat.beq d 10 || Nat.beq d 12 }
def gc_plist_list_pages : Code := match at_ (bodyOf Tryz.f137) [1] with | .scope c => c | _ => .skip
def gr_plist_list_pages : Code := match findLabel gc_plist_list_pages 0 with | some c => c | none => .skip
def g_plist_list_pages : Func := { Tryz.f137 with body := some (.seq (at_ (bodyOf Tryz.f137) [0]) (goCode 1000 1001 gc_plist_list_pages gr_plist_list_pages)) }
def y56 (yk : Y41) (y05 : Y5) : Cfg := { cfgB with
  sigs := (sigC 17 (y5c yk) (sigC 63 rdS (sigC 139 (y7m y05) sigN))),
  keep := fun r => match r with | 4 => some [(1, none), (3, some 0), (4, none), (5, none)] | _ => none,
  plan := fun r => match r with | 7 => some (List.range 9, 16) | _ => none }
def ydo (y2g : Y6) (y05 y0r : Y5) : Cfg := { cfgB with
  sigs := (sigC 135 (yc4 y2g) (sigC 63 rdS (sigC 139 (y7m y05) (sigC 96 wrS (sigC 138 (yaj y0r) sigN))))) }
def yjj (y2g : Y6) (y3t : Y15) (y4a : Y67) (y0r y05 : Y5) : Cfg := { cfgB with
  sigs := (sigC 135 (yc4 y2g) (sigC 137 (ygn y3t) (sigC 136 (yho y4a) (sigC 138 (yaj y0r) (sigC 63 rdS (sigC 139 (y7m y05) (sigC 96 wrS sigN))))))),
  plan := fun r => match r with | 4 => some ([0, 1, 2, 5, 6, 7, 3, 4, 8, 9, 10, 11], 16) | _ => none }
def y4c (yn : Y3) (y0t : Y57) : Cfg := { cfgB with
  sigs := (sigC 20 (y5u yn) (sigC 93 (y9a y0t) (sigC 63 rdS sigN))),
  keep := fun r => match r with | 2 => some [(0, none), (2, none), (4, none), (7, none)] | _ => none }
theorem ypg (c : Int) (K : V → Heap → Prop) : (exF yfa Tryz.f19 [vi c] [] K) = (
    br (decide (c < 0)) (K (vi 0) []) (br (decide (c ≥ 5)) (K (vi 0) []) (Req (inR c (Int.toNat 5)) (br (c == (↑0 : Int)) (K (vi 1) []) (br (c == (↑1 : Int)) (K (vi 2) []) (br (c == (↑2 : Int)) (K (vi 4) []) (br (c == (↑3 : Int)) (K (vi 8) []) (br (c == (↑4 : Int)) (K (vi 16) []) True)))))))) := by kernel_rfl
theorem ynb (yx : Y3) (c : Int) (K : V → Heap → Prop) : (exF (yiq yx) Tryz.f20 [vi c] [] K) = (
    So (yx c) (fun (y0 : Int) => (br (decide (y0 > 0)) (Req (!y0 == 0) (K (vi (IntKind.i64.wrap (Int.tdiv 32 y0))) [])) (K (vi 0) [])))) := by kernel_rfl
theorem ypq (v : Int) (sv : List Int) (t7 t8 : Int) (K : V → Heap → Prop) (J1 : Env → Heap → Prop) : (ex y4d (⟨19, 1⟩ : Cx) (at_ (bodyOf Tryz.f157) [1, 0, 1, 0, 0]) (mkEnv [(0, .row 0), (1, vi v), (7, vi t7), (8, vi t8)]) [.row 0 sv true] (roundK y4d (⟨19, 1⟩ : Cx) (at_ (bodyOf Tryz.f157) [1, 0, 1, 0, 0]) (contK y4d (⟨19, 1⟩ : Cx) (bodyOf Tryz.f157) [1, 0, 1, 0] (retK y4d Tryz.f157 1 K)) J1)) = (
    br (decide (t8 < t7)) (Req (inR t8 sv.length) (Req (inR (offs t8 0) sv.length) (br (v == sv.getD (offs t8 0).toNat 0) (K (vi t8) [.row 0 sv true]) (J1 (mkEnv [(0, .row 0), (1, vi v), (7, vi t7), (8, vi (IntKind.i64.wrap (t8 + 1)))]) [.row 0 sv true])))) (K (vi (-1)) [.row 0 sv true])) := by kernel_rfl
theorem ynf (v : Int) (sv : List Int) (K : V → Heap → Prop) : (exF y4d Tryz.f157 [.row 0, vi v] [.row 0 sv true] K) = (
    Loop y4d (⟨19, 1⟩ : Cx) (at_ (bodyOf Tryz.f157) [1, 0, 1, 0, 0]) (mkEnv [(0, .row 0), (1, vi v), (7, vi (↑sv.length : Int)), (8, vi 0)]) [.row 0 sv true] (contK y4d (⟨19, 1⟩ : Cx) (bodyOf Tryz.f157) [1, 0, 1, 0] (retK y4d Tryz.f157 1 K))) := by kernel_rfl
theorem ymg (y4x : Y69) (v : Int) (sv : List Int) (K : V → Heap → Prop) : (exF (yjq y4x) Tryz.f136 [.row 0, vi v] [.row 0 sv true] K) = (
    So (y4x v sv) (fun (y0 : Int) => (K (vb (decide (y0 ≥ 0))) [.row 0 sv true]))) := by kernel_rfl
theorem yl1 (y0t : Y57) (yk : Y41) (ws cur : List Int) (xs : List Value) (l2 : ya) (p c f : Int) (K : V → Heap → Prop) : (exF (ye5 y0t yk) Tryz.f135 [.ptr 0 0, .agg (yd l2), vi p, vi c, vi f] (hV ws cur xs) K) = (
    ((So (y0t l2 c f) (fun (y0 : Int) => (br (y0 != 0) (br (decide (p ≥ 0)) (So (yk l2) (fun (y1 : yb) => (K (.tup [.agg ([.ptr 0 0] ++ yd l2 ++ [vi y0]), vb (decide (p < y1.Pages))]) (hV ws cur xs)))) (K (.tup [.agg ([.ptr 0 0] ++ yd l2 ++ [vi y0]), vb false]) (hV ws cur xs))) (K (.tup [.agg ([.ptr 0 0] ++ yd l2 ++ [vi y0]), vb false]) (hV ws cur xs))))) ∧ (So (y0t l2 c f) (fun (y2 : Int) => (br (y2 != 0) (br (decide (p ≥ 0)) (So (yk l2) (fun (y3 : yb) => (K (.tup [.agg ([.ptr 0 0] ++ yd l2 ++ [vi y2]), vb (decide (p < y3.Pages))]) (hV ws cur xs)))) (K (.tup [.agg ([.ptr 0 0] ++ yd l2 ++ [vi y2]), vb false]) (hV ws cur xs))) (K (.tup [.agg ([.ptr 0 0] ++ yd l2 ++ [vi y2]), vb false]) (hV ws cur xs))))))) := by kernel_rfl
theorem ynl (yk : Y41) (y05 : Y5) (ws cur : List Int) (xs : List Value) (x_l_c_Workers x_l_c_CPUs : Int) (x_l_c_Pages x_l_c_Stripes : Int) (x_l_c_Tries x_l_c_Wait : Int) (x_l_c_Clock x_l_c_Private : Int) (x_l_c_Cache x_l_c_Bin : Int) (x_l_c_Batch x_l_at_0 : Int) (x_l_at_1 x_l_at_2 : Int) (x_l_at_3 x_l_at_4 : Int) (x_l_at_5 x_l_at_6 : Int) (x_l_at_7 x_l_at_8 : Int) (x_l_at_9 x_l_at_10 : Int) (x_l_at_11 x_head : Int) (left atv : Int) (w : List Int) (K : V → Heap → Prop) (J1 : Env → Heap → Prop) : (ex (y56 yk y05) (⟨37, 2⟩ : Cx) (at_ (bodyOf g_plist_list_pages) [1, 0, 1, 0]) (mkEnv [(1, .ptr 2 0), (3, .row 3), (4, vi left), (5, vi atv)]) [.pk 0 [ws, cur] xs [.row 1], .row 0 ws true, .cells 131 [.ptr 0 0, vi x_l_c_Workers, vi x_l_c_CPUs, vi x_l_c_Pages, vi x_l_c_Stripes, vi x_l_c_Tries, vi x_l_c_Wait, vi x_l_c_Clock, vi x_l_c_Private, vi x_l_c_Cache, vi x_l_c_Bin, vi x_l_c_Batch, vi x_l_at_0, vi x_l_at_1, vi x_l_at_2, vi x_l_at_3, vi x_l_at_4, vi x_l_at_5, vi x_l_at_6, vi x_l_at_7, vi x_l_at_8, vi x_l_at_9, vi x_l_at_10, vi x_l_at_11, vi x_head], .row 0 w false] (roundK (y56 yk y05) (⟨37, 2⟩ : Cx) (at_ (bodyOf g_plist_list_pages) [1, 0, 1, 0]) (contK (y56 yk y05) (⟨37, 2⟩ : Cx) (bodyOf g_plist_list_pages) [1, 0, 1] (retK (y56 yk y05) g_plist_list_pages 2 K)) J1)) = (
    br (decide (atv ≤ 0)) (K (.row 2) [.pk 0 [ws, cur] xs [.row 1], .row 0 ws true, .row 0 w false]) (br (left == 0) (K (.row 2) [.pk 0 [ws, cur] xs [.row 1], .row 0 ws true, .row 0 w false]) (Req (decide (w.length + 1 ≤ 1048576)) (So (y05 (ya.mk (yb.mk x_l_c_Workers x_l_c_CPUs x_l_c_Pages x_l_c_Stripes x_l_c_Tries x_l_c_Wait x_l_c_Clock x_l_c_Private x_l_c_Cache x_l_c_Bin x_l_c_Batch) x_l_at_0 x_l_at_1 x_l_at_2 x_l_at_3 x_l_at_4 x_l_at_5 x_l_at_6 x_l_at_7 x_l_at_8 x_l_at_9 x_l_at_10 x_l_at_11) (IntKind.i64.wrap (atv - 1))) (fun (y0 : Int) => ((ws = ws) ∧ ((xs.length ≤ 2) ∧ (Req (inR y0 ws.length) (J1 (mkEnv [(1, .ptr 2 0), (3, .row 3), (4, vi (IntKind.i64.wrap (left - 1))), (5, vi (rd cur y0))]) [.pk 0 [ws, cur] xs [.row 1], .row 0 ws true, .cells 131 [.ptr 0 0, vi x_l_c_Workers, vi x_l_c_CPUs, vi x_l_c_Pages, vi x_l_c_Stripes, vi x_l_c_Tries, vi x_l_c_Wait, vi x_l_c_Clock, vi x_l_c_Private, vi x_l_c_Cache, vi x_l_c_Bin, vi x_l_c_Batch, vi x_l_at_0, vi x_l_at_1, vi x_l_at_2, vi x_l_at_3, vi x_l_at_4, vi x_l_at_5, vi x_l_at_6, vi x_l_at_7, vi x_l_at_8, vi x_l_at_9, vi x_l_at_10, vi x_l_at_11, vi x_head], .row 0 (w ++ [IntKind.i64.wrap (atv - 1)] : List Int) false]))))))))) := by kernel_rfl
theorem ynr (yk : Y41) (y05 : Y5) (ws cur : List Int) (xs : List Value) (x_l_c_Workers x_l_c_CPUs : Int) (x_l_c_Pages x_l_c_Stripes : Int) (x_l_c_Tries x_l_c_Wait : Int) (x_l_c_Clock x_l_c_Private : Int) (x_l_c_Cache x_l_c_Bin : Int) (x_l_c_Batch x_l_at_0 : Int) (x_l_at_1 x_l_at_2 : Int) (x_l_at_3 x_l_at_4 : Int) (x_l_at_5 x_l_at_6 : Int) (x_l_at_7 x_l_at_8 : Int) (x_l_at_9 x_l_at_10 : Int) (x_l_at_11 x_head : Int) (K : V → Heap → Prop) : (exF (y56 yk y05) g_plist_list_pages [.agg [.ptr 0 0, vi x_l_c_Workers, vi x_l_c_CPUs, vi x_l_c_Pages, vi x_l_c_Stripes, vi x_l_c_Tries, vi x_l_c_Wait, vi x_l_c_Clock, vi x_l_c_Private, vi x_l_c_Cache, vi x_l_c_Bin, vi x_l_c_Batch, vi x_l_at_0, vi x_l_at_1, vi x_l_at_2, vi x_l_at_3, vi x_l_at_4, vi x_l_at_5, vi x_l_at_6, vi x_l_at_7, vi x_l_at_8, vi x_l_at_9, vi x_l_at_10, vi x_l_at_11, vi x_head]] (hV ws cur xs) K) = (
    So (yk (ya.mk (yb.mk x_l_c_Workers x_l_c_CPUs x_l_c_Pages x_l_c_Stripes x_l_c_Tries x_l_c_Wait x_l_c_Clock x_l_c_Private x_l_c_Cache x_l_c_Bin x_l_c_Batch) x_l_at_0 x_l_at_1 x_l_at_2 x_l_at_3 x_l_at_4 x_l_at_5 x_l_at_6 x_l_at_7 x_l_at_8 x_l_at_9 x_l_at_10 x_l_at_11)) (fun (y0 : yb) => ((ws = ws) ∧ ((xs.length ≤ 2) ∧ (Req (inR x_head ws.length) (br (decide (rd cur x_head ≤ 0)) (K (.row 2) [.pk 0 [ws, cur] xs [.row 1], .row 0 ws true, .row 0 ([] : List Int) false]) (br (y0.Pages == 0) (K (.row 2) [.pk 0 [ws, cur] xs [.row 1], .row 0 ws true, .row 0 ([] : List Int) false]) (So (y05 (ya.mk (yb.mk x_l_c_Workers x_l_c_CPUs x_l_c_Pages x_l_c_Stripes x_l_c_Tries x_l_c_Wait x_l_c_Clock x_l_c_Private x_l_c_Cache x_l_c_Bin x_l_c_Batch) x_l_at_0 x_l_at_1 x_l_at_2 x_l_at_3 x_l_at_4 x_l_at_5 x_l_at_6 x_l_at_7 x_l_at_8 x_l_at_9 x_l_at_10 x_l_at_11) (IntKind.i64.wrap (rd cur x_head - 1))) (fun (y1 : Int) => ((ws = ws) ∧ ((xs.length ≤ 2) ∧ (Req (inR y1 ws.length) (Loop (y56 yk y05) (⟨37, 2⟩ : Cx) (at_ (bodyOf g_plist_list_pages) [1, 0, 1, 0]) (mkEnv [(1, .ptr 2 0), (3, .row 3), (4, vi (IntKind.i64.wrap (y0.Pages - 1))), (5, vi (rd cur y1))]) [.pk 0 [ws, cur] xs [.row 1], .row 0 ws true, .cells 131 [.ptr 0 0, vi x_l_c_Workers, vi x_l_c_CPUs, vi x_l_c_Pages, vi x_l_c_Stripes, vi x_l_c_Tries, vi x_l_c_Wait, vi x_l_c_Clock, vi x_l_c_Private, vi x_l_c_Cache, vi x_l_c_Bin, vi x_l_c_Batch, vi x_l_at_0, vi x_l_at_1, vi x_l_at_2, vi x_l_at_3, vi x_l_at_4, vi x_l_at_5, vi x_l_at_6, vi x_l_at_7, vi x_l_at_8, vi x_l_at_9, vi x_l_at_10, vi x_l_at_11, vi x_head], .row 0 ([IntKind.i64.wrap (rd cur x_head - 1)] : List Int) false] (contK (y56 yk y05) (⟨37, 2⟩ : Cx) (bodyOf g_plist_list_pages) [1, 0, 1] (retK (y56 yk y05) g_plist_list_pages 2 K))))))))))))))) := by kernel_rfl
theorem ylr (y2g : Y6) (y05 y0r : Y5) (ws cur : List Int) (xs : List Value) (l2 : ya) (p c f : Int) (K : V → Heap → Prop) : (exF (ydo y2g y05 y0r) Tryz.f100 [.ptr 0 0, .agg (yd l2), vi p, vi c, vi f] (hV ws cur xs) K) = (
    ((ws = ws) ∧ ((xs.length ≤ 2) ∧ (So (y2g ws.length cur l2 p c f) (fun (y0 : Int × Int × Int × Int × Int × Int × Int × Int × Int × Int × Int × Int × Int × Int × Int × Int × Int × Int × Int × Int × Int × Int × Int × Int × Bool) => (br (!y0.2.2.2.2.2.2.2.2.2.2.2.2.2.2.2.2.2.2.2.2.2.2.2.2) (K (vb false) (hV ws cur xs)) ((ws = ws) ∧ ((xs.length ≤ 2) ∧ (Req (inR y0.2.2.2.2.2.2.2.2.2.2.2.2.2.2.2.2.2.2.2.2.2.2.2.1 ws.length) (So (y05 l2 p) (fun (y1 : Int) => ((ws = ws) ∧ ((xs.length ≤ 2) ∧ (Req (inR y1 ws.length) (So (y0r l2 p) (fun (y2 : Int) => ((ws = ws) ∧ ((xs.length ≤ 2) ∧ (Req (inR y2 ws.length) (br (rd cur y0.2.2.2.2.2.2.2.2.2.2.2.2.2.2.2.2.2.2.2.2.2.2.2.1 != 0) (So (y0r l2 (IntKind.i64.wrap (rd cur y0.2.2.2.2.2.2.2.2.2.2.2.2.2.2.2.2.2.2.2.2.2.2.2.1 - 1))) (fun (y3 : Int) => ((ws = ws) ∧ ((xs.length ≤ 2) ∧ (Req (inR y3 ws.length) ((ws = ws) ∧ ((xs.length ≤ 2) ∧ (Req (inR y0.2.2.2.2.2.2.2.2.2.2.2.2.2.2.2.2.2.2.2.2.2.2.2.1 ws.length) (K (vb true) (hV ws (wr (wr (wr (wr cur y1 (rd cur y0.2.2.2.2.2.2.2.2.2.2.2.2.2.2.2.2.2.2.2.2.2.2.2.1)) y2 0) y3 (IntKind.i64.wrap (p + 1))) y0.2.2.2.2.2.2.2.2.2.2.2.2.2.2.2.2.2.2.2.2.2.2.2.1 (IntKind.i64.wrap (p + 1))) xs)))))))))) ((ws = ws) ∧ ((xs.length ≤ 2) ∧ (Req (inR y0.2.2.2.2.2.2.2.2.2.2.2.2.2.2.2.2.2.2.2.2.2.2.2.1 ws.length) (K (vb true) (hV ws (wr (wr (wr cur y1 (rd cur y0.2.2.2.2.2.2.2.2.2.2.2.2.2.2.2.2.2.2.2.2.2.2.2.1)) y2 0) y0.2.2.2.2.2.2.2.2.2.2.2.2.2.2.2.2.2.2.2.2.2.2.2.1 (IntKind.i64.wrap (p + 1))) xs))))))))))))))))))))))))) := by kernel_rfl
theorem yk7 (y2g : Y6) (y3t : Y15) (y4a : Y67) (y0r y05 : Y5) (ws cur : List Int) (xs : List Value) (l2 : ya) (p c f : Int) (K : V → Heap → Prop) : (exF (yjj y2g y3t y4a y0r y05) Tryz.f97 [.ptr 0 0, .agg (yd l2), vi p, vi c, vi f] (hV ws cur xs) K) = (
    ((ws = ws) ∧ ((xs.length ≤ 2) ∧ (So (y2g ws.length cur l2 p c f) (fun (y0 : Int × Int × Int × Int × Int × Int × Int × Int × Int × Int × Int × Int × Int × Int × Int × Int × Int × Int × Int × Int × Int × Int × Int × Int × Bool) => (br (!y0.2.2.2.2.2.2.2.2.2.2.2.2.2.2.2.2.2.2.2.2.2.2.2.2) (K (vb false) (hV ws cur xs)) ((ws = ws) ∧ ((xs.length ≤ 2) ∧ (So (y3t ws.length cur y0.1 y0.2.1 y0.2.2.1 y0.2.2.2.1 y0.2.2.2.2.1 y0.2.2.2.2.2.1 y0.2.2.2.2.2.2.1 y0.2.2.2.2.2.2.2.1 y0.2.2.2.2.2.2.2.2.1 y0.2.2.2.2.2.2.2.2.2.1 y0.2.2.2.2.2.2.2.2.2.2.1 y0.2.2.2.2.2.2.2.2.2.2.2.1 y0.2.2.2.2.2.2.2.2.2.2.2.2.1 y0.2.2.2.2.2.2.2.2.2.2.2.2.2.1 y0.2.2.2.2.2.2.2.2.2.2.2.2.2.2.1 y0.2.2.2.2.2.2.2.2.2.2.2.2.2.2.2.1 y0.2.2.2.2.2.2.2.2.2.2.2.2.2.2.2.2.1 y0.2.2.2.2.2.2.2.2.2.2.2.2.2.2.2.2.2.1 y0.2.2.2.2.2.2.2.2.2.2.2.2.2.2.2.2.2.2.1 y0.2.2.2.2.2.2.2.2.2.2.2.2.2.2.2.2.2.2.2.1 y0.2.2.2.2.2.2.2.2.2.2.2.2.2.2.2.2.2.2.2.2.1 y0.2.2.2.2.2.2.2.2.2.2.2.2.2.2.2.2.2.2.2.2.2.1 y0.2.2.2.2.2.2.2.2.2.2.2.2.2.2.2.2.2.2.2.2.2.2.1 y0.2.2.2.2.2.2.2.2.2.2.2.2.2.2.2.2.2.2.2.2.2.2.2.1) (fun (y1 : List Int) => (So (y4a p y1) (fun (y2 : Bool) => (br (!y2) (K (vb false) (hV ws cur xs)) (So (y0r l2 p) (fun (y3 : Int) => ((ws = ws) ∧ ((xs.length ≤ 2) ∧ (Req (inR y3 ws.length) (So (y05 l2 p) (fun (y4 : Int) => ((ws = ws) ∧ ((xs.length ≤ 2) ∧ (Req (inR y4 ws.length) (br (rd cur y3 == 0) ((ws = ws) ∧ ((xs.length ≤ 2) ∧ (Req (inR y0.2.2.2.2.2.2.2.2.2.2.2.2.2.2.2.2.2.2.2.2.2.2.2.1 ws.length) (br (rd cur y4 != 0) (So (y0r l2 (IntKind.i64.wrap (rd cur y4 - 1))) (fun (y5 : Int) => ((ws = ws) ∧ ((xs.length ≤ 2) ∧ (Req (inR y5 ws.length) (So (y05 l2 p) (fun (y6 : Int) => ((ws = ws) ∧ ((xs.length ≤ 2) ∧ (Req (inR y6 ws.length) (So (y0r l2 p) (fun (y7 : Int) => ((ws = ws) ∧ ((xs.length ≤ 2) ∧ (Req (inR y7 ws.length) (K (vb true) (hV ws (wr (wr (wr (wr cur y0.2.2.2.2.2.2.2.2.2.2.2.2.2.2.2.2.2.2.2.2.2.2.2.1 (rd cur y4)) y5 (rd cur y3)) y6 0) y7 0) xs))))))))))))))))) (So (y05 l2 p) (fun (y8 : Int) => ((ws = ws) ∧ ((xs.length ≤ 2) ∧ (Req (inR y8 ws.length) (So (y0r l2 p) (fun (y9 : Int) => ((ws = ws) ∧ ((xs.length ≤ 2) ∧ (Req (inR y9 ws.length) (K (vb true) (hV ws (wr (wr (wr cur y0.2.2.2.2.2.2.2.2.2.2.2.2.2.2.2.2.2.2.2.2.2.2.2.1 (rd cur y4)) y8 0) y9 0) xs)))))))))))))))) (So (y05 l2 (IntKind.i64.wrap (rd cur y3 - 1))) (fun (y10 : Int) => ((ws = ws) ∧ ((xs.length ≤ 2) ∧ (Req (inR y10 ws.length) (br (rd cur y4 != 0) (So (y0r l2 (IntKind.i64.wrap (rd cur y4 - 1))) (fun (y11 : Int) => ((ws = ws) ∧ ((xs.length ≤ 2) ∧ (Req (inR y11 ws.length) (So (y05 l2 p) (fun (y12 : Int) => ((ws = ws) ∧ ((xs.length ≤ 2) ∧ (Req (inR y12 ws.length) (So (y0r l2 p) (fun (y13 : Int) => ((ws = ws) ∧ ((xs.length ≤ 2) ∧ (Req (inR y13 ws.length) (K (vb true) (hV ws (wr (wr (wr (wr cur y10 (rd cur y4)) y11 (rd cur y3)) y12 0) y13 0) xs))))))))))))))))) (So (y05 l2 p) (fun (y14 : Int) => ((ws = ws) ∧ ((xs.length ≤ 2) ∧ (Req (inR y14 ws.length) (So (y0r l2 p) (fun (y15 : Int) => ((ws = ws) ∧ ((xs.length ≤ 2) ∧ (Req (inR y15 ws.length) (K (vb true) (hV ws (wr (wr (wr cur y10 (rd cur y4)) y14 0) y15 0) xs)))))))))))))))))))))))))))))))))))))))))) := by kernel_rfl
theorem yob (yn : Y3) (y0t : Y57) (ws cur : List Int) (xs : List Value) (l2 : ya) (c f : Int) (K : V → Heap → Prop) (J1 : Env → Heap → Prop) : (ex (y4c yn y0t) (⟨25, 2⟩ : Cx) (at_ (bodyOf Tryz.f52) [1, 0, 1, 0, 0]) (mkEnv [(0, .ptr 0 0), (2, vi c), (4, .ptr 2 0), (7, vi f)]) [.pk 0 [ws, cur] xs [.row 1], .row 0 ws true, .cells 28 (yd l2)] (roundK (y4c yn y0t) (⟨25, 2⟩ : Cx) (at_ (bodyOf Tryz.f52) [1, 0, 1, 0, 0]) (contK (y4c yn y0t) (⟨25, 2⟩ : Cx) (bodyOf Tryz.f52) [1, 0, 1, 0] (retK (y4c yn y0t) Tryz.f52 2 K)) J1)) = (
    So (yn c) (fun (y0 : Int) => (br (decide (f ≤ y0)) (So (y0t l2 c f) (fun (y1 : Int) => ((ws = ws) ∧ ((xs.length ≤ 2) ∧ (Req (inR y1 ws.length) (br (decide (rd cur y1 > 0)) (K (vi (IntKind.i64.wrap (rd cur y1 - 1))) (hV ws cur xs)) (J1 (mkEnv [(0, .ptr 0 0), (2, vi c), (4, .ptr 2 0), (7, vi (IntKind.i64.wrap (f + 1)))]) [.pk 0 [ws, cur] xs [.row 1], .row 0 ws true, .cells 28 (yd l2)]))))))) (K (vi (-1)) (hV ws cur xs))))) := by kernel_rfl
theorem ypp (yn : Y3) (y0t : Y57) (ws cur : List Int) (xs : List Value) (l2 : ya) (c : Int) (K : V → Heap → Prop) : (exF (y4c yn y0t) Tryz.f52 [.ptr 0 0, .agg (yd l2), vi c] (hV ws cur xs) K) = (
    Loop (y4c yn y0t) (⟨25, 2⟩ : Cx) (at_ (bodyOf Tryz.f52) [1, 0, 1, 0, 0]) (mkEnv [(0, .ptr 0 0), (2, vi c), (4, .ptr 2 0), (7, vi 1)]) [.pk 0 [ws, cur] xs [.row 1], .row 0 ws true, .cells 28 (yd l2)] (contK (y4c yn y0t) (⟨25, 2⟩ : Cx) (bodyOf Tryz.f52) [1, 0, 1, 0] (retK (y4c yn y0t) Tryz.f52 2 K))) := by kernel_rfl
def yx (c : Int) : Option Int :=
  (bif (decide (c < 0)) then some 0 else (bif (decide (c ≥ 5)) then some 0 else (bif (inR c (Int.toNat 5)) then (bif (c == (↑0 : Int)) then some 1 else (bif (c == (↑1 : Int)) then some 2 else (bif (c == (↑2 : Int)) then some 4 else (bif (c == (↑3 : Int)) then some 8 else (bif (c == (↑4 : Int)) then some 16 else none))))) else none)))
def yn (c : Int) : Option Int :=
  ((yx c).bind fun y0 => (bif (decide (y0 > 0)) then (bif (!y0 == 0) then some (IntKind.i64.wrap (Int.tdiv 32 y0)) else none) else some 0))
def y6g (v : Int) (sv : List Int) (t7 t8 : Int) : Option (Int ⊕ Int) :=
  (bif (decide (t8 < t7)) then (bif (inR t8 sv.length) then (bif (inR (offs t8 0) sv.length) then (bif (v == sv.getD (offs t8 0).toNat 0) then some (.inr t8) else some (.inl (IntKind.i64.wrap (t8 + 1)))) else none) else none) else some (.inr (-1)))
def yf5 (v : Int) (sv : List Int) (t7 s : Int) : Option Int :=
  loopO (fun s => y6g v sv t7 s) s
def y4x (v : Int) (sv : List Int) : Option Int :=
  (yf5 v sv (↑sv.length : Int) 0)
def y4a (v : Int) (sv : List Int) : Option Bool :=
  ((y4x v sv).bind fun y0 => some (decide (y0 ≥ 0)))
def y2g (nw : Nat) (cur : List Int) (l2 : ya) (p c f : Int) : Option (Int × Int × Int × Int × Int × Int × Int × Int × Int × Int × Int × Int × Int × Int × Int × Int × Int × Int × Int × Int × Int × Int × Int × Int × Bool) :=
  ((y0t l2 c f).bind fun y2 => (bif (y2 != 0) then (bif (decide (p ≥ 0)) then ((yk l2).bind fun y3 => some (l2.c.Workers, l2.c.CPUs, l2.c.Pages, l2.c.Stripes, l2.c.Tries, l2.c.Wait, l2.c.Clock, l2.c.Private, l2.c.Cache, l2.c.Bin, l2.c.Batch, l2.at_0, l2.at_1, l2.at_2, l2.at_3, l2.at_4, l2.at_5, l2.at_6, l2.at_7, l2.at_8, l2.at_9, l2.at_10, l2.at_11, y2, (decide (p < y3.Pages)))) else some (l2.c.Workers, l2.c.CPUs, l2.c.Pages, l2.c.Stripes, l2.c.Tries, l2.c.Wait, l2.c.Clock, l2.c.Private, l2.c.Cache, l2.c.Bin, l2.c.Batch, l2.at_0, l2.at_1, l2.at_2, l2.at_3, l2.at_4, l2.at_5, l2.at_6, l2.at_7, l2.at_8, l2.at_9, l2.at_10, l2.at_11, y2, false)) else some (l2.c.Workers, l2.c.CPUs, l2.c.Pages, l2.c.Stripes, l2.c.Tries, l2.c.Wait, l2.c.Clock, l2.c.Private, l2.c.Cache, l2.c.Bin, l2.c.Batch, l2.at_0, l2.at_1, l2.at_2, l2.at_3, l2.at_4, l2.at_5, l2.at_6, l2.at_7, l2.at_8, l2.at_9, l2.at_10, l2.at_11, y2, false)))
def y6x (nw : Nat) (cur : List Int) (x_l_c_Workers x_l_c_CPUs : Int) (x_l_c_Pages x_l_c_Stripes : Int) (x_l_c_Tries x_l_c_Wait : Int) (x_l_c_Clock x_l_c_Private : Int) (x_l_c_Cache x_l_c_Bin : Int) (x_l_c_Batch x_l_at_0 : Int) (x_l_at_1 x_l_at_2 : Int) (x_l_at_3 x_l_at_4 : Int) (x_l_at_5 x_l_at_6 : Int) (x_l_at_7 x_l_at_8 : Int) (x_l_at_9 x_l_at_10 : Int) (x_l_at_11 left atv : Int) (w : List Int) : Option ((Int × Int × (List Int)) ⊕ (List Int)) :=
  (bif (decide (atv ≤ 0)) then some (.inr w) else (bif (left == 0) then some (.inr w) else (bif (decide (w.length + 1 ≤ 1048576)) then ((y05 (ya.mk (yb.mk x_l_c_Workers x_l_c_CPUs x_l_c_Pages x_l_c_Stripes x_l_c_Tries x_l_c_Wait x_l_c_Clock x_l_c_Private x_l_c_Cache x_l_c_Bin x_l_c_Batch) x_l_at_0 x_l_at_1 x_l_at_2 x_l_at_3 x_l_at_4 x_l_at_5 x_l_at_6 x_l_at_7 x_l_at_8 x_l_at_9 x_l_at_10 x_l_at_11) (IntKind.i64.wrap (atv - 1))).bind fun y0 => (bif (inR y0 nw) then some (.inl ((IntKind.i64.wrap (left - 1)), (rd cur y0), (w ++ [IntKind.i64.wrap (atv - 1)]))) else none)) else none)))
def ygs (nw : Nat) (cur : List Int) (x_l_c_Workers x_l_c_CPUs : Int) (x_l_c_Pages x_l_c_Stripes : Int) (x_l_c_Tries x_l_c_Wait : Int) (x_l_c_Clock x_l_c_Private : Int) (x_l_c_Cache x_l_c_Bin : Int) (x_l_c_Batch x_l_at_0 : Int) (x_l_at_1 x_l_at_2 : Int) (x_l_at_3 x_l_at_4 : Int) (x_l_at_5 x_l_at_6 : Int) (x_l_at_7 x_l_at_8 : Int) (x_l_at_9 x_l_at_10 x_l_at_11 : Int) (s : Int × Int × (List Int)) : Option (List Int) :=
  loopO (fun s => y6x nw cur x_l_c_Workers x_l_c_CPUs x_l_c_Pages x_l_c_Stripes x_l_c_Tries x_l_c_Wait x_l_c_Clock x_l_c_Private x_l_c_Cache x_l_c_Bin x_l_c_Batch x_l_at_0 x_l_at_1 x_l_at_2 x_l_at_3 x_l_at_4 x_l_at_5 x_l_at_6 x_l_at_7 x_l_at_8 x_l_at_9 x_l_at_10 x_l_at_11 s.1 s.2.1 s.2.2) s
def y3t (nw : Nat) (cur : List Int) (x_l_c_Workers x_l_c_CPUs : Int) (x_l_c_Pages x_l_c_Stripes : Int) (x_l_c_Tries x_l_c_Wait : Int) (x_l_c_Clock x_l_c_Private : Int) (x_l_c_Cache x_l_c_Bin : Int) (x_l_c_Batch x_l_at_0 : Int) (x_l_at_1 x_l_at_2 : Int) (x_l_at_3 x_l_at_4 : Int) (x_l_at_5 x_l_at_6 : Int) (x_l_at_7 x_l_at_8 : Int) (x_l_at_9 x_l_at_10 : Int) (x_l_at_11 x_head : Int) : Option (List Int) :=
  ((yk (ya.mk (yb.mk x_l_c_Workers x_l_c_CPUs x_l_c_Pages x_l_c_Stripes x_l_c_Tries x_l_c_Wait x_l_c_Clock x_l_c_Private x_l_c_Cache x_l_c_Bin x_l_c_Batch) x_l_at_0 x_l_at_1 x_l_at_2 x_l_at_3 x_l_at_4 x_l_at_5 x_l_at_6 x_l_at_7 x_l_at_8 x_l_at_9 x_l_at_10 x_l_at_11)).bind fun y0 => (bif (inR x_head nw) then (bif (decide (rd cur x_head ≤ 0)) then some ([]) else (bif (y0.Pages == 0) then some ([]) else ((y05 (ya.mk (yb.mk x_l_c_Workers x_l_c_CPUs x_l_c_Pages x_l_c_Stripes x_l_c_Tries x_l_c_Wait x_l_c_Clock x_l_c_Private x_l_c_Cache x_l_c_Bin x_l_c_Batch) x_l_at_0 x_l_at_1 x_l_at_2 x_l_at_3 x_l_at_4 x_l_at_5 x_l_at_6 x_l_at_7 x_l_at_8 x_l_at_9 x_l_at_10 x_l_at_11) (IntKind.i64.wrap (rd cur x_head - 1))).bind fun y1 => (bif (inR y1 nw) then (ygs nw cur x_l_c_Workers x_l_c_CPUs x_l_c_Pages x_l_c_Stripes x_l_c_Tries x_l_c_Wait x_l_c_Clock x_l_c_Private x_l_c_Cache x_l_c_Bin x_l_c_Batch x_l_at_0 x_l_at_1 x_l_at_2 x_l_at_3 x_l_at_4 x_l_at_5 x_l_at_6 x_l_at_7 x_l_at_8 x_l_at_9 x_l_at_10 x_l_at_11 ((IntKind.i64.wrap (y0.Pages - 1)), (rd cur y1), ([IntKind.i64.wrap (rd cur x_head - 1)]))) else none)))) else none))
def y3d (nw : Nat) (cur : List Int) (l2 : ya) (p c f : Int) : Option (Bool × (List Int)) :=
  ((y2g nw cur l2 p c f).bind fun y0 => (bif (!y0.2.2.2.2.2.2.2.2.2.2.2.2.2.2.2.2.2.2.2.2.2.2.2.2) then some (false, cur) else (bif (inR y0.2.2.2.2.2.2.2.2.2.2.2.2.2.2.2.2.2.2.2.2.2.2.2.1 nw) then ((y05 l2 p).bind fun y1 => (bif (inR y1 nw) then ((y0r l2 p).bind fun y2 => (bif (inR y2 nw) then (bif (rd cur y0.2.2.2.2.2.2.2.2.2.2.2.2.2.2.2.2.2.2.2.2.2.2.2.1 != 0) then ((y0r l2 (IntKind.i64.wrap (rd cur y0.2.2.2.2.2.2.2.2.2.2.2.2.2.2.2.2.2.2.2.2.2.2.2.1 - 1))).bind fun y3 => (bif (inR y3 nw) then (bif (inR y0.2.2.2.2.2.2.2.2.2.2.2.2.2.2.2.2.2.2.2.2.2.2.2.1 nw) then some (true, (wr (wr (wr (wr cur y1 (rd cur y0.2.2.2.2.2.2.2.2.2.2.2.2.2.2.2.2.2.2.2.2.2.2.2.1)) y2 0) y3 (IntKind.i64.wrap (p + 1))) y0.2.2.2.2.2.2.2.2.2.2.2.2.2.2.2.2.2.2.2.2.2.2.2.1 (IntKind.i64.wrap (p + 1)))) else none) else none)) else (bif (inR y0.2.2.2.2.2.2.2.2.2.2.2.2.2.2.2.2.2.2.2.2.2.2.2.1 nw) then some (true, (wr (wr (wr cur y1 (rd cur y0.2.2.2.2.2.2.2.2.2.2.2.2.2.2.2.2.2.2.2.2.2.2.2.1)) y2 0) y0.2.2.2.2.2.2.2.2.2.2.2.2.2.2.2.2.2.2.2.2.2.2.2.1 (IntKind.i64.wrap (p + 1)))) else none)) else none)) else none)) else none)))
def y43 (nw : Nat) (cur : List Int) (l2 : ya) (p c f : Int) : Option (Bool × (List Int)) :=
  ((y2g nw cur l2 p c f).bind fun y0 => (bif (!y0.2.2.2.2.2.2.2.2.2.2.2.2.2.2.2.2.2.2.2.2.2.2.2.2) then some (false, cur) else ((y3t nw cur y0.1 y0.2.1 y0.2.2.1 y0.2.2.2.1 y0.2.2.2.2.1 y0.2.2.2.2.2.1 y0.2.2.2.2.2.2.1 y0.2.2.2.2.2.2.2.1 y0.2.2.2.2.2.2.2.2.1 y0.2.2.2.2.2.2.2.2.2.1 y0.2.2.2.2.2.2.2.2.2.2.1 y0.2.2.2.2.2.2.2.2.2.2.2.1 y0.2.2.2.2.2.2.2.2.2.2.2.2.1 y0.2.2.2.2.2.2.2.2.2.2.2.2.2.1 y0.2.2.2.2.2.2.2.2.2.2.2.2.2.2.1 y0.2.2.2.2.2.2.2.2.2.2.2.2.2.2.2.1 y0.2.2.2.2.2.2.2.2.2.2.2.2.2.2.2.2.1 y0.2.2.2.2.2.2.2.2.2.2.2.2.2.2.2.2.2.1 y0.2.2.2.2.2.2.2.2.2.2.2.2.2.2.2.2.2.2.1 y0.2.2.2.2.2.2.2.2.2.2.2.2.2.2.2.2.2.2.2.1 y0.2.2.2.2.2.2.2.2.2.2.2.2.2.2.2.2.2.2.2.2.1 y0.2.2.2.2.2.2.2.2.2.2.2.2.2.2.2.2.2.2.2.2.2.1 y0.2.2.2.2.2.2.2.2.2.2.2.2.2.2.2.2.2.2.2.2.2.2.1 y0.2.2.2.2.2.2.2.2.2.2.2.2.2.2.2.2.2.2.2.2.2.2.2.1).bind fun y1 => ((y4a p y1).bind fun y2 => (bif (!y2) then some (false, cur) else ((y0r l2 p).bind fun y3 => (bif (inR y3 nw) then ((y05 l2 p).bind fun y4 => (bif (inR y4 nw) then (bif (rd cur y3 == 0) then (bif (inR y0.2.2.2.2.2.2.2.2.2.2.2.2.2.2.2.2.2.2.2.2.2.2.2.1 nw) then (bif (rd cur y4 != 0) then ((y0r l2 (IntKind.i64.wrap (rd cur y4 - 1))).bind fun y5 => (bif (inR y5 nw) then ((y05 l2 p).bind fun y6 => (bif (inR y6 nw) then ((y0r l2 p).bind fun y7 => (bif (inR y7 nw) then some (true, (wr (wr (wr (wr cur y0.2.2.2.2.2.2.2.2.2.2.2.2.2.2.2.2.2.2.2.2.2.2.2.1 (rd cur y4)) y5 (rd cur y3)) y6 0) y7 0)) else none)) else none)) else none)) else ((y05 l2 p).bind fun y8 => (bif (inR y8 nw) then ((y0r l2 p).bind fun y9 => (bif (inR y9 nw) then some (true, (wr (wr (wr cur y0.2.2.2.2.2.2.2.2.2.2.2.2.2.2.2.2.2.2.2.2.2.2.2.1 (rd cur y4)) y8 0) y9 0)) else none)) else none))) else none) else ((y05 l2 (IntKind.i64.wrap (rd cur y3 - 1))).bind fun y10 => (bif (inR y10 nw) then (bif (rd cur y4 != 0) then ((y0r l2 (IntKind.i64.wrap (rd cur y4 - 1))).bind fun y11 => (bif (inR y11 nw) then ((y05 l2 p).bind fun y12 => (bif (inR y12 nw) then ((y0r l2 p).bind fun y13 => (bif (inR y13 nw) then some (true, (wr (wr (wr (wr cur y10 (rd cur y4)) y11 (rd cur y3)) y12 0) y13 0)) else none)) else none)) else none)) else ((y05 l2 p).bind fun y14 => (bif (inR y14 nw) then ((y0r l2 p).bind fun y15 => (bif (inR y15 nw) then some (true, (wr (wr (wr cur y10 (rd cur y4)) y14 0) y15 0)) else none)) else none))) else none))) else none)) else none)))))))
def y5x (nw : Nat) (cur : List Int) (l2 : ya) (c f : Int) : Option (Int ⊕ Int) :=
  ((yn c).bind fun y0 => (bif (decide (f ≤ y0)) then ((y0t l2 c f).bind fun y1 => (bif (inR y1 nw) then (bif (decide (rd cur y1 > 0)) then some (.inr (IntKind.i64.wrap (rd cur y1 - 1))) else some (.inl (IntKind.i64.wrap (f + 1)))) else none)) else some (.inr (-1))))
def yim (nw : Nat) (cur : List Int) (l2 : ya) (c s : Int) : Option Int :=
  loopO (fun s => y5x nw cur l2 c s) s
def y2t (nw : Nat) (cur : List Int) (l2 : ya) (c : Int) : Option Int :=
  (yim nw cur l2 c 1)
attribute [local irreducible] Loop ex exF contK roundK retK at_ bodyOf mkEnv
theorem y5z : SpecOK Tryz.prog elTT 19 (y5p yx) := by
  refine spec_of_exF (cfg := yfa) (yg rfl rfl rfl) (yc (inlS_ok (cfg := { cfgB with sigs := (sigC 91 (inlS cfgB Tryz.f91) sigN) }) (yg rfl rfl rfl) (yc (inlS_ok (cfg := cfgB) (yg rfl rfl rfl) (nosig rfl) (by kernel_rfl) (by kernel_rfl) (by kernel_rfl)) yh) (by kernel_rfl) (by kernel_rfl) (by kernel_rfl)) yh) (fn := Tryz.f19) (by kernel_rfl) (by kernel_rfl) (by kernel_rfl) ?_
  intro args H K h
  change y86 yx args H K at h
  unfold y86 at h
  repeat first | (obtain ⟨_, h⟩ := h) | replace h := Des.el h
  subst_vars
  refine Eq.mpr (ypg _ K) ?_
  unfold yx at h
  revert h
  exact br_So (fun h => h) (br_So (fun h => h) (req_So (br_So (fun h => h) (br_So (fun h => h) (br_So (fun h => h) (br_So (fun h => h) (br_So (fun h => h) (fun _ => trivial))))))))
theorem y6p : SpecOK Tryz.prog elTT 20 (y5u yn) := by
  refine spec_of_exF (cfg := (yiq yx)) (yg rfl rfl rfl) (yc y5z yh) (fn := Tryz.f20) (by kernel_rfl) (by kernel_rfl) (by kernel_rfl) ?_
  intro args H K h
  change yah yn args H K at h
  unfold yah at h
  repeat first | (obtain ⟨_, h⟩ := h) | replace h := Des.el h
  subst_vars
  refine Eq.mpr (ynb yx _ K) ?_
  unfold yn at h
  revert h
  exact bind_So fun y0 => br_So (req_So (fun h => h)) (fun h => h)
theorem lpok_slices_Index_int_int_L1 (v : Int) (sv : List Int) (t7 t8 : Int) (K : V → Heap → Prop) : So (yf5 v sv t7 t8) (fun (x : Int) => K (vi x) [.row 0 sv true]) → Loop y4d (⟨19, 1⟩ : Cx) (at_ (bodyOf Tryz.f157) [1, 0, 1, 0, 0]) (mkEnv [(0, .row 0), (1, vi v), (7, vi t7), (8, vi t8)]) [.row 0 sv true] (contK y4d (⟨19, 1⟩ : Cx) (bodyOf Tryz.f157) [1, 0, 1, 0] (retK y4d Tryz.f157 1 K)) := by
  refine loopK_So (fun (s_ : Int) => (mkEnv [(0, .row 0), (1, vi v), (7, vi t7), (8, vi s_)])) (fun (s_ : Int) => [.row 0 sv true]) (fun (x : Int) => K (vi x) [.row 0 sv true]) ?_ t8
  intro s_ J1 h
  clear t8
  revert h; revert s_; intro t8 h
  refine Eq.mpr (ypq v sv t7 t8 K J1) ?_
  have h : So (y6g v sv t7 t8) _ := h
  unfold y6g at h
  revert h
  exact br_So (req_So (req_So (br_So (fun h => h) (fun h => h)))) (fun h => h)
theorem yow : SpecOK Tryz.prog elTT 157 (yg5 y4x) := by
  refine spec_of_exF (cfg := y4d) (yg rfl rfl rfl) yh (fn := Tryz.f157) (by kernel_rfl) (by kernel_rfl) (by kernel_rfl) ?_
  intro args H K h
  change yav y4x args H K at h
  unfold yav at h
  repeat first | (obtain ⟨_, h⟩ := h) | replace h := Des.el h
  subst_vars
  refine Eq.mpr (ynf _ _ K) ?_
  unfold y4x at h
  revert h
  exact lpok_slices_Index_int_int_L1 _ _ _ _ K
theorem ykv : SpecOK Tryz.prog elTT 136 (yho y4a) := by
  refine spec_of_exF (cfg := (yjq y4x)) (yg rfl rfl rfl) (yc yow yh) (fn := Tryz.f136) (by kernel_rfl) (by kernel_rfl) (by kernel_rfl) ?_
  intro args H K h
  change y93 y4a args H K at h
  unfold y93 at h
  repeat first | (obtain ⟨_, h⟩ := h) | replace h := Des.el h
  subst_vars
  refine Eq.mpr (ymg y4x _ _ K) ?_
  unfold y4a at h
  revert h
  exact bind_So fun y0 => fun h => h
theorem yj1 : SpecOK Tryz.prog elTT 135 (yc4 y2g) := by
  refine spec_of_exF (cfg := (ye5 y0t yk)) (yg rfl rfl rfl) (yc ygr (yc y5i yh)) (fn := Tryz.f135) (by kernel_rfl) (by kernel_rfl) (by kernel_rfl) ?_
  intro args H K h
  change ya4 y2g args H K at h
  unfold ya4 at h
  repeat first | (obtain ⟨_, h⟩ := h) | replace h := Des.el h
  subst_vars
  refine Eq.mpr (yl1 y0t yk _ _ _ _ _ _ _ K) ?_
  unfold y2g at h
  revert h
  exact alt_So (bind_So fun y0 => br_So (br_So (bind_So fun y1 => fun h => h) (fun h => h)) (fun h => h)) (bind_So fun y2 => br_So (br_So (bind_So fun y3 => fun h => h) (fun h => h)) (fun h => h))
theorem lpok_plist_list_pages_L1 (ws cur : List Int) (xs : List Value) (x_l_c_Workers x_l_c_CPUs : Int) (x_l_c_Pages x_l_c_Stripes : Int) (x_l_c_Tries x_l_c_Wait : Int) (x_l_c_Clock x_l_c_Private : Int) (x_l_c_Cache x_l_c_Bin : Int) (x_l_c_Batch x_l_at_0 : Int) (x_l_at_1 x_l_at_2 : Int) (x_l_at_3 x_l_at_4 : Int) (x_l_at_5 x_l_at_6 : Int) (x_l_at_7 x_l_at_8 : Int) (x_l_at_9 x_l_at_10 : Int) (x_l_at_11 x_head : Int) (left atv : Int) (w : List Int) (K : V → Heap → Prop) (hx : xs.length ≤ 2) : So (ygs ws.length cur x_l_c_Workers x_l_c_CPUs x_l_c_Pages x_l_c_Stripes x_l_c_Tries x_l_c_Wait x_l_c_Clock x_l_c_Private x_l_c_Cache x_l_c_Bin x_l_c_Batch x_l_at_0 x_l_at_1 x_l_at_2 x_l_at_3 x_l_at_4 x_l_at_5 x_l_at_6 x_l_at_7 x_l_at_8 x_l_at_9 x_l_at_10 x_l_at_11 (left, atv, w)) (fun (x : (List Int)) => K (.row 2) [.pk 0 [ws, cur] xs [.row 1], .row 0 ws true, .row 0 x false]) → Loop (y56 yk y05) (⟨37, 2⟩ : Cx) (at_ (bodyOf g_plist_list_pages) [1, 0, 1, 0]) (mkEnv [(1, .ptr 2 0), (3, .row 3), (4, vi left), (5, vi atv)]) [.pk 0 [ws, cur] xs [.row 1], .row 0 ws true, .cells 131 [.ptr 0 0, vi x_l_c_Workers, vi x_l_c_CPUs, vi x_l_c_Pages, vi x_l_c_Stripes, vi x_l_c_Tries, vi x_l_c_Wait, vi x_l_c_Clock, vi x_l_c_Private, vi x_l_c_Cache, vi x_l_c_Bin, vi x_l_c_Batch, vi x_l_at_0, vi x_l_at_1, vi x_l_at_2, vi x_l_at_3, vi x_l_at_4, vi x_l_at_5, vi x_l_at_6, vi x_l_at_7, vi x_l_at_8, vi x_l_at_9, vi x_l_at_10, vi x_l_at_11, vi x_head], .row 0 w false] (contK (y56 yk y05) (⟨37, 2⟩ : Cx) (bodyOf g_plist_list_pages) [1, 0, 1] (retK (y56 yk y05) g_plist_list_pages 2 K)) := by
  refine loopK_So (fun (s_ : Int × Int × (List Int)) => (mkEnv [(1, .ptr 2 0), (3, .row 3), (4, vi s_.1), (5, vi s_.2.1)])) (fun (s_ : Int × Int × (List Int)) => [.pk 0 [ws, cur] xs [.row 1], .row 0 ws true, .cells 131 [.ptr 0 0, vi x_l_c_Workers, vi x_l_c_CPUs, vi x_l_c_Pages, vi x_l_c_Stripes, vi x_l_c_Tries, vi x_l_c_Wait, vi x_l_c_Clock, vi x_l_c_Private, vi x_l_c_Cache, vi x_l_c_Bin, vi x_l_c_Batch, vi x_l_at_0, vi x_l_at_1, vi x_l_at_2, vi x_l_at_3, vi x_l_at_4, vi x_l_at_5, vi x_l_at_6, vi x_l_at_7, vi x_l_at_8, vi x_l_at_9, vi x_l_at_10, vi x_l_at_11, vi x_head], .row 0 (s_.2.2 : List Int) false]) (fun (x : (List Int)) => K (.row 2) [.pk 0 [ws, cur] xs [.row 1], .row 0 ws true, .row 0 x false]) ?_ (left, atv, w)
  intro s_ J1 h
  clear left
  clear atv
  clear w
  obtain ⟨left, atv, w⟩ := s_
  refine Eq.mpr (ynl yk y05 ws cur xs x_l_c_Workers x_l_c_CPUs x_l_c_Pages x_l_c_Stripes x_l_c_Tries x_l_c_Wait x_l_c_Clock x_l_c_Private x_l_c_Cache x_l_c_Bin x_l_c_Batch x_l_at_0 x_l_at_1 x_l_at_2 x_l_at_3 x_l_at_4 x_l_at_5 x_l_at_6 x_l_at_7 x_l_at_8 x_l_at_9 x_l_at_10 x_l_at_11 x_head left atv w K J1) ?_
  have h : So (y6x ws.length cur x_l_c_Workers x_l_c_CPUs x_l_c_Pages x_l_c_Stripes x_l_c_Tries x_l_c_Wait x_l_c_Clock x_l_c_Private x_l_c_Cache x_l_c_Bin x_l_c_Batch x_l_at_0 x_l_at_1 x_l_at_2 x_l_at_3 x_l_at_4 x_l_at_5 x_l_at_6 x_l_at_7 x_l_at_8 x_l_at_9 x_l_at_10 x_l_at_11 left atv w) _ := h
  unfold y6x at h
  revert h
  exact br_So (fun h => h) (br_So (fun h => h) (req_So (bind_So fun y0 => andV hx (req_So (fun h => h)))))
theorem yo7 : SpecOK Tryz.prog elTT 137 (ygn y3t) := by
  refine spec_of_exG (cfg := (y56 yk y05)) (yg rfl rfl rfl) (yc y5i (yc rd_ok (yc yam yh))) (fn := Tryz.f137) (l := 0) (B := 1000) (G := 1001) (r0 := at_ (bodyOf Tryz.f137) [0]) (c := gc_plist_list_pages) (rest := gr_plist_list_pages) (by kernel_rfl) (by kernel_rfl) (by kernel_rfl) (by kernel_rfl) (by kernel_rfl) (by kernel_rfl) rfl rfl rfl rfl ?_
  intro args H K h
  change y8d y3t args H K at h
  unfold y8d at h
  repeat first | (obtain ⟨_, h⟩ := h) | replace h := Des.el h
  subst_vars
  refine Eq.mpr (ynr yk y05 _ _ _ _ _ _ _ _ _ _ _ _ _ _ _ _ _ _ _ _ _ _ _ _ _ _ _ K) ?_
  unfold y3t at h
  revert h
  exact bind_So fun y0 => andV (by assumption) (req_So (br_So (fun h => h) (br_So (fun h => h) (bind_So fun y1 => andV (by assumption) (req_So (lpok_plist_list_pages_L1 _ _ _ _ _ _ _ _ _ _ _ _ _ _ _ _ _ _ _ _ _ _ _ _ _ _ _ _ _ _ K (by assumption)))))))
theorem yee : SpecOK Tryz.prog elTT 100 (yjo y3d) := by
  refine spec_of_exF (cfg := (ydo y2g y05 y0r)) (yg rfl rfl rfl) (yc yj1 (yc rd_ok (yc yam (yc wr_ok (yc ygt yh))))) (fn := Tryz.f100) (by kernel_rfl) (by kernel_rfl) (by kernel_rfl) ?_
  intro args H K h
  change y8s y3d args H K at h
  unfold y8s at h
  repeat first | (obtain ⟨_, h⟩ := h) | replace h := Des.el h
  subst_vars
  refine Eq.mpr (ylr y2g y05 y0r _ _ _ _ _ _ _ K) ?_
  unfold y3d at h
  revert h
  exact andV (by assumption) (bind_So fun y0 => br_So (fun h => h) (andV (by assumption) (req_So (bind_So fun y1 => andV (by assumption) (req_So (bind_So fun y2 => andV (by assumption) (req_So (br_So (bind_So fun y3 => andV (by assumption) (req_So (andV (by assumption) (req_So (fun h => h))))) (andV (by assumption) (req_So (fun h => h)))))))))))
theorem yoi : SpecOK Tryz.prog elTT 97 (yeh y43) := by
  refine spec_of_exF (cfg := (yjj y2g y3t y4a y0r y05)) (yg rfl rfl rfl) (yc yj1 (yc yo7 (yc ykv (yc ygt (yc rd_ok (yc yam (yc wr_ok yh))))))) (fn := Tryz.f97) (by kernel_rfl) (by kernel_rfl) (by kernel_rfl) ?_
  intro args H K h
  change ybs y43 args H K at h
  unfold ybs at h
  repeat first | (obtain ⟨_, h⟩ := h) | replace h := Des.el h
  subst_vars
  refine Eq.mpr (yk7 y2g y3t y4a y0r y05 _ _ _ _ _ _ _ K) ?_
  unfold y43 at h
  revert h
  exact andV (by assumption) (bind_So fun y0 => br_So (fun h => h) (andV (by assumption) (bind_So fun y1 => bind_So fun y2 => br_So (fun h => h) (bind_So fun y3 => andV (by assumption) (req_So (bind_So fun y4 => andV (by assumption) (req_So (br_So (andV (by assumption) (req_So (br_So (bind_So fun y5 => andV (by assumption) (req_So (bind_So fun y6 => andV (by assumption) (req_So (bind_So fun y7 => andV (by assumption) (req_So (fun h => h))))))) (bind_So fun y8 => andV (by assumption) (req_So (bind_So fun y9 => andV (by assumption) (req_So (fun h => h)))))))) (bind_So fun y10 => andV (by assumption) (req_So (br_So (bind_So fun y11 => andV (by assumption) (req_So (bind_So fun y12 => andV (by assumption) (req_So (bind_So fun y13 => andV (by assumption) (req_So (fun h => h))))))) (bind_So fun y14 => andV (by assumption) (req_So (bind_So fun y15 => andV (by assumption) (req_So (fun h => h))))))))))))))))
theorem lpok_plist_First_L1 (ws cur : List Int) (xs : List Value) (l2 : ya) (c f : Int) (K : V → Heap → Prop) (hx : xs.length ≤ 2) : So (yim ws.length cur l2 c f) (fun (x : Int) => K (vi x) (hV ws cur xs)) → Loop (y4c yn y0t) (⟨25, 2⟩ : Cx) (at_ (bodyOf Tryz.f52) [1, 0, 1, 0, 0]) (mkEnv [(0, .ptr 0 0), (2, vi c), (4, .ptr 2 0), (7, vi f)]) [.pk 0 [ws, cur] xs [.row 1], .row 0 ws true, .cells 28 (yd l2)] (contK (y4c yn y0t) (⟨25, 2⟩ : Cx) (bodyOf Tryz.f52) [1, 0, 1, 0] (retK (y4c yn y0t) Tryz.f52 2 K)) := by
  refine loopK_So (fun (s_ : Int) => (mkEnv [(0, .ptr 0 0), (2, vi c), (4, .ptr 2 0), (7, vi s_)])) (fun (s_ : Int) => [.pk 0 [ws, cur] xs [.row 1], .row 0 ws true, .cells 28 (yd l2)]) (fun (x : Int) => K (vi x) (hV ws cur xs)) ?_ f
  intro s_ J1 h
  clear f
  revert h; revert s_; intro f h
  refine Eq.mpr (yob yn y0t ws cur xs l2 c f K J1) ?_
  have h : So (y5x ws.length cur l2 c f) _ := h
  unfold y5x at h
  revert h
  exact bind_So fun y0 => br_So (bind_So fun y1 => andV hx (req_So (br_So (fun h => h) (fun h => h)))) (fun h => h)
theorem yek : SpecOK Tryz.prog elTT 52 (ybr y2t) := by
  refine spec_of_exF (cfg := (y4c yn y0t)) (yg rfl rfl rfl) (yc y6p (yc ygr (yc rd_ok yh))) (fn := Tryz.f52) (by kernel_rfl) (by kernel_rfl) (by kernel_rfl) ?_
  intro args H K h
  change y8v y2t args H K at h
  unfold y8v at h
  repeat first | (obtain ⟨_, h⟩ := h) | replace h := Des.el h
  subst_vars
  refine Eq.mpr (ypp yn y0t _ _ _ _ _ K) ?_
  unfold y2t at h
  revert h
  exact lpok_plist_First_L1 _ _ _ _ _ _ K (by assumption)
end Go.Rx
end

noncomputable section
namespace Go.Rx
open Go.Proofs
set_option maxRecDepth 100000
set_option maxHeartbeats 4000000
abbrev Y28 := T_assartref02_Layout → Int → Int → Int → Option Bool
def yd9 (m_ : Y28) (args : List V) (H : Heap) (K : V → Heap → Prop) : Prop :=
  aC args fun a0 r => aC r fun a1 r => aC r fun a2 r => aC r fun a3 r => aN r <| aAgg a0 fun c0 => y0f c0 fun l2 => aInt a1 fun p => aInt a2 fun c => aInt a3 fun f => aN H <| So (m_ l2 p c f) fun x => K (vb x) []
def ybo (m_ : Y28) : Spec := ⟨yd9 m_, (true : Bool)⟩
abbrev Y16 := T_assartref02_Layout → Int → Int → (List Int) → Option (List Int)
def y9o (m_ : Y16) (args : List V) (H : Heap) (K : V → Heap → Prop) : Prop :=
  aC args fun a0 r => aC r fun a1 r => aC r fun a2 r => aC r fun a3 r => aN r <| aAgg a0 fun c0 => y0f c0 fun l2 => aRow 0 a1 <| aInt a2 fun c => aInt a3 fun f => aC H fun b0 r => aN r <| bRow 0 true b0 fun (w : List Int) => So (m_ l2 c f w) fun x => K (.row 1) [.row 0 w true, .row 0 x false]
def y7d (m_ : Y16) : Spec := ⟨y9o m_, (true : Bool)⟩
abbrev Y19 := T_assartref02_Layout → Int → Int → (List Int) → (List Int) → Option (List Int)
def yc9 (m_ : Y19) (args : List V) (H : Heap) (K : V → Heap → Prop) : Prop :=
  aC args fun a0 r => aC r fun a1 r => aC r fun a2 r => aC r fun a3 r => aC r fun a4 r => aN r <| aAgg a0 fun c0 => y0f c0 fun l2 => aRow 0 a1 <| aInt a2 fun c => aInt a3 fun f => aRow 1 a4 <| aC H fun b0 r => aC r fun b1 r => aN r <| bRow 0 false b0 fun (w : List Int) => bRow 0 true b1 fun (pages : List Int) => So (m_ l2 c f w pages) fun x => K (.tup []) [.row 0 x false, .row 0 pages true]
def y8n (m_ : Y19) : Spec := ⟨yc9 m_, (⟨true, fun i => Nat.beq i 0⟩ : RO)⟩
abbrev Y4 := T_assartref02_Layout → Int → Int → Int → (List Int) → Option (Bool × (List Int))
def yc5 (m_ : Y4) (args : List V) (H : Heap) (K : V → Heap → Prop) : Prop :=
  aC args fun a0 r => aC r fun a1 r => aC r fun a2 r => aC r fun a3 r => aC r fun a4 r => aN r <| aAgg a0 fun c0 => y0f c0 fun l2 => aRow 0 a1 <| aInt a2 fun p => aInt a3 fun c => aInt a4 fun f => aC H fun b0 r => aN r <| bRow 0 false b0 fun (w : List Int) => So (m_ l2 p c f w) fun x => K (vb x.1) [.row 0 x.2 false]
def ya0 (m_ : Y4) : Spec := ⟨yc5 m_, (⟨true, fun i => Nat.beq i 0⟩ : RO)⟩
def yci (m_ : Y4) (args : List V) (H : Heap) (K : V → Heap → Prop) : Prop :=
  aC args fun a0 r => aC r fun a1 r => aC r fun a2 r => aC r fun a3 r => aC r fun a4 r => aN r <| aAgg a0 fun c0 => y0f c0 fun l2 => aRow 0 a1 <| aInt a2 fun p => aInt a3 fun c => aInt a4 fun f => aC H fun b0 r => aN r <| bRow 0 false b0 fun (w : List Int) => So (m_ l2 p c f w) fun x => K (vb x.1) [.row 0 x.2 false]
def yb9 (m_ : Y4) : Spec := ⟨yci m_, (⟨true, fun i => Nat.beq i 0⟩ : RO)⟩
abbrev Y9 := T_assartref02_Layout → Int → (List Int) → Option Int
def yb7 (m_ : Y9) (args : List V) (H : Heap) (K : V → Heap → Prop) : Prop :=
  aC args fun a0 r => aC r fun a1 r => aC r fun a2 r => aN r <| aAgg a0 fun c0 => y0f c0 fun l2 => aRow 0 a1 <| aInt a2 fun c => aC H fun b0 r => aN r <| bRow 0 true b0 fun (w : List Int) => So (m_ l2 c w) fun x => K (vi x) [.row 0 w true]
def ybp (m_ : Y9) : Spec := ⟨yb7 m_, (true : Bool)⟩
def yjf (y01 : Y8) : Cfg := { cfgB with
  sigs := (sigC 144 (y76 y01) sigN) }
def y52 (y01 : Y8) (yo : Y0) : Cfg := { cfgB with
  sigs := (sigC 144 (y76 y01) (sigC 116 (y7b yo) sigN)),
  keep := fun r => match r with | 7 => some [(1, some 0), (4, none), (10, some 0), (11, none), (12, none)] | _ => none }
def y4u (y01 : Y8) (yo y0c : Y0) : Cfg := { cfgB with
  sigs := (sigC 144 (y76 y01) (sigC 116 (y7b yo) (sigC 117 (yby y0c) sigN))),
  keep := fun r => match r with | 3 => some [(1, some 0), (2, none), (3, none), (4, some 0), (5, none), (10, none)] | _ => none,
  plan := fun r => match r with | 10 => some ([0, 1, 2, 4, 5, 6, 7, 8, 9, 3, 10, 11], 1) | 12 => some ([0, 1, 2, 4, 5, 6, 7, 8, 9, 3, 10, 11], 1) | _ => none }
def yiy (y0u : Y28) (yz : Y16) (y0s : Y19) : Cfg := { cfgB with
  sigs := (sigC 115 (ybo y0u) (sigC 110 (y7d yz) (sigC 118 (y8n y0s) sigN))),
  planT := fun r => match r with | 3 => some ((chainT [0, 1, 2, 3, 4, 6, 7, 8, 9] (.alt (chainT [5, 10, 11, 12] .fin) (chainT [10, 5, 11, 12] .fin))), 17) | _ => none }
def y4j (y0u : Y28) (yz : Y16) (yo y0c : Y0) (y0s : Y19) : Cfg := { cfgB with
  sigs := (sigC 115 (ybo y0u) (sigC 110 (y7d yz) (sigC 116 (y7b yo) (sigC 117 (yby y0c) (sigC 118 (y8n y0s) sigN))))),
  keep := fun r => match r with | 6 => some [(1, some 0), (2, none), (3, none), (4, none), (5, none), (11, some 0), (12, some 0), (13, none)] | _ => none }
def y4l (yz : Y16) : Cfg := { cfgB with
  sigs := (sigC 110 (y7d yz) sigN),
  keep := fun r => match r with | 2 => some [(1, some 0), (2, none), (3, none), (7, none)] | _ => none }
theorem ypn (y01 : Y8) (l2 : T_assartref02_Layout) (p c f : Int) (K : V → Heap → Prop) : (exF (yjf y01) Tryz.f115 [.agg (y0g l2), vi p, vi c, vi f] [] K) = (
    br (decide (p ≥ 0)) (br (decide (p < l2.C.Pages)) (So (y01 l2 c f) (fun (y0 : Int) => (K (vb (y0 != 0)) []))) (K (vb false) [])) (K (vb false) [])) := by kernel_rfl
theorem ymb (y01 : Y8) (yo : Y0) (l2 : T_assartref02_Layout) (c f : Int) (w : List Int) (atv n : Int) (w2 : List Int) (K : V → Heap → Prop) (J1 : Env → Heap → Prop) : (ex (y52 y01 yo) (⟨47, 1⟩ : Cx) (at_ (bodyOf Tryz.f110) [1, 1, 1, 1, 1, 0, 1, 0, 0]) (mkEnv [(1, .row 0), (4, .ptr 1 0), (10, .row 2), (11, vi atv), (12, vi n)]) [.row 0 w true, .cells 30 (ye (Go.Rx.T_assartref02_Layout.C l2)), .row 0 w2 false] (roundK (y52 y01 yo) (⟨47, 1⟩ : Cx) (at_ (bodyOf Tryz.f110) [1, 1, 1, 1, 1, 0, 1, 0, 0]) (contK (y52 y01 yo) (⟨47, 1⟩ : Cx) (bodyOf Tryz.f110) [1, 1, 1, 1, 1, 0, 1, 0] (retK (y52 y01 yo) Tryz.f110 1 K)) J1)) = (
    br (decide (n < l2.C.Pages)) (br (decide (atv > 0)) (Req (decide (w2.length + 1 ≤ 1048576)) (So (yo l2 (IntKind.i64.wrap (atv - 1))) (fun (y0 : Int) => (Req (inR y0 w.length) (Req (inR (offs y0 0) w.length) (J1 (mkEnv [(1, .row 0), (4, .ptr 1 0), (10, .row 2), (11, vi (w.getD (offs y0 0).toNat 0)), (12, vi (IntKind.i64.wrap (n + 1)))]) [.row 0 w true, .cells 30 (ye l2.C), .row 0 (w2 ++ [IntKind.i64.wrap (atv - 1)] : List Int) false])))))) (K (.row 1) [.row 0 w true, .row 0 w2 false])) (K (.row 1) [.row 0 w true, .row 0 w2 false])) := by kernel_rfl
theorem yqh (y01 : Y8) (yo : Y0) (l2 : T_assartref02_Layout) (c f : Int) (w : List Int) (K : V → Heap → Prop) : (exF (y52 y01 yo) Tryz.f110 [.agg (y0g l2), .row 0, vi c, vi f] [.row 0 w true] K) = (
    So (y01 l2 c f) (fun (y0 : Int) => (br (y0 == 0) (K (.row 1) [.row 0 w true, .row 0 ([] : List Int) false]) (Req (inR y0 w.length) (Req (inR (offs y0 0) w.length) (Loop (y52 y01 yo) (⟨47, 1⟩ : Cx) (at_ (bodyOf Tryz.f110) [1, 1, 1, 1, 1, 0, 1, 0, 0]) (mkEnv [(1, .row 0), (4, .ptr 1 0), (10, .row 2), (11, vi (w.getD (offs y0 0).toNat 0)), (12, vi 0)]) [.row 0 w true, .cells 30 (ye l2.C), .row 0 ([] : List Int) false] (contK (y52 y01 yo) (⟨47, 1⟩ : Cx) (bodyOf Tryz.f110) [1, 1, 1, 1, 1, 0, 1, 0] (retK (y52 y01 yo) Tryz.f110 1 K)))))))) := by kernel_rfl
theorem yok (y01 : Y8) (yo y0c : Y0) (l2 : T_assartref02_Layout) (c f : Int) (w pages : List Int) (iv : Int) (w2 : List Int) (K : V → Heap → Prop) (J1 : Env → Heap → Prop) : (ex (y4u y01 yo y0c) (⟨75, 2⟩ : Cx) (at_ (bodyOf Tryz.f118) [1, 1, 1, 0, 0]) (mkEnv [(1, .row 0), (2, vi c), (3, vi f), (4, .row 1), (5, .ptr 2 0), (10, vi iv)]) [.row 0 w2 false, .row 0 pages true, .cells 30 (ye (Go.Rx.T_assartref02_Layout.C l2))] (roundK (y4u y01 yo y0c) (⟨75, 2⟩ : Cx) (at_ (bodyOf Tryz.f118) [1, 1, 1, 0, 0]) (contK (y4u y01 yo y0c) (⟨75, 2⟩ : Cx) (bodyOf Tryz.f118) [1, 1, 1, 0] (retK (y4u y01 yo y0c) Tryz.f118 2 K)) J1)) = (
    br (decide (iv < (↑pages.length : Int))) (Req (inR iv pages.length) (Req (inR (offs iv 0) pages.length) (So (yo l2 (pages.getD (offs iv 0).toNat 0)) (fun (y0 : Int) => (Req (inR y0 w2.length) (Req (inR (offs y0 0) w2.length) (So (y0c l2 (pages.getD (offs iv 0).toNat 0)) (fun (y1 : Int) => (Req (inR y1 (List.length (List.set w2 (offs y0 0).toNat 0))) (Req (inR (offs y1 0) (List.length (List.set w2 (offs y0 0).toNat 0))) (br (iv == 0) (So (y01 l2 c f) (fun (y2 : Int) => (Req (inR y2 (List.length (List.set (List.set w2 (offs y0 0).toNat 0) (offs y1 0).toNat 0))) (Req (inR (offs y2 0) (List.length (List.set (List.set w2 (offs y0 0).toNat 0) (offs y1 0).toNat 0))) (br (decide (IntKind.i64.wrap (iv + 1) < (↑pages.length : Int))) (Req (inR (IntKind.i64.wrap (iv + 1)) pages.length) (Req (inR (offs (IntKind.i64.wrap (iv + 1)) 0) pages.length) (So (yo l2 (pages.getD (offs iv 0).toNat 0)) (fun (y3 : Int) => (Req (inR y3 (List.length (List.set (List.set (List.set w2 (offs y0 0).toNat 0) (offs y1 0).toNat 0) (offs y2 0).toNat (IntKind.i64.wrap (pages.getD (offs iv 0).toNat 0 + 1))))) (Req (inR (offs y3 0) (List.length (List.set (List.set (List.set w2 (offs y0 0).toNat 0) (offs y1 0).toNat 0) (offs y2 0).toNat (IntKind.i64.wrap (pages.getD (offs iv 0).toNat 0 + 1))))) (J1 (mkEnv [(1, .row 0), (2, vi c), (3, vi f), (4, .row 1), (5, .ptr 2 0), (10, vi (IntKind.i64.wrap (iv + 1)))]) [.row 0 (List.set (List.set (List.set (List.set w2 (offs y0 0).toNat 0) (offs y1 0).toNat 0) (offs y2 0).toNat (IntKind.i64.wrap (pages.getD (offs iv 0).toNat 0 + 1))) (offs y3 0).toNat (IntKind.i64.wrap (pages.getD (Int.toNat (offs (IntKind.i64.wrap (iv + 1)) 0)) 0 + 1)) : List Int) false, .row 0 pages true, .cells 30 (ye l2.C)]))))))) (J1 (mkEnv [(1, .row 0), (2, vi c), (3, vi f), (4, .row 1), (5, .ptr 2 0), (10, vi (IntKind.i64.wrap (iv + 1)))]) [.row 0 (List.set (List.set (List.set w2 (offs y0 0).toNat 0) (offs y1 0).toNat 0) (offs y2 0).toNat (IntKind.i64.wrap (pages.getD (offs iv 0).toNat 0 + 1)) : List Int) false, .row 0 pages true, .cells 30 (ye l2.C)])))))) (Req (inR (IntKind.i64.wrap (iv - 1)) pages.length) (Req (inR (offs (IntKind.i64.wrap (iv - 1)) 0) pages.length) (So (y0c l2 (pages.getD (offs iv 0).toNat 0)) (fun (y4 : Int) => (Req (inR y4 (List.length (List.set (List.set w2 (offs y0 0).toNat 0) (offs y1 0).toNat 0))) (Req (inR (offs y4 0) (List.length (List.set (List.set w2 (offs y0 0).toNat 0) (offs y1 0).toNat 0))) (br (decide (IntKind.i64.wrap (iv + 1) < (↑pages.length : Int))) (Req (inR (IntKind.i64.wrap (iv + 1)) pages.length) (Req (inR (offs (IntKind.i64.wrap (iv + 1)) 0) pages.length) (So (yo l2 (pages.getD (offs iv 0).toNat 0)) (fun (y5 : Int) => (Req (inR y5 (List.length (List.set (List.set (List.set w2 (offs y0 0).toNat 0) (offs y1 0).toNat 0) (offs y4 0).toNat (IntKind.i64.wrap (pages.getD (Int.toNat (offs (IntKind.i64.wrap (iv - 1)) 0)) 0 + 1))))) (Req (inR (offs y5 0) (List.length (List.set (List.set (List.set w2 (offs y0 0).toNat 0) (offs y1 0).toNat 0) (offs y4 0).toNat (IntKind.i64.wrap (pages.getD (Int.toNat (offs (IntKind.i64.wrap (iv - 1)) 0)) 0 + 1))))) (J1 (mkEnv [(1, .row 0), (2, vi c), (3, vi f), (4, .row 1), (5, .ptr 2 0), (10, vi (IntKind.i64.wrap (iv + 1)))]) [.row 0 (List.set (List.set (List.set (List.set w2 (offs y0 0).toNat 0) (offs y1 0).toNat 0) (offs y4 0).toNat (IntKind.i64.wrap (pages.getD (Int.toNat (offs (IntKind.i64.wrap (iv - 1)) 0)) 0 + 1))) (offs y5 0).toNat (IntKind.i64.wrap (pages.getD (Int.toNat (offs (IntKind.i64.wrap (iv + 1)) 0)) 0 + 1)) : List Int) false, .row 0 pages true, .cells 30 (ye l2.C)]))))))) (J1 (mkEnv [(1, .row 0), (2, vi c), (3, vi f), (4, .row 1), (5, .ptr 2 0), (10, vi (IntKind.i64.wrap (iv + 1)))]) [.row 0 (List.set (List.set (List.set w2 (offs y0 0).toNat 0) (offs y1 0).toNat 0) (offs y4 0).toNat (IntKind.i64.wrap (pages.getD (Int.toNat (offs (IntKind.i64.wrap (iv - 1)) 0)) 0 + 1)) : List Int) false, .row 0 pages true, .cells 30 (ye l2.C)]))))))))))))))))))) (K (.tup []) [.row 0 w2 false, .row 0 pages true])) := by kernel_rfl
theorem yks (y01 : Y8) (yo y0c : Y0) (l2 : T_assartref02_Layout) (c f : Int) (w pages : List Int) (K : V → Heap → Prop) : (exF (y4u y01 yo y0c) Tryz.f118 [.agg (y0g l2), .row 0, vi c, vi f, .row 1] [.row 0 w false, .row 0 pages true] K) = (
    So (y01 l2 c f) (fun (y0 : Int) => (Req (inR y0 w.length) (Req (inR (offs y0 0) w.length) (Loop (y4u y01 yo y0c) (⟨75, 2⟩ : Cx) (at_ (bodyOf Tryz.f118) [1, 1, 1, 0, 0]) (mkEnv [(1, .row 0), (2, vi c), (3, vi f), (4, .row 1), (5, .ptr 2 0), (10, vi 0)]) [.row 0 (List.set w (offs y0 0).toNat 0 : List Int) false, .row 0 pages true, .cells 30 (ye l2.C)] (contK (y4u y01 yo y0c) (⟨75, 2⟩ : Cx) (bodyOf Tryz.f118) [1, 1, 1, 0] (retK (y4u y01 yo y0c) Tryz.f118 2 K))))))) := by kernel_rfl
theorem ynq (y0u : Y28) (yz : Y16) (y0s : Y19) (l2 : T_assartref02_Layout) (p c f : Int) (w : List Int) (K : V → Heap → Prop) : (exF (yiy y0u yz y0s) Tryz.f83 [.agg (y0g l2), .row 0, vi p, vi c, vi f] [.row 0 w false] K) = (
    So (y0u l2 p c f) (fun (y0 : Bool) => (br (!y0) (K (vb false) [.row 0 w false]) ((So (yz l2 c f w) (fun (y1 : List Int) => (Req (decide (1 + y1.length ≤ 1048576)) (So (y0s l2 c f w (p :: y1)) (fun (y2 : List Int) => (K (vb true) [.row 0 y2 false])))))) ∧ (So (yz l2 c f w) (fun (y3 : List Int) => (Req (decide (1 + y3.length ≤ 1048576)) (So (y0s l2 c f w (p :: y3)) (fun (y4 : List Int) => (K (vb true) [.row 0 y4 false])))))))))) := by kernel_rfl
theorem yl0 (y0u : Y28) (yz : Y16) (yo y0c : Y0) (y0s : Y19) (l2 : T_assartref02_Layout) (p c f : Int) (w : List Int) (iv : Int) (w2 w3 : List Int) (K : V → Heap → Prop) (J1 : Env → Heap → Prop) : (ex (y4j y0u yz yo y0c y0s) (⟨65, 1⟩ : Cx) (at_ (bodyOf Tryz.f79) [1, 1, 1, 1, 0, 1, 0, 0]) (mkEnv [(1, .row 0), (2, vi p), (3, vi c), (4, vi f), (5, .ptr 1 0), (11, .row 2), (12, .row 3), (13, vi iv)]) [.row 0 w false, .cells 30 (ye (Go.Rx.T_assartref02_Layout.C l2)), .row 0 w2 false, .row 0 w3 false] (roundK (y4j y0u yz yo y0c y0s) (⟨65, 1⟩ : Cx) (at_ (bodyOf Tryz.f79) [1, 1, 1, 1, 0, 1, 0, 0]) (contK (y4j y0u yz yo y0c y0s) (⟨65, 1⟩ : Cx) (bodyOf Tryz.f79) [1, 1, 1, 1, 0, 1, 0] (retK (y4j y0u yz yo y0c y0s) Tryz.f79 1 K)) J1)) = (
    br (decide (iv < (↑w3.length : Int))) (Req (inR iv w3.length) (Req (inR (offs iv 0) w3.length) (br (w3.getD (offs iv 0).toNat 0 != p) (Req (inR iv w3.length) (Req (inR (offs iv 0) w3.length) (Req (decide (w2.length + 1 ≤ 1048576)) (J1 (mkEnv [(1, .row 0), (2, vi p), (3, vi c), (4, vi f), (5, .ptr 1 0), (11, .row 2), (12, .row 3), (13, vi (IntKind.i64.wrap (iv + 1)))]) [.row 0 w false, .cells 30 (ye l2.C), .row 0 (w2 ++ [w3.getD (offs iv 0).toNat 0] : List Int) false, .row 0 w3 false])))) (J1 (mkEnv [(1, .row 0), (2, vi p), (3, vi c), (4, vi f), (5, .ptr 1 0), (11, .row 2), (12, .row 3), (13, vi (IntKind.i64.wrap (iv + 1)))]) [.row 0 w false, .cells 30 (ye l2.C), .row 0 w2 false, .row 0 w3 false])))) (br ((↑w2.length : Int) == (↑w3.length : Int)) (K (vb false) [.row 0 w false]) (So (yo l2 p) (fun (y0 : Int) => (Req (inR y0 w.length) (Req (inR (offs y0 0) w.length) (So (y0c l2 p) (fun (y1 : Int) => (Req (inR y1 (List.length (List.set w (offs y0 0).toNat 0))) (Req (inR (offs y1 0) (List.length (List.set w (offs y0 0).toNat 0))) (So (y0s l2 c f (List.set (List.set w (offs y0 0).toNat 0) (offs y1 0).toNat 0) w2) (fun (y2 : List Int) => (K (vb true) [.row 0 y2 false]))))))))))))) := by kernel_rfl
theorem yoq (y0u : Y28) (yz : Y16) (yo y0c : Y0) (y0s : Y19) (l2 : T_assartref02_Layout) (p c f : Int) (w : List Int) (K : V → Heap → Prop) : (exF (y4j y0u yz yo y0c y0s) Tryz.f79 [.agg (y0g l2), .row 0, vi p, vi c, vi f] [.row 0 w false] K) = (
    So (y0u l2 p c f) (fun (y0 : Bool) => (br (!y0) (K (vb false) [.row 0 w false]) (So (yz l2 c f w) (fun (y1 : List Int) => (Loop (y4j y0u yz yo y0c y0s) (⟨65, 1⟩ : Cx) (at_ (bodyOf Tryz.f79) [1, 1, 1, 1, 0, 1, 0, 0]) (mkEnv [(1, .row 0), (2, vi p), (3, vi c), (4, vi f), (5, .ptr 1 0), (11, .row 2), (12, .row 3), (13, vi 0)]) [.row 0 w false, .cells 30 (ye l2.C), .row 0 ([] : List Int) false, .row 0 y1 false] (contK (y4j y0u yz yo y0c y0s) (⟨65, 1⟩ : Cx) (bodyOf Tryz.f79) [1, 1, 1, 1, 0, 1, 0] (retK (y4j y0u yz yo y0c y0s) Tryz.f79 1 K)))))))) := by kernel_rfl
theorem ynm (yz : Y16) (l2 : T_assartref02_Layout) (c : Int) (w : List Int) (f : Int) (K : V → Heap → Prop) (J1 : Env → Heap → Prop) : (ex (y4l yz) (⟨24, 1⟩ : Cx) (at_ (bodyOf Tryz.f74) [1, 0, 1, 0, 0]) (mkEnv [(1, .row 0), (2, vi c), (3, .ptr 1 0), (7, vi f)]) [.row 0 w true, .cells 30 (ye (Go.Rx.T_assartref02_Layout.C l2))] (roundK (y4l yz) (⟨24, 1⟩ : Cx) (at_ (bodyOf Tryz.f74) [1, 0, 1, 0, 0]) (contK (y4l yz) (⟨24, 1⟩ : Cx) (bodyOf Tryz.f74) [1, 0, 1, 0] (retK (y4l yz) Tryz.f74 1 K)) J1)) = (
    br (decide (f ≤ 32)) (So (yz l2 c f w) (fun (y0 : List Int) => (br (decide ((↑y0.length : Int) > 0)) (Req (inR 0 y0.length) (Req (inR (offs 0 0) y0.length) (K (vi (y0.getD 0 0)) [.row 0 w true]))) (J1 (mkEnv [(1, .row 0), (2, vi c), (3, .ptr 1 0), (7, vi (IntKind.i64.wrap (f + 1)))]) [.row 0 w true, .cells 30 (ye l2.C)])))) (K (vi (-1)) [.row 0 w true])) := by kernel_rfl
theorem ykr (yz : Y16) (l2 : T_assartref02_Layout) (c : Int) (w : List Int) (K : V → Heap → Prop) : (exF (y4l yz) Tryz.f74 [.agg (y0g l2), .row 0, vi c] [.row 0 w true] K) = (
    Loop (y4l yz) (⟨24, 1⟩ : Cx) (at_ (bodyOf Tryz.f74) [1, 0, 1, 0, 0]) (mkEnv [(1, .row 0), (2, vi c), (3, .ptr 1 0), (7, vi 1)]) [.row 0 w true, .cells 30 (ye l2.C)] (contK (y4l yz) (⟨24, 1⟩ : Cx) (bodyOf Tryz.f74) [1, 0, 1, 0] (retK (y4l yz) Tryz.f74 1 K))) := by kernel_rfl
def y0u (l2 : T_assartref02_Layout) (p c f : Int) : Option Bool :=
  (bif (decide (p ≥ 0)) then (bif (decide (p < l2.C.Pages)) then ((y01 l2 c f).bind fun y0 => some (y0 != 0)) else some false) else some false)
def y5y (l2 : T_assartref02_Layout) (w : List Int) (atv n : Int) (w2 : List Int) : Option ((Int × Int × (List Int)) ⊕ (List Int)) :=
  (bif (decide (n < l2.C.Pages)) then (bif (decide (atv > 0)) then (bif (decide (w2.length + 1 ≤ 1048576)) then ((yo l2 (IntKind.i64.wrap (atv - 1))).bind fun y0 => (bif (inR y0 w.length) then (bif (inR (offs y0 0) w.length) then some (.inl ((w.getD (offs y0 0).toNat 0), (IntKind.i64.wrap (n + 1)), (w2 ++ [IntKind.i64.wrap (atv - 1)]))) else none) else none)) else none) else some (.inr w2)) else some (.inr w2))
def yja (l2 : T_assartref02_Layout) (w : List Int) (s : Int × Int × (List Int)) : Option (List Int) :=
  loopO (fun s => y5y l2 w s.1 s.2.1 s.2.2) s
def yz (l2 : T_assartref02_Layout) (c f : Int) (w : List Int) : Option (List Int) :=
  ((y01 l2 c f).bind fun y0 => (bif (y0 == 0) then some ([]) else (bif (inR y0 w.length) then (bif (inR (offs y0 0) w.length) then (yja l2 w ((w.getD (offs y0 0).toNat 0), 0, ([]))) else none) else none)))
def y6h (l2 : T_assartref02_Layout) (c f : Int) (pages : List Int) (iv : Int) (w2 : List Int) : Option ((Int × (List Int)) ⊕ (List Int)) :=
  (bif (decide (iv < (↑pages.length : Int))) then (bif (inR iv pages.length) then (bif (inR (offs iv 0) pages.length) then ((yo l2 (pages.getD (offs iv 0).toNat 0)).bind fun y0 => (bif (inR y0 w2.length) then (bif (inR (offs y0 0) w2.length) then ((y0c l2 (pages.getD (offs iv 0).toNat 0)).bind fun y1 => (bif (inR y1 (List.length (List.set w2 (offs y0 0).toNat 0))) then (bif (inR (offs y1 0) (List.length (List.set w2 (offs y0 0).toNat 0))) then (bif (iv == 0) then ((y01 l2 c f).bind fun y2 => (bif (inR y2 (List.length (List.set (List.set w2 (offs y0 0).toNat 0) (offs y1 0).toNat 0))) then (bif (inR (offs y2 0) (List.length (List.set (List.set w2 (offs y0 0).toNat 0) (offs y1 0).toNat 0))) then (bif (decide (IntKind.i64.wrap (iv + 1) < (↑pages.length : Int))) then (bif (inR (IntKind.i64.wrap (iv + 1)) pages.length) then (bif (inR (offs (IntKind.i64.wrap (iv + 1)) 0) pages.length) then ((yo l2 (pages.getD (offs iv 0).toNat 0)).bind fun y3 => (bif (inR y3 (List.length (List.set (List.set (List.set w2 (offs y0 0).toNat 0) (offs y1 0).toNat 0) (offs y2 0).toNat (IntKind.i64.wrap (pages.getD (offs iv 0).toNat 0 + 1))))) then (bif (inR (offs y3 0) (List.length (List.set (List.set (List.set w2 (offs y0 0).toNat 0) (offs y1 0).toNat 0) (offs y2 0).toNat (IntKind.i64.wrap (pages.getD (offs iv 0).toNat 0 + 1))))) then some (.inl ((IntKind.i64.wrap (iv + 1)), (List.set (List.set (List.set (List.set w2 (offs y0 0).toNat 0) (offs y1 0).toNat 0) (offs y2 0).toNat (IntKind.i64.wrap (pages.getD (offs iv 0).toNat 0 + 1))) (offs y3 0).toNat (IntKind.i64.wrap (pages.getD (Int.toNat (offs (IntKind.i64.wrap (iv + 1)) 0)) 0 + 1))))) else none) else none)) else none) else none) else some (.inl ((IntKind.i64.wrap (iv + 1)), (List.set (List.set (List.set w2 (offs y0 0).toNat 0) (offs y1 0).toNat 0) (offs y2 0).toNat (IntKind.i64.wrap (pages.getD (offs iv 0).toNat 0 + 1)))))) else none) else none)) else (bif (inR (IntKind.i64.wrap (iv - 1)) pages.length) then (bif (inR (offs (IntKind.i64.wrap (iv - 1)) 0) pages.length) then ((y0c l2 (pages.getD (offs iv 0).toNat 0)).bind fun y4 => (bif (inR y4 (List.length (List.set (List.set w2 (offs y0 0).toNat 0) (offs y1 0).toNat 0))) then (bif (inR (offs y4 0) (List.length (List.set (List.set w2 (offs y0 0).toNat 0) (offs y1 0).toNat 0))) then (bif (decide (IntKind.i64.wrap (iv + 1) < (↑pages.length : Int))) then (bif (inR (IntKind.i64.wrap (iv + 1)) pages.length) then (bif (inR (offs (IntKind.i64.wrap (iv + 1)) 0) pages.length) then ((yo l2 (pages.getD (offs iv 0).toNat 0)).bind fun y5 => (bif (inR y5 (List.length (List.set (List.set (List.set w2 (offs y0 0).toNat 0) (offs y1 0).toNat 0) (offs y4 0).toNat (IntKind.i64.wrap (pages.getD (Int.toNat (offs (IntKind.i64.wrap (iv - 1)) 0)) 0 + 1))))) then (bif (inR (offs y5 0) (List.length (List.set (List.set (List.set w2 (offs y0 0).toNat 0) (offs y1 0).toNat 0) (offs y4 0).toNat (IntKind.i64.wrap (pages.getD (Int.toNat (offs (IntKind.i64.wrap (iv - 1)) 0)) 0 + 1))))) then some (.inl ((IntKind.i64.wrap (iv + 1)), (List.set (List.set (List.set (List.set w2 (offs y0 0).toNat 0) (offs y1 0).toNat 0) (offs y4 0).toNat (IntKind.i64.wrap (pages.getD (Int.toNat (offs (IntKind.i64.wrap (iv - 1)) 0)) 0 + 1))) (offs y5 0).toNat (IntKind.i64.wrap (pages.getD (Int.toNat (offs (IntKind.i64.wrap (iv + 1)) 0)) 0 + 1))))) else none) else none)) else none) else none) else some (.inl ((IntKind.i64.wrap (iv + 1)), (List.set (List.set (List.set w2 (offs y0 0).toNat 0) (offs y1 0).toNat 0) (offs y4 0).toNat (IntKind.i64.wrap (pages.getD (Int.toNat (offs (IntKind.i64.wrap (iv - 1)) 0)) 0 + 1)))))) else none) else none)) else none) else none)) else none) else none)) else none) else none)) else none) else none) else some (.inr w2))
def yf6 (l2 : T_assartref02_Layout) (c f : Int) (pages : List Int) (s : Int × (List Int)) : Option (List Int) :=
  loopO (fun s => y6h l2 c f pages s.1 s.2) s
def y0s (l2 : T_assartref02_Layout) (c f : Int) (w pages : List Int) : Option (List Int) :=
  ((y01 l2 c f).bind fun y0 => (bif (inR y0 w.length) then (bif (inR (offs y0 0) w.length) then (yf6 l2 c f pages (0, (List.set w (offs y0 0).toNat 0))) else none) else none))
def y1w (l2 : T_assartref02_Layout) (p c f : Int) (w : List Int) : Option (Bool × (List Int)) :=
  ((y0u l2 p c f).bind fun y0 => (bif (!y0) then some (false, w) else ((yz l2 c f w).bind fun y3 => (bif (decide (1 + y3.length ≤ 1048576)) then ((y0s l2 c f w (p :: y3)).bind fun y4 => some (true, y4)) else none))))
def y6w (l2 : T_assartref02_Layout) (p c f : Int) (w w3 : List Int) (iv : Int) (w2 : List Int) : Option ((Int × (List Int)) ⊕ (Bool × (List Int))) :=
  (bif (decide (iv < (↑w3.length : Int))) then (bif (inR iv w3.length) then (bif (inR (offs iv 0) w3.length) then (bif (w3.getD (offs iv 0).toNat 0 != p) then (bif (inR iv w3.length) then (bif (inR (offs iv 0) w3.length) then (bif (decide (w2.length + 1 ≤ 1048576)) then some (.inl ((IntKind.i64.wrap (iv + 1)), (w2 ++ [w3.getD (offs iv 0).toNat 0]))) else none) else none) else none) else some (.inl ((IntKind.i64.wrap (iv + 1)), w2))) else none) else none) else (bif ((↑w2.length : Int) == (↑w3.length : Int)) then some (.inr (false, w)) else ((yo l2 p).bind fun y0 => (bif (inR y0 w.length) then (bif (inR (offs y0 0) w.length) then ((y0c l2 p).bind fun y1 => (bif (inR y1 (List.length (List.set w (offs y0 0).toNat 0))) then (bif (inR (offs y1 0) (List.length (List.set w (offs y0 0).toNat 0))) then ((y0s l2 c f (List.set (List.set w (offs y0 0).toNat 0) (offs y1 0).toNat 0) w2).bind fun y2 => some (.inr (true, y2))) else none) else none)) else none) else none))))
def yfi (l2 : T_assartref02_Layout) (p c f : Int) (w w3 : List Int) (s : Int × (List Int)) : Option (Bool × (List Int)) :=
  loopO (fun s => y6w l2 p c f w w3 s.1 s.2) s
def y2i (l2 : T_assartref02_Layout) (p c f : Int) (w : List Int) : Option (Bool × (List Int)) :=
  ((y0u l2 p c f).bind fun y0 => (bif (!y0) then some (false, w) else ((yz l2 c f w).bind fun y1 => (yfi l2 p c f w y1 (0, ([]))))))
def y6j (l2 : T_assartref02_Layout) (c : Int) (w : List Int) (f : Int) : Option (Int ⊕ Int) :=
  (bif (decide (f ≤ 32)) then ((yz l2 c f w).bind fun y0 => (bif (decide ((↑y0.length : Int) > 0)) then (bif (inR 0 y0.length) then (bif (inR (offs 0 0) y0.length) then some (.inr (y0.getD 0 0)) else none) else none) else some (.inl (IntKind.i64.wrap (f + 1))))) else some (.inr (-1)))
def yhl (l2 : T_assartref02_Layout) (c : Int) (w : List Int) (s : Int) : Option Int :=
  loopO (fun s => y6j l2 c w s) s
def y1y (l2 : T_assartref02_Layout) (c : Int) (w : List Int) : Option Int :=
  (yhl l2 c w 1)
attribute [local irreducible] Loop ex exF contK roundK retK at_ bodyOf mkEnv
theorem yf0 : SpecOK Tryz.prog elTT 115 (ybo y0u) := by
  refine spec_of_exF (cfg := (yjf y01)) (yg rfl rfl rfl) (yc yb6 yh) (fn := Tryz.f115) (by kernel_rfl) (by kernel_rfl) (by kernel_rfl) ?_
  intro args H K h
  change yd9 y0u args H K at h
  unfold yd9 at h
  repeat first | (obtain ⟨_, h⟩ := h) | replace h := Des.el h
  subst_vars
  refine Eq.mpr (ypn y01 _ _ _ _ K) ?_
  unfold y0u at h
  revert h
  exact br_So (br_So (bind_So fun y0 => fun h => h) (fun h => h)) (fun h => h)
theorem lpok_ref10_List_L1 (l2 : T_assartref02_Layout) (c f : Int) (w : List Int) (atv n : Int) (w2 : List Int) (K : V → Heap → Prop) : So (yja l2 w (atv, n, w2)) (fun (x : (List Int)) => K (.row 1) [.row 0 w true, .row 0 x false]) → Loop (y52 y01 yo) (⟨47, 1⟩ : Cx) (at_ (bodyOf Tryz.f110) [1, 1, 1, 1, 1, 0, 1, 0, 0]) (mkEnv [(1, .row 0), (4, .ptr 1 0), (10, .row 2), (11, vi atv), (12, vi n)]) [.row 0 w true, .cells 30 (ye l2.C), .row 0 w2 false] (contK (y52 y01 yo) (⟨47, 1⟩ : Cx) (bodyOf Tryz.f110) [1, 1, 1, 1, 1, 0, 1, 0] (retK (y52 y01 yo) Tryz.f110 1 K)) := by
  refine loopK_So (fun (s_ : Int × Int × (List Int)) => (mkEnv [(1, .row 0), (4, .ptr 1 0), (10, .row 2), (11, vi s_.1), (12, vi s_.2.1)])) (fun (s_ : Int × Int × (List Int)) => [.row 0 w true, .cells 30 (ye l2.C), .row 0 (s_.2.2 : List Int) false]) (fun (x : (List Int)) => K (.row 1) [.row 0 w true, .row 0 x false]) ?_ (atv, n, w2)
  intro s_ J1 h
  clear atv
  clear n
  clear w2
  obtain ⟨atv, n, w2⟩ := s_
  refine Eq.mpr (ymb y01 yo l2 c f w atv n w2 K J1) ?_
  have h : So (y5y l2 w atv n w2) _ := h
  unfold y5y at h
  revert h
  exact br_So (br_So (req_So (bind_So fun y0 => req_So (req_So (fun h => h)))) (fun h => h)) (fun h => h)
theorem ya9 : SpecOK Tryz.prog elTT 110 (y7d yz) := by
  refine spec_of_exF (cfg := (y52 y01 yo)) (yg rfl rfl rfl) (yc yb6 (yc y9s yh)) (fn := Tryz.f110) (by kernel_rfl) (by kernel_rfl) (by kernel_rfl) ?_
  intro args H K h
  change y9o yz args H K at h
  unfold y9o at h
  repeat first | (obtain ⟨_, h⟩ := h) | replace h := Des.el h
  subst_vars
  refine Eq.mpr (yqh y01 yo _ _ _ _ K) ?_
  unfold yz at h
  revert h
  exact bind_So fun y0 => br_So (fun h => h) (req_So (req_So (lpok_ref10_List_L1 _ (by first | assumption | exact default) (by first | assumption | exact default) _ _ _ _ K)))
theorem lpok_ref10_lay_L1 (l2 : T_assartref02_Layout) (c f : Int) (w pages : List Int) (iv : Int) (w2 : List Int) (K : V → Heap → Prop) : So (yf6 l2 c f pages (iv, w2)) (fun (x : (List Int)) => K (.tup []) [.row 0 x false, .row 0 pages true]) → Loop (y4u y01 yo y0c) (⟨75, 2⟩ : Cx) (at_ (bodyOf Tryz.f118) [1, 1, 1, 0, 0]) (mkEnv [(1, .row 0), (2, vi c), (3, vi f), (4, .row 1), (5, .ptr 2 0), (10, vi iv)]) [.row 0 w2 false, .row 0 pages true, .cells 30 (ye l2.C)] (contK (y4u y01 yo y0c) (⟨75, 2⟩ : Cx) (bodyOf Tryz.f118) [1, 1, 1, 0] (retK (y4u y01 yo y0c) Tryz.f118 2 K)) := by
  refine loopK_So (fun (s_ : Int × (List Int)) => (mkEnv [(1, .row 0), (2, vi c), (3, vi f), (4, .row 1), (5, .ptr 2 0), (10, vi s_.1)])) (fun (s_ : Int × (List Int)) => [.row 0 (s_.2 : List Int) false, .row 0 pages true, .cells 30 (ye l2.C)]) (fun (x : (List Int)) => K (.tup []) [.row 0 x false, .row 0 pages true]) ?_ (iv, w2)
  intro s_ J1 h
  clear iv
  clear w2
  obtain ⟨iv, w2⟩ := s_
  refine Eq.mpr (yok y01 yo y0c l2 c f w pages iv w2 K J1) ?_
  have h : So (y6h l2 c f pages iv w2) _ := h
  unfold y6h at h
  revert h
  exact br_So (req_So (req_So (bind_So fun y0 => req_So (req_So (bind_So fun y1 => req_So (req_So (br_So (bind_So fun y2 => req_So (req_So (br_So (req_So (req_So (bind_So fun y3 => req_So (req_So (fun h => h))))) (fun h => h)))) (req_So (req_So (bind_So fun y4 => req_So (req_So (br_So (req_So (req_So (bind_So fun y5 => req_So (req_So (fun h => h))))) (fun h => h))))))))))))) (fun h => h)
theorem yi7 : SpecOK Tryz.prog elTT 118 (y8n y0s) := by
  refine spec_of_exF (cfg := (y4u y01 yo y0c)) (yg rfl rfl rfl) (yc yb6 (yc y9s (yc yem yh))) (fn := Tryz.f118) (by kernel_rfl) (by kernel_rfl) (by kernel_rfl) ?_
  intro args H K h
  change yc9 y0s args H K at h
  unfold yc9 at h
  repeat first | (obtain ⟨_, h⟩ := h) | replace h := Des.el h
  subst_vars
  refine Eq.mpr (yks y01 yo y0c _ _ _ _ _ K) ?_
  unfold y0s at h
  revert h
  exact bind_So fun y0 => req_So (req_So (lpok_ref10_lay_L1 _ _ _ (by first | assumption | exact default) _ _ _ K))
theorem yjl : SpecOK Tryz.prog elTT 83 (ya0 y1w) := by
  refine spec_of_exF (cfg := (yiy y0u yz y0s)) (yg rfl rfl rfl) (yc yf0 (yc ya9 (yc yi7 yh))) (fn := Tryz.f83) (by kernel_rfl) (by kernel_rfl) (by kernel_rfl) ?_
  intro args H K h
  change yc5 y1w args H K at h
  unfold yc5 at h
  repeat first | (obtain ⟨_, h⟩ := h) | replace h := Des.el h
  subst_vars
  refine Eq.mpr (ynq y0u yz y0s _ _ _ _ _ K) ?_
  unfold y1w at h
  revert h
  exact bind_So fun y0 => br_So (fun h => h) (alt_So (bind_So fun y1 => req_So (bind_So fun y2 => fun h => h)) (bind_So fun y3 => req_So (bind_So fun y4 => fun h => h)))
theorem lpok_ref10_Unlink_L1 (l2 : T_assartref02_Layout) (p c f : Int) (w : List Int) (iv : Int) (w2 w3 : List Int) (K : V → Heap → Prop) : So (yfi l2 p c f w w3 (iv, w2)) (fun (x : Bool × (List Int)) => K (vb x.1) [.row 0 x.2 false]) → Loop (y4j y0u yz yo y0c y0s) (⟨65, 1⟩ : Cx) (at_ (bodyOf Tryz.f79) [1, 1, 1, 1, 0, 1, 0, 0]) (mkEnv [(1, .row 0), (2, vi p), (3, vi c), (4, vi f), (5, .ptr 1 0), (11, .row 2), (12, .row 3), (13, vi iv)]) [.row 0 w false, .cells 30 (ye l2.C), .row 0 w2 false, .row 0 w3 false] (contK (y4j y0u yz yo y0c y0s) (⟨65, 1⟩ : Cx) (bodyOf Tryz.f79) [1, 1, 1, 1, 0, 1, 0] (retK (y4j y0u yz yo y0c y0s) Tryz.f79 1 K)) := by
  refine loopK_So (fun (s_ : Int × (List Int)) => (mkEnv [(1, .row 0), (2, vi p), (3, vi c), (4, vi f), (5, .ptr 1 0), (11, .row 2), (12, .row 3), (13, vi s_.1)])) (fun (s_ : Int × (List Int)) => [.row 0 w false, .cells 30 (ye l2.C), .row 0 (s_.2 : List Int) false, .row 0 w3 false]) (fun (x : Bool × (List Int)) => K (vb x.1) [.row 0 x.2 false]) ?_ (iv, w2)
  intro s_ J1 h
  clear iv
  clear w2
  obtain ⟨iv, w2⟩ := s_
  refine Eq.mpr (yl0 y0u yz yo y0c y0s l2 p c f w iv w2 w3 K J1) ?_
  have h : So (y6w l2 p c f w w3 iv w2) _ := h
  unfold y6w at h
  revert h
  exact br_So (req_So (req_So (br_So (req_So (req_So (req_So (fun h => h)))) (fun h => h)))) (br_So (fun h => h) (bind_So fun y0 => req_So (req_So (bind_So fun y1 => req_So (req_So (bind_So fun y2 => fun h => h))))))
theorem yhb : SpecOK Tryz.prog elTT 79 (yb9 y2i) := by
  refine spec_of_exF (cfg := (y4j y0u yz yo y0c y0s)) (yg rfl rfl rfl) (yc yf0 (yc ya9 (yc y9s (yc yem (yc yi7 yh))))) (fn := Tryz.f79) (by kernel_rfl) (by kernel_rfl) (by kernel_rfl) ?_
  intro args H K h
  change yci y2i args H K at h
  unfold yci at h
  repeat first | (obtain ⟨_, h⟩ := h) | replace h := Des.el h
  subst_vars
  refine Eq.mpr (yoq y0u yz yo y0c y0s _ _ _ _ _ K) ?_
  unfold y2i at h
  revert h
  exact bind_So fun y0 => br_So (fun h => h) (bind_So fun y1 => lpok_ref10_Unlink_L1 _ _ _ _ _ _ _ _ K)
theorem lpok_ref10_First_L1 (l2 : T_assartref02_Layout) (c : Int) (w : List Int) (f : Int) (K : V → Heap → Prop) : So (yhl l2 c w f) (fun (x : Int) => K (vi x) [.row 0 w true]) → Loop (y4l yz) (⟨24, 1⟩ : Cx) (at_ (bodyOf Tryz.f74) [1, 0, 1, 0, 0]) (mkEnv [(1, .row 0), (2, vi c), (3, .ptr 1 0), (7, vi f)]) [.row 0 w true, .cells 30 (ye l2.C)] (contK (y4l yz) (⟨24, 1⟩ : Cx) (bodyOf Tryz.f74) [1, 0, 1, 0] (retK (y4l yz) Tryz.f74 1 K)) := by
  refine loopK_So (fun (s_ : Int) => (mkEnv [(1, .row 0), (2, vi c), (3, .ptr 1 0), (7, vi s_)])) (fun (s_ : Int) => [.row 0 w true, .cells 30 (ye l2.C)]) (fun (x : Int) => K (vi x) [.row 0 w true]) ?_ f
  intro s_ J1 h
  clear f
  revert h; revert s_; intro f h
  refine Eq.mpr (ynm yz l2 c w f K J1) ?_
  have h : So (y6j l2 c w f) _ := h
  unfold y6j at h
  revert h
  exact br_So (bind_So fun y0 => br_So (req_So (req_So (fun h => h))) (fun h => h)) (fun h => h)
theorem yh3 : SpecOK Tryz.prog elTT 74 (ybp y1y) := by
  refine spec_of_exF (cfg := (y4l yz)) (yg rfl rfl rfl) (yc ya9 yh) (fn := Tryz.f74) (by kernel_rfl) (by kernel_rfl) (by kernel_rfl) ?_
  intro args H K h
  change yb7 y1y args H K at h
  unfold yb7 at h
  repeat first | (obtain ⟨_, h⟩ := h) | replace h := Des.el h
  subst_vars
  refine Eq.mpr (ykr yz _ _ _ K) ?_
  unfold y1y at h
  revert h
  exact lpok_ref10_First_L1 _ _ _ _ K
end Go.Rx
end

section
namespace Go.Rx
open Go.Proofs
theorem offs_nn {a : Int} (h : 0 ≤ a) : offs a 0 = a := by
  have e : a = ((a.toNat : Nat) : Int) := by omega
  rw [e]; rfl
theorem take_snoc {xs : List Int} {i : Nat} (h : i < xs.length) : xs.take (i + 1) = xs.take i ++ [xs.getD i 0] := by
  rw [List.take_add_one]; simp [List.getD, h]
section
variable {L : ya} {nw : Nat} {cur : List Int}
theorem LayOK.geo {L : ya} (h : LayOK L) : 1 ≤ L.at_4 ∧ L.at_5 = L.at_4 + L.c.Pages ∧ L.at_6 = L.at_4 + 2 * L.c.Pages ∧ L.at_6 + 62 ≤ L.at_11 := by
  have := h.a0; have := h.a1; have := h.a4; have := h.a5; have := h.a6; have := h.a7; have := h.a8b; have := h.a9; have := h.a11; have := h.big; have := h.stripes; have := h.pages; have := h.bin
  omega
theorem VOK.geoA (v : VOK L nw cur) : GeoA L.at_4 L.c.Pages nw := by
  have := v.lay.geo; have := v.all; have := v.lay.pages
  exact ⟨by omega, v.lay.pages, by omega⟩
theorem lHead_is (h : LayOK L) {c f : Int} (k : isL c f) : lHead L c f = hdI (L.at_4 + 2 * L.c.Pages) c f := by
  have := h.geo
  unfold lHead; rw [if_pos (show (0 ≤ c ∧ c < 5) ∧ 1 ≤ f ∧ f ≤ slotsI c from k)]; unfold hdI
  have e : slotsI c = slotsC c := rfl
  omega
theorem lHead_no {c f : Int} (k : ¬ isL c f) : lHead L c f = 0 := by unfold lHead; rw [if_neg (show ¬ ((0 ≤ c ∧ c < 5) ∧ 1 ≤ f ∧ f ≤ slotsI c) from k)]
theorem lHead_ne (h : LayOK L) {c f : Int} (k : isL c f) : lHead L c f ≠ 0 := by
  have := h.geo; have := h.pages
  have := hd_in (hb := L.at_4 + 2 * L.c.Pages) k
  rw [lHead_is h k]; omega
theorem nx_is {p : Int} (h : 0 ≤ p ∧ p < L.c.Pages) : lPg L L.at_4 p = L.at_4 + p := by unfold lPg; rw [if_pos h]
theorem pv_is (k : LayOK L) {p : Int} (h : 0 ≤ p ∧ p < L.c.Pages) : lPg L L.at_5 p = L.at_4 + L.c.Pages + p := by
  have := k.geo
  unfold lPg; rw [if_pos h]; omega
theorem Size_eq (c : Int) : yx c = some (if c = 0 then 1 else if c = 1 then 2 else if c = 2 then 4 else if c = 3 then 8 else if c = 4 then 16 else 0) := by
  unfold yx
  by_cases a : c < 0
  · rw [decide_eq_true a, if_neg (by omega), if_neg (by omega), if_neg (by omega), if_neg (by omega), if_neg (by omega)]; rfl
  · rw [decide_eq_false a]
    by_cases b : 5 ≤ c
    · rw [decide_eq_true (show c ≥ 5 from b), if_neg (by omega), if_neg (by omega), if_neg (by omega), if_neg (by omega), if_neg (by omega)]; rfl
    · rw [decide_eq_false (show ¬ c ≥ 5 from b)]
      have e : c = 0 ∨ c = 1 ∨ c = 2 ∨ c = 3 ∨ c = 4 := by omega
      rcases e with rfl | rfl | rfl | rfl | rfl <;> rfl
theorem Slots_eq (c : Int) : yn c = some (slotsC c) := by
  unfold yn
  rw [Size_eq]
  unfold slotsC
  by_cases c0 : c = 0
  · subst c0; rfl
  by_cases c1 : c = 1
  · subst c1; rfl
  by_cases c2 : c = 2
  · subst c2; rfl
  by_cases c3 : c = 3
  · subst c3; rfl
  by_cases c4 : c = 4
  · subst c4; rfl
  rw [if_neg c0, if_neg c1, if_neg c2, if_neg c3, if_neg c4, if_neg c0, if_neg c1, if_neg c2, if_neg c3, if_neg c4]; rfl
theorem of_eq (h : LayOK L) (p c f : Int) : y2g nw cur L p c f = some (L.c.Workers, L.c.CPUs, L.c.Pages, L.c.Stripes, L.c.Tries, L.c.Wait, L.c.Clock, L.c.Private, L.c.Cache, L.c.Bin, L.c.Batch, L.at_0, L.at_1, L.at_2, L.at_3, L.at_4, L.at_5, L.at_6, L.at_7, L.at_8, L.at_9, L.at_10, L.at_11, lHead L c f, decide (isL c f ∧ 0 ≤ p ∧ p < L.c.Pages)) := by
  unfold y2g
  rw [Head_eq h, Option.bind_some]
  by_cases a : isL c f
  · have e : (lHead L c f != 0) = true := by simpa using lHead_ne h a
    rw [e, cond_true]
    by_cases b : 0 ≤ p
    · rw [decide_eq_true (show p ≥ 0 from b), cond_true, Config_eq, Option.bind_some]
      have e2 : (isL c f ∧ 0 ≤ p ∧ p < L.c.Pages) ↔ p < (cOf L).Pages := ⟨fun x => x.2.2, fun x => ⟨a, b, x⟩⟩
      simp only [e2]
    · rw [decide_eq_false (show ¬ p ≥ 0 from b), cond_false, decide_eq_false (fun x => b x.2.1)]
  · have e : (lHead L c f != 0) = false := by rw [lHead_no a]; rfl
    rw [e, cond_false, decide_eq_false (fun x => a x.1)]
theorem pages_eq (v : VOK L nw cur) {h : Int} {xs : List Int} (g : Geo L.at_4 L.c.Pages nw h) (l : Lst L.at_4 L.c.Pages cur h xs) : y3t nw cur L.c.Workers L.c.CPUs L.c.Pages L.c.Stripes L.c.Tries L.c.Wait L.c.Clock L.c.Private L.c.Cache L.c.Bin L.c.Batch L.at_0 L.at_1 L.at_2 L.at_3 L.at_4 L.at_5 L.at_6 L.at_7 L.at_8 L.at_9 L.at_10 L.at_11 h = some xs := by
  have hpg := v.lay.pages
  obtain ⟨g1, g2, g3⟩ := g
  have hle := l.len (by omega)
  have hN : ∀ x, y05 (ya.mk (yb.mk L.c.Workers L.c.CPUs L.c.Pages L.c.Stripes L.c.Tries L.c.Wait L.c.Clock L.c.Private L.c.Cache L.c.Bin L.c.Batch) L.at_0 L.at_1 L.at_2 L.at_3 L.at_4 L.at_5 L.at_6 L.at_7 L.at_8 L.at_9 L.at_10 L.at_11) x = some (lPg L L.at_4 x) := fun x => Next_eq v.lay x
  have hC : yk (ya.mk (yb.mk L.c.Workers L.c.CPUs L.c.Pages L.c.Stripes L.c.Tries L.c.Wait L.c.Clock L.c.Private L.c.Cache L.c.Bin L.c.Batch) L.at_0 L.at_1 L.at_2 L.at_3 L.at_4 L.at_5 L.at_6 L.at_7 L.at_8 L.at_9 L.at_10 L.at_11) = some L.c := rfl
  have hat : ∀ i, i < xs.length → nxV xs i - 1 = xs.getD i 0 := fun i hi => by rw [nxV_at hi]; omega
  have hrd : ∀ i, i < xs.length → lPg L L.at_4 (xs.getD i 0) = L.at_4 + xs.getD i 0 ∧ inR (L.at_4 + xs.getD i 0) nw = true ∧ rd cur (L.at_4 + xs.getD i 0) = nxV xs (i + 1) := fun i hi => by
    have hb := l.inn _ (getD_mem hi)
    exact ⟨nx_is hb, inR_int (by omega) (by omega), l.next i hi⟩
  have hbd : ∀ i, i < xs.length → 1 ≤ nxV xs i ∧ nxV xs i ≤ 256 := fun i hi => by
    have hb := l.inn _ (getD_mem hi)
    rw [nxV_at hi]; omega
  have hhd : rd cur h = nxV xs 0 := l.head
  unfold y3t
  rw [hC, Option.bind_some, inR_int (by omega) (by omega), cond_true, hhd]
  by_cases c0 : 0 < xs.length
  · have h1 := hbd 0 c0
    rw [decide_eq_false (by omega), cond_false]
    have e0 : (L.c.Pages == 0) = false := by simp; omega
    rw [e0, cond_false, wrap_id (by omega) (by omega), hat 0 c0, hN, Option.bind_some, (hrd 0 c0).1, (hrd 0 c0).2.1, cond_true, (hrd 0 c0).2.2, wrap_id (by omega) (by omega)]
    obtain ⟨r, h2, rfl⟩ := loopO_ind (step := fun s : Int × Int × List Int => y6x nw cur L.c.Workers L.c.CPUs L.c.Pages L.c.Stripes L.c.Tries L.c.Wait L.c.Clock L.c.Private L.c.Cache L.c.Bin L.c.Batch L.at_0 L.at_1 L.at_2 L.at_3 L.at_4 L.at_5 L.at_6 L.at_7 L.at_8 L.at_9 L.at_10 L.at_11 s.1 s.2.1 s.2.2)
      (I := fun s => ∃ i : Nat, 1 ≤ i ∧ i ≤ xs.length ∧ s = (L.c.Pages - i, nxV xs i, xs.take i)) (μ := fun s => s.1.toNat) (fun r => r = xs) (by
        rintro _ ⟨i, hi1, hi2, rfl⟩
        simp only [y6x]
        by_cases c : i < xs.length
        · have h3 := hbd i c
          have e1 : (L.c.Pages - (i : Int) == 0) = false := by simp; omega
          rw [decide_eq_false (by omega), cond_false, e1, cond_false, decide_eq_true (by rw [List.length_take]; omega), cond_true, wrap_id (by omega) (by omega), hat i c, hN, Option.bind_some, (hrd i c).1, (hrd i c).2.1, cond_true, (hrd i c).2.2, wrap_id (by omega) (by omega)]
          refine .inl ⟨_, rfl, ⟨i + 1, by omega, c, ?_⟩, by simp only; omega⟩
          rw [take_snoc c]
          congr 1; omega
        · have e : i = xs.length := by omega
          subst e
          rw [nxV_end (Nat.le_refl _), decide_eq_true (by omega), cond_true, List.take_length]
          exact .inr ⟨_, rfl, rfl⟩) (L.c.Pages - 1, nxV xs 1, [xs.getD 0 0]) ⟨1, by omega, c0, by
            rw [show (1 : Nat) = 0 + 1 from rfl, take_snoc c0]; simp⟩
    exact h2
  · have : xs = [] := by cases xs with | nil => rfl | cons x r => simp at c0
    subst this
    rw [nxV_end (by simp), decide_eq_true (by omega), cond_true]
theorem Link_eq (v : VOK L nw cur) {p c f : Int} {xs : List Int} (l : isL c f → Lst L.at_4 L.c.Pages cur (hdI (L.at_4 + 2 * L.c.Pages) c f) xs) : y3d nw cur L p c f =
    some (if isL c f ∧ 0 ≤ p ∧ p < L.c.Pages then (true, linkW L.at_4 L.c.Pages cur (hdI (L.at_4 + 2 * L.c.Pages) c f) p) else (false, cur)) := by
  have hpg := v.lay.pages
  unfold y3d
  rw [of_eq v.lay, Option.bind_some]
  simp only
  by_cases a : isL c f ∧ 0 ≤ p ∧ p < L.c.Pages
  · rw [decide_eq_true a, if_pos a, Bool.not_true, cond_false]
    obtain ⟨a1, a2, a3⟩ := a
    have l := l a1
    have g := v.geoA.geo a1
    rw [lHead_is v.lay a1]
    obtain ⟨g1, g2, g3⟩ := g
    generalize hdI (L.at_4 + 2 * L.c.Pages) c f = h at *
    have hN := Next_eq v.lay; have hP := Prev_eq v.lay
    have ih : inR h nw = true := inR_int (by omega) (by omega)
    have i1 : inR (L.at_4 + p) nw = true := inR_int (by omega) (by omega)
    have i2 : inR (L.at_4 + L.c.Pages + p) nw = true := inR_int (by omega) (by omega)
    have hrd : rd cur h = wd cur h := rfl
    simp only [ih, cond_true, hN, hP, Option.bind_some, nx_is ⟨a2, a3⟩, pv_is v.lay ⟨a2, a3⟩, i1, i2, hrd]
    rw [wrap_id (x := p + 1) (by omega) (by omega)]
    unfold linkW
    dsimp only
    by_cases c0 : wd cur h = 0
    · have e : (wd cur h != 0) = false := by rw [c0]; rfl
      rw [e, cond_false, if_pos c0]; rfl
    · have e : (wd cur h != 0) = true := by simpa using c0
      rw [e, cond_true, if_neg c0]
      have hr : 0 < xs.length := by
        have := (nxV_pos l 0).2; have := l.head; omega
      have hb := l.inn _ (getD_mem hr)
      have h0 := l.head
      rw [nxV_at hr] at h0
      rw [wrap_id (x := wd cur h - 1) (by omega) (by omega), pv_is v.lay (by omega), inR_int (by omega) (by omega), cond_true]; rfl
  · rw [decide_eq_false a, if_neg a]; rfl
theorem Index_eq {xs : List Int} (p : Int) (hl : xs.length ≤ 4611686018427387904) : ∃ k, y4x p xs = some k ∧ ((k = -1 ∧ p ∉ xs) ∨ ∃ i : Nat, k = i ∧ i < xs.length ∧ xs.getD i 0 = p) := by
  obtain ⟨r, h1, h2⟩ := loopO_ind (step := fun s : Int => y6g p xs (xs.length : Int) s)
    (I := fun s => ∃ i : Nat, s = i ∧ i ≤ xs.length ∧ ∀ j, j < i → xs.getD j 0 ≠ p) (μ := fun s => xs.length - s.toNat) (fun k => (k = -1 ∧ p ∉ xs) ∨ ∃ i : Nat, k = i ∧ i < xs.length ∧ xs.getD i 0 = p) (by
      rintro _ ⟨i, rfl, hi, hno⟩
      simp only [y6g]
      by_cases c : i < xs.length
      · have ho : offs (i : Int) 0 = (i : Int) := rfl
        rw [decide_eq_true (show (i : Int) < (xs.length : Int) by omega), cond_true, inR_nat c, cond_true, ho, inR_nat c, cond_true, Int.toNat_natCast]
        by_cases e : xs.getD i 0 = p
        · have e2 : (p == xs.getD i 0) = true := by rw [e]; exact beq_self_eq_true p
          rw [e2, cond_true]
          exact .inr ⟨_, rfl, .inr ⟨i, rfl, c, e⟩⟩
        · have e2 : (p == xs.getD i 0) = false := by simp; exact fun h => e h.symm
          rw [e2, cond_false, wrap_succ (by omega)]
          refine .inl ⟨_, rfl, ⟨i + 1, rfl, c, fun j hj => ?_⟩, by omega⟩
          by_cases d : j = i
          · rw [d]; exact e
          · exact hno j (by omega)
      · rw [decide_eq_false (by omega), cond_false]
        refine .inr ⟨_, rfl, .inl ⟨rfl, fun hm => ?_⟩⟩
        obtain ⟨j, hj, e⟩ := mem_getD hm
        exact hno j (by omega) e) 0 ⟨0, rfl, by omega, fun j hj => by omega⟩
  exact ⟨r, h1, h2⟩
theorem Contains_eq {xs : List Int} (p : Int) (hl : xs.length ≤ 4611686018427387904) : y4a p xs = some (decide (p ∈ xs)) := by
  obtain ⟨k, h1, h2⟩ := Index_eq p hl
  unfold y4a
  rw [h1, Option.bind_some]
  rcases h2 with ⟨rfl, h2⟩ | ⟨i, rfl, h2, h3⟩
  · rw [decide_eq_false h2]; rfl
  · have hm : p ∈ xs := by rw [← h3]; exact getD_mem h2
    rw [decide_eq_true hm, decide_eq_true (by omega)]
theorem Unlink_eq (v : VOK L nw cur) {p c f : Int} {xs : List Int} (l : isL c f → Lst L.at_4 L.c.Pages cur (hdI (L.at_4 + 2 * L.c.Pages) c f) xs) : y43 nw cur L p c f =
    some (if isL c f ∧ p ∈ xs then (true, unlinkW L.at_4 L.c.Pages cur (hdI (L.at_4 + 2 * L.c.Pages) c f) p) else (false, cur)) := by
  have hpg := v.lay.pages
  unfold y43
  rw [of_eq v.lay, Option.bind_some]
  simp only
  by_cases a1 : isL c f
  · have l := l a1
    have g := v.geoA.geo a1
    by_cases a : 0 ≤ p ∧ p < L.c.Pages
    · rw [decide_eq_true ⟨a1, a⟩, Bool.not_true, cond_false]
      have hle := l.len (by omega)
      rw [lHead_is v.lay a1, pages_eq v g l, Option.bind_some, Contains_eq p (by omega), Option.bind_some]
      by_cases m : p ∈ xs
      · rw [decide_eq_true m, if_pos ⟨a1, m⟩, Bool.not_true, cond_false]
        obtain ⟨k, hk, rfl⟩ := mem_getD m
        obtain ⟨g1, g2, g3⟩ := g
        generalize hdI (L.at_4 + 2 * L.c.Pages) c f = h at *
        have hN := Next_eq v.lay; have hP := Prev_eq v.lay
        have ih : inR h nw = true := inR_int (by omega) (by omega)
        have i1 : inR (L.at_4 + xs.getD k 0) nw = true := inR_int (by omega) (by omega)
        have i2 : inR (L.at_4 + L.c.Pages + xs.getD k 0) nw = true := inR_int (by omega) (by omega)
        have hrd : ∀ a, rd cur a = wd cur a := fun _ => rfl
        simp only [ih, cond_true, hN, hP, Option.bind_some, nx_is a, pv_is v.lay a, i1, i2, hrd]
        unfold unlinkW
        dsimp only
        have ea := l.prev k hk
        have eb := l.next k hk
        have hA : wd cur (L.at_4 + L.c.Pages + xs.getD k 0) ≠ 0 → 0 ≤ wd cur (L.at_4 + L.c.Pages + xs.getD k 0) - 1 ∧ wd cur (L.at_4 + L.c.Pages + xs.getD k 0) - 1 < L.c.Pages := fun h0 => by
          rw [ea] at h0 ⊢
          cases k with
          | zero => exact (h0 (pvV_zero _)).elim
          | succ j =>
            have := l.inn _ (getD_mem (i := j) (by omega))
            rw [pvV_succ, nxV_at (by omega)]; omega
        have hB : wd cur (L.at_4 + xs.getD k 0) ≠ 0 → 0 ≤ wd cur (L.at_4 + xs.getD k 0) - 1 ∧ wd cur (L.at_4 + xs.getD k 0) - 1 < L.c.Pages := fun h0 => by
          rw [eb] at h0 ⊢
          have hlt : k + 1 < xs.length := by
            have := (nxV_pos l (k + 1)).2; omega
          have := l.inn _ (getD_mem hlt)
          rw [nxV_at hlt]; omega
        generalize wd cur (L.at_4 + L.c.Pages + xs.getD k 0) = av at *
        generalize wd cur (L.at_4 + xs.getD k 0) = bv at *
        generalize xs.getD k 0 = q at *
        by_cases c0 : av = 0
        · have e : (av == 0) = true := by rw [c0]; rfl
          rw [e, cond_true, if_pos c0]
          by_cases d0 : bv = 0
          · have e2 : (bv != 0) = false := by rw [d0]; rfl
            rw [e2, cond_false, if_pos d0]; rfl
          · have e2 : (bv != 0) = true := by simpa using d0
            have hb := hB d0
            rw [e2, cond_true, if_neg d0, wrap_id (x := bv - 1) (by omega) (by omega), pv_is v.lay hb, inR_int (by omega) (by omega), cond_true]; rfl
        · have e : (av == 0) = false := by simpa using c0
          have ha := hA c0
          rw [e, cond_false, if_neg c0, wrap_id (x := av - 1) (by omega) (by omega), nx_is ha, inR_int (i := L.at_4 + (av - 1)) (by omega) (by omega), cond_true]
          by_cases d0 : bv = 0
          · have e2 : (bv != 0) = false := by rw [d0]; rfl
            rw [e2, cond_false, if_pos d0]; rfl
          · have e2 : (bv != 0) = true := by simpa using d0
            have hb := hB d0
            rw [e2, cond_true, if_neg d0, wrap_id (x := bv - 1) (by omega) (by omega), pv_is v.lay hb, inR_int (by omega) (by omega), cond_true]; rfl
      · rw [decide_eq_false m, if_neg (fun x => m x.2)]; rfl
    · rw [decide_eq_false (fun x => a x.2), if_neg (fun x => a (l.inn p x.2))]; rfl
  · rw [decide_eq_false (fun x => a1 x.1), if_neg (fun x => a1 x.1)]; rfl
def lsOf (ls : Int → Int → List Int) (c f : Int) : List Int := if isL c f then ls c f else []
theorem pFirst_eq (v : VOK L nw cur) {c : Int} {ls : Int → Int → List Int} (l : ∀ f, isL c f → Lst L.at_4 L.c.Pages cur (hdI (L.at_4 + 2 * L.c.Pages) c f) (ls c f)) : y2t nw cur L c = some (firstF ls c 1 (slotsC c).toNat) := by
  have hs := slotsC_le c
  refine loopO_fun (step := fun s : Int => y5x nw cur L c s) (I := fun f => 1 ≤ f ∧ f ≤ slotsC c + 1) (fun f => (slotsC c + 1 - f).toNat) (fun f => firstF ls c f (slotsC c + 1 - f).toNat) (fun f hf => ?_) 1 ⟨by omega, by omega⟩ |>.trans (by congr 2; omega)
  simp only [y5x, Slots_eq, Option.bind_some]
  by_cases c0 : f ≤ slotsC c
  · have hc : 0 ≤ c ∧ c < 5 := by
      unfold slotsC at c0
      by_cases h : 0 ≤ c ∧ c < 5
      · exact h
      · rw [if_neg (by omega), if_neg (by omega), if_neg (by omega), if_neg (by omega), if_neg (by omega)] at c0; omega
    have k : isL c f := ⟨hc, hf.1, c0⟩
    have hl := l f k
    obtain ⟨g1, g2, g3⟩ := v.geoA.geo k
    have hh : rd cur (hdI (L.at_4 + 2 * L.c.Pages) c f) = nxV (ls c f) 0 := hl.head
    rw [decide_eq_true c0, cond_true, Head_eq v.lay, Option.bind_some, lHead_is v.lay k, inR_int (by omega) (by omega), cond_true, hh]
    have hn : (slotsC c + 1 - f).toNat = (slotsC c + 1 - (f + 1)).toNat + 1 := by omega
    cases hx : ls c f with
    | nil =>
      rw [nxV_end (by simp), decide_eq_false (by omega), cond_false, wrap_id (by omega) (by omega)]
      refine .inl ⟨_, rfl, ⟨by omega, by omega⟩, by omega, ?_⟩
      rw [hn]; simp only [firstF, hx]
    | cons x r =>
      have hb := hl.inn x (by rw [hx]; simp)
      have e : nxV (x :: r) 0 = x + 1 := by simp [nxV]
      rw [e, decide_eq_true (by omega), cond_true, wrap_id (by omega) (by omega)]
      refine .inr ?_
      rw [hn]; simp only [firstF, hx]
      congr 2; omega
  · rw [decide_eq_false c0, cond_false]
    refine .inr ?_
    have : (slotsC c + 1 - f).toNat = 0 := by omega
    rw [this]; rfl
end
end Go.Rx
end

section
namespace Go.Rx
open Go.Proofs
theorem rSlots0 : y0y 0 = some 32 := loopO_end rfl
theorem rSlots1 : y0y 1 = some 16 := (loopO_go rfl).trans (loopO_end rfl)
theorem rSlots2 : y0y 2 = some 8 := (loopO_go rfl).trans ((loopO_go rfl).trans (loopO_end rfl))
theorem rSlots3 : y0y 3 = some 4 := (loopO_go rfl).trans ((loopO_go rfl).trans ((loopO_go rfl).trans (loopO_end rfl)))
theorem rSlots4 : y0y 4 = some 2 := (loopO_go rfl).trans ((loopO_go rfl).trans ((loopO_go rfl).trans ((loopO_go rfl).trans (loopO_end rfl))))
section
variable {c : yb}
theorem rHead_end (h : RightC c) {q f ahead : Int} (hq : 0 ≤ q ∧ q < 5) (hs : y0y q = some (slotsI q)) (ha : ahead = 64 - 2 * slotsI q) :
    y5e ⟨c⟩ q f ahead q = some (.inr (lHead (layC c) q f)) := by
  have hg := (layC_ok h).geo; have hb := (layC_ok h).big; have h11 := (layC_ok h).a11; have hp := h.pages
  have hsl := slots_le q
  simp only [y5e]
  rw [decide_eq_false (by omega), cond_false, hs, rheads_eq h]
  simp only [Option.bind_some, rat_eq, lHead]
  by_cases a : 1 ≤ f
  · rw [decide_eq_true (show f ≥ 1 from a), cond_true]
    by_cases b : f ≤ slotsI q
    · rw [decide_eq_true b, if_pos rfl, if_pos ⟨hq, a, b⟩]
      have e1 : (layC c).c = c := rfl
      rw [e1] at hg h11
      rw [wrap_id (x := (layC c).at_6 + ahead) (by omega) (by omega), wrap_id (x := (layC c).at_6 + ahead + f) (by omega) (by omega), wrap_id (by omega) (by omega), ha]
      congr 2; omega
    · rw [decide_eq_false b, if_neg (by decide), if_neg (fun x => b x.2.2)]
  · rw [decide_eq_false (show ¬ f ≥ 1 from a), cond_false, if_neg (by decide), if_neg (fun x => a x.2.1)]
theorem rHead_eq (h : RightC c) (q f : Int) : y01 ⟨c⟩ q f = some (lHead (layC c) q f) := by
  unfold y01
  by_cases a : q < 0
  · rw [decide_eq_true a, cond_true, lHead_no (fun x => by have := x.1; omega)]
  rw [decide_eq_false a, cond_false]
  by_cases b : q > 4
  · rw [decide_eq_true b, cond_true, lHead_no (fun x => by have := x.1; omega)]
  rw [decide_eq_false b, cond_false]
  have go : ∀ (k ahead s : Int), k < q → y0y k = some s → -9223372036854775808 ≤ ahead + s ∧ ahead + s ≤ 9223372036854775807 → 0 ≤ k → k < 5 →
      y5e ⟨c⟩ q f ahead k = some (.inl (ahead + s, k + 1)) := fun k ahead s h1 h2 h3 h4 h5 => by
    simp only [y5e]
    rw [decide_eq_true h1, cond_true, h2, Option.bind_some, wrap_id h3.1 h3.2, wrap_id (by omega) (by omega)]
  have e : q = 0 ∨ q = 1 ∨ q = 2 ∨ q = 3 ∨ q = 4 := by omega
  rcases e with rfl | rfl | rfl | rfl | rfl
  · exact loopO_end (rHead_end h (by decide) rSlots0 (by decide))
  · exact (loopO_go (go 0 0 32 (by decide) rSlots0 (by decide) (by decide) (by decide))).trans (loopO_end (rHead_end h (by decide) rSlots1 (by decide)))
  · exact (loopO_go (go 0 0 32 (by decide) rSlots0 (by decide) (by decide) (by decide))).trans ((loopO_go (go 1 32 16 (by decide) rSlots1 (by decide) (by decide) (by decide))).trans (loopO_end (rHead_end h (by decide) rSlots2 (by decide))))
  · exact (loopO_go (go 0 0 32 (by decide) rSlots0 (by decide) (by decide) (by decide))).trans ((loopO_go (go 1 32 16 (by decide) rSlots1 (by decide) (by decide) (by decide))).trans ((loopO_go (go 2 48 8 (by decide) rSlots2 (by decide) (by decide) (by decide))).trans (loopO_end (rHead_end h (by decide) rSlots3 (by decide)))))
  · exact (loopO_go (go 0 0 32 (by decide) rSlots0 (by decide) (by decide) (by decide))).trans ((loopO_go (go 1 32 16 (by decide) rSlots1 (by decide) (by decide) (by decide))).trans ((loopO_go (go 2 48 8 (by decide) rSlots2 (by decide) (by decide) (by decide))).trans ((loopO_go (go 3 56 4 (by decide) rSlots3 (by decide) (by decide) (by decide))).trans (loopO_end (rHead_end h (by decide) rSlots4 (by decide))))))
theorem rthere10_eq (h : RightC c) (p q f : Int) : y0u ⟨c⟩ p q f = some (decide (isL q f ∧ 0 ≤ p ∧ p < c.Pages)) := by
  unfold y0u
  by_cases a : 0 ≤ p
  · rw [decide_eq_true (show p ≥ 0 from a), cond_true]
    by_cases b : p < c.Pages
    · rw [decide_eq_true b, cond_true, rHead_eq h, Option.bind_some]
      by_cases k : isL q f
      · have e : (lHead (layC c) q f != 0) = true := by simpa using lHead_ne (layC_ok h) k
        rw [e, decide_eq_true ⟨k, a, b⟩]
      · rw [lHead_no k, decide_eq_false (fun x => k x.1)]; rfl
    · rw [decide_eq_false b, cond_false, decide_eq_false (fun x => b x.2.2)]
  · rw [decide_eq_false (show ¬ p ≥ 0 from a), cond_false, decide_eq_false (fun x => a x.2.1)]
theorem rList_eq (h : RightC c) {w : List Int} (v : VOK (layC c) w.length w) {q f : Int} (k : isL q f) {xs : List Int} (l : Lst (layC c).at_4 c.Pages w (hdI ((layC c).at_4 + 2 * c.Pages) q f) xs) : yz ⟨c⟩ q f w = some xs := by
  have hpg := h.pages
  obtain ⟨g1, g2, g3⟩ := v.geoA.geo k
  have e0 : (layC c).c = c := rfl
  rw [e0] at g3
  have hle := l.len (by omega)
  unfold yz
  have hh := lHead_is v.lay k
  rw [e0] at hh
  rw [rHead_eq h, Option.bind_some, hh]
  generalize hdI ((layC c).at_4 + 2 * c.Pages) q f = hd at *
  have e1 : (hd == 0) = false := by simp; omega
  rw [e1, cond_false, offs_nn (by omega), inR_int (by omega) (by omega), cond_true]
  have hrd : ∀ i, i < xs.length → lPg (layC c) (layC c).at_4 (xs.getD i 0) = (layC c).at_4 + xs.getD i 0 ∧ inR ((layC c).at_4 + xs.getD i 0) w.length = true ∧ w.getD ((layC c).at_4 + xs.getD i 0).toNat 0 = nxV xs (i + 1) := fun i hi => by
    have hb := l.inn _ (getD_mem hi)
    exact ⟨nx_is hb, inR_int (by omega) (by omega), l.next i hi⟩
  have hbd : ∀ i, i < xs.length → 1 ≤ nxV xs i ∧ nxV xs i ≤ 256 := fun i hi => by
    have hb := l.inn _ (getD_mem hi)
    rw [nxV_at hi]; omega
  have hhd : w.getD hd.toNat 0 = nxV xs 0 := l.head
  rw [hhd, cond_true]
  obtain ⟨r, h2, rfl⟩ := loopO_ind (step := fun s : Int × Int × List Int => y5y ⟨c⟩ w s.1 s.2.1 s.2.2)
    (I := fun s => ∃ i : Nat, i ≤ xs.length ∧ s = (nxV xs i, (i : Int), xs.take i)) (μ := fun s => (c.Pages - s.2.1).toNat) (fun r => r = xs) (by
      rintro _ ⟨i, hi2, rfl⟩
      simp only [y5y]
      by_cases cc : i < xs.length
      · have h3 := hbd i cc
        have hat : nxV xs i - 1 = xs.getD i 0 := by rw [nxV_at cc]; omega
        rw [decide_eq_true (by omega), cond_true, decide_eq_true (by omega), cond_true, decide_eq_true (by rw [List.length_take]; omega), cond_true, wrap_id (by omega) (by omega), hat, rNext_eq h, Option.bind_some, (hrd i cc).1, (hrd i cc).2.1, cond_true]
        have hb := l.inn _ (getD_mem cc)
        rw [offs_nn (by omega), (hrd i cc).2.1, cond_true, (hrd i cc).2.2, wrap_succ (by omega)]
        refine .inl ⟨_, rfl, ⟨i + 1, cc, ?_⟩, by simp only; omega⟩
        rw [take_snoc cc]
      · have e : i = xs.length := by omega
        subst e
        rw [nxV_end (Nat.le_refl _), List.take_length]
        by_cases d : (xs.length : Int) < c.Pages
        · rw [decide_eq_true d, cond_true, decide_eq_false (by omega), cond_false]; exact .inr ⟨_, rfl, rfl⟩
        · rw [decide_eq_false d, cond_false]; exact .inr ⟨_, rfl, rfl⟩) (nxV xs 0, 0, []) ⟨0, by omega, by simp⟩
  exact h2
theorem rList_no (h : RightC c) {w : List Int} {q f : Int} (k : ¬ isL q f) : yz ⟨c⟩ q f w = some [] := by
  unfold yz
  rw [rHead_eq h, Option.bind_some, lHead_no k]; rfl
theorem rlay_eq (h : RightC c) {w : List Int} (v : VOK (layC c) w.length w) {q f : Int} (k : isL q f) {xs : List Int} (hx : ∀ x ∈ xs, 0 ≤ x ∧ x < c.Pages) (nd : xs.Nodup) :
    ∃ u, y0s ⟨c⟩ q f w xs = some u ∧ Lst (layC c).at_4 c.Pages u (hdI ((layC c).at_4 + 2 * c.Pages) q f) xs ∧ Off (layC c).at_4 c.Pages w u (hdI ((layC c).at_4 + 2 * c.Pages) q f) xs := by
  have hpg := h.pages
  have g := v.geoA.geo k
  have e0 : (layC c).c = c := rfl
  rw [e0] at g
  obtain ⟨g1, g2, g3⟩ := id g
  have hle : (xs.length : Int) ≤ c.Pages := by
    have := nodupI_len (N := c.Pages.toNat) nd (fun x hm => by have := hx x hm; omega)
    omega
  have hin : ∀ i, i < xs.length → 0 ≤ xs.getD i 0 ∧ xs.getD i 0 < c.Pages := fun i hi => hx _ (getD_mem hi)
  unfold y0s
  have hh := lHead_is v.lay k
  rw [e0] at hh
  rw [rHead_eq h, Option.bind_some, hh, offs_nn (by omega), inR_int (by omega) (by omega), cond_true, cond_true]
  have hst := Laid.start (xs := xs) g
  have hhd : y01 ⟨c⟩ q f = some (hdI ((layC c).at_4 + 2 * c.Pages) q f) := by rw [rHead_eq h, hh]
  generalize hdI ((layC c).at_4 + 2 * c.Pages) q f = hd at *
  obtain ⟨r, h2, hr⟩ := loopO_ind (step := fun s : Int × List Int => y6h ⟨c⟩ q f xs s.1 s.2)
    (I := fun s => ∃ i : Nat, i ≤ xs.length ∧ s.1 = (i : Int) ∧ Laid (layC c).at_4 c.Pages w s.2 hd xs i) (μ := fun s => xs.length - s.1.toNat) (fun r => Laid (layC c).at_4 c.Pages w r hd xs xs.length) (by
      rintro ⟨_, u⟩ ⟨i, hi, rfl, l⟩
      simp only at l ⊢
      simp only [y6h]
      by_cases cc : i < xs.length
      · have hb := hin i cc
        have ho : offs (i : Int) 0 = (i : Int) := rfl
        have hul := l.off.len
        have st := l.step g hx nd cc
        have hP : y0c ⟨c⟩ (xs.getD i 0) = some ((layC c).at_4 + c.Pages + xs.getD i 0) := by rw [rPrev_eq h, pv_is v.lay hb]; rfl
        have hN : yo ⟨c⟩ (xs.getD i 0) = some ((layC c).at_4 + xs.getD i 0) := by rw [rNext_eq h, nx_is hb]
        rw [decide_eq_true (show (i : Int) < (xs.length : Int) by omega), cond_true, inR_nat cc, cond_true, ho, inR_nat cc, cond_true, Int.toNat_natCast, hN, hP]
        simp only [Option.bind_some, List.length_set]
        have o1 : offs ((layC c).at_4 + xs.getD i 0) 0 = (layC c).at_4 + xs.getD i 0 := offs_nn (by omega)
        have o2 : offs ((layC c).at_4 + c.Pages + xs.getD i 0) 0 = (layC c).at_4 + c.Pages + xs.getD i 0 := offs_nn (by omega)
        have o3 : offs hd 0 = hd := offs_nn (by omega)
        have r1 : inR ((layC c).at_4 + xs.getD i 0) u.length = true := inR_int (by omega) (by omega)
        have r2 : inR ((layC c).at_4 + c.Pages + xs.getD i 0) u.length = true := inR_int (by omega) (by omega)
        have r3 : inR hd u.length = true := inR_int (by omega) (by omega)
        simp only [o1, o2, o3, r1, r2, r3, hhd, Option.bind_some, cond_true]
        have w1 : IntKind.i64.wrap ((i : Int) + 1) = ((i + 1 : Nat) : Int) := wrap_succ (by omega)
        have ho1 : offs ((i + 1 : Nat) : Int) 0 = ((i + 1 : Nat) : Int) := rfl
        have e1 : (xs.getD i 0 + 1 : Int) = IntKind.i64.wrap (xs.getD i 0 + 1) := (wrap_id (by omega) (by omega)).symm
        simp only [w1, ho1, Int.toNat_natCast, ← e1]
        unfold layStep at st
        dsimp only at st
        by_cases d : i + 1 < xs.length
        · have hb1 := hin (i + 1) d
          have e2 : IntKind.i64.wrap (xs.getD (i + 1) 0 + 1) = xs.getD (i + 1) 0 + 1 := wrap_id (by omega) (by omega)
          rw [if_pos d] at st
          rw [decide_eq_true (show ((i + 1 : Nat) : Int) < (xs.length : Int) by omega), inR_nat d, e2]
          simp only [cond_true]
          by_cases z : i = 0
          · have ez : ((i : Int) == 0) = true := by simp [z]
            rw [if_pos z] at st
            rw [ez, cond_true]
            exact .inl ⟨_, rfl, ⟨i + 1, cc, rfl, st⟩, by simp only; omega⟩
          · have ez : ((i : Int) == 0) = false := by simpa using z
            have w2 : IntKind.i64.wrap ((i : Int) - 1) = ((i - 1 : Nat) : Int) := by rw [wrap_id (by omega) (by omega)]; omega
            have ho2 : offs ((i - 1 : Nat) : Int) 0 = ((i - 1 : Nat) : Int) := rfl
            have hb2 := hin (i - 1) (by omega)
            have e3 : IntKind.i64.wrap (xs.getD (i - 1) 0 + 1) = xs.getD (i - 1) 0 + 1 := wrap_id (by omega) (by omega)
            rw [if_neg z] at st
            rw [ez, cond_false, w2, ho2, inR_nat (by omega), Int.toNat_natCast, e3]
            simp only [cond_true]
            exact .inl ⟨_, rfl, ⟨i + 1, cc, rfl, st⟩, by simp only; omega⟩
        · rw [if_neg d] at st
          rw [decide_eq_false (show ¬ ((i + 1 : Nat) : Int) < (xs.length : Int) by omega)]
          simp only [cond_false]
          by_cases z : i = 0
          · have ez : ((i : Int) == 0) = true := by simp [z]
            rw [if_pos z] at st
            rw [ez, cond_true]
            exact .inl ⟨_, rfl, ⟨i + 1, cc, rfl, st⟩, by simp only; omega⟩
          · have ez : ((i : Int) == 0) = false := by simpa using z
            have w2 : IntKind.i64.wrap ((i : Int) - 1) = ((i - 1 : Nat) : Int) := by rw [wrap_id (by omega) (by omega)]; omega
            have ho2 : offs ((i - 1 : Nat) : Int) 0 = ((i - 1 : Nat) : Int) := rfl
            have hb2 := hin (i - 1) (by omega)
            have e3 : IntKind.i64.wrap (xs.getD (i - 1) 0 + 1) = xs.getD (i - 1) 0 + 1 := wrap_id (by omega) (by omega)
            rw [if_neg z] at st
            rw [ez, cond_false, w2, ho2, inR_nat (by omega), Int.toNat_natCast, e3]
            simp only [cond_true]
            exact .inl ⟨_, rfl, ⟨i + 1, cc, rfl, st⟩, by simp only; omega⟩
      · have e : i = xs.length := by omega
        subst e
        rw [decide_eq_false (by omega), cond_false]
        exact .inr ⟨_, rfl, l⟩) (0, w.set hd.toNat 0) ⟨0, by omega, rfl, hst⟩
  exact ⟨r, h2, hr.fin hx nd, hr.off⟩
end
end Go.Rx
end

section
namespace Go.Rx
open Go.Proofs
theorem filter_erase : ∀ {xs : List Int}, xs.Nodup → ∀ {k : Nat}, k < xs.length → xs.filter (fun x => x != xs.getD k 0) = xs.eraseIdx k
  | [], _, _, h => by simp at h
  | x :: r, nd, 0, _ => by
    rw [List.nodup_cons] at nd
    have e : r.filter (fun y => y != x) = r := List.filter_eq_self.2 (fun y hy => by
      have : y ≠ x := fun h => nd.1 (h ▸ hy)
      simpa using this)
    simp only [List.getD_cons_zero, List.filter_cons, bne_self_eq_false, List.eraseIdx_cons_zero]
    exact e
  | x :: r, nd, k + 1, h => by
    rw [List.nodup_cons] at nd
    have hk : k < r.length := by simpa using h
    have hx : x ≠ r.getD k 0 := fun h => nd.1 (h ▸ getD_mem hk)
    have e : (x != r.getD k 0) = true := by simpa [List.getD] using hx
    simp only [List.getD_cons_succ, List.filter_cons, e, if_true, List.eraseIdx_cons_succ]
    rw [filter_erase nd.2 hk]
theorem filter_not {xs : List Int} {p : Int} (h : p ∉ xs) : xs.filter (fun x => x != p) = xs := List.filter_eq_self.2 (fun y hy => by
  have : y ≠ p := fun e => h (e ▸ hy)
  simpa using this)
theorem filter_snoc {xs : List Int} {i : Nat} (h : i < xs.length) (p : Int) : (xs.take (i + 1)).filter (fun x => x != p) = (xs.take i).filter (fun x => x != p) ++ (bif xs.getD i 0 != p then [xs.getD i 0] else []) := by
  rw [take_snoc h, List.filter_append]
  congr 1
section
variable {c : yb}
theorem rLink_eq (h : RightC c) {w : List Int} (v : VOK (layC c) w.length w) {p q f : Int} {xs : List Int} (l : isL q f → Lst (layC c).at_4 c.Pages w (hdI ((layC c).at_4 + 2 * c.Pages) q f) xs) (hp : isL q f → 0 ≤ p → p < c.Pages → p ∉ xs) :
    y1w ⟨c⟩ p q f w = some (if isL q f ∧ 0 ≤ p ∧ p < c.Pages then (true, linkW (layC c).at_4 c.Pages w (hdI ((layC c).at_4 + 2 * c.Pages) q f) p) else (false, w)) := by
  have hpg := h.pages
  unfold y1w
  rw [rthere10_eq h, Option.bind_some]
  by_cases a : isL q f ∧ 0 ≤ p ∧ p < c.Pages
  · rw [decide_eq_true a, if_pos a, Bool.not_true, cond_false]
    obtain ⟨k, a1, a2⟩ := a
    have l := l k
    have g := v.geoA.geo k
    have hle := l.len (by omega)
    obtain ⟨n1, n2⟩ := link_ok g l ⟨a1, a2⟩ (hp k a1 a2)
    obtain ⟨u, h1, h2, h3⟩ := rlay_eq h v k n1.inn n1.nd
    rw [rList_eq h v k l, Option.bind_some, decide_eq_true (by omega), cond_true, h1, Option.bind_some]
    have e : u = linkW (layC c).at_4 c.Pages w (hdI ((layC c).at_4 + 2 * c.Pages) q f) p := h2.det n1 h3 n2 (fun y m n => (n m).elim)
    rw [e]
  · rw [decide_eq_false a, if_neg a]; rfl
theorem rUnlink_eq (h : RightC c) {w : List Int} (v : VOK (layC c) w.length w) {p q f : Int} {xs : List Int} (l : isL q f → Lst (layC c).at_4 c.Pages w (hdI ((layC c).at_4 + 2 * c.Pages) q f) xs) :
    y2i ⟨c⟩ p q f w = some (if isL q f ∧ p ∈ xs then (true, unlinkW (layC c).at_4 c.Pages w (hdI ((layC c).at_4 + 2 * c.Pages) q f) p) else (false, w)) := by
  have hpg := h.pages
  unfold y2i
  rw [rthere10_eq h, Option.bind_some]
  by_cases a : isL q f ∧ 0 ≤ p ∧ p < c.Pages
  · rw [decide_eq_true a, Bool.not_true, cond_false]
    obtain ⟨k, a1, a2⟩ := a
    have l := l k
    have g : Geo (layC c).at_4 c.Pages w.length (hdI ((layC c).at_4 + 2 * c.Pages) q f) := v.geoA.geo k
    have hle := l.len (by omega)
    rw [rList_eq h v k l, Option.bind_some]
    obtain ⟨r, h1, rfl⟩ := loopO_ind (step := fun s : Int × List Int => y6w ⟨c⟩ p q f w xs s.1 s.2)
      (I := fun s => ∃ i : Nat, i ≤ xs.length ∧ s = ((i : Int), (xs.take i).filter (fun x => x != p))) (μ := fun s => xs.length - s.1.toNat)
      (fun r => r = if isL q f ∧ p ∈ xs then (true, unlinkW (layC c).at_4 c.Pages w (hdI ((layC c).at_4 + 2 * c.Pages) q f) p) else (false, w)) (by
        rintro _ ⟨i, hi, rfl⟩
        simp only [y6w]
        by_cases cc : i < xs.length
        · have ho : offs (i : Int) 0 = (i : Int) := rfl
          have hlen : ((xs.take i).filter (fun x => x != p)).length + 1 ≤ 1048576 := by
            have := List.length_filter_le (fun x => x != p) (xs.take i)
            rw [List.length_take] at this; omega
          rw [decide_eq_true (show (i : Int) < (xs.length : Int) by omega), cond_true, ho, inR_nat cc, Int.toNat_natCast, wrap_succ (by omega)]
          simp only [cond_true]
          refine .inl ⟨_, ?_, ⟨i + 1, cc, rfl⟩, by simp only; omega⟩
          rw [filter_snoc cc]
          cases (xs.getD i 0 != p) with
          | true => rw [cond_true, decide_eq_true hlen, cond_true, cond_true]
          | false => rw [cond_false, cond_false, List.append_nil]
        · have e : i = xs.length := by omega
          subst e
          rw [decide_eq_false (by omega), cond_false, List.take_length]
          by_cases m : p ∈ xs
          · obtain ⟨j, hj, rfl⟩ := mem_getD m
            rw [filter_erase l.nd hj, if_pos ⟨k, m⟩]
            have hel : (xs.eraseIdx j).length = xs.length - 1 := by rw [List.length_eraseIdx, if_pos hj]
            have e1 : (((xs.eraseIdx j).length : Int) == (xs.length : Int)) = false := by rw [hel]; simp; omega
            obtain ⟨n1, n2, z1, z2⟩ := unlink_ok g l hj
            obtain ⟨g1, g2, g3⟩ := id g
            have o1 : offs ((layC c).at_4 + xs.getD j 0) 0 = (layC c).at_4 + xs.getD j 0 := offs_nn (by omega)
            have o2 : offs ((layC c).at_4 + c.Pages + xs.getD j 0) 0 = (layC c).at_4 + c.Pages + xs.getD j 0 := offs_nn (by omega)
            have r1 : inR ((layC c).at_4 + xs.getD j 0) w.length = true := inR_int (by omega) (by omega)
            have r2 : inR ((layC c).at_4 + c.Pages + xs.getD j 0) w.length = true := inR_int (by omega) (by omega)
            have pvn := pv_is v.lay (p := xs.getD j 0) ⟨a1, a2⟩
            have e0 : (layC c).c = c := rfl
            rw [e0] at pvn
            rw [e1, cond_false, rNext_eq h, Option.bind_some, nx_is ⟨a1, a2⟩, rPrev_eq h, Option.bind_some, pvn]
            simp only [List.length_set, o1, o2, r1, r2, cond_true]
            have v1 : VOK (layC c) ((w.set ((layC c).at_4 + xs.getD j 0).toNat 0).set ((layC c).at_4 + c.Pages + xs.getD j 0).toNat 0).length ((w.set ((layC c).at_4 + xs.getD j 0).toNat 0).set ((layC c).at_4 + c.Pages + xs.getD j 0).toNat 0) :=
              ⟨v.lay, rfl, by simp only [List.length_set]; exact v.all⟩
            obtain ⟨u, h1, h2, h3⟩ := rlay_eq h v1 k n1.inn n1.nd
            have oA : Off (layC c).at_4 c.Pages w ((w.set ((layC c).at_4 + xs.getD j 0).toNat 0).set ((layC c).at_4 + c.Pages + xs.getD j 0).toNat 0) (hdI ((layC c).at_4 + 2 * c.Pages) q f) xs :=
              ((Off.refl _ _ _ _ _).set ⟨by omega, by omega⟩ (.inr ⟨_, m, .inl rfl⟩)).set ⟨by omega, by omega⟩ (.inr ⟨_, m, .inr rfl⟩)
            have hsub : ∀ x ∈ xs.eraseIdx j, x ∈ xs := fun x hx => List.mem_of_mem_eraseIdx hx
            have hne : ∀ y ∈ xs.eraseIdx j, y ≠ xs.getD j 0 := fun y hy => ((mem_erase_nd l.nd hj y).1 hy).2
            have h3' := h3.more hsub
            have oB : Off (layC c).at_4 c.Pages w u (hdI ((layC c).at_4 + 2 * c.Pages) q f) xs := ⟨by rw [h3'.len, oA.len], fun b b1 b2 b3 => by rw [h3'.off b b1 b2 b3, oA.off b b1 b2 b3]⟩
            have hwl : (w.set ((layC c).at_4 + xs.getD j 0).toNat 0).length = w.length := List.length_set
            have zu1 : wd u ((layC c).at_4 + xs.getD j 0) = 0 := by
              rw [h3.off _ (by omega) (by omega) (fun y hy => by have := hne y hy; have := n1.inn y hy; omega), wd_set (by omega) (by omega), wd_set (by omega) (by omega)]
              split <;> simp
            have zu2 : wd u ((layC c).at_4 + c.Pages + xs.getD j 0) = 0 := by
              rw [h3.off _ (by omega) (by omega) (fun y hy => by have := hne y hy; have := n1.inn y hy; omega), wd_set (by omega) (by omega), if_pos rfl]
            have e : u = unlinkW (layC c).at_4 c.Pages w (hdI ((layC c).at_4 + 2 * c.Pages) q f) (xs.getD j 0) := h2.det n1 oB n2 (fun y my ny => by
              by_cases ey : y = xs.getD j 0
              · rw [ey, zu1, zu2, z1, z2]; exact ⟨rfl, rfl⟩
              · exact (ny ((mem_erase_nd l.nd hj y).2 ⟨my, ey⟩)).elim)
            rw [h1, Option.bind_some, e]
            exact .inr ⟨_, rfl, rfl⟩
          · rw [filter_not m, beq_self_eq_true, cond_true, if_neg (fun x => m x.2)]
            exact .inr ⟨_, rfl, rfl⟩) (0, []) ⟨0, by omega, by simp⟩
    exact h1
  · rw [decide_eq_false a, if_neg ?_]
    · rfl
    · rintro ⟨k, m⟩
      exact a ⟨k, (l k).inn p m⟩
theorem firstF_congr {ls ls' : Int → Int → List Int} {q : Int} : ∀ (n : Nat) (f : Int), (∀ g, f ≤ g → g < f + n → ls q g = ls' q g) → firstF ls q f n = firstF ls' q f n
  | 0, _, _ => rfl
  | n + 1, f, h => by
    simp only [firstF]
    rw [h f (by omega) (by omega), firstF_congr n (f + 1) (fun g h1 h2 => h g (by omega) (by omega))]
theorem rFirst_eq (h : RightC c) {w : List Int} (v : VOK (layC c) w.length w) {q : Int} {ls : Int → Int → List Int} (l : ∀ f, isL q f → Lst (layC c).at_4 c.Pages w (hdI ((layC c).at_4 + 2 * c.Pages) q f) (ls q f)) :
    y1y ⟨c⟩ q w = some (firstF ls q 1 (slotsC q).toNat) := by
  have hs := slotsC_le q
  have hL : ∀ f, yz ⟨c⟩ q f w = some (lsOf ls q f) := fun f => by
    unfold lsOf
    by_cases k : isL q f
    · rw [if_pos k]; exact rList_eq h v k (l f k)
    · rw [if_neg k]; exact rList_no h k
  have key : y1y ⟨c⟩ q w = some (firstF (lsOf ls) q 1 32) := by
    refine loopO_fun (step := fun s : Int => y6j ⟨c⟩ q w s) (I := fun f => 1 ≤ f ∧ f ≤ 33) (fun f => (33 - f).toNat) (fun f => firstF (lsOf ls) q f (33 - f).toNat) (fun f hf => ?_) 1 ⟨by omega, by omega⟩
    simp only [y6j, hL, Option.bind_some]
    by_cases c0 : f ≤ 32
    · rw [decide_eq_true c0, cond_true]
      have hn : (33 - f).toNat = (33 - (f + 1)).toNat + 1 := by omega
      cases hx : lsOf ls q f with
      | nil =>
        rw [decide_eq_false (by simp), cond_false, wrap_id (by omega) (by omega)]
        refine .inl ⟨_, rfl, ⟨by omega, by omega⟩, by omega, ?_⟩
        rw [hn]; simp only [firstF, hx]
      | cons x r =>
        have e1 : offs 0 0 = 0 := rfl
        rw [decide_eq_true (by simp), cond_true, inR_int (by omega) (by simp), cond_true, e1, inR_int (by omega) (by simp), cond_true]
        refine .inr ?_
        rw [hn]; simp only [firstF, hx]; rfl
    · rw [decide_eq_false c0, cond_false]
      refine .inr ?_
      have : (33 - f).toNat = 0 := by omega
      rw [this]; rfl
  rw [key]
  have e : 32 = (slotsC q).toNat + (32 - (slotsC q).toNat) := by omega
  rw [e, firstF_more (slotsC q).toNat (32 - (slotsC q).toNat) 1 (fun g hg => by unfold lsOf; rw [if_neg (fun k => by have := k.2; omega)])]
  congr 1
  refine firstF_congr _ _ (fun g h1 h2 => ?_)
  unfold lsOf
  by_cases hq : 0 ≤ q ∧ q < 5
  · rw [if_pos ⟨hq, h1, by omega⟩]
  · exfalso
    have : slotsC q = 0 := by
      unfold slotsC
      rw [if_neg (by omega), if_neg (by omega), if_neg (by omega), if_neg (by omega), if_neg (by omega)]
    rw [this] at h2
    have e0 : ((0 : Int).toNat : Int) = 0 := rfl
    omega
end
end Go.Rx
end

section
namespace Go.Rx
def knd (kb pg : Int) (w : List Int) (p : Int) : Int := if 0 ≤ p ∧ p < pg then wd w (kb + p) else -1
structure FreeR (kb pg : Int) (w : List Int) (p n : Int) : Prop where
  span : 1 ≤ n ∧ 0 ≤ p ∧ p < pg ∧ n ≤ pg - p
  free : ∀ i, 0 ≤ i → i < n → wd w (kb + (p + i)) = 0
structure Ran (kb pg : Int) (w u : List Int) (p n k : Int) : Prop where
  len : u.length = w.length
  at_ : ∀ b : Int, 0 ≤ b → wd u b = if kb + p ≤ b ∧ b < kb + p + n then k else if kb + pg + p ≤ b ∧ b < kb + pg + p + n then 0 else if kb + 2 * pg + p ≤ b ∧ b < kb + 2 * pg + p + n then 0 else wd w b
def setP (kb pg : Int) (w : List Int) (p k c : Int) : List Int := ((w.set (kb + p).toNat k).set (kb + pg + p).toNat c).set (kb + 2 * pg + p).toNat 0
structure GeoK (kb pg : Int) (n : Nat) : Prop where
  base : 1 ≤ kb
  pages : 1 ≤ pg ∧ pg ≤ 256
  top : kb + 3 * pg ≤ n
theorem setP_len (kb pg : Int) (w : List Int) (p k c : Int) : (setP kb pg w p k c).length = w.length := by simp [setP]
theorem setP_wd {kb pg : Int} {w : List Int} {p k c : Int} (g : GeoK kb pg w.length) (hp : 0 ≤ p ∧ p < pg) {b : Int} (hb : 0 ≤ b) :
    wd (setP kb pg w p k c) b = if b = kb + p then k else if b = kb + pg + p then c else if b = kb + 2 * pg + p then 0 else wd w b := by
  obtain ⟨g1, g2, g3⟩ := g
  unfold setP
  rw [wd_set (by simp only [List.length_set]; omega) hb, wd_set (by simp only [List.length_set]; omega) hb, wd_set (by omega) hb]
  by_cases h1 : b = kb + p
  · rw [if_pos h1, if_neg (by omega), if_neg (by omega), if_pos h1]
  · rw [if_neg h1, if_neg h1]
    by_cases h2 : b = kb + pg + p
    · rw [if_pos h2, if_neg (by omega), if_pos h2]
    · rw [if_neg h2, if_neg h2]
theorem Ran.zero (kb pg : Int) (w : List Int) (p k : Int) : Ran kb pg w w p 0 k :=
  ⟨rfl, fun b hb => by rw [if_neg (by omega), if_neg (by omega), if_neg (by omega)]⟩
theorem Ran.step {kb pg : Int} {w u : List Int} {p n k : Int} (g : GeoK kb pg w.length) (r : Ran kb pg w u p n k) (hp : 0 ≤ p) (hn : 0 ≤ n) (h : p + n < pg) : Ran kb pg w (setP kb pg u (p + n) k 0) p (n + 1) k := by
  have g1 := g.base; have g2 := g.pages
  refine ⟨by rw [setP_len, r.len], fun b hb => ?_⟩
  rw [setP_wd (by rw [r.len]; exact g) (by omega) hb, r.at_ b hb]
  by_cases h1 : b = kb + (p + n)
  · rw [if_pos h1, if_pos (by omega)]
  · rw [if_neg h1]
    by_cases h2 : b = kb + pg + (p + n)
    · rw [if_pos h2, if_neg (by omega), if_pos (by omega)]
    · rw [if_neg h2]
      by_cases h3 : b = kb + 2 * pg + (p + n)
      · rw [if_pos h3, if_neg (by omega), if_neg (by omega), if_pos (by omega)]
      · rw [if_neg h3]
        repeat' split
        all_goals first | rfl | (exfalso; omega)
theorem Ran.knd {kb pg : Int} {w u : List Int} {p n k : Int} (g : GeoK kb pg w.length) (r : Ran kb pg w u p n k) (hp : 0 ≤ p) (h : p + n ≤ pg) (q : Int) : Go.Rx.knd kb pg u q = if p ≤ q ∧ q < p + n then k else Go.Rx.knd kb pg w q := by
  have g1 := g.base; have g2 := g.pages
  unfold Go.Rx.knd
  by_cases c : 0 ≤ q ∧ q < pg
  · rw [if_pos c, if_pos c, r.at_ _ (by omega)]
    by_cases d : p ≤ q ∧ q < p + n
    · rw [if_pos (by omega), if_pos d]
    · rw [if_neg (by omega), if_neg (by omega), if_neg (by omega), if_neg d]
  · rw [if_neg c, if_neg c, if_neg (by omega)]
theorem Ran.uniq {kb pg : Int} {w u u' : List Int} {p n k : Int} (r : Ran kb pg w u p n k) (r' : Ran kb pg w u' p n k) : u = u' :=
  wd_ext (by rw [r.len, r'.len]) (fun b hb => by rw [r.at_ b hb, r'.at_ b hb])
theorem take_same {kb pg : Int} {w u1 u2 : List Int} {p n k c : Int} (g : GeoK kb pg w.length) (hs : 1 ≤ n ∧ 0 ≤ p ∧ p < pg ∧ n ≤ pg - p) (r1 : Ran kb pg (setP kb pg w p k c) u1 (p + 1) (n - 1) 7) (r2 : Ran kb pg w u2 p n 7) : setP kb pg u2 p k c = u1 := by
  have g1 := g.base; have g2 := g.pages
  refine wd_ext (by rw [setP_len, r2.len, r1.len, setP_len]) (fun b hb => ?_)
  rw [setP_wd (by rw [r2.len]; exact g) (by omega) hb, r2.at_ b hb, r1.at_ b hb, setP_wd g (by omega) hb]
  by_cases h1 : b = kb + p
  · rw [if_pos h1, if_neg (by omega), if_neg (by omega), if_neg (by omega), if_pos h1]
  · rw [if_neg h1, if_neg h1]
    by_cases h2 : b = kb + pg + p
    · rw [if_pos h2, if_neg (by omega), if_neg (by omega), if_neg (by omega), if_pos h2]
    · rw [if_neg h2, if_neg h2]
      by_cases h3 : b = kb + 2 * pg + p
      · rw [if_pos h3, if_neg (by omega), if_neg (by omega), if_neg (by omega), if_pos h3]
      · rw [if_neg h3, if_neg h3]
        repeat' split
        all_goals first | rfl | (exfalso; omega)
def Least (pg : Int) (P : Int → Prop) (r : Int) : Prop := (r = -1 ∧ ∀ q, 0 ≤ q → q < pg → ¬ P q) ∨ (0 ≤ r ∧ r < pg ∧ P r ∧ ∀ q, 0 ≤ q → q < r → ¬ P q)
theorem Least.uniq {pg : Int} {P : Int → Prop} {r r' : Int} (h : Least pg P r) (h' : Least pg P r') : r = r' := by
  rcases h with ⟨h1, h2⟩ | ⟨h1, h2, h3, h4⟩ <;> rcases h' with ⟨k1, k2⟩ | ⟨k1, k2, k3, k4⟩
  · omega
  · exact (h2 r' k1 k2 k3).elim
  · exact (k2 r h1 h2 h3).elim
  · by_cases c : r < r'
    · exact (k4 r h1 c h3).elim
    · by_cases d : r' < r
      · exact (h4 r' k1 d k3).elim
      · omega
structure RunsOK (kb pg : Int) (w : List Int) : Prop where
  kinds : ∀ p, 0 ≤ p → p < pg → 0 ≤ wd w (kb + p) ∧ wd w (kb + p) ≤ 7
  rest : ∀ p, 0 ≤ p → p < pg → wd w (kb + p) = 7 → 1 ≤ p ∧ (wd w (kb + (p - 1)) = 6 ∨ wd w (kb + (p - 1)) = 7)
  zero : ∀ p, 0 ≤ p → p < pg → wd w (kb + p) = 0 → wd w (kb + pg + p) = 0 ∧ wd w (kb + 2 * pg + p) = 0
end Go.Rx
end

section
namespace Go.Rx
structure Does (pg step n : Int) (ok : Int → Prop) (q : Int) : Prop where
  mul : q % step = 0
  span : 1 ≤ n ∧ 0 ≤ q ∧ q < pg ∧ n ≤ pg - q
  all : ∀ j, q ≤ j → j < q + n → ok j
theorem fit_next {pg step n p i : Int} {ok : Int → Prop} (hs : 1 ≤ step) (hp : 0 ≤ p) (hi : 0 ≤ i ∧ i < n) (hb : ¬ ok (p + i)) (hno : ∀ q, 0 ≤ q → q < p → ¬ Does pg step n ok q) :
    p < (p + i) / step * step + step ∧ (p + i) / step * step + step ≤ p + i + step ∧ ((p + i) / step * step + step) % step = 0 ∧ ∀ q, 0 ≤ q → q < (p + i) / step * step + step → ¬ Does pg step n ok q := by
  have h1 : (p + i) / step * step ≤ p + i := Int.ediv_mul_le _ (by omega)
  have h2 : p + i < (p + i) / step * step + step := by
    have h3 := Int.mul_ediv_add_emod (p + i) step
    have h4 := Int.emod_lt_of_pos (p + i) (b := step) (by omega)
    rw [Int.mul_comm] at h3
    omega
  refine ⟨by omega, by omega, ?_, fun q hq hq' d => ?_⟩
  · have : (p + i) / step * step + step = ((p + i) / step + 1) * step := by rw [Int.add_mul, Int.one_mul]
    rw [this]; exact Int.mul_emod_left _ _
  · by_cases c : q < p
    · exact hno q hq c d
    · have hm := Int.mul_ediv_add_emod q step
      rw [d.mul, Int.add_zero] at hm
      have hle : q ≤ p + i := by
        have e : q = q / step * step := by rw [Int.mul_comm]; exact hm.symm
        have hlt : q / step < (p + i) / step + 1 := by
          have h3 : q / step * step < ((p + i) / step + 1) * step := by rw [Int.add_mul, Int.one_mul, ← e]; exact hq'
          exact Int.lt_of_mul_lt_mul_right h3 (by omega)
        have h4 : q / step * step ≤ (p + i) / step * step := Int.mul_le_mul_of_nonneg_right (by omega) (by omega)
        omega
      exact hb (d.all (p + i) (by omega) (by omega))
theorem fit_end {pg step n p : Int} {ok : Int → Prop} (h : ¬ (1 ≤ n ∧ 0 ≤ p ∧ p < pg ∧ n ≤ pg - p)) (hn : 1 ≤ n) (hp : 0 ≤ p) (hno : ∀ q, 0 ≤ q → q < p → ¬ Does pg step n ok q) : Least pg (Does pg step n ok) (-1) := by
  refine .inl ⟨rfl, fun q hq hq' d => ?_⟩
  by_cases c : q < p
  · exact hno q hq c d
  · have := d.span; omega
theorem fit_hit {pg step n p : Int} {ok : Int → Prop} (d : Does pg step n ok p) (hno : ∀ q, 0 ≤ q → q < p → ¬ Does pg step n ok q) : Least pg (Does pg step n ok) p :=
  .inr ⟨d.span.2.1, d.span.2.2.1, d, hno⟩
theorem Does.mono {pg step n : Int} {ok ok' : Int → Prop} {q : Int} (d : Does pg step n ok q) (h : ∀ j, q ≤ j → j < q + n → ok j → ok' j) : Does pg step n ok' q :=
  ⟨d.mul, d.span, fun j h1 h2 => h j h1 h2 (d.all j h1 h2)⟩
def Found (pg step n : Int) (ok mp : Int → Prop) (r : Int) : Prop :=
  (0 ≤ r ∧ Least pg (Does pg step n (fun j => ok j ∧ mp j)) r) ∨ (Least pg (Does pg step n (fun j => ok j ∧ mp j)) (-1) ∧ Least pg (Does pg step n ok) r)
theorem Found.uniq {pg step n : Int} {ok mp : Int → Prop} {r r' : Int} (h : Found pg step n ok mp r) (h' : Found pg step n ok mp r') : r = r' := by
  rcases h with ⟨h1, h2⟩ | ⟨h1, h2⟩ <;> rcases h' with ⟨k1, k2⟩ | ⟨k1, k2⟩
  · exact h2.uniq k2
  · have := h2.uniq k1; omega
  · have := h1.uniq k2; omega
  · exact h2.uniq k2
end Go.Rx
end

section
namespace Go.Rx
theorem knd_in {kb pg : Int} {w : List Int} {q : Int} (h : 0 ≤ q ∧ q < pg) : knd kb pg w q = wd w (kb + q) := by unfold knd; rw [if_pos h]
theorem knd_out {kb pg : Int} {w : List Int} {q : Int} (h : ¬ (0 ≤ q ∧ q < pg)) : knd kb pg w q = -1 := by unfold knd; rw [if_neg h]
structure Took (kb pg : Int) (w u : List Int) (p n k c : Int) : Prop where
  len : u.length = w.length
  knd : ∀ q, knd kb pg u q = if q = p then k else if p < q ∧ q < p + n then 7 else knd kb pg w q
  cnt : ∀ q, 0 ≤ q → q < pg → ¬ (p ≤ q ∧ q < p + n) → wd u (kb + pg + q) = wd w (kb + pg + q) ∧ wd u (kb + 2 * pg + q) = wd w (kb + 2 * pg + q)
  off : ∀ b, 0 ≤ b → (b < kb ∨ kb + 3 * pg ≤ b) → wd u b = wd w b
structure RunLen (kb pg : Int) (w : List Int) (p n : Int) : Prop where
  pos : 1 ≤ n
  inn : p + n ≤ pg
  rest : ∀ i, 1 ≤ i → i < n → knd kb pg w (p + i) = 7
  fin : knd kb pg w p = 6 → knd kb pg w (p + n) ≠ 7
  one : knd kb pg w p ≠ 6 → n = 1
theorem RunLen.uniq {kb pg : Int} {w : List Int} {p n m : Int} (h : RunLen kb pg w p n) (k : RunLen kb pg w p m) : n = m := by
  by_cases c : knd kb pg w p = 6
  · by_cases d : n < m
    · exact (h.fin c (k.rest n h.pos d)).elim
    · by_cases e : m < n
      · exact (k.fin c (h.rest m k.pos e)).elim
      · omega
  · rw [h.one c, k.one c]
theorem RunsOK.take {kb pg : Int} {w u : List Int} {p n k c : Int} (r : RunsOK kb pg w) (f : FreeR kb pg w p n) (t : Took kb pg w u p n k c) (hk : 1 ≤ k ∧ k ≤ 6) (h1 : k < 6 → n = 1) : RunsOK kb pg u := by
  have hs := f.span
  have hf : ∀ q, p ≤ q → q < p + n → wd w (kb + q) = 0 := fun q a b => by
    have := f.free (q - p) (by omega) (by omega)
    rw [show p + (q - p) = q by omega] at this; exact this
  have hu : ∀ q, 0 ≤ q → q < pg → wd u (kb + q) = if q = p then k else if p < q ∧ q < p + n then 7 else wd w (kb + q) := fun q a b => by
    have := t.knd q
    rw [knd_in ⟨a, b⟩, knd_in ⟨a, b⟩] at this; exact this
  refine ⟨fun q a b => ?_, fun q a b e => ?_, fun q a b e => ?_⟩
  · rw [hu q a b]
    have := r.kinds q a b
    split
    · omega
    · split <;> omega
  · rw [hu q a b] at e
    by_cases e1 : q = p
    · rw [if_pos e1] at e; omega
    · rw [if_neg e1] at e
      by_cases e2 : p < q ∧ q < p + n
      · refine ⟨by omega, ?_⟩
        rw [hu (q - 1) (by omega) (by omega)]
        by_cases e3 : q - 1 = p
        · rw [if_pos e3]; left
          by_cases c6 : k = 6
          · exact c6
          · have := h1 (by omega); omega
        · rw [if_neg e3, if_pos (by omega)]; right; rfl
      · rw [if_neg e2] at e
        have hr := r.rest q a b e
        refine ⟨hr.1, ?_⟩
        by_cases e3 : p ≤ q - 1 ∧ q - 1 < p + n
        · have := hf (q - 1) e3.1 e3.2
          rw [this] at hr; omega
        · rw [hu (q - 1) (by omega) (by omega), if_neg (by omega), if_neg (by omega)]; exact hr.2
  · rw [hu q a b] at e
    by_cases e1 : q = p
    · rw [if_pos e1] at e; omega
    · rw [if_neg e1] at e
      by_cases e2 : p < q ∧ q < p + n
      · rw [if_pos e2] at e; omega
      · rw [if_neg e2] at e
        obtain ⟨c1, c2⟩ := t.cnt q a b (by omega)
        rw [c1, c2]; exact r.zero q a b e
theorem RunsOK.drop {kb pg : Int} {w u : List Int} {p n : Int} (g : GeoK kb pg w.length) (r : RunsOK kb pg w) (hp : 0 ≤ p) (l : RunLen kb pg w p n) (hk : 1 ≤ knd kb pg w p ∧ knd kb pg w p ≤ 6) (t : Ran kb pg w u p n 0) : RunsOK kb pg u := by
  have g1 := g.base; have g2 := g.pages
  have hn := l.pos; have hi := l.inn
  have hu : ∀ q, 0 ≤ q → q < pg → wd u (kb + q) = if p ≤ q ∧ q < p + n then 0 else wd w (kb + q) := fun q a b => by
    have := t.knd g hp hi q
    rw [knd_in ⟨a, b⟩, knd_in ⟨a, b⟩] at this; exact this
  refine ⟨fun q a b => ?_, fun q a b e => ?_, fun q a b e => ?_⟩
  · rw [hu q a b]
    have := r.kinds q a b
    split <;> omega
  · rw [hu q a b] at e
    by_cases e1 : p ≤ q ∧ q < p + n
    · rw [if_pos e1] at e; omega
    · rw [if_neg e1] at e
      have hr := r.rest q a b e
      refine ⟨hr.1, ?_⟩
      rw [hu (q - 1) (by omega) (by omega)]
      by_cases e3 : p ≤ q - 1 ∧ q - 1 < p + n
      · exfalso
        have eq : q = p + n := by omega
        by_cases c6 : knd kb pg w p = 6
        · have := l.fin c6
          rw [← eq, knd_in ⟨a, b⟩] at this; omega
        · have h1 := l.one c6
          rw [h1] at eq
          have : q - 1 = p := by omega
          rw [this] at hr
          rw [knd_in (by omega)] at hk c6
          omega
      · rw [if_neg e3]; exact hr.2
  · by_cases e1 : p ≤ q ∧ q < p + n
    · exact ⟨by rw [t.at_ _ (by omega), if_neg (by omega), if_pos (by omega)], by rw [t.at_ _ (by omega), if_neg (by omega), if_neg (by omega), if_pos (by omega)]⟩
    · rw [hu q a b, if_neg e1] at e
      have := r.zero q a b e
      rw [t.at_ _ (by omega), if_neg (by omega), if_neg (by omega), if_neg (by omega), t.at_ _ (by omega), if_neg (by omega), if_neg (by omega), if_neg (by omega)]
      exact this
end Go.Rx
end

section
namespace Go.Rx
theorem Req_el {b : Bool} {A : Prop} (h : Req b A) : b = true ∧ A := by
  cases b with
  | true => exact ⟨rfl, h⟩
  | false => exact h.elim
def altP (p : Nat) (g : FuncId) (s t : Spec) : Spec := ⟨fun args H K => match args[p]? with
  | some (.fn f _) => bif Nat.beq f g then s.tr args H K else t.tr args H K
  | _ => False, s.ro⟩
theorem altP_ok {P : Program} {e : ET} {n g : FuncId} {p : Nat} {s t : Spec} (hs : SpecOK P e n s) (ht : SpecOK P e n t) : SpecOK P e n (altP p g s t) := by
  refine ⟨hs.1, fun args H K h => ?_⟩
  unfold altP at h
  simp only at h
  split at h
  · rename_i f _ _
    cases hb : Nat.beq f g with
    | true => rw [hb] at h; exact hs.2 _ H K h
    | false => rw [hb] at h; exact ht.2 _ H K h
  · exact h.elim
end Go.Rx
end

noncomputable section
namespace Go.Rx
open Go.Proofs
set_option maxRecDepth 100000
set_option maxHeartbeats 4000000
def yap (m_ : Y35) (args : List V) (H : Heap) (K : V → Heap → Prop) : Prop :=
  aC args fun a0 r => aC r fun a1 r => aN r <| aAgg a0 fun c0 => yy c0 fun l2 => aInt a1 fun p => aN H <| So (m_ l2 p) fun x => K (vb x) []
def ya2 (m_ : Y35) : Spec := ⟨yap m_, (true : Bool)⟩
def y7o (m_ : Y2) (args : List V) (H : Heap) (K : V → Heap → Prop) : Prop :=
  aC args fun a0 r => aC r fun a1 r => aC r fun a2 r => aN r <| aPtr 0 a0 <| aAgg a1 fun c1 => yy c1 fun l2 => aInt a2 fun p => aC H fun b0 r => aC r fun b1 r => aN r <| bView 1 b0 fun ws cur xs => bRow 0 true b1 fun (l : List Int) => ws = l ∧ xs.length ≤ 2 ∧ So (m_ ws.length cur l2 p) fun x => K (vi x) [.pk 0 [ws, cur] xs [.row 1], .row 0 l true]
def y5d (m_ : Y2) : Spec := ⟨y7o m_, (true : Bool)⟩
abbrev Y27 := ya → Int → Int → Option Bool
def y9i (m_ : Y27) (args : List V) (H : Heap) (K : V → Heap → Prop) : Prop :=
  aC args fun a0 r => aC r fun a1 r => aC r fun a2 r => aN r <| aAgg a0 fun c0 => yy c0 fun l2 => aInt a1 fun p => aInt a2 fun n => aN H <| So (m_ l2 p n) fun x => K (vb x) []
def y77 (m_ : Y27) : Spec := ⟨y9i m_, (true : Bool)⟩
abbrev Y34 := Nat → (List Int) → ya → Int → Int → Option Bool
def ycc (m_ : Y34) (args : List V) (H : Heap) (K : V → Heap → Prop) : Prop :=
  aC args fun a0 r => aC r fun a1 r => aC r fun a2 r => aC r fun a3 r => aN r <| aPtr 0 a0 <| aAgg a1 fun c1 => yy c1 fun l2 => aInt a2 fun p => aInt a3 fun n => aC H fun b0 r => aC r fun b1 r => aN r <| bView 1 b0 fun ws cur xs => bRow 0 true b1 fun (l : List Int) => ws = l ∧ xs.length ≤ 2 ∧ So (m_ ws.length cur l2 p n) fun x => K (vb x) [.pk 0 [ws, cur] xs [.row 1], .row 0 l true]
def yax (m_ : Y34) : Spec := ⟨ycc m_, (true : Bool)⟩
abbrev Y21 := Nat → (List Int) → ya → Int → Int → Int → Option (List Int)
def yd2 (m_ : Y21) (args : List V) (H : Heap) (K : V → Heap → Prop) : Prop :=
  aC args fun a0 r => aC r fun a1 r => aC r fun a2 r => aC r fun a3 r => aC r fun a4 r => aN r <| aPtr 0 a0 <| aAgg a1 fun c1 => yy c1 fun l2 => aInt a2 fun p => aInt a3 fun kindv => aInt a4 fun count => aC H fun b0 r => aC r fun b1 r => aN r <| bView 1 b0 fun ws cur xs => bRow 0 true b1 fun (l : List Int) => ws = l ∧ xs.length ≤ 2 ∧ So (m_ ws.length cur l2 p kindv count) fun x => K (.tup []) [.pk 0 [ws, x] xs [.row 1], .row 0 l true]
def yay (m_ : Y21) : Spec := ⟨yd2 m_, (true : Bool)⟩
abbrev Y33 := Nat → (List Int) → Int → ya → Option Bool
def y8l (m_ : Y33) (args : List V) (H : Heap) (K : V → Heap → Prop) : Prop :=
  aC args fun a0 r => aC r fun a1 r => aC r fun a2 r => aN r <| aInt a0 fun p => aPtr 0 a1 <| aPtr 1 a2 <| aC H fun b0 r => aC r fun b1 r => aC r fun b2 r => aC r fun b3 r => aN r <| bCells b0 fun U c0 => aC c0 fun d0_0 r => aPtr 2 d0_0 <| aN r <| bCells b1 fun U2 c1 => yy c1 fun l2 => bView 3 b2 fun ws cur xs => bRow 0 true b3 fun (l : List Int) => ws = l ∧ xs.length ≤ 2 ∧ So (m_ ws.length cur p l2) fun x => K (vb x) [.cells U [.ptr 2 0], .cells U2 (yd l2), .pk 0 [ws, cur] xs [.row 3], .row 0 l true]
def ycg (m_ : Y33) : Spec := ⟨y8l m_, (true : Bool)⟩
def y9k (m_ : Y45) (args : List V) (H : Heap) (K : V → Heap → Prop) : Prop :=
  aC args fun a0 r => aN r <| aInt a0 fun p0 => aN H <| So (m_ p0) fun x => K (vb x) []
def y9r (m_ : Y45) : Spec := ⟨y9k m_, (true : Bool)⟩
abbrev Y55 := Nat → (List Int) → ya → Int → Int → ya → Option Int
def y9n (m_ : Y55) (args : List V) (H : Heap) (K : V → Heap → Prop) : Prop :=
  aC args fun a0 r => aC r fun a1 r => aC r fun a2 r => aC r fun a3 r => aC r fun a4 r => aN r <| aPtr 0 a0 <| aAgg a1 fun c1 => yy c1 fun l2 => aInt a2 fun n => aInt a3 fun step => aFn 127 a4 fun fc4 => aC fc4 fun fp4_0 r => aPtr 1 fp4_0 <| aC r fun fp4_1 r => aPtr 2 fp4_1 <| aN r <| aC H fun b0 r => aC r fun b1 r => aC r fun b2 r => aC r fun b3 r => aN r <| bView 3 b0 fun ws cur xs => bCells b1 fun U c1 => aC c1 fun d1_0 r => aPtr 0 d1_0 <| aN r <| bCells b2 fun U2 c2 => yy c2 fun l3 => bRow 0 true b3 fun (l : List Int) => ws = l ∧ xs.length ≤ 2 ∧ So (m_ ws.length cur l2 n step l3) fun x => K (vi x) [.pk 0 [ws, cur] xs [.row 3], .cells U [.ptr 0 0], .cells U2 (yd l3), .row 0 l true]
def yhw (m_ : Y55) : Spec := ⟨y9n m_, (true : Bool)⟩
abbrev Y7 := Nat → (List Int) → ya → Int → Int → Option Int
def y88 (m_ : Y7) (args : List V) (H : Heap) (K : V → Heap → Prop) : Prop :=
  aC args fun a0 r => aC r fun a1 r => aC r fun a2 r => aC r fun a3 r => aC r fun a4 r => aN r <| aPtr 0 a0 <| aAgg a1 fun c1 => yy c1 fun l2 => aInt a2 fun n => aInt a3 fun step => aFn 131 a4 fun fc4 => aN fc4 <| aC H fun b0 r => aC r fun b1 r => aN r <| bView 1 b0 fun ws cur xs => bRow 0 true b1 fun (l : List Int) => ws = l ∧ xs.length ≤ 2 ∧ So (m_ ws.length cur l2 n step) fun x => K (vi x) [.pk 0 [ws, cur] xs [.row 1], .row 0 l true]
def yis (m_ : Y7) : Spec := ⟨y88 m_, (true : Bool)⟩
def ycq (m_ : Y7) (args : List V) (H : Heap) (K : V → Heap → Prop) : Prop :=
  aC args fun a0 r => aC r fun a1 r => aC r fun a2 r => aC r fun a3 r => aN r <| aPtr 0 a0 <| aAgg a1 fun c1 => yy c1 fun l2 => aInt a2 fun n => aInt a3 fun step => aC H fun b0 r => aC r fun b1 r => aN r <| bView 1 b0 fun ws cur xs => bRow 0 true b1 fun (l : List Int) => ws = l ∧ xs.length ≤ 2 ∧ So (m_ ws.length cur l2 n step) fun x => K (vi x) [.pk 0 [ws, cur] xs [.row 1], .row 0 l true]
def yhf (m_ : Y7) : Spec := ⟨ycq m_, (true : Bool)⟩
def y9q (m_ : Y12) (args : List V) (H : Heap) (K : V → Heap → Prop) : Prop :=
  aC args fun a0 r => aC r fun a1 r => aC r fun a2 r => aC r fun a3 r => aC r fun a4 r => aN r <| aPtr 0 a0 <| aAgg a1 fun c1 => yy c1 fun l2 => aInt a2 fun p => aInt a3 fun n => aInt a4 fun kindv => aC H fun b0 r => aC r fun b1 r => aN r <| bView 1 b0 fun ws cur xs => bRow 0 true b1 fun (l : List Int) => ws = l ∧ xs.length ≤ 2 ∧ So (m_ ws.length cur l2 p n kindv) fun x => K (vb x.1) [.pk 0 [ws, x.2] xs [.row 1], .row 0 l true]
def yel (m_ : Y12) : Spec := ⟨y9q m_, (true : Bool)⟩
def y8t (m_ : Y2) (args : List V) (H : Heap) (K : V → Heap → Prop) : Prop :=
  aC args fun a0 r => aC r fun a1 r => aC r fun a2 r => aN r <| aPtr 0 a0 <| aAgg a1 fun c1 => yy c1 fun l2 => aInt a2 fun p => aC H fun b0 r => aC r fun b1 r => aN r <| bView 1 b0 fun ws cur xs => bRow 0 true b1 fun (l : List Int) => ws = l ∧ xs.length ≤ 2 ∧ So (m_ ws.length cur l2 p) fun x => K (vi x) [.pk 0 [ws, cur] xs [.row 1], .row 0 l true]
def ygu (m_ : Y2) : Spec := ⟨y8t m_, (true : Bool)⟩
abbrev Y54 := Nat → (List Int) → ya → Int → Option (Int × (List Int))
def y7x (m_ : Y54) (args : List V) (H : Heap) (K : V → Heap → Prop) : Prop :=
  aC args fun a0 r => aC r fun a1 r => aC r fun a2 r => aN r <| aPtr 0 a0 <| aAgg a1 fun c1 => yy c1 fun l2 => aInt a2 fun p => aC H fun b0 r => aC r fun b1 r => aN r <| bView 1 b0 fun ws cur xs => bRow 0 true b1 fun (l : List Int) => ws = l ∧ xs.length ≤ 2 ∧ So (m_ ws.length cur l2 p) fun x => K (vi x.1) [.pk 0 [ws, x.2] xs [.row 1], .row 0 l true]
def yi3 (m_ : Y54) : Spec := ⟨y7x m_, (true : Bool)⟩
def ydw (yk : Y41) : Cfg := { cfgB with
  sigs := (sigC 17 (y5c yk) sigN) }
def ygi (y2p : Y35) (y2y : Y5) : Cfg := { cfgB with
  sigs := (sigC 101 (ya2 y2p) (sigC 18 (ycx y2y) (sigC 63 rdS sigN))) }
def yht (y2p : Y35) (yk : Y41) : Cfg := { cfgB with
  sigs := (sigC 101 (ya2 y2p) (sigC 17 (y5c yk) sigN)) }
def y4o (yj : Y27) (yf : Y2) : Cfg := { cfgB with
  sigs := (sigC 152 (y77 yj) (sigC 62 (y5d yf) sigN)),
  keep := fun r => match r with | 4 => some [(0, none), (2, none), (5, none), (15, none), (16, none)] | _ => none }
def ydu (y2y y0p y09 : Y5) : Cfg := { cfgB with
  sigs := (sigC 18 (ycx y2y) (sigC 96 wrS (sigC 31 (y61 y0p) (sigC 22 (y6d y09) sigN)))) }
def ydv (y1x : Y3) (y3l : Y32) : Cfg := { cfgB with
  sigs := (sigC 129 (ybd y1x) (sigC 128 (yfv y3l) sigN)),
  plan := fun r => match r with | 1 => some (List.range 6, 16) | _ => none }
def yi8  : Cfg := { cfgB with
  sigs := sigN }
def y1h (yj : Y27) (yf : Y2) (y08 : Y33) : Cfg := { cfgB with
  sigs := (sigC 152 (y77 yj) (sigC 62 (y5d yf) (sigC 127 (ycg y08) sigN))),
  keep := fun r => match r with | 2 => some [(0, none), (2, none), (3, none), (4, none), (6, none), (11, none)] | 4 => some [(0, none), (2, none), (3, none), (4, none), (6, none), (11, none), (12, none)] | _ => none }
def y1i (yj : Y27) (yf : Y2) (y0b : Y45) : Cfg := { cfgB with
  sigs := (sigC 152 (y77 yj) (sigC 62 (y5d yf) (sigC 131 (y9r y0b) sigN))),
  keep := fun r => match r with | 2 => some [(0, none), (2, none), (3, none), (4, none), (6, none), (11, none)] | 4 => some [(0, none), (2, none), (3, none), (4, none), (6, none), (11, none), (12, none)] | _ => none }
def yi4 (y07 : Y34) (y08 : Y33) (y54 : Y55) (y4r : Y7) (y0b : Y45) : Cfg := { cfgB with
  sigs := (sigC 126 (yax y07) (sigC 127 (ycg y08) (sigC 130 (altP 4 131 (yis y4r) (yhw y54)) (sigC 131 (y9r y0b) sigN)))) }
def y2h (y07 : Y34) (y0o : Y38) (yr : Y21) : Cfg := { cfgB with
  sigs := (sigC 126 (yax y07) (sigC 132 (yh8 y0o) (sigC 133 (yay yr) sigN))),
  keep := fun r => match r with | 9 => some [(0, none), (2, none), (3, none), (6, none), (12, none)] | _ => none }
def y4e (yf : Y2) : Cfg := { cfgB with
  sigs := (sigC 62 (y5d yf) sigN),
  keep := fun r => match r with | 3 => some [(0, none), (2, none), (4, none), (7, none)] | _ => none }
def y4n (yf y1o : Y2) (yr : Y21) : Cfg := { cfgB with
  sigs := (sigC 62 (y5d yf) (sigC 140 (ygu y1o) (sigC 133 (yay yr) sigN))),
  keep := fun r => match r with | 6 => some [(0, none), (2, none), (4, none), (8, none), (24, none), (25, none)] | _ => none }
theorem ylu (yk : Y41) (l2 : ya) (p : Int) (K : V → Heap → Prop) : (exF (ydw yk) Tryz.f101 [.agg (yd l2), vi p] [] K) = (
    br (decide (p ≥ 0)) (So (yk l2) (fun (y0 : yb) => (K (vb (decide (p < y0.Pages))) []))) (K (vb false) [])) := by kernel_rfl
theorem yqe (y2p : Y35) (y2y : Y5) (ws cur : List Int) (xs : List Value) (l2 : ya) (p : Int) (K : V → Heap → Prop) : (exF (ygi y2p y2y) Tryz.f62 [.ptr 0 0, .agg (yd l2), vi p] (hV ws cur xs) K) = (
    So (y2p l2 p) (fun (y0 : Bool) => (br (!y0) (K (vi (-1)) (hV ws cur xs)) (So (y2y l2 p) (fun (y1 : Int) => ((ws = ws) ∧ ((xs.length ≤ 2) ∧ (Req (inR y1 ws.length) (K (vi (rd cur y1)) (hV ws cur xs)))))))))) := by kernel_rfl
theorem ynj (y2p : Y35) (yk : Y41) (l2 : ya) (p n : Int) (K : V → Heap → Prop) : (exF (yht y2p yk) Tryz.f152 [.agg (yd l2), vi p, vi n] [] K) = (
    So (y2p l2 p) (fun (y0 : Bool) => (br y0 (br (decide (n ≥ 1)) (So (yk l2) (fun (y1 : yb) => (K (vb (decide (n ≤ IntKind.i64.wrap (y1.Pages - p)))) []))) (K (vb false) [])) (K (vb false) [])))) := by kernel_rfl
theorem ynd (yj : Y27) (yf : Y2) (ws cur : List Int) (xs : List Value) (l2 : ya) (p n t16 : Int) (K : V → Heap → Prop) (J1 : Env → Heap → Prop) : (ex (y4o yj yf) (⟨27, 2⟩ : Cx) (at_ (bodyOf Tryz.f126) [1, 1, 0, 1, 0, 0]) (mkEnv [(0, .ptr 0 0), (2, vi p), (5, .ptr 2 0), (15, vi n), (16, vi t16)]) [.pk 0 [ws, cur] xs [.row 1], .row 0 ws true, .cells 28 (yd l2)] (roundK (y4o yj yf) (⟨27, 2⟩ : Cx) (at_ (bodyOf Tryz.f126) [1, 1, 0, 1, 0, 0]) (contK (y4o yj yf) (⟨27, 2⟩ : Cx) (bodyOf Tryz.f126) [1, 1, 0, 1, 0] (retK (y4o yj yf) Tryz.f126 2 K)) J1)) = (
    br (decide (t16 < n)) ((ws = ws) ∧ ((xs.length ≤ 2) ∧ (So (yf ws.length cur l2 (IntKind.i64.wrap (p + t16))) (fun (y0 : Int) => (br (y0 != 0) (K (vb false) (hV ws cur xs)) (J1 (mkEnv [(0, .ptr 0 0), (2, vi p), (5, .ptr 2 0), (15, vi n), (16, vi (IntKind.i64.wrap (t16 + 1)))]) [.pk 0 [ws, cur] xs [.row 1], .row 0 ws true, .cells 28 (yd l2)])))))) (K (vb true) (hV ws cur xs))) := by kernel_rfl
theorem ymq (yj : Y27) (yf : Y2) (ws cur : List Int) (xs : List Value) (l2 : ya) (p n : Int) (K : V → Heap → Prop) : (exF (y4o yj yf) Tryz.f126 [.ptr 0 0, .agg (yd l2), vi p, vi n] (hV ws cur xs) K) = (
    So (yj l2 p n) (fun (y0 : Bool) => (br (!y0) (K (vb false) (hV ws cur xs)) (Loop (y4o yj yf) (⟨27, 2⟩ : Cx) (at_ (bodyOf Tryz.f126) [1, 1, 0, 1, 0, 0]) (mkEnv [(0, .ptr 0 0), (2, vi p), (5, .ptr 2 0), (15, vi n), (16, vi 0)]) [.pk 0 [ws, cur] xs [.row 1], .row 0 ws true, .cells 28 (yd l2)] (contK (y4o yj yf) (⟨27, 2⟩ : Cx) (bodyOf Tryz.f126) [1, 1, 0, 1, 0] (retK (y4o yj yf) Tryz.f126 2 K)))))) := by kernel_rfl
theorem yoa (y2y y0p y09 : Y5) (ws cur : List Int) (xs : List Value) (l2 : ya) (p kindv count : Int) (K : V → Heap → Prop) : (exF (ydu y2y y0p y09) Tryz.f133 [.ptr 0 0, .agg (yd l2), vi p, vi kindv, vi count] (hV ws cur xs) K) = (
    So (y2y l2 p) (fun (y0 : Int) => ((ws = ws) ∧ ((xs.length ≤ 2) ∧ (Req (inR y0 ws.length) (So (y0p l2 p) (fun (y1 : Int) => ((ws = ws) ∧ ((xs.length ≤ 2) ∧ (Req (inR y1 ws.length) (So (y09 l2 p) (fun (y2 : Int) => ((ws = ws) ∧ ((xs.length ≤ 2) ∧ (Req (inR y2 ws.length) (K (.tup []) (hV ws (wr (wr (wr cur y0 kindv) y1 count) y2 0) xs))))))))))))))))) := by kernel_rfl
theorem yne (y1x : Y3) (y3l : Y32) (ws cur : List Int) (xs : List Value) (p : Int) (l2 : ya) (U U2 : TypeId) (K : V → Heap → Prop) : (exF (ydv y1x y3l) Tryz.f127 [vi p, .ptr 0 0, .ptr 1 0] [.cells U [.ptr 2 0], .cells U2 (yd l2), .pk 0 [ws, cur] xs [.row 3], .row 0 ws true] K) = (
    So (y1x p) (fun (y0 : Int) => ((ws = ws) ∧ ((xs.length ≤ 2) ∧ (So (y3l ws.length cur l2 y0) (fun (y1 : Bool) => (K (vb y1) [.cells U [.ptr 2 0], .cells U2 (yd l2), .pk 0 [ws, cur] xs [.row 3], .row 0 ws true]))))))) := by kernel_rfl
theorem yq6 (p0 : Int) (K : V → Heap → Prop) : (exF yi8 Tryz.f131 [vi p0] [] K) = (
    K (vb true) []) := by kernel_rfl
theorem yp7 (yj : Y27) (yf : Y2) (y08 : Y33) (ws cur : List Int) (xs : List Value) (l2 : ya) (n step : Int) (l3 : ya) (U U2 : TypeId) (p iv : Int) (K : V → Heap → Prop) (J1 : Env → Heap → Prop) (J2 : Env → Heap → Prop) : (ex (y1h yj yf y08) (⟨48, 4⟩ : Cx) (at_ (bodyOf Tryz.f130) [1, 0, 1, 1, 0, 0, 0, 1, 0, 0, 1, 0, 0]) (mkEnv [(0, .ptr 0 0), (2, vi n), (3, vi step), (4, .fn 127 [.ptr 1 0, .ptr 2 0]), (6, .ptr 4 0), (11, vi p), (12, vi iv)]) [.pk 0 [ws, cur] xs [.row 3], .cells U [.ptr 0 0], .cells U2 (yd l3), .row 0 ws true, .cells 28 (yd l2)] (roundK (y1h yj yf y08) (⟨48, 4⟩ : Cx) (at_ (bodyOf Tryz.f130) [1, 0, 1, 1, 0, 0, 0, 1, 0, 0, 1, 0, 0]) (contK (y1h yj yf y08) (⟨48, 4⟩ : Cx) (at_ (bodyOf Tryz.f130) [1, 0, 1, 1, 0, 0, 0]) [1, 0, 0, 1, 0] (roundK (y1h yj yf y08) (⟨48, 4⟩ : Cx) (at_ (bodyOf Tryz.f130) [1, 0, 1, 1, 0, 0, 0]) (contK (y1h yj yf y08) (⟨48, 4⟩ : Cx) (bodyOf Tryz.f130) [1, 0, 1, 1, 0, 0] (retK (y1h yj yf y08) Tryz.f130 4 K)) J1)) J2)) = (
    br (decide (iv ≥ 0)) ((ws = ws) ∧ ((xs.length ≤ 2) ∧ (So (yf ws.length cur l2 (IntKind.i64.wrap (p + iv))) (fun (y0 : Int) => (br (y0 != 0) (Req (!step == 0) (J1 (mkEnv [(0, .ptr 0 0), (2, vi n), (3, vi step), (4, .fn 127 [.ptr 1 0, .ptr 2 0]), (6, .ptr 4 0), (11, vi (IntKind.i64.wrap (IntKind.i64.wrap (IntKind.i64.wrap (Int.tdiv (IntKind.i64.wrap (p + iv)) step) * step) + step)))]) [.pk 0 [ws, cur] xs [.row 3], .cells U [.ptr 0 0], .cells U2 (yd l3), .row 0 ws true, .cells 28 (yd l2)])) ((ws = ws) ∧ ((xs.length ≤ 2) ∧ (So (y08 ws.length cur (IntKind.i64.wrap (p + iv)) l3) (fun (y1 : Bool) => (br (!y1) (Req (!step == 0) (J1 (mkEnv [(0, .ptr 0 0), (2, vi n), (3, vi step), (4, .fn 127 [.ptr 1 0, .ptr 2 0]), (6, .ptr 4 0), (11, vi (IntKind.i64.wrap (IntKind.i64.wrap (IntKind.i64.wrap (Int.tdiv (IntKind.i64.wrap (p + iv)) step) * step) + step)))]) [.pk 0 [ws, cur] xs [.row 3], .cells U [.ptr 0 0], .cells U2 (yd l3), .row 0 ws true, .cells 28 (yd l2)])) (J2 (mkEnv [(0, .ptr 0 0), (2, vi n), (3, vi step), (4, .fn 127 [.ptr 1 0, .ptr 2 0]), (6, .ptr 4 0), (11, vi p), (12, vi (IntKind.i64.wrap (iv - 1)))]) [.pk 0 [ws, cur] xs [.row 3], .cells U [.ptr 0 0], .cells U2 (yd l3), .row 0 ws true, .cells 28 (yd l2)]))))))))))) (K (vi p) [.pk 0 [ws, cur] xs [.row 3], .cells U [.ptr 0 0], .cells U2 (yd l3), .row 0 ws true])) := by kernel_rfl
theorem yn4 (yj : Y27) (yf : Y2) (y08 : Y33) (ws cur : List Int) (xs : List Value) (l2 : ya) (n step : Int) (l3 : ya) (U U2 : TypeId) (p : Int) (K : V → Heap → Prop) (J1 : Env → Heap → Prop) : (ex (y1h yj yf y08) (⟨48, 4⟩ : Cx) (at_ (bodyOf Tryz.f130) [1, 0, 1, 1, 0, 0, 0]) (mkEnv [(0, .ptr 0 0), (2, vi n), (3, vi step), (4, .fn 127 [.ptr 1 0, .ptr 2 0]), (6, .ptr 4 0), (11, vi p)]) [.pk 0 [ws, cur] xs [.row 3], .cells U [.ptr 0 0], .cells U2 (yd l3), .row 0 ws true, .cells 28 (yd l2)] (roundK (y1h yj yf y08) (⟨48, 4⟩ : Cx) (at_ (bodyOf Tryz.f130) [1, 0, 1, 1, 0, 0, 0]) (contK (y1h yj yf y08) (⟨48, 4⟩ : Cx) (bodyOf Tryz.f130) [1, 0, 1, 1, 0, 0] (retK (y1h yj yf y08) Tryz.f130 4 K)) J1)) = (
    So (yj l2 p n) (fun (y0 : Bool) => (br y0 (Loop (y1h yj yf y08) (⟨48, 4⟩ : Cx) (at_ (bodyOf Tryz.f130) [1, 0, 1, 1, 0, 0, 0, 1, 0, 0, 1, 0, 0]) (mkEnv [(0, .ptr 0 0), (2, vi n), (3, vi step), (4, .fn 127 [.ptr 1 0, .ptr 2 0]), (6, .ptr 4 0), (11, vi p), (12, vi (IntKind.i64.wrap (n - 1)))]) [.pk 0 [ws, cur] xs [.row 3], .cells U [.ptr 0 0], .cells U2 (yd l3), .row 0 ws true, .cells 28 (yd l2)] (contK (y1h yj yf y08) (⟨48, 4⟩ : Cx) (at_ (bodyOf Tryz.f130) [1, 0, 1, 1, 0, 0, 0]) [1, 0, 0, 1, 0] (roundK (y1h yj yf y08) (⟨48, 4⟩ : Cx) (at_ (bodyOf Tryz.f130) [1, 0, 1, 1, 0, 0, 0]) (contK (y1h yj yf y08) (⟨48, 4⟩ : Cx) (bodyOf Tryz.f130) [1, 0, 1, 1, 0, 0] (retK (y1h yj yf y08) Tryz.f130 4 K)) J1))) (K (vi (-1)) [.pk 0 [ws, cur] xs [.row 3], .cells U [.ptr 0 0], .cells U2 (yd l3), .row 0 ws true])))) := by kernel_rfl
theorem ykk (yj : Y27) (yf : Y2) (y08 : Y33) (ws cur : List Int) (xs : List Value) (l2 : ya) (n step : Int) (l3 : ya) (U U2 : TypeId) (K : V → Heap → Prop) : (exF (y1h yj yf y08) Tryz.f130 [.ptr 0 0, .agg (yd l2), vi n, vi step, .fn 127 [.ptr 1 0, .ptr 2 0]] [.pk 0 [ws, cur] xs [.row 3], .cells U [.ptr 0 0], .cells U2 (yd l3), .row 0 ws true] K) = (
    Loop (y1h yj yf y08) (⟨48, 4⟩ : Cx) (at_ (bodyOf Tryz.f130) [1, 0, 1, 1, 0, 0, 0]) (mkEnv [(0, .ptr 0 0), (2, vi n), (3, vi step), (4, .fn 127 [.ptr 1 0, .ptr 2 0]), (6, .ptr 4 0), (11, vi 0)]) [.pk 0 [ws, cur] xs [.row 3], .cells U [.ptr 0 0], .cells U2 (yd l3), .row 0 ws true, .cells 28 (yd l2)] (contK (y1h yj yf y08) (⟨48, 4⟩ : Cx) (bodyOf Tryz.f130) [1, 0, 1, 1, 0, 0] (retK (y1h yj yf y08) Tryz.f130 4 K))) := by kernel_rfl
theorem ymf (yj : Y27) (yf : Y2) (y0b : Y45) (ws cur : List Int) (xs : List Value) (l2 : ya) (n step : Int) (p iv : Int) (K : V → Heap → Prop) (J1 : Env → Heap → Prop) (J2 : Env → Heap → Prop) : (ex (y1i yj yf y0b) (⟨48, 2⟩ : Cx) (at_ (bodyOf Tryz.f130) [1, 0, 1, 1, 0, 0, 0, 1, 0, 0, 1, 0, 0]) (mkEnv [(0, .ptr 0 0), (2, vi n), (3, vi step), (4, .fn 131 []), (6, .ptr 2 0), (11, vi p), (12, vi iv)]) [.pk 0 [ws, cur] xs [.row 1], .row 0 ws true, .cells 28 (yd l2)] (roundK (y1i yj yf y0b) (⟨48, 2⟩ : Cx) (at_ (bodyOf Tryz.f130) [1, 0, 1, 1, 0, 0, 0, 1, 0, 0, 1, 0, 0]) (contK (y1i yj yf y0b) (⟨48, 2⟩ : Cx) (at_ (bodyOf Tryz.f130) [1, 0, 1, 1, 0, 0, 0]) [1, 0, 0, 1, 0] (roundK (y1i yj yf y0b) (⟨48, 2⟩ : Cx) (at_ (bodyOf Tryz.f130) [1, 0, 1, 1, 0, 0, 0]) (contK (y1i yj yf y0b) (⟨48, 2⟩ : Cx) (bodyOf Tryz.f130) [1, 0, 1, 1, 0, 0] (retK (y1i yj yf y0b) Tryz.f130 2 K)) J1)) J2)) = (
    br (decide (iv ≥ 0)) ((ws = ws) ∧ ((xs.length ≤ 2) ∧ (So (yf ws.length cur l2 (IntKind.i64.wrap (p + iv))) (fun (y0 : Int) => (br (y0 != 0) (Req (!step == 0) (J1 (mkEnv [(0, .ptr 0 0), (2, vi n), (3, vi step), (4, .fn 131 []), (6, .ptr 2 0), (11, vi (IntKind.i64.wrap (IntKind.i64.wrap (IntKind.i64.wrap (Int.tdiv (IntKind.i64.wrap (p + iv)) step) * step) + step)))]) [.pk 0 [ws, cur] xs [.row 1], .row 0 ws true, .cells 28 (yd l2)])) (So (y0b (IntKind.i64.wrap (p + iv))) (fun (y1 : Bool) => (br (!y1) (Req (!step == 0) (J1 (mkEnv [(0, .ptr 0 0), (2, vi n), (3, vi step), (4, .fn 131 []), (6, .ptr 2 0), (11, vi (IntKind.i64.wrap (IntKind.i64.wrap (IntKind.i64.wrap (Int.tdiv (IntKind.i64.wrap (p + iv)) step) * step) + step)))]) [.pk 0 [ws, cur] xs [.row 1], .row 0 ws true, .cells 28 (yd l2)])) (J2 (mkEnv [(0, .ptr 0 0), (2, vi n), (3, vi step), (4, .fn 131 []), (6, .ptr 2 0), (11, vi p), (12, vi (IntKind.i64.wrap (iv - 1)))]) [.pk 0 [ws, cur] xs [.row 1], .row 0 ws true, .cells 28 (yd l2)]))))))))) (K (vi p) (hV ws cur xs))) := by kernel_rfl
theorem yn7 (yj : Y27) (yf : Y2) (y0b : Y45) (ws cur : List Int) (xs : List Value) (l2 : ya) (n step p : Int) (K : V → Heap → Prop) (J1 : Env → Heap → Prop) : (ex (y1i yj yf y0b) (⟨48, 2⟩ : Cx) (at_ (bodyOf Tryz.f130) [1, 0, 1, 1, 0, 0, 0]) (mkEnv [(0, .ptr 0 0), (2, vi n), (3, vi step), (4, .fn 131 []), (6, .ptr 2 0), (11, vi p)]) [.pk 0 [ws, cur] xs [.row 1], .row 0 ws true, .cells 28 (yd l2)] (roundK (y1i yj yf y0b) (⟨48, 2⟩ : Cx) (at_ (bodyOf Tryz.f130) [1, 0, 1, 1, 0, 0, 0]) (contK (y1i yj yf y0b) (⟨48, 2⟩ : Cx) (bodyOf Tryz.f130) [1, 0, 1, 1, 0, 0] (retK (y1i yj yf y0b) Tryz.f130 2 K)) J1)) = (
    So (yj l2 p n) (fun (y0 : Bool) => (br y0 (Loop (y1i yj yf y0b) (⟨48, 2⟩ : Cx) (at_ (bodyOf Tryz.f130) [1, 0, 1, 1, 0, 0, 0, 1, 0, 0, 1, 0, 0]) (mkEnv [(0, .ptr 0 0), (2, vi n), (3, vi step), (4, .fn 131 []), (6, .ptr 2 0), (11, vi p), (12, vi (IntKind.i64.wrap (n - 1)))]) [.pk 0 [ws, cur] xs [.row 1], .row 0 ws true, .cells 28 (yd l2)] (contK (y1i yj yf y0b) (⟨48, 2⟩ : Cx) (at_ (bodyOf Tryz.f130) [1, 0, 1, 1, 0, 0, 0]) [1, 0, 0, 1, 0] (roundK (y1i yj yf y0b) (⟨48, 2⟩ : Cx) (at_ (bodyOf Tryz.f130) [1, 0, 1, 1, 0, 0, 0]) (contK (y1i yj yf y0b) (⟨48, 2⟩ : Cx) (bodyOf Tryz.f130) [1, 0, 1, 1, 0, 0] (retK (y1i yj yf y0b) Tryz.f130 2 K)) J1))) (K (vi (-1)) (hV ws cur xs))))) := by kernel_rfl
theorem ypv (yj : Y27) (yf : Y2) (y0b : Y45) (ws cur : List Int) (xs : List Value) (l2 : ya) (n step : Int) (K : V → Heap → Prop) : (exF (y1i yj yf y0b) Tryz.f130 [.ptr 0 0, .agg (yd l2), vi n, vi step, .fn 131 []] (hV ws cur xs) K) = (
    Loop (y1i yj yf y0b) (⟨48, 2⟩ : Cx) (at_ (bodyOf Tryz.f130) [1, 0, 1, 1, 0, 0, 0]) (mkEnv [(0, .ptr 0 0), (2, vi n), (3, vi step), (4, .fn 131 []), (6, .ptr 2 0), (11, vi 0)]) [.pk 0 [ws, cur] xs [.row 1], .row 0 ws true, .cells 28 (yd l2)] (contK (y1i yj yf y0b) (⟨48, 2⟩ : Cx) (bodyOf Tryz.f130) [1, 0, 1, 1, 0, 0] (retK (y1i yj yf y0b) Tryz.f130 2 K))) := by kernel_rfl
theorem ymd (y07 : Y34) (y08 : Y33) (y54 : Y55) (y4r : Y7) (y0b : Y45) (ws cur : List Int) (xs : List Value) (l2 : ya) (n step : Int) (K : V → Heap → Prop) : (exF (yi4 y07 y08 y54 y4r y0b) Tryz.f94 [.ptr 0 0, .agg (yd l2), vi n, vi step] (hV ws cur xs) K) = (
    br (decide (n < 1)) (br (decide (n ≥ 1)) (br (decide (step > 256)) ((ws = ws) ∧ ((xs.length ≤ 2) ∧ (So (y07 ws.length cur l2 0 n) (fun (y0 : Bool) => (br y0 (K (vi 0) (hV ws cur xs)) (K (vi (-1)) (hV ws cur xs))))))) (K (vi (-1)) (hV ws cur xs))) (K (vi (-1)) (hV ws cur xs))) (br (decide (step < 1)) (br (decide (n ≥ 1)) (br (decide (step > 256)) ((ws = ws) ∧ ((xs.length ≤ 2) ∧ (So (y07 ws.length cur l2 0 n) (fun (y1 : Bool) => (br y1 (K (vi 0) (hV ws cur xs)) (K (vi (-1)) (hV ws cur xs))))))) (K (vi (-1)) (hV ws cur xs))) (K (vi (-1)) (hV ws cur xs))) (br (decide (step > 256)) (br (decide (n ≥ 1)) (br (decide (step > 256)) ((ws = ws) ∧ ((xs.length ≤ 2) ∧ (So (y07 ws.length cur l2 0 n) (fun (y2 : Bool) => (br y2 (K (vi 0) (hV ws cur xs)) (K (vi (-1)) (hV ws cur xs))))))) (K (vi (-1)) (hV ws cur xs))) (K (vi (-1)) (hV ws cur xs))) ((ws = ws) ∧ ((xs.length ≤ 2) ∧ (So (y54 ws.length cur l2 n step l2) (fun (y3 : Int) => (br (y3 != -1) (K (vi y3) (hV ws cur xs)) ((ws = ws) ∧ ((xs.length ≤ 2) ∧ (So (y4r ws.length cur l2 n step) (fun (y4 : Int) => (K (vi y4) (hV ws cur xs)))))))))))))) := by kernel_rfl
theorem ypz (y07 : Y34) (y0o : Y38) (yr : Y21) (ws cur : List Int) (xs : List Value) (l2 : ya) (p n : Int) (kindv iv : Int) (cur2 : List Int) (K : V → Heap → Prop) (J1 : Env → Heap → Prop) : (ex (y2h y07 y0o yr) (⟨60, 2⟩ : Cx) (at_ (bodyOf Tryz.f95) [1, 1, 1, 1, 1, 1, 0, 1, 0, 0]) (mkEnv [(0, .ptr 0 0), (2, vi p), (3, vi n), (6, .ptr 2 0), (12, vi iv)]) [.pk 0 [ws, cur2] xs [.row 1], .row 0 ws true, .cells 28 (yd l2)] (roundK (y2h y07 y0o yr) (⟨60, 2⟩ : Cx) (at_ (bodyOf Tryz.f95) [1, 1, 1, 1, 1, 1, 0, 1, 0, 0]) (contK (y2h y07 y0o yr) (⟨60, 2⟩ : Cx) (bodyOf Tryz.f95) [1, 1, 1, 1, 1, 1, 0, 1, 0] (retK (y2h y07 y0o yr) Tryz.f95 2 K)) J1)) = (
    br (decide (iv < n)) ((ws = ws) ∧ ((xs.length ≤ 2) ∧ (So (yr ws.length cur2 l2 (IntKind.i64.wrap (p + iv)) 7 0) (fun (y0 : List Int) => (J1 (mkEnv [(0, .ptr 0 0), (2, vi p), (3, vi n), (6, .ptr 2 0), (12, vi (IntKind.i64.wrap (iv + 1)))]) [.pk 0 [ws, y0] xs [.row 1], .row 0 ws true, .cells 28 (yd l2)]))))) (K (vb true) (hV ws cur2 xs))) := by kernel_rfl
theorem ymn (y07 : Y34) (y0o : Y38) (yr : Y21) (ws cur : List Int) (xs : List Value) (l2 : ya) (p n kindv : Int) (K : V → Heap → Prop) : (exF (y2h y07 y0o yr) Tryz.f95 [.ptr 0 0, .agg (yd l2), vi p, vi n, vi kindv] (hV ws cur xs) K) = (
    br (decide (kindv < 1)) (K (vb false) (hV ws cur xs)) (br (decide (kindv > 6)) (K (vb false) (hV ws cur xs)) (br (decide (kindv < 6)) (br (n != 1) (K (vb false) (hV ws cur xs)) ((ws = ws) ∧ ((xs.length ≤ 2) ∧ (So (y07 ws.length cur l2 p n) (fun (y0 : Bool) => (br (!y0) (K (vb false) (hV ws cur xs)) ((ws = ws) ∧ ((xs.length ≤ 2) ∧ (So (y0o ws.length cur l2 p n) (fun (y1 : Int × List Int) => (br (kindv == 6) ((ws = ws) ∧ ((xs.length ≤ 2) ∧ (So (yr ws.length y1.2 l2 p kindv n) (fun (y2 : List Int) => (Loop (y2h y07 y0o yr) (⟨60, 2⟩ : Cx) (at_ (bodyOf Tryz.f95) [1, 1, 1, 1, 1, 1, 0, 1, 0, 0]) (mkEnv [(0, .ptr 0 0), (2, vi p), (3, vi n), (6, .ptr 2 0), (12, vi 1)]) [.pk 0 [ws, y2] xs [.row 1], .row 0 ws true, .cells 28 (yd l2)] (contK (y2h y07 y0o yr) (⟨60, 2⟩ : Cx) (bodyOf Tryz.f95) [1, 1, 1, 1, 1, 1, 0, 1, 0] (retK (y2h y07 y0o yr) Tryz.f95 2 K))))))) ((ws = ws) ∧ ((xs.length ≤ 2) ∧ (So (yr ws.length y1.2 l2 p kindv 0) (fun (y3 : List Int) => (Loop (y2h y07 y0o yr) (⟨60, 2⟩ : Cx) (at_ (bodyOf Tryz.f95) [1, 1, 1, 1, 1, 1, 0, 1, 0, 0]) (mkEnv [(0, .ptr 0 0), (2, vi p), (3, vi n), (6, .ptr 2 0), (12, vi 1)]) [.pk 0 [ws, y3] xs [.row 1], .row 0 ws true, .cells 28 (yd l2)] (contK (y2h y07 y0o yr) (⟨60, 2⟩ : Cx) (bodyOf Tryz.f95) [1, 1, 1, 1, 1, 1, 0, 1, 0] (retK (y2h y07 y0o yr) Tryz.f95 2 K)))))))))))))))))) ((ws = ws) ∧ ((xs.length ≤ 2) ∧ (So (y07 ws.length cur l2 p n) (fun (y4 : Bool) => (br (!y4) (K (vb false) (hV ws cur xs)) ((ws = ws) ∧ ((xs.length ≤ 2) ∧ (So (y0o ws.length cur l2 p n) (fun (y5 : Int × List Int) => (br (kindv == 6) ((ws = ws) ∧ ((xs.length ≤ 2) ∧ (So (yr ws.length y5.2 l2 p kindv n) (fun (y6 : List Int) => (Loop (y2h y07 y0o yr) (⟨60, 2⟩ : Cx) (at_ (bodyOf Tryz.f95) [1, 1, 1, 1, 1, 1, 0, 1, 0, 0]) (mkEnv [(0, .ptr 0 0), (2, vi p), (3, vi n), (6, .ptr 2 0), (12, vi 1)]) [.pk 0 [ws, y6] xs [.row 1], .row 0 ws true, .cells 28 (yd l2)] (contK (y2h y07 y0o yr) (⟨60, 2⟩ : Cx) (bodyOf Tryz.f95) [1, 1, 1, 1, 1, 1, 0, 1, 0] (retK (y2h y07 y0o yr) Tryz.f95 2 K))))))) ((ws = ws) ∧ ((xs.length ≤ 2) ∧ (So (yr ws.length y5.2 l2 p kindv 0) (fun (y7 : List Int) => (Loop (y2h y07 y0o yr) (⟨60, 2⟩ : Cx) (at_ (bodyOf Tryz.f95) [1, 1, 1, 1, 1, 1, 0, 1, 0, 0]) (mkEnv [(0, .ptr 0 0), (2, vi p), (3, vi n), (6, .ptr 2 0), (12, vi 1)]) [.pk 0 [ws, y7] xs [.row 1], .row 0 ws true, .cells 28 (yd l2)] (contK (y2h y07 y0o yr) (⟨60, 2⟩ : Cx) (bodyOf Tryz.f95) [1, 1, 1, 1, 1, 1, 0, 1, 0] (retK (y2h y07 y0o yr) Tryz.f95 2 K)))))))))))))))))))) := by kernel_rfl
theorem yns (yf : Y2) (ws cur : List Int) (xs : List Value) (l2 : ya) (p n : Int) (K : V → Heap → Prop) (J1 : Env → Heap → Prop) : (ex (y4e yf) (⟨23, 2⟩ : Cx) (at_ (bodyOf Tryz.f140) [1, 1, 0, 1, 0, 0, 0]) (mkEnv [(0, .ptr 0 0), (2, vi p), (4, .ptr 2 0), (7, vi n)]) [.pk 0 [ws, cur] xs [.row 1], .row 0 ws true, .cells 28 (yd l2)] (roundK (y4e yf) (⟨23, 2⟩ : Cx) (at_ (bodyOf Tryz.f140) [1, 1, 0, 1, 0, 0, 0]) (contK (y4e yf) (⟨23, 2⟩ : Cx) (bodyOf Tryz.f140) [1, 1, 0, 1, 0, 0] (retK (y4e yf) Tryz.f140 2 K)) J1)) = (
    ((ws = ws) ∧ ((xs.length ≤ 2) ∧ (So (yf ws.length cur l2 (IntKind.i64.wrap (p + n))) (fun (y0 : Int) => (br (y0 == 7) (J1 (mkEnv [(0, .ptr 0 0), (2, vi p), (4, .ptr 2 0), (7, vi (IntKind.i64.wrap (n + 1)))]) [.pk 0 [ws, cur] xs [.row 1], .row 0 ws true, .cells 28 (yd l2)]) (K (vi n) (hV ws cur xs)))))))) := by kernel_rfl
theorem yol (yf : Y2) (ws cur : List Int) (xs : List Value) (l2 : ya) (p : Int) (K : V → Heap → Prop) : (exF (y4e yf) Tryz.f140 [.ptr 0 0, .agg (yd l2), vi p] (hV ws cur xs) K) = (
    ((ws = ws) ∧ ((xs.length ≤ 2) ∧ (So (yf ws.length cur l2 p) (fun (y0 : Int) => (br (y0 == 6) (Loop (y4e yf) (⟨23, 2⟩ : Cx) (at_ (bodyOf Tryz.f140) [1, 1, 0, 1, 0, 0, 0]) (mkEnv [(0, .ptr 0 0), (2, vi p), (4, .ptr 2 0), (7, vi 1)]) [.pk 0 [ws, cur] xs [.row 1], .row 0 ws true, .cells 28 (yd l2)] (contK (y4e yf) (⟨23, 2⟩ : Cx) (bodyOf Tryz.f140) [1, 1, 0, 1, 0, 0] (retK (y4e yf) Tryz.f140 2 K))) (K (vi 1) (hV ws cur xs)))))))) := by kernel_rfl
theorem ym8 (yf y1o : Y2) (yr : Y21) (ws cur : List Int) (xs : List Value) (l2 : ya) (p n : Int) (t24 t25 : Int) (cur2 : List Int) (K : V → Heap → Prop) (J1 : Env → Heap → Prop) : (ex (y4n yf y1o yr) (⟨36, 2⟩ : Cx) (at_ (bodyOf Tryz.f98) [1, 1, 1, 0, 1, 0, 0]) (mkEnv [(0, .ptr 0 0), (2, vi p), (4, .ptr 2 0), (8, vi n), (24, vi t24), (25, vi t25)]) [.pk 0 [ws, cur2] xs [.row 1], .row 0 ws true, .cells 28 (yd l2)] (roundK (y4n yf y1o yr) (⟨36, 2⟩ : Cx) (at_ (bodyOf Tryz.f98) [1, 1, 1, 0, 1, 0, 0]) (contK (y4n yf y1o yr) (⟨36, 2⟩ : Cx) (bodyOf Tryz.f98) [1, 1, 1, 0, 1, 0] (retK (y4n yf y1o yr) Tryz.f98 2 K)) J1)) = (
    br (decide (t25 < t24)) ((ws = ws) ∧ ((xs.length ≤ 2) ∧ (So (yr ws.length cur2 l2 (IntKind.i64.wrap (p + t25)) 0 0) (fun (y0 : List Int) => (J1 (mkEnv [(0, .ptr 0 0), (2, vi p), (4, .ptr 2 0), (8, vi n), (24, vi t24), (25, vi (IntKind.i64.wrap (t25 + 1)))]) [.pk 0 [ws, y0] xs [.row 1], .row 0 ws true, .cells 28 (yd l2)]))))) (K (vi n) (hV ws cur2 xs))) := by kernel_rfl
theorem ypk (yf y1o : Y2) (yr : Y21) (ws cur : List Int) (xs : List Value) (l2 : ya) (p : Int) (K : V → Heap → Prop) : (exF (y4n yf y1o yr) Tryz.f98 [.ptr 0 0, .agg (yd l2), vi p] (hV ws cur xs) K) = (
    ((ws = ws) ∧ ((xs.length ≤ 2) ∧ (So (yf ws.length cur l2 p) (fun (y0 : Int) => (br (decide (y0 ≤ 0)) (K (vi 0) (hV ws cur xs)) (br (decide (y0 ≥ 7)) (K (vi 0) (hV ws cur xs)) ((ws = ws) ∧ ((xs.length ≤ 2) ∧ (So (y1o ws.length cur l2 p) (fun (y1 : Int) => (Loop (y4n yf y1o yr) (⟨36, 2⟩ : Cx) (at_ (bodyOf Tryz.f98) [1, 1, 1, 0, 1, 0, 0]) (mkEnv [(0, .ptr 0 0), (2, vi p), (4, .ptr 2 0), (8, vi y1), (24, vi y1), (25, vi 0)]) [.pk 0 [ws, cur] xs [.row 1], .row 0 ws true, .cells 28 (yd l2)] (contK (y4n yf y1o yr) (⟨36, 2⟩ : Cx) (bodyOf Tryz.f98) [1, 1, 1, 0, 1, 0] (retK (y4n yf y1o yr) Tryz.f98 2 K)))))))))))))) := by kernel_rfl
def y2p (l2 : ya) (p : Int) : Option Bool :=
  (bif (decide (p ≥ 0)) then ((yk l2).bind fun y0 => some (decide (p < y0.Pages))) else some false)
def yf (nw : Nat) (cur : List Int) (l2 : ya) (p : Int) : Option Int :=
  ((y2p l2 p).bind fun y0 => (bif (!y0) then some (-1) else ((y2y l2 p).bind fun y1 => (bif (inR y1 nw) then some (rd cur y1) else none))))
def yj (l2 : ya) (p n : Int) : Option Bool :=
  ((y2p l2 p).bind fun y0 => (bif y0 then (bif (decide (n ≥ 1)) then ((yk l2).bind fun y1 => some (decide (n ≤ IntKind.i64.wrap (y1.Pages - p)))) else some false) else some false))
def y66 (nw : Nat) (cur : List Int) (l2 : ya) (p n t16 : Int) : Option (Int ⊕ Bool) :=
  (bif (decide (t16 < n)) then ((yf nw cur l2 (IntKind.i64.wrap (p + t16))).bind fun y0 => (bif (y0 != 0) then some (.inr false) else some (.inl (IntKind.i64.wrap (t16 + 1))))) else some (.inr true))
def ydr (nw : Nat) (cur : List Int) (l2 : ya) (p n s : Int) : Option Bool :=
  loopO (fun s => y66 nw cur l2 p n s) s
def y07 (nw : Nat) (cur : List Int) (l2 : ya) (p n : Int) : Option Bool :=
  ((yj l2 p n).bind fun y0 => (bif (!y0) then some false else (ydr nw cur l2 p n 0)))
def yr (nw : Nat) (cur : List Int) (l2 : ya) (p kindv count : Int) : Option (List Int) :=
  ((y2y l2 p).bind fun y0 => (bif (inR y0 nw) then ((y0p l2 p).bind fun y1 => (bif (inR y1 nw) then ((y09 l2 p).bind fun y2 => (bif (inR y2 nw) then some (wr (wr (wr cur y0 kindv) y1 count) y2 0) else none)) else none)) else none))
def y08 (nw : Nat) (cur : List Int) (p : Int) (l2 : ya) : Option Bool :=
  ((y1x p).bind fun y0 => ((y3l nw cur l2 y0).bind fun y1 => some y1))
def y0b (p0 : Int) : Option Bool :=
  some true
def y5j (nw : Nat) (cur : List Int) (l2 : ya) (step : Int) (l3 : ya) (p iv : Int) : Option (Int ⊕ (Int ⊕ Int)) :=
  (bif (decide (iv ≥ 0)) then ((yf nw cur l2 (IntKind.i64.wrap (p + iv))).bind fun y0 => (bif (y0 != 0) then (bif (!step == 0) then some (.inr (.inl (IntKind.i64.wrap (IntKind.i64.wrap (IntKind.i64.wrap (Int.tdiv (IntKind.i64.wrap (p + iv)) step) * step) + step)))) else none) else ((y08 nw cur (IntKind.i64.wrap (p + iv)) l3).bind fun y1 => (bif (!y1) then (bif (!step == 0) then some (.inr (.inl (IntKind.i64.wrap (IntKind.i64.wrap (IntKind.i64.wrap (Int.tdiv (IntKind.i64.wrap (p + iv)) step) * step) + step)))) else none) else some (.inl (IntKind.i64.wrap (iv - 1))))))) else some (.inr (.inr p)))
def yfr (nw : Nat) (cur : List Int) (l2 : ya) (step : Int) (l3 : ya) (p s : Int) : Option (Int ⊕ Int) :=
  loopO (fun s => y5j nw cur l2 step l3 p s) s
def y5k (nw : Nat) (cur : List Int) (l2 : ya) (n step : Int) (l3 : ya) (p : Int) : Option (Int ⊕ Int) :=
  ((yj l2 p n).bind fun y0 => (bif y0 then (yfr nw cur l2 step l3 p (IntKind.i64.wrap (n - 1))) else some (.inr (-1))))
def yj3 (nw : Nat) (cur : List Int) (l2 : ya) (n step : Int) (l3 : ya) (s : Int) : Option Int :=
  loopO (fun s => y5k nw cur l2 n step l3 s) s
def y54 (nw : Nat) (cur : List Int) (l2 : ya) (n step : Int) (l3 : ya) : Option Int :=
  (yj3 nw cur l2 n step l3 0)
def y5f (nw : Nat) (cur : List Int) (l2 : ya) (step p iv : Int) : Option (Int ⊕ (Int ⊕ Int)) :=
  (bif (decide (iv ≥ 0)) then ((yf nw cur l2 (IntKind.i64.wrap (p + iv))).bind fun y0 => (bif (y0 != 0) then (bif (!step == 0) then some (.inr (.inl (IntKind.i64.wrap (IntKind.i64.wrap (IntKind.i64.wrap (Int.tdiv (IntKind.i64.wrap (p + iv)) step) * step) + step)))) else none) else ((y0b (IntKind.i64.wrap (p + iv))).bind fun y1 => (bif (!y1) then (bif (!step == 0) then some (.inr (.inl (IntKind.i64.wrap (IntKind.i64.wrap (IntKind.i64.wrap (Int.tdiv (IntKind.i64.wrap (p + iv)) step) * step) + step)))) else none) else some (.inl (IntKind.i64.wrap (iv - 1))))))) else some (.inr (.inr p)))
def ygc (nw : Nat) (cur : List Int) (l2 : ya) (step p s : Int) : Option (Int ⊕ Int) :=
  loopO (fun s => y5f nw cur l2 step p s) s
def y5l (nw : Nat) (cur : List Int) (l2 : ya) (n step p : Int) : Option (Int ⊕ Int) :=
  ((yj l2 p n).bind fun y0 => (bif y0 then (ygc nw cur l2 step p (IntKind.i64.wrap (n - 1))) else some (.inr (-1))))
def yha (nw : Nat) (cur : List Int) (l2 : ya) (n step s : Int) : Option Int :=
  loopO (fun s => y5l nw cur l2 n step s) s
def y4r (nw : Nat) (cur : List Int) (l2 : ya) (n step : Int) : Option Int :=
  (yha nw cur l2 n step 0)
def y46 (nw : Nat) (cur : List Int) (l2 : ya) (n step : Int) : Option Int :=
  (bif (decide (n < 1)) then (bif (decide (n ≥ 1)) then (bif (decide (step > 256)) then ((y07 nw cur l2 0 n).bind fun y0 => (bif y0 then some 0 else some (-1))) else some (-1)) else some (-1)) else (bif (decide (step < 1)) then (bif (decide (n ≥ 1)) then (bif (decide (step > 256)) then ((y07 nw cur l2 0 n).bind fun y1 => (bif y1 then some 0 else some (-1))) else some (-1)) else some (-1)) else (bif (decide (step > 256)) then (bif (decide (n ≥ 1)) then (bif (decide (step > 256)) then ((y07 nw cur l2 0 n).bind fun y2 => (bif y2 then some 0 else some (-1))) else some (-1)) else some (-1)) else ((y54 nw cur l2 n step l2).bind fun y3 => (bif (y3 != -1) then some y3 else ((y4r nw cur l2 n step).bind fun y4 => some y4))))))
def y68 (nw : Nat) (l2 : ya) (p n iv : Int) (cur2 : List Int) : Option ((Int × (List Int)) ⊕ (Bool × (List Int))) :=
  (bif (decide (iv < n)) then ((yr nw cur2 l2 (IntKind.i64.wrap (p + iv)) 7 0).bind fun y0 => some (.inl ((IntKind.i64.wrap (iv + 1)), y0))) else some (.inr (true, cur2)))
def y5a (nw : Nat) (l2 : ya) (p n : Int) (s : Int × (List Int)) : Option (Bool × (List Int)) :=
  loopO (fun s => y68 nw l2 p n s.1 s.2) s
def y3i (nw : Nat) (cur : List Int) (l2 : ya) (p n kindv : Int) : Option (Bool × (List Int)) :=
  (bif (decide (kindv < 1)) then some (false, cur) else (bif (decide (kindv > 6)) then some (false, cur) else (bif (decide (kindv < 6)) then (bif (n != 1) then some (false, cur) else ((y07 nw cur l2 p n).bind fun y0 => (bif (!y0) then some (false, cur) else ((y0o nw cur l2 p n).bind fun y1 => (bif (kindv == 6) then ((yr nw y1.2 l2 p kindv n).bind fun y2 => (y5a nw l2 p n (1, y2))) else ((yr nw y1.2 l2 p kindv 0).bind fun y3 => (y5a nw l2 p n (1, y3)))))))) else ((y07 nw cur l2 p n).bind fun y4 => (bif (!y4) then some (false, cur) else ((y0o nw cur l2 p n).bind fun y5 => (bif (kindv == 6) then ((yr nw y5.2 l2 p kindv n).bind fun y6 => (y5a nw l2 p n (1, y6))) else ((yr nw y5.2 l2 p kindv 0).bind fun y7 => (y5a nw l2 p n (1, y7))))))))))
def y64 (nw : Nat) (cur : List Int) (l2 : ya) (p n : Int) : Option (Int ⊕ Int) :=
  ((yf nw cur l2 (IntKind.i64.wrap (p + n))).bind fun y0 => (bif (y0 == 7) then some (.inl (IntKind.i64.wrap (n + 1))) else some (.inr n)))
def yib (nw : Nat) (cur : List Int) (l2 : ya) (p s : Int) : Option Int :=
  loopO (fun s => y64 nw cur l2 p s) s
def y1o (nw : Nat) (cur : List Int) (l2 : ya) (p : Int) : Option Int :=
  ((yf nw cur l2 p).bind fun y0 => (bif (y0 == 6) then (yib nw cur l2 p 1) else some 1))
def y60 (nw : Nat) (l2 : ya) (p n : Int) (t24 t25 : Int) (cur2 : List Int) : Option ((Int × (List Int)) ⊕ (Int × (List Int))) :=
  (bif (decide (t25 < t24)) then ((yr nw cur2 l2 (IntKind.i64.wrap (p + t25)) 0 0).bind fun y0 => some (.inl ((IntKind.i64.wrap (t25 + 1)), y0))) else some (.inr (n, cur2)))
def y9b (nw : Nat) (l2 : ya) (p n t24 : Int) (s : Int × (List Int)) : Option (Int × (List Int)) :=
  loopO (fun s => y60 nw l2 p n t24 s.1 s.2) s
def y49 (nw : Nat) (cur : List Int) (l2 : ya) (p : Int) : Option (Int × (List Int)) :=
  ((yf nw cur l2 p).bind fun y0 => (bif (decide (y0 ≤ 0)) then some (0, cur) else (bif (decide (y0 ≥ 7)) then some (0, cur) else ((y1o nw cur l2 p).bind fun y1 => (y9b nw l2 p y1 y1 (0, cur))))))
attribute [local irreducible] Loop ex exF contK roundK retK at_ bodyOf mkEnv
theorem yhn : SpecOK Tryz.prog elTT 101 (ya2 y2p) := by
  refine spec_of_exF (cfg := (ydw yk)) (yg rfl rfl rfl) (yc y5i yh) (fn := Tryz.f101) (by kernel_rfl) (by kernel_rfl) (by kernel_rfl) ?_
  intro args H K h
  change yap y2p args H K at h
  unfold yap at h
  repeat first | (obtain ⟨_, h⟩ := h) | replace h := Des.el h
  subst_vars
  refine Eq.mpr (ylu yk _ _ K) ?_
  unfold y2p at h
  revert h
  exact br_So (bind_So fun y0 => fun h => h) (fun h => h)
theorem y5g : SpecOK Tryz.prog elTT 62 (y5d yf) := by
  refine spec_of_exF (cfg := (ygi y2p y2y)) (yg rfl rfl rfl) (yc yhn (yc ygq (yc rd_ok yh))) (fn := Tryz.f62) (by kernel_rfl) (by kernel_rfl) (by kernel_rfl) ?_
  intro args H K h
  change y7o yf args H K at h
  unfold y7o at h
  repeat first | (obtain ⟨_, h⟩ := h) | replace h := Des.el h
  subst_vars
  refine Eq.mpr (yqe y2p y2y _ _ _ _ _ K) ?_
  unfold yf at h
  revert h
  exact bind_So fun y0 => br_So (fun h => h) (bind_So fun y1 => andV (by assumption) (req_So (fun h => h)))
theorem y8g : SpecOK Tryz.prog elTT 152 (y77 yj) := by
  refine spec_of_exF (cfg := (yht y2p yk)) (yg rfl rfl rfl) (yc yhn (yc y5i yh)) (fn := Tryz.f152) (by kernel_rfl) (by kernel_rfl) (by kernel_rfl) ?_
  intro args H K h
  change y9i yj args H K at h
  unfold y9i at h
  repeat first | (obtain ⟨_, h⟩ := h) | replace h := Des.el h
  subst_vars
  refine Eq.mpr (ynj y2p yk _ _ _ K) ?_
  unfold yj at h
  revert h
  exact bind_So fun y0 => br_So (br_So (bind_So fun y1 => fun h => h) (fun h => h)) (fun h => h)
theorem lpok_extent_open_L1 (ws cur : List Int) (xs : List Value) (l2 : ya) (p n t16 : Int) (K : V → Heap → Prop) (hx : xs.length ≤ 2) : So (ydr ws.length cur l2 p n t16) (fun (x : Bool) => K (vb x) (hV ws cur xs)) → Loop (y4o yj yf) (⟨27, 2⟩ : Cx) (at_ (bodyOf Tryz.f126) [1, 1, 0, 1, 0, 0]) (mkEnv [(0, .ptr 0 0), (2, vi p), (5, .ptr 2 0), (15, vi n), (16, vi t16)]) [.pk 0 [ws, cur] xs [.row 1], .row 0 ws true, .cells 28 (yd l2)] (contK (y4o yj yf) (⟨27, 2⟩ : Cx) (bodyOf Tryz.f126) [1, 1, 0, 1, 0] (retK (y4o yj yf) Tryz.f126 2 K)) := by
  refine loopK_So (fun (s_ : Int) => (mkEnv [(0, .ptr 0 0), (2, vi p), (5, .ptr 2 0), (15, vi n), (16, vi s_)])) (fun (s_ : Int) => [.pk 0 [ws, cur] xs [.row 1], .row 0 ws true, .cells 28 (yd l2)]) (fun (x : Bool) => K (vb x) (hV ws cur xs)) ?_ t16
  intro s_ J1 h
  clear t16
  revert h; revert s_; intro t16 h
  refine Eq.mpr (ynd yj yf ws cur xs l2 p n t16 K J1) ?_
  have h : So (y66 ws.length cur l2 p n t16) _ := h
  unfold y66 at h
  revert h
  exact br_So (andV hx (bind_So fun y0 => br_So (fun h => h) (fun h => h))) (fun h => h)
theorem yj5 : SpecOK Tryz.prog elTT 126 (yax y07) := by
  refine spec_of_exF (cfg := (y4o yj yf)) (yg rfl rfl rfl) (yc y8g (yc y5g yh)) (fn := Tryz.f126) (by kernel_rfl) (by kernel_rfl) (by kernel_rfl) ?_
  intro args H K h
  change ycc y07 args H K at h
  unfold ycc at h
  repeat first | (obtain ⟨_, h⟩ := h) | replace h := Des.el h
  subst_vars
  refine Eq.mpr (ymq yj yf _ _ _ _ _ _ K) ?_
  unfold y07 at h
  revert h
  exact bind_So fun y0 => br_So (fun h => h) (lpok_extent_open_L1 _ _ _ _ _ _ _ K (by assumption))
theorem yhe : SpecOK Tryz.prog elTT 133 (yay yr) := by
  refine spec_of_exF (cfg := (ydu y2y y0p y09)) (yg rfl rfl rfl) (yc ygq (yc wr_ok (yc y78 (yc y7h yh)))) (fn := Tryz.f133) (by kernel_rfl) (by kernel_rfl) (by kernel_rfl) ?_
  intro args H K h
  change yd2 yr args H K at h
  unfold yd2 at h
  repeat first | (obtain ⟨_, h⟩ := h) | replace h := Des.el h
  subst_vars
  refine Eq.mpr (yoa y2y y0p y09 _ _ _ _ _ _ _ K) ?_
  unfold yr at h
  revert h
  exact bind_So fun y0 => andV (by assumption) (req_So (bind_So fun y1 => andV (by assumption) (req_So (bind_So fun y2 => andV (by assumption) (req_So (fun h => h))))))
theorem yjs : SpecOK Tryz.prog elTT 127 (ycg y08) := by
  refine spec_of_exF (cfg := (ydv y1x y3l)) (yg rfl rfl rfl) (yc yh9 (yc yp2 yh)) (fn := Tryz.f127) (by kernel_rfl) (by kernel_rfl) (by kernel_rfl) ?_
  intro args H K h
  change y8l y08 args H K at h
  unfold y8l at h
  repeat first | (obtain ⟨_, h⟩ := h) | replace h := Des.el h
  subst_vars
  refine Eq.mpr (yne y1x y3l _ _ _ _ _ _ _ K) ?_
  unfold y08 at h
  revert h
  exact bind_So fun y0 => andV (by assumption) (bind_So fun y1 => fun h => h)
theorem ygj : SpecOK Tryz.prog elTT 131 (y9r y0b) := by
  refine spec_of_exF (cfg := yi8) (yg rfl rfl rfl) yh (fn := Tryz.f131) (by kernel_rfl) (by kernel_rfl) (by kernel_rfl) ?_
  intro args H K h
  change y9k y0b args H K at h
  unfold y9k at h
  repeat first | (obtain ⟨_, h⟩ := h) | replace h := Des.el h
  subst_vars
  refine Eq.mpr (yq6 _ K) ?_
  unfold y0b at h
  revert h
  exact fun h => h
theorem lpok_extent_fit_1_L2 (ws cur : List Int) (xs : List Value) (l2 : ya) (n step : Int) (l3 : ya) (U U2 : TypeId) (p iv : Int) (K : V → Heap → Prop) (J1 : Env → Heap → Prop) (hx : xs.length ≤ 2) : So (yfr ws.length cur l2 step l3 p iv) (sumK (fun (s_ : Int) => J1 (mkEnv [(0, .ptr 0 0), (2, vi n), (3, vi step), (4, .fn 127 [.ptr 1 0, .ptr 2 0]), (6, .ptr 4 0), (11, vi s_)]) [.pk 0 [ws, cur] xs [.row 3], .cells U [.ptr 0 0], .cells U2 (yd l3), .row 0 ws true, .cells 28 (yd l2)]) (fun (x : Int) => K (vi x) [.pk 0 [ws, cur] xs [.row 3], .cells U [.ptr 0 0], .cells U2 (yd l3), .row 0 ws true])) → Loop (y1h yj yf y08) (⟨48, 4⟩ : Cx) (at_ (bodyOf Tryz.f130) [1, 0, 1, 1, 0, 0, 0, 1, 0, 0, 1, 0, 0]) (mkEnv [(0, .ptr 0 0), (2, vi n), (3, vi step), (4, .fn 127 [.ptr 1 0, .ptr 2 0]), (6, .ptr 4 0), (11, vi p), (12, vi iv)]) [.pk 0 [ws, cur] xs [.row 3], .cells U [.ptr 0 0], .cells U2 (yd l3), .row 0 ws true, .cells 28 (yd l2)] (contK (y1h yj yf y08) (⟨48, 4⟩ : Cx) (at_ (bodyOf Tryz.f130) [1, 0, 1, 1, 0, 0, 0]) [1, 0, 0, 1, 0] (roundK (y1h yj yf y08) (⟨48, 4⟩ : Cx) (at_ (bodyOf Tryz.f130) [1, 0, 1, 1, 0, 0, 0]) (contK (y1h yj yf y08) (⟨48, 4⟩ : Cx) (bodyOf Tryz.f130) [1, 0, 1, 1, 0, 0] (retK (y1h yj yf y08) Tryz.f130 4 K)) J1)) := by
  refine loopK_So (fun (s_ : Int) => (mkEnv [(0, .ptr 0 0), (2, vi n), (3, vi step), (4, .fn 127 [.ptr 1 0, .ptr 2 0]), (6, .ptr 4 0), (11, vi p), (12, vi s_)])) (fun (s_ : Int) => [.pk 0 [ws, cur] xs [.row 3], .cells U [.ptr 0 0], .cells U2 (yd l3), .row 0 ws true, .cells 28 (yd l2)]) (sumK (fun (s_ : Int) => J1 (mkEnv [(0, .ptr 0 0), (2, vi n), (3, vi step), (4, .fn 127 [.ptr 1 0, .ptr 2 0]), (6, .ptr 4 0), (11, vi s_)]) [.pk 0 [ws, cur] xs [.row 3], .cells U [.ptr 0 0], .cells U2 (yd l3), .row 0 ws true, .cells 28 (yd l2)]) (fun (x : Int) => K (vi x) [.pk 0 [ws, cur] xs [.row 3], .cells U [.ptr 0 0], .cells U2 (yd l3), .row 0 ws true])) ?_ iv
  intro s_ J2 h
  clear iv
  revert h; revert s_; intro iv h
  refine Eq.mpr (yp7 yj yf y08 ws cur xs l2 n step l3 U U2 p iv K J1 J2) ?_
  have h : So (y5j ws.length cur l2 step l3 p iv) _ := h
  unfold y5j at h
  revert h
  exact br_So (andV hx (bind_So fun y0 => br_So (req_So (fun h => h)) (andV hx (bind_So fun y1 => br_So (req_So (fun h => h)) (fun h => h))))) (fun h => h)
theorem lpok_extent_fit_1_L1 (ws cur : List Int) (xs : List Value) (l2 : ya) (n step : Int) (l3 : ya) (U U2 : TypeId) (p : Int) (K : V → Heap → Prop) (hx : xs.length ≤ 2) : So (yj3 ws.length cur l2 n step l3 p) (fun (x : Int) => K (vi x) [.pk 0 [ws, cur] xs [.row 3], .cells U [.ptr 0 0], .cells U2 (yd l3), .row 0 ws true]) → Loop (y1h yj yf y08) (⟨48, 4⟩ : Cx) (at_ (bodyOf Tryz.f130) [1, 0, 1, 1, 0, 0, 0]) (mkEnv [(0, .ptr 0 0), (2, vi n), (3, vi step), (4, .fn 127 [.ptr 1 0, .ptr 2 0]), (6, .ptr 4 0), (11, vi p)]) [.pk 0 [ws, cur] xs [.row 3], .cells U [.ptr 0 0], .cells U2 (yd l3), .row 0 ws true, .cells 28 (yd l2)] (contK (y1h yj yf y08) (⟨48, 4⟩ : Cx) (bodyOf Tryz.f130) [1, 0, 1, 1, 0, 0] (retK (y1h yj yf y08) Tryz.f130 4 K)) := by
  refine loopK_So (fun (s_ : Int) => (mkEnv [(0, .ptr 0 0), (2, vi n), (3, vi step), (4, .fn 127 [.ptr 1 0, .ptr 2 0]), (6, .ptr 4 0), (11, vi s_)])) (fun (s_ : Int) => [.pk 0 [ws, cur] xs [.row 3], .cells U [.ptr 0 0], .cells U2 (yd l3), .row 0 ws true, .cells 28 (yd l2)]) (fun (x : Int) => K (vi x) [.pk 0 [ws, cur] xs [.row 3], .cells U [.ptr 0 0], .cells U2 (yd l3), .row 0 ws true]) ?_ p
  intro s_ J1 h
  clear p
  revert h; revert s_; intro p h
  refine Eq.mpr (yn4 yj yf y08 ws cur xs l2 n step l3 U U2 p K J1) ?_
  have h : So (y5k ws.length cur l2 n step l3 p) _ := h
  unfold y5k at h
  revert h
  exact bind_So fun y0 => br_So (lpok_extent_fit_1_L2 ws cur xs l2 n step l3 U U2 p (IntKind.i64.wrap (n - 1)) K J1 hx) (fun h => h)
theorem yo2 : SpecOK Tryz.prog elTT 130 (yhw y54) := by
  refine spec_of_exF (cfg := (y1h yj yf y08)) (yg rfl rfl rfl) (yc y8g (yc y5g (yc yjs yh))) (fn := Tryz.f130) (by kernel_rfl) (by kernel_rfl) (by kernel_rfl) ?_
  intro args H K h
  change y9n y54 args H K at h
  unfold y9n at h
  repeat first | (obtain ⟨_, h⟩ := h) | replace h := Des.el h
  subst_vars
  refine Eq.mpr (ykk yj yf y08 _ _ _ _ _ _ _ _ _ K) ?_
  unfold y54 at h
  revert h
  exact lpok_extent_fit_1_L1 _ _ _ _ _ _ _ _ _ _ K (by assumption)
theorem lpok_extent_fit_2_L2 (ws cur : List Int) (xs : List Value) (l2 : ya) (n step : Int) (p iv : Int) (K : V → Heap → Prop) (J1 : Env → Heap → Prop) (hx : xs.length ≤ 2) : So (ygc ws.length cur l2 step p iv) (sumK (fun (s_ : Int) => J1 (mkEnv [(0, .ptr 0 0), (2, vi n), (3, vi step), (4, .fn 131 []), (6, .ptr 2 0), (11, vi s_)]) [.pk 0 [ws, cur] xs [.row 1], .row 0 ws true, .cells 28 (yd l2)]) (fun (x : Int) => K (vi x) (hV ws cur xs))) → Loop (y1i yj yf y0b) (⟨48, 2⟩ : Cx) (at_ (bodyOf Tryz.f130) [1, 0, 1, 1, 0, 0, 0, 1, 0, 0, 1, 0, 0]) (mkEnv [(0, .ptr 0 0), (2, vi n), (3, vi step), (4, .fn 131 []), (6, .ptr 2 0), (11, vi p), (12, vi iv)]) [.pk 0 [ws, cur] xs [.row 1], .row 0 ws true, .cells 28 (yd l2)] (contK (y1i yj yf y0b) (⟨48, 2⟩ : Cx) (at_ (bodyOf Tryz.f130) [1, 0, 1, 1, 0, 0, 0]) [1, 0, 0, 1, 0] (roundK (y1i yj yf y0b) (⟨48, 2⟩ : Cx) (at_ (bodyOf Tryz.f130) [1, 0, 1, 1, 0, 0, 0]) (contK (y1i yj yf y0b) (⟨48, 2⟩ : Cx) (bodyOf Tryz.f130) [1, 0, 1, 1, 0, 0] (retK (y1i yj yf y0b) Tryz.f130 2 K)) J1)) := by
  refine loopK_So (fun (s_ : Int) => (mkEnv [(0, .ptr 0 0), (2, vi n), (3, vi step), (4, .fn 131 []), (6, .ptr 2 0), (11, vi p), (12, vi s_)])) (fun (s_ : Int) => [.pk 0 [ws, cur] xs [.row 1], .row 0 ws true, .cells 28 (yd l2)]) (sumK (fun (s_ : Int) => J1 (mkEnv [(0, .ptr 0 0), (2, vi n), (3, vi step), (4, .fn 131 []), (6, .ptr 2 0), (11, vi s_)]) [.pk 0 [ws, cur] xs [.row 1], .row 0 ws true, .cells 28 (yd l2)]) (fun (x : Int) => K (vi x) (hV ws cur xs))) ?_ iv
  intro s_ J2 h
  clear iv
  revert h; revert s_; intro iv h
  refine Eq.mpr (ymf yj yf y0b ws cur xs l2 n step p iv K J1 J2) ?_
  have h : So (y5f ws.length cur l2 step p iv) _ := h
  unfold y5f at h
  revert h
  exact br_So (andV hx (bind_So fun y0 => br_So (req_So (fun h => h)) (bind_So fun y1 => br_So (req_So (fun h => h)) (fun h => h)))) (fun h => h)
theorem lpok_extent_fit_2_L1 (ws cur : List Int) (xs : List Value) (l2 : ya) (n step p : Int) (K : V → Heap → Prop) (hx : xs.length ≤ 2) : So (yha ws.length cur l2 n step p) (fun (x : Int) => K (vi x) (hV ws cur xs)) → Loop (y1i yj yf y0b) (⟨48, 2⟩ : Cx) (at_ (bodyOf Tryz.f130) [1, 0, 1, 1, 0, 0, 0]) (mkEnv [(0, .ptr 0 0), (2, vi n), (3, vi step), (4, .fn 131 []), (6, .ptr 2 0), (11, vi p)]) [.pk 0 [ws, cur] xs [.row 1], .row 0 ws true, .cells 28 (yd l2)] (contK (y1i yj yf y0b) (⟨48, 2⟩ : Cx) (bodyOf Tryz.f130) [1, 0, 1, 1, 0, 0] (retK (y1i yj yf y0b) Tryz.f130 2 K)) := by
  refine loopK_So (fun (s_ : Int) => (mkEnv [(0, .ptr 0 0), (2, vi n), (3, vi step), (4, .fn 131 []), (6, .ptr 2 0), (11, vi s_)])) (fun (s_ : Int) => [.pk 0 [ws, cur] xs [.row 1], .row 0 ws true, .cells 28 (yd l2)]) (fun (x : Int) => K (vi x) (hV ws cur xs)) ?_ p
  intro s_ J1 h
  clear p
  revert h; revert s_; intro p h
  refine Eq.mpr (yn7 yj yf y0b ws cur xs l2 n step p K J1) ?_
  have h : So (y5l ws.length cur l2 n step p) _ := h
  unfold y5l at h
  revert h
  exact bind_So fun y0 => br_So (lpok_extent_fit_2_L2 ws cur xs l2 n step p (IntKind.i64.wrap (n - 1)) K J1 hx) (fun h => h)
theorem yo5 : SpecOK Tryz.prog elTT 130 (yis y4r) := by
  refine spec_of_exF (cfg := (y1i yj yf y0b)) (yg rfl rfl rfl) (yc y8g (yc y5g (yc ygj yh))) (fn := Tryz.f130) (by kernel_rfl) (by kernel_rfl) (by kernel_rfl) ?_
  intro args H K h
  change y88 y4r args H K at h
  unfold y88 at h
  repeat first | (obtain ⟨_, h⟩ := h) | replace h := Des.el h
  subst_vars
  refine Eq.mpr (ypv yj yf y0b _ _ _ _ _ _ K) ?_
  unfold y4r at h
  revert h
  exact lpok_extent_fit_2_L1 _ _ _ _ _ _ _ K (by assumption)
theorem yk5 : SpecOK Tryz.prog elTT 94 (yhf y46) := by
  refine spec_of_exF (cfg := (yi4 y07 y08 y54 y4r y0b)) (yg rfl rfl rfl) (yc yj5 (yc yjs (yc (altP_ok yo5 yo2) (yc ygj yh)))) (fn := Tryz.f94) (by kernel_rfl) (by kernel_rfl) (by kernel_rfl) ?_
  intro args H K h
  change ycq y46 args H K at h
  unfold ycq at h
  repeat first | (obtain ⟨_, h⟩ := h) | replace h := Des.el h
  subst_vars
  refine Eq.mpr (ymd y07 y08 y54 y4r y0b _ _ _ _ _ _ K) ?_
  unfold y46 at h
  revert h
  exact br_So (br_So (br_So (andV (by assumption) (bind_So fun y0 => br_So (fun h => h) (fun h => h))) (fun h => h)) (fun h => h)) (br_So (br_So (br_So (andV (by assumption) (bind_So fun y1 => br_So (fun h => h) (fun h => h))) (fun h => h)) (fun h => h)) (br_So (br_So (br_So (andV (by assumption) (bind_So fun y2 => br_So (fun h => h) (fun h => h))) (fun h => h)) (fun h => h)) (andV (by assumption) (bind_So fun y3 => br_So (fun h => h) (andV (by assumption) (bind_So fun y4 => fun h => h))))))
theorem lpok_extent_Take_L1 (ws cur : List Int) (xs : List Value) (l2 : ya) (p n : Int) (kindv iv : Int) (cur2 : List Int) (K : V → Heap → Prop) (hx : xs.length ≤ 2) : So (y5a ws.length l2 p n (iv, cur2)) (fun (x : Bool × (List Int)) => K (vb x.1) (hV ws x.2 xs)) → Loop (y2h y07 y0o yr) (⟨60, 2⟩ : Cx) (at_ (bodyOf Tryz.f95) [1, 1, 1, 1, 1, 1, 0, 1, 0, 0]) (mkEnv [(0, .ptr 0 0), (2, vi p), (3, vi n), (6, .ptr 2 0), (12, vi iv)]) [.pk 0 [ws, cur2] xs [.row 1], .row 0 ws true, .cells 28 (yd l2)] (contK (y2h y07 y0o yr) (⟨60, 2⟩ : Cx) (bodyOf Tryz.f95) [1, 1, 1, 1, 1, 1, 0, 1, 0] (retK (y2h y07 y0o yr) Tryz.f95 2 K)) := by
  refine loopK_So (fun (s_ : Int × (List Int)) => (mkEnv [(0, .ptr 0 0), (2, vi p), (3, vi n), (6, .ptr 2 0), (12, vi s_.1)])) (fun (s_ : Int × (List Int)) => [.pk 0 [ws, s_.2] xs [.row 1], .row 0 ws true, .cells 28 (yd l2)]) (fun (x : Bool × (List Int)) => K (vb x.1) (hV ws x.2 xs)) ?_ (iv, cur2)
  intro s_ J1 h
  clear iv
  clear cur2
  obtain ⟨iv, cur2⟩ := s_
  refine Eq.mpr (ypz y07 y0o yr ws cur xs l2 p n kindv iv cur2 K J1) ?_
  have h : So (y68 ws.length l2 p n iv cur2) _ := h
  unfold y68 at h
  revert h
  exact br_So (andV hx (bind_So fun y0 => fun h => h)) (fun h => h)
theorem ym4 : SpecOK Tryz.prog elTT 95 (yel y3i) := by
  refine spec_of_exF (cfg := (y2h y07 y0o yr)) (yg rfl rfl rfl) (yc yj5 (yc ymm (yc yhe yh))) (fn := Tryz.f95) (by kernel_rfl) (by kernel_rfl) (by kernel_rfl) ?_
  intro args H K h
  change y9q y3i args H K at h
  unfold y9q at h
  repeat first | (obtain ⟨_, h⟩ := h) | replace h := Des.el h
  subst_vars
  refine Eq.mpr (ymn y07 y0o yr _ _ _ _ _ _ _ K) ?_
  unfold y3i at h
  revert h
  exact br_So (fun h => h) (br_So (fun h => h) (br_So (br_So (fun h => h) (andV (by assumption) (bind_So fun y0 => br_So (fun h => h) (andV (by assumption) (bind_So fun y1 => br_So (andV (by assumption) (bind_So fun y2 => lpok_extent_Take_L1 _ (by first | assumption | exact default) _ _ _ _ (by first | assumption | exact default) _ _ K (by assumption))) (andV (by assumption) (bind_So fun y3 => lpok_extent_Take_L1 _ (by first | assumption | exact default) _ _ _ _ (by first | assumption | exact default) _ _ K (by assumption)))))))) (andV (by assumption) (bind_So fun y4 => br_So (fun h => h) (andV (by assumption) (bind_So fun y5 => br_So (andV (by assumption) (bind_So fun y6 => lpok_extent_Take_L1 _ (by first | assumption | exact default) _ _ _ _ (by first | assumption | exact default) _ _ K (by assumption))) (andV (by assumption) (bind_So fun y7 => lpok_extent_Take_L1 _ (by first | assumption | exact default) _ _ _ _ (by first | assumption | exact default) _ _ K (by assumption)))))))))
theorem lpok_extent_length_L1 (ws cur : List Int) (xs : List Value) (l2 : ya) (p n : Int) (K : V → Heap → Prop) (hx : xs.length ≤ 2) : So (yib ws.length cur l2 p n) (fun (x : Int) => K (vi x) (hV ws cur xs)) → Loop (y4e yf) (⟨23, 2⟩ : Cx) (at_ (bodyOf Tryz.f140) [1, 1, 0, 1, 0, 0, 0]) (mkEnv [(0, .ptr 0 0), (2, vi p), (4, .ptr 2 0), (7, vi n)]) [.pk 0 [ws, cur] xs [.row 1], .row 0 ws true, .cells 28 (yd l2)] (contK (y4e yf) (⟨23, 2⟩ : Cx) (bodyOf Tryz.f140) [1, 1, 0, 1, 0, 0] (retK (y4e yf) Tryz.f140 2 K)) := by
  refine loopK_So (fun (s_ : Int) => (mkEnv [(0, .ptr 0 0), (2, vi p), (4, .ptr 2 0), (7, vi s_)])) (fun (s_ : Int) => [.pk 0 [ws, cur] xs [.row 1], .row 0 ws true, .cells 28 (yd l2)]) (fun (x : Int) => K (vi x) (hV ws cur xs)) ?_ n
  intro s_ J1 h
  clear n
  revert h; revert s_; intro n h
  refine Eq.mpr (yns yf ws cur xs l2 p n K J1) ?_
  have h : So (y64 ws.length cur l2 p n) _ := h
  unfold y64 at h
  revert h
  exact andV hx (bind_So fun y0 => br_So (fun h => h) (fun h => h))
theorem yp9 : SpecOK Tryz.prog elTT 140 (ygu y1o) := by
  refine spec_of_exF (cfg := (y4e yf)) (yg rfl rfl rfl) (yc y5g yh) (fn := Tryz.f140) (by kernel_rfl) (by kernel_rfl) (by kernel_rfl) ?_
  intro args H K h
  change y8t y1o args H K at h
  unfold y8t at h
  repeat first | (obtain ⟨_, h⟩ := h) | replace h := Des.el h
  subst_vars
  refine Eq.mpr (yol yf _ _ _ _ _ K) ?_
  unfold y1o at h
  revert h
  exact andV (by assumption) (bind_So fun y0 => br_So (lpok_extent_length_L1 _ _ _ _ _ _ K (by assumption)) (fun h => h))
theorem lpok_extent_Drop_L1 (ws cur : List Int) (xs : List Value) (l2 : ya) (p n : Int) (t24 t25 : Int) (cur2 : List Int) (K : V → Heap → Prop) (hx : xs.length ≤ 2) : So (y9b ws.length l2 p n t24 (t25, cur2)) (fun (x : Int × (List Int)) => K (vi x.1) (hV ws x.2 xs)) → Loop (y4n yf y1o yr) (⟨36, 2⟩ : Cx) (at_ (bodyOf Tryz.f98) [1, 1, 1, 0, 1, 0, 0]) (mkEnv [(0, .ptr 0 0), (2, vi p), (4, .ptr 2 0), (8, vi n), (24, vi t24), (25, vi t25)]) [.pk 0 [ws, cur2] xs [.row 1], .row 0 ws true, .cells 28 (yd l2)] (contK (y4n yf y1o yr) (⟨36, 2⟩ : Cx) (bodyOf Tryz.f98) [1, 1, 1, 0, 1, 0] (retK (y4n yf y1o yr) Tryz.f98 2 K)) := by
  refine loopK_So (fun (s_ : Int × (List Int)) => (mkEnv [(0, .ptr 0 0), (2, vi p), (4, .ptr 2 0), (8, vi n), (24, vi t24), (25, vi s_.1)])) (fun (s_ : Int × (List Int)) => [.pk 0 [ws, s_.2] xs [.row 1], .row 0 ws true, .cells 28 (yd l2)]) (fun (x : Int × (List Int)) => K (vi x.1) (hV ws x.2 xs)) ?_ (t25, cur2)
  intro s_ J1 h
  clear t25
  clear cur2
  obtain ⟨t25, cur2⟩ := s_
  refine Eq.mpr (ym8 yf y1o yr ws cur xs l2 p n t24 t25 cur2 K J1) ?_
  have h : So (y60 ws.length l2 p n t24 t25 cur2) _ := h
  unfold y60 at h
  revert h
  exact br_So (andV hx (bind_So fun y0 => fun h => h)) (fun h => h)
theorem ypm : SpecOK Tryz.prog elTT 98 (yi3 y49) := by
  refine spec_of_exF (cfg := (y4n yf y1o yr)) (yg rfl rfl rfl) (yc y5g (yc yp9 (yc yhe yh))) (fn := Tryz.f98) (by kernel_rfl) (by kernel_rfl) (by kernel_rfl) ?_
  intro args H K h
  change y7x y49 args H K at h
  unfold y7x at h
  repeat first | (obtain ⟨_, h⟩ := h) | replace h := Des.el h
  subst_vars
  refine Eq.mpr (ypk yf y1o yr _ _ _ _ _ K) ?_
  unfold y49 at h
  revert h
  exact andV (by assumption) (bind_So fun y0 => br_So (fun h => h) (br_So (fun h => h) (andV (by assumption) (bind_So fun y1 => lpok_extent_Drop_L1 _ (by first | assumption | exact default) _ _ _ _ _ _ _ K (by assumption)))))
end Go.Rx
end

section
namespace Go.Rx
open Go.Proofs
instance (kb pg : Int) (w : List Int) (p n : Int) : Decidable (FreeR kb pg w p n) :=
  decidable_of_iff ((1 ≤ n ∧ 0 ≤ p ∧ p < pg ∧ n ≤ pg - p) ∧ ∀ i : Nat, i < n.toNat → wd w (kb + (p + i)) = 0)
    ⟨fun h => ⟨h.1, fun i h0 h1 => by
      have := h.2 i.toNat (by omega)
      rw [show ((i.toNat : Nat) : Int) = i by omega] at this; exact this⟩, fun h => ⟨h.span, fun i hi => h.free i (by omega) (by omega)⟩⟩
theorem fit_gen {pg step n : Int} {ok : Int → Prop} (outer : Int → Option (Int ⊕ Int)) (inner : Int → Int → Option (Int ⊕ (Int ⊕ Int)))
    (hn : 1 ≤ n) (hs : 1 ≤ step ∧ step ≤ 256) (hpg : 1 ≤ pg ∧ pg ≤ 256)
    (ho1 : ∀ p, (1 ≤ n ∧ 0 ≤ p ∧ p < pg ∧ n ≤ pg - p) → outer p = loopO (inner p) (n - 1))
    (ho2 : ∀ p, 0 ≤ p → p ≤ 1000 → ¬ (1 ≤ n ∧ 0 ≤ p ∧ p < pg ∧ n ≤ pg - p) → outer p = some (.inr (-1)))
    (hi1 : ∀ p i, (1 ≤ n ∧ 0 ≤ p ∧ p < pg ∧ n ≤ pg - p) → 0 ≤ i → i < n → ok (p + i) → inner p i = some (.inl (i - 1)))
    (hi2 : ∀ p i, (1 ≤ n ∧ 0 ≤ p ∧ p < pg ∧ n ≤ pg - p) → 0 ≤ i → i < n → ¬ ok (p + i) → inner p i = some (.inr (.inl ((p + i) / step * step + step))))
    (hi3 : ∀ p i, i < 0 → inner p i = some (.inr (.inr p))) :
    ∃ r, loopO outer 0 = some r ∧ Least pg (Does pg step n ok) r := by
  refine loopO_ind (step := outer) (I := fun p => 0 ≤ p ∧ p ≤ 1000 ∧ p % step = 0 ∧ ∀ q, 0 ≤ q → q < p → ¬ Does pg step n ok q) (μ := fun p => (pg - p).toNat) (fun r => Least pg (Does pg step n ok) r) (fun p hp => ?_) 0 ⟨by omega, by omega, by simp, fun q h0 h1 => by omega⟩
  obtain ⟨p0, p1, p2, p3⟩ := hp
  by_cases c : 1 ≤ n ∧ 0 ≤ p ∧ p < pg ∧ n ≤ pg - p
  · rw [ho1 p c]
    obtain ⟨r, h1, h2⟩ := loopO_ind (step := inner p) (I := fun i => -1 ≤ i ∧ i < n ∧ ∀ j, i < j → j < n → ok (p + j)) (μ := fun i => (i + 1).toNat)
      (fun r => (r = .inr p ∧ ∀ j, 0 ≤ j → j < n → ok (p + j)) ∨ (∃ i, 0 ≤ i ∧ i < n ∧ ¬ ok (p + i) ∧ r = .inl ((p + i) / step * step + step))) (fun i hi => by
        obtain ⟨i0, i1, i2⟩ := hi
        by_cases d : 0 ≤ i
        · by_cases e : ok (p + i)
          · refine .inl ⟨_, hi1 p i c d i1 e, ⟨by omega, by omega, fun j h0 h1 => ?_⟩, by omega⟩
            by_cases f : j = i
            · rw [f]; exact e
            · exact i2 j (by omega) h1
          · exact .inr ⟨_, hi2 p i c d i1 e, .inr ⟨i, d, i1, e, rfl⟩⟩
        · exact .inr ⟨_, hi3 p i (by omega), .inl ⟨rfl, fun j h0 h1 => i2 j (by omega) h1⟩⟩) (n - 1) ⟨by omega, by omega, fun j h0 h1 => by omega⟩
    rw [h1]
    rcases h2 with ⟨rfl, h2⟩ | ⟨i, d, i1, e, rfl⟩
    · refine .inr ⟨_, rfl, fit_hit ⟨p2, c, fun j h0 h1 => ?_⟩ p3⟩
      have := h2 (j - p) (by omega) (by omega)
      rw [show p + (j - p) = j by omega] at this; exact this
    · obtain ⟨a1, a2, a3, a4⟩ := fit_next hs.1 p0 ⟨d, i1⟩ e p3
      exact .inl ⟨_, rfl, ⟨by omega, by omega, a3, a4⟩, by omega⟩
  · exact .inr ⟨_, ho2 p p0 p1 c, fit_end c hn p0 p3⟩
section
variable {L : ya} {nw : Nat} {cur : List Int}
theorem LayOK.geoK (h : LayOK L) : 1 ≤ L.at_1 ∧ L.at_2 = L.at_1 + L.c.Pages ∧ L.at_3 = L.at_1 + 2 * L.c.Pages ∧ L.at_1 + 3 * L.c.Pages ≤ L.at_11 ∧ L.at_1 + 3 * L.c.Pages = L.at_4 ∧ L.at_0 + (L.c.Pages + 3) / 4 = L.at_1 ∧ 1 ≤ L.at_0 := by
  have := h.a0; have := h.a1; have := h.a2; have := h.a3; have := h.a4; have := h.a5; have := h.a6; have := h.a7; have := h.a8b; have := h.a9; have := h.a11; have := h.big; have := h.stripes; have := h.pages; have := h.bin
  omega
theorem VOK.geoK (v : VOK L nw cur) : GeoK L.at_1 L.c.Pages cur.length := by
  have := v.lay.geoK; have := v.all; have := v.len
  exact ⟨by omega, v.lay.pages, by omega⟩
theorem ethere_eq (p : Int) : y2p L p = some (decide (0 ≤ p ∧ p < L.c.Pages)) := by
  unfold y2p
  by_cases a : 0 ≤ p
  · rw [decide_eq_true (show p ≥ 0 from a), cond_true, Config_eq, Option.bind_some]
    have e : (0 ≤ p ∧ p < L.c.Pages) ↔ p < (cOf L).Pages := ⟨fun x => x.2, fun x => ⟨a, x⟩⟩
    simp only [e]
  · rw [decide_eq_false (show ¬ p ≥ 0 from a), decide_eq_false (fun x => a x.1)]; rfl
theorem eKind_eq (v : VOK L nw cur) (p : Int) : yf nw cur L p = some (knd L.at_1 L.c.Pages cur p) := by
  unfold yf
  rw [ethere_eq, Option.bind_some]
  have g := v.lay.geoK; have := v.all; have := v.lay.pages
  by_cases a : 0 ≤ p ∧ p < L.c.Pages
  · rw [decide_eq_true a, knd_in a, Bool.not_true, cond_false, Kind_eq v.lay, Option.bind_some]
    unfold lPg
    rw [if_pos a, inR_int (by omega) (by omega), cond_true]; rfl
  · rw [decide_eq_false a, knd_out a]; rfl
theorem eall_eq (h : LayOK L) (p n : Int) : yj L p n = some (decide (1 ≤ n ∧ 0 ≤ p ∧ p < L.c.Pages ∧ n ≤ L.c.Pages - p)) := by
  unfold yj
  have hpg := h.pages
  rw [ethere_eq, Option.bind_some]
  by_cases a : 0 ≤ p ∧ p < L.c.Pages
  · rw [decide_eq_true a, cond_true]
    by_cases b : 1 ≤ n
    · have e0 : (cOf L).Pages = L.c.Pages := rfl
      rw [decide_eq_true (show n ≥ 1 from b), cond_true, Config_eq, Option.bind_some, e0, wrap_id (x := L.c.Pages - p) (by omega) (by omega)]
      have e : (1 ≤ n ∧ 0 ≤ p ∧ p < L.c.Pages ∧ n ≤ L.c.Pages - p) ↔ n ≤ L.c.Pages - p := ⟨fun x => x.2.2.2, fun x => ⟨b, a.1, a.2, x⟩⟩
      simp only [e]
    · rw [decide_eq_false (show ¬ n ≥ 1 from b), cond_false, decide_eq_false (fun x => b x.1)]
  · rw [decide_eq_false a, cond_false, decide_eq_false (fun x => a ⟨x.2.1, x.2.2.1⟩)]
theorem eopen_eq (v : VOK L nw cur) (p n : Int) : y07 nw cur L p n = some (decide (FreeR L.at_1 L.c.Pages cur p n)) := by
  unfold y07
  rw [eall_eq v.lay, Option.bind_some]
  have hpg := v.lay.pages
  by_cases a : 1 ≤ n ∧ 0 ≤ p ∧ p < L.c.Pages ∧ n ≤ L.c.Pages - p
  · rw [decide_eq_true a, Bool.not_true, cond_false]
    obtain ⟨r, h1, rfl⟩ := loopO_ind (step := fun s : Int => y66 nw cur L p n s)
      (I := fun i => 0 ≤ i ∧ i ≤ n ∧ ∀ j, 0 ≤ j → j < i → wd cur (L.at_1 + (p + j)) = 0) (μ := fun i => (n - i).toNat) (fun r => r = decide (FreeR L.at_1 L.c.Pages cur p n)) (by
        rintro i ⟨i0, i1, i2⟩
        simp only [y66]
        by_cases c : i < n
        · rw [decide_eq_true c, cond_true, wrap_id (x := p + i) (by omega) (by omega), eKind_eq v, Option.bind_some, knd_in (by omega)]
          by_cases z : wd cur (L.at_1 + (p + i)) = 0
          · have e : (wd cur (L.at_1 + (p + i)) != 0) = false := by rw [z]; rfl
            rw [e, cond_false, wrap_id (by omega) (by omega)]
            refine .inl ⟨_, rfl, ⟨by omega, by omega, fun j h0 h1 => ?_⟩, by omega⟩
            by_cases d : j = i
            · rw [d]; exact z
            · exact i2 j h0 (by omega)
          · have e : (wd cur (L.at_1 + (p + i)) != 0) = true := by simpa using z
            rw [e, cond_true]
            exact .inr ⟨_, rfl, (decide_eq_false (fun f => z (f.free i i0 c))).symm⟩
        · rw [decide_eq_false c, cond_false]
          exact .inr ⟨_, rfl, (decide_eq_true ⟨a, fun j h0 h1 => i2 j h0 (by omega)⟩).symm⟩) 0 ⟨by omega, by omega, fun j h0 h1 => by omega⟩
    exact h1
  · rw [decide_eq_false a, Bool.not_false, cond_true, decide_eq_false (fun f => a f.span)]
theorem eset_eq (v : VOK L nw cur) {p : Int} (hp : 0 ≤ p ∧ p < L.c.Pages) (k n : Int) : yr nw cur L p k n = some (setP L.at_1 L.c.Pages cur p k n) := by
  unfold yr
  have g := v.lay.geoK; have := v.all
  rw [Kind_eq v.lay, Option.bind_some, Count_eq v.lay, Option.bind_some, Bits_eq v.lay, Option.bind_some]
  unfold lPg
  rw [if_pos hp, if_pos hp, if_pos hp, inR_int (by omega) (by omega), cond_true, inR_int (by omega) (by omega), cond_true, inR_int (by omega) (by omega), cond_true]
  unfold setP wr
  rw [g.2.1, g.2.2.1]
theorem VOK.setP (v : VOK L nw cur) (p k n : Int) : VOK L nw (Go.Rx.setP L.at_1 L.c.Pages cur p k n) := ⟨v.lay, by rw [setP_len]; exact v.len, v.all⟩
def mpd (L : ya) (cur : List Int) (j : Int) : Prop := isB cur L.c.Pages L.at_0 (j / 4) 1 = true
theorem fit1_eq (v : VOK L nw cur) {n step : Int} (hn : 1 ≤ n) (hs : 1 ≤ step ∧ step ≤ 256) : ∃ r, y54 nw cur L n step L = some r ∧
    Least L.c.Pages (Does L.c.Pages step n (fun j => knd L.at_1 L.c.Pages cur j = 0 ∧ mpd L cur j)) r := by
  have hpg := v.lay.pages
  have hst : (!step == 0) = true := by simp; omega
  have hnext : ∀ p i, (1 ≤ n ∧ 0 ≤ p ∧ p < L.c.Pages ∧ n ≤ L.c.Pages - p) → 0 ≤ i → i < n → IntKind.i64.wrap (IntKind.i64.wrap (IntKind.i64.wrap (Int.tdiv (IntKind.i64.wrap (p + i)) step) * step) + step) = (p + i) / step * step + step := fun p i c h0 h1 => by
    have a1 : (p + i) / step * step ≤ p + i := Int.ediv_mul_le _ (by omega)
    have a2 : 0 ≤ (p + i) / step := Int.ediv_nonneg (by omega) (by omega)
    have a3 : (p + i) / step ≤ p + i := Int.ediv_le_self _ (by omega)
    have a4 : 0 ≤ (p + i) / step * step := Int.mul_nonneg a2 (by omega)
    rw [wrap_id (x := p + i) (by omega) (by omega), Int.tdiv_eq_ediv_of_nonneg (by omega), wrap_id (x := (p + i) / step) (by omega) (by omega), wrap_id (x := (p + i) / step * step) (by omega) (by omega), wrap_id (by omega) (by omega)]
  refine fit_gen (fun p => y5k nw cur L n step L p) (fun p i => y5j nw cur L step L p i) hn hs hpg (fun p c => ?_) (fun p p0 p1 c => ?_) (fun p i c h0 h1 hk => ?_) (fun p i c h0 h1 hk => ?_) (fun p i h0 => ?_)
  · simp only [y5k, eall_eq v.lay, Option.bind_some, decide_eq_true c, cond_true]
    rw [wrap_id (by omega) (by omega)]; rfl
  · simp only [y5k, eall_eq v.lay, Option.bind_some, decide_eq_false c, cond_false]
  · simp only [y5j]
    have hm := hk.2
    unfold mpd at hm
    rw [decide_eq_true (show i ≥ 0 from h0), cond_true, wrap_id (x := p + i) (by omega) (by omega), eKind_eq v, Option.bind_some, hk.1]
    unfold y08
    rw [cOf_eq (by omega), Option.bind_some, Mapped_eq v, Option.bind_some, Option.bind_some]
    unfold chunkI
    rw [decide_eq_false (show ¬ p + i < 0 by omega), cond_false, hm, show ((0 : Int) != 0) = false from rfl, cond_false, Bool.not_true, cond_false, wrap_id (x := i - 1) (by omega) (by omega)]
  · simp only [y5j, hnext p i c h0 h1, hst, cond_true]
    rw [decide_eq_true (show i ≥ 0 from h0), cond_true, wrap_id (x := p + i) (by omega) (by omega), eKind_eq v, Option.bind_some]
    by_cases z : knd L.at_1 L.c.Pages cur (p + i) = 0
    · have e : (knd L.at_1 L.c.Pages cur (p + i) != 0) = false := by rw [z]; rfl
      rw [e, cond_false]
      unfold y08
      rw [cOf_eq (by omega), Option.bind_some, Mapped_eq v, Option.bind_some, Option.bind_some]
      unfold chunkI
      rw [decide_eq_false (show ¬ p + i < 0 by omega), cond_false]
      have hm : isB cur L.c.Pages L.at_0 ((p + i) / 4) 1 = false := by
        cases hb : isB cur L.c.Pages L.at_0 ((p + i) / 4) 1 with
        | false => rfl
        | true => exact (hk ⟨z, hb⟩).elim
      rw [hm]; rfl
    · have e : (knd L.at_1 L.c.Pages cur (p + i) != 0) = true := by simpa using z
      rw [e, cond_true]
  · simp only [y5j, decide_eq_false (show ¬ i ≥ 0 by omega), cond_false]
theorem fit2_eq (v : VOK L nw cur) {n step : Int} (hn : 1 ≤ n) (hs : 1 ≤ step ∧ step ≤ 256) : ∃ r, y4r nw cur L n step = some r ∧
    Least L.c.Pages (Does L.c.Pages step n (fun j => knd L.at_1 L.c.Pages cur j = 0)) r := by
  have hpg := v.lay.pages
  have hst : (!step == 0) = true := by simp; omega
  have hnext : ∀ p i, (1 ≤ n ∧ 0 ≤ p ∧ p < L.c.Pages ∧ n ≤ L.c.Pages - p) → 0 ≤ i → i < n → IntKind.i64.wrap (IntKind.i64.wrap (IntKind.i64.wrap (Int.tdiv (IntKind.i64.wrap (p + i)) step) * step) + step) = (p + i) / step * step + step := fun p i c h0 h1 => by
    have a1 : (p + i) / step * step ≤ p + i := Int.ediv_mul_le _ (by omega)
    have a2 : 0 ≤ (p + i) / step := Int.ediv_nonneg (by omega) (by omega)
    have a3 : (p + i) / step ≤ p + i := Int.ediv_le_self _ (by omega)
    have a4 : 0 ≤ (p + i) / step * step := Int.mul_nonneg a2 (by omega)
    rw [wrap_id (x := p + i) (by omega) (by omega), Int.tdiv_eq_ediv_of_nonneg (by omega), wrap_id (x := (p + i) / step) (by omega) (by omega), wrap_id (x := (p + i) / step * step) (by omega) (by omega), wrap_id (by omega) (by omega)]
  refine fit_gen (fun p => y5l nw cur L n step p) (fun p i => y5f nw cur L step p i) hn hs hpg (fun p c => ?_) (fun p p0 p1 c => ?_) (fun p i c h0 h1 hk => ?_) (fun p i c h0 h1 hk => ?_) (fun p i h0 => ?_)
  · simp only [y5l, eall_eq v.lay, Option.bind_some, decide_eq_true c, cond_true]
    rw [wrap_id (by omega) (by omega)]; rfl
  · simp only [y5l, eall_eq v.lay, Option.bind_some, decide_eq_false c, cond_false]
  · simp only [y5f]
    rw [decide_eq_true (show i ≥ 0 from h0), cond_true, wrap_id (x := p + i) (by omega) (by omega), eKind_eq v, Option.bind_some, hk]
    unfold y0b
    rw [Option.bind_some, show ((0 : Int) != 0) = false from rfl, cond_false, Bool.not_true, cond_false, wrap_id (x := i - 1) (by omega) (by omega)]
  · simp only [y5f, hnext p i c h0 h1, hst, cond_true]
    rw [decide_eq_true (show i ≥ 0 from h0), cond_true, wrap_id (x := p + i) (by omega) (by omega), eKind_eq v, Option.bind_some]
    have e : (knd L.at_1 L.c.Pages cur (p + i) != 0) = true := by simpa using hk
    rw [e, cond_true]
  · simp only [y5f, decide_eq_false (show ¬ i ≥ 0 by omega), cond_false]
def FindR (L : ya) (cur : List Int) (n step r : Int) : Prop :=
  if 1 ≤ n ∧ 1 ≤ step then Found L.c.Pages step n (fun j => knd L.at_1 L.c.Pages cur j = 0) (mpd L cur) r else r = -1
theorem FindR.uniq {n step r r' : Int} (h : FindR L cur n step r) (h' : FindR L cur n step r') : r = r' := by
  unfold FindR at h h'
  split at h
  · rename_i c; rw [if_pos c] at h'; exact h.uniq h'
  · rename_i c; rw [if_neg c] at h'; rw [h, h']
theorem does_free {p n step : Int} {kb pg : Int} {w : List Int} : Does pg step n (fun j => knd kb pg w j = 0) p ↔ p % step = 0 ∧ FreeR kb pg w p n := by
  constructor
  · intro d
    refine ⟨d.mul, d.span, fun i h0 h1 => ?_⟩
    have := d.all (p + i) (by omega) (by omega)
    have hs := d.span
    rw [knd_in (by omega)] at this; exact this
  · rintro ⟨m, f⟩
    refine ⟨m, f.span, fun j h0 h1 => ?_⟩
    have := f.free (j - p) (by omega) (by omega)
    have hs := f.span
    rw [knd_in (by omega)]
    rw [show p + (j - p) = j by omega] at this; exact this
theorem eFind_eq (v : VOK L nw cur) (n step : Int) : ∃ r, y46 nw cur L n step = some r ∧ FindR L cur n step r := by
  have hpg := v.lay.pages
  unfold y46 FindR
  by_cases a : n < 1
  · rw [decide_eq_true a, cond_true, decide_eq_false (show ¬ n ≥ 1 by omega), cond_false]
    exact ⟨_, rfl, by rw [if_neg (by omega)]⟩
  rw [decide_eq_false a, cond_false]
  by_cases b : step < 1
  · rw [decide_eq_true b, cond_true, decide_eq_true (show n ≥ 1 by omega), cond_true, decide_eq_false (show ¬ step > 256 by omega), cond_false]
    exact ⟨_, rfl, by rw [if_neg (by omega)]⟩
  rw [decide_eq_false b, cond_false]
  simp only [if_pos (show 1 ≤ n ∧ 1 ≤ step by omega)]
  by_cases c : step > 256
  · rw [decide_eq_true c, cond_true, decide_eq_true (show n ≥ 1 by omega), cond_true, cond_true, eopen_eq v, Option.bind_some]
    have only : ∀ {ok : Int → Prop} {q : Int}, Does L.c.Pages step n ok q → q = 0 := fun {ok q} d => by
      have hs := d.span
      have := d.mul
      rw [Int.emod_eq_of_lt (by omega) (by omega)] at this; exact this
    by_cases f : FreeR L.at_1 L.c.Pages cur 0 n
    · rw [decide_eq_true f, cond_true]
      refine ⟨_, rfl, ?_⟩
      have d0 : Does L.c.Pages step n (fun j => knd L.at_1 L.c.Pages cur j = 0) 0 := does_free.2 ⟨by simp, f⟩
      by_cases m : Does L.c.Pages step n (fun j => knd L.at_1 L.c.Pages cur j = 0 ∧ mpd L cur j) 0
      · exact .inl ⟨by omega, fit_hit m (fun q h0 h1 => by omega)⟩
      · refine .inr ⟨.inl ⟨rfl, fun q h0 h1 d => ?_⟩, fit_hit d0 (fun q h0 h1 => by omega)⟩
        have e := only d
        subst e
        exact m d
    · rw [decide_eq_false f, cond_false]
      refine ⟨_, rfl, .inr ⟨.inl ⟨rfl, fun q h0 h1 d => ?_⟩, .inl ⟨rfl, fun q h0 h1 d => ?_⟩⟩⟩
      · have e := only d
        subst e
        exact f (does_free.1 (d.mono (fun j _ _ h => h.1))).2
      · have e := only d
        subst e
        exact f (does_free.1 d).2
  · rw [decide_eq_false c, cond_false]
    obtain ⟨r, h1, h2⟩ := fit1_eq v (n := n) (step := step) (by omega) (by omega)
    obtain ⟨r2, k1, k2⟩ := fit2_eq v (n := n) (step := step) (by omega) (by omega)
    rw [h1, Option.bind_some]
    by_cases e : r = -1
    · have e1 : (r != -1) = false := by rw [e]; rfl
      rw [e1, cond_false, k1, Option.bind_some]
      subst e
      exact ⟨_, rfl, .inr ⟨h2, k2⟩⟩
    · have e1 : (r != -1) = true := by simpa using e
      rw [e1, cond_true]
      refine ⟨_, rfl, .inl ⟨?_, h2⟩⟩
      rcases h2 with ⟨h, _⟩ | ⟨h, _⟩
      · exact (e h).elim
      · exact h
end
end Go.Rx
end

section
namespace Go.Rx
open Go.Proofs
theorem Ran.len' {kb pg : Int} {w u : List Int} {p n k : Int} (r : Ran kb pg w u p n k) : u.length = w.length := r.len
theorem ens_off {cur : List Int} {pg tb p n : Int} (htb : 0 ≤ tb) {b : Int} (hb : tb + (pg + 3) / 4 ≤ b) : wd (ensM cur pg tb p n).2 b = wd cur b := by
  have h := ens_out (cur := cur) (pg := pg) (tb := tb) (a := p / 4) (j := b.toNat) htb (.inr (by omega)) (ensK pg p n)
  unfold ensM wd; rw [List.getD, List.getD, h]
section
variable {L : ya} {nw : Nat} {cur : List Int}
structure TakeW (L : ya) (cur u : List Int) (p n k : Int) : Prop where
  ran : Ran L.at_1 L.c.Pages (setP L.at_1 L.c.Pages (ensM cur L.c.Pages L.at_0 p n).2 p k (if k = 6 then n else 0)) u (p + 1) (n - 1) 7
theorem TakeW.len {L : ya} {cur u : List Int} {p n k : Int} (t : TakeW L cur u p n k) : u.length = cur.length := by
  rw [t.ran.len, setP_len]; unfold ensM; rw [ensG_len]
theorem take_loop (v : VOK L nw cur) {p n : Int} (hs : 1 ≤ n ∧ 0 ≤ p ∧ p < L.c.Pages ∧ n ≤ L.c.Pages - p) : ∃ u, y5a nw L p n (1, cur) = some (true, u) ∧ Ran L.at_1 L.c.Pages cur u (p + 1) (n - 1) 7 := by
  have hpg := v.lay.pages
  have g := v.geoK
  obtain ⟨r, h1, u, rfl, h2⟩ := loopO_ind (step := fun s : Int × List Int => y68 nw L p n s.1 s.2)
    (I := fun s => 1 ≤ s.1 ∧ s.1 ≤ n ∧ Ran L.at_1 L.c.Pages cur s.2 (p + 1) (s.1 - 1) 7) (μ := fun s => (n - s.1).toNat) (fun r => ∃ u, r = (true, u) ∧ Ran L.at_1 L.c.Pages cur u (p + 1) (n - 1) 7) (by
      rintro ⟨i, u⟩ ⟨i1, i2, i3⟩
      simp only at i1 i2 i3 ⊢
      simp only [y68]
      by_cases c : i < n
      · have vu : VOK L nw u := ⟨v.lay, by rw [i3.len]; exact v.len, v.all⟩
        rw [decide_eq_true c, cond_true, wrap_id (x := p + i) (by omega) (by omega), eset_eq vu (by omega), Option.bind_some, wrap_id (by omega) (by omega)]
        have st := i3.step g (by omega) (by omega) (by omega)
        rw [show p + 1 + (i - 1) = p + i by omega, show i - 1 + 1 = i + 1 - 1 by omega] at st
        exact .inl ⟨_, rfl, ⟨by simp only; omega, by simp only; omega, st⟩, by simp only; omega⟩
      · have e : i = n := by omega
        subst e
        rw [decide_eq_false c, cond_false]
        exact .inr ⟨_, rfl, _, rfl, i3⟩) (1, cur) ⟨by omega, by omega, by simpa using Ran.zero _ _ _ _ _⟩
  exact ⟨u, h1, h2⟩
def MayTake (L : ya) (cur : List Int) (p n k : Int) : Prop := (1 ≤ k ∧ k ≤ 6) ∧ (k < 6 → n = 1) ∧ FreeR L.at_1 L.c.Pages cur p n
instance (L : ya) (cur : List Int) (p n k : Int) : Decidable (MayTake L cur p n k) :=
  decidable_of_iff ((1 ≤ k ∧ k ≤ 6) ∧ (k < 6 → n = 1) ∧ FreeR L.at_1 L.c.Pages cur p n) Iff.rfl
theorem eTake_yes (v : VOK L nw cur) {p n k : Int} (h : MayTake L cur p n k) (hp : I64 p) : ∃ u, y3i nw cur L p n k = some (true, u) ∧ TakeW L cur u p n k := by
  obtain ⟨⟨k1, k2⟩, k3, f⟩ := h
  have hs := f.span
  have ve := v.ens p n
  have core : ((y07 nw cur L p n).bind fun y4 => (bif (!y4) then some (((Bool.false), (cur))) else ((y0o nw cur L p n).bind fun y5 => (bif (k == 6) then ((yr nw (Prod.snd y5) L p k n).bind fun y6 => (y5a nw L p n ((1), (y6)))) else ((yr nw (Prod.snd y5) L p k 0).bind fun y7 => (y5a nw L p n ((1), (y7)))))))) = y5a nw L p n (1, setP L.at_1 L.c.Pages (ensM cur L.c.Pages L.at_0 p n).2 p k (if k = 6 then n else 0)) := by
    rw [eopen_eq v, Option.bind_some, decide_eq_true f, Bool.not_true, cond_false, Ensure_eq v hp, Option.bind_some, eset_eq ve (by omega), eset_eq ve (by omega), Option.bind_some, Option.bind_some]
    by_cases e : k = 6
    · have e1 : (k == 6) = true := by rw [e]; rfl
      rw [e1, cond_true, if_pos e]
    · have e1 : (k == 6) = false := by simpa using e
      rw [e1, cond_false, if_neg e]
  unfold y3i
  rw [decide_eq_false (show ¬ k < 1 by omega), cond_false, decide_eq_false (show ¬ k > 6 by omega), cond_false]
  obtain ⟨u, h1, h2⟩ := take_loop (ve.setP p k (if k = 6 then n else 0)) hs
  refine ⟨u, ?_, ⟨h2⟩⟩
  by_cases c : k < 6
  · have e : (n != 1) = false := by rw [k3 c]; rfl
    rw [decide_eq_true c, cond_true, e, cond_false, core, h1]
  · rw [decide_eq_false c, cond_false, core, h1]
theorem eTake_no (v : VOK L nw cur) {p n k : Int} (h : ¬ MayTake L cur p n k) : y3i nw cur L p n k = some (false, cur) := by
  unfold y3i
  by_cases k1 : k < 1
  · rw [decide_eq_true k1]; rfl
  rw [decide_eq_false k1, cond_false]
  by_cases k2 : k > 6
  · rw [decide_eq_true k2]; rfl
  rw [decide_eq_false k2, cond_false, eopen_eq v, Option.bind_some]
  by_cases c : k < 6
  · rw [decide_eq_true c, cond_true]
    by_cases e : n = 1
    · have e1 : (n != 1) = false := by rw [e]; rfl
      rw [e1, cond_false, decide_eq_false (fun f => h ⟨by omega, fun _ => e, f⟩)]; rfl
    · have e1 : (n != 1) = true := by simpa using e
      rw [e1]; rfl
  · rw [decide_eq_false c, cond_false, decide_eq_false (fun f => h ⟨by omega, fun x => (c x).elim, f⟩)]; rfl
theorem length_eq (v : VOK L nw cur) {p : Int} (hp : 0 ≤ p ∧ p < L.c.Pages) : ∃ n, y1o nw cur L p = some n ∧ RunLen L.at_1 L.c.Pages cur p n := by
  have hpg := v.lay.pages
  unfold y1o
  rw [eKind_eq v, Option.bind_some]
  by_cases c : knd L.at_1 L.c.Pages cur p = 6
  · have e : (knd L.at_1 L.c.Pages cur p == 6) = true := by rw [c]; rfl
    rw [e, cond_true]
    exact loopO_ind (step := fun s : Int => y64 nw cur L p s) (I := fun n => 1 ≤ n ∧ p + n ≤ L.c.Pages ∧ ∀ i, 1 ≤ i → i < n → knd L.at_1 L.c.Pages cur (p + i) = 7) (μ := fun n => (L.c.Pages - n).toNat)
      (fun n => RunLen L.at_1 L.c.Pages cur p n) (by
        rintro n ⟨i1, i2, i3⟩
        simp only [y64]
        rw [wrap_id (x := p + n) (by omega) (by omega), eKind_eq v, Option.bind_some]
        by_cases d : knd L.at_1 L.c.Pages cur (p + n) = 7
        · have e : (knd L.at_1 L.c.Pages cur (p + n) == 7) = true := by rw [d]; rfl
          have hin : p + n < L.c.Pages := by
            by_cases h : p + n < L.c.Pages
            · exact h
            · rw [knd_out (by omega)] at d; omega
          rw [e, cond_true, wrap_id (by omega) (by omega)]
          refine .inl ⟨_, rfl, ⟨by omega, by omega, fun i a b => ?_⟩, by omega⟩
          by_cases f : i = n
          · rw [f]; exact d
          · exact i3 i a (by omega)
        · have e : (knd L.at_1 L.c.Pages cur (p + n) == 7) = false := by simpa using d
          rw [e, cond_false]
          exact .inr ⟨_, rfl, ⟨i1, i2, i3, fun _ => d, fun h => (h c).elim⟩⟩) 1 ⟨by omega, by omega, fun i a b => by omega⟩
  · have e : (knd L.at_1 L.c.Pages cur p == 6) = false := by simpa using c
    rw [e, cond_false]
    exact ⟨1, rfl, ⟨by omega, by omega, fun i a b => by omega, fun h => (c h).elim, fun _ => rfl⟩⟩
theorem drop_loop (v : VOK L nw cur) {p n : Int} (hs : 1 ≤ n ∧ 0 ≤ p ∧ p + n ≤ L.c.Pages) : ∃ u, y9b nw L p n n (0, cur) = some (n, u) ∧ Ran L.at_1 L.c.Pages cur u p n 0 := by
  have hpg := v.lay.pages
  have g := v.geoK
  obtain ⟨r, h1, u, rfl, h2⟩ := loopO_ind (step := fun s : Int × List Int => y60 nw L p n n s.1 s.2)
    (I := fun s => 0 ≤ s.1 ∧ s.1 ≤ n ∧ Ran L.at_1 L.c.Pages cur s.2 p s.1 0) (μ := fun s => (n - s.1).toNat) (fun r => ∃ u, r = (n, u) ∧ Ran L.at_1 L.c.Pages cur u p n 0) (by
      rintro ⟨i, u⟩ ⟨i1, i2, i3⟩
      simp only at i1 i2 i3 ⊢
      simp only [y60]
      by_cases c : i < n
      · have vu : VOK L nw u := ⟨v.lay, by rw [i3.len]; exact v.len, v.all⟩
        rw [decide_eq_true c, cond_true, wrap_id (x := p + i) (by omega) (by omega), eset_eq vu (by omega), Option.bind_some, wrap_id (by omega) (by omega)]
        exact .inl ⟨_, rfl, ⟨by simp only; omega, by simp only; omega, i3.step g (by omega) (by omega) (by omega)⟩, by simp only; omega⟩
      · have e : i = n := by omega
        subst e
        rw [decide_eq_false c, cond_false]
        exact .inr ⟨_, rfl, _, rfl, i3⟩) (0, cur) ⟨by omega, by omega, Ran.zero _ _ _ _ _⟩
  exact ⟨u, h1, h2⟩
theorem eDrop_eq (v : VOK L nw cur) (p : Int) : ∃ n u, y49 nw cur L p = some (n, u) ∧
    ((1 ≤ knd L.at_1 L.c.Pages cur p ∧ knd L.at_1 L.c.Pages cur p ≤ 6 ∧ RunLen L.at_1 L.c.Pages cur p n ∧ Ran L.at_1 L.c.Pages cur u p n 0) ∨
     (¬ (1 ≤ knd L.at_1 L.c.Pages cur p ∧ knd L.at_1 L.c.Pages cur p ≤ 6) ∧ n = 0 ∧ u = cur)) := by
  unfold y49
  rw [eKind_eq v, Option.bind_some]
  by_cases a : knd L.at_1 L.c.Pages cur p ≤ 0
  · rw [decide_eq_true a, cond_true]
    exact ⟨_, _, rfl, .inr ⟨by omega, rfl, rfl⟩⟩
  rw [decide_eq_false a, cond_false]
  by_cases b : knd L.at_1 L.c.Pages cur p ≥ 7
  · rw [decide_eq_true b, cond_true]
    exact ⟨_, _, rfl, .inr ⟨by omega, rfl, rfl⟩⟩
  rw [decide_eq_false b, cond_false]
  have hp : 0 ≤ p ∧ p < L.c.Pages := by
    by_cases h : 0 ≤ p ∧ p < L.c.Pages
    · exact h
    · rw [knd_out h] at a; omega
  obtain ⟨n, h1, h2⟩ := length_eq v hp
  obtain ⟨u, h3, h4⟩ := drop_loop v (p := p) (n := n) ⟨h2.pos, hp.1, h2.inn⟩
  rw [h1, Option.bind_some, h3]
  exact ⟨_, _, rfl, .inl ⟨by omega, by omega, h2, h4⟩⟩
structure FirstR (kb pg : Int) (w : List Int) (p r : Int) : Prop where
  le : r ≤ p
  rest : ∀ j, r < j → j ≤ p → knd kb pg w j = 7
  fin : r ≤ 0 ∨ knd kb pg w r ≠ 7
  pos : 0 ≤ p → 0 ≤ r
theorem FirstR.uniq {kb pg : Int} {w : List Int} {p r r' : Int} (hp : 0 ≤ p) (h : FirstR kb pg w p r) (h' : FirstR kb pg w p r') : r = r' := by
  have a1 := h.pos hp; have a2 := h'.pos hp; have a3 := h.le; have a4 := h'.le
  by_cases c : r < r'
  · have := h.rest r' c a4
    rcases h'.fin with f | f
    · omega
    · exact (f this).elim
  · by_cases d : r' < r
    · have := h'.rest r d a3
      rcases h.fin with f | f
      · omega
      · exact (f this).elim
    · omega
theorem FreeR.congr {kb pg : Int} {w u : List Int} {p n : Int} (h : ∀ q, 0 ≤ q → q < pg → wd u (kb + q) = wd w (kb + q)) : FreeR kb pg u p n ↔ FreeR kb pg w p n := by
  constructor
  · intro f
    have hs := f.span
    refine ⟨hs, fun i a b => ?_⟩
    rw [← h (p + i) (by omega) (by omega)]; exact f.free i a b
  · intro f
    have hs := f.span
    refine ⟨hs, fun i a b => ?_⟩
    rw [h (p + i) (by omega) (by omega)]; exact f.free i a b
end
end Go.Rx
end
