/- What the row's text of this claim stands on, part 4: the symbolic executor, contracts of the program's functions, plain facts. No condition. -/
import Derived.Test.YtomfeogahjiehaaK20aC
section
namespace Go.Rx
open Go.Proofs
set_option maxRecDepth 100000
set_option maxHeartbeats 4000000
def y3s (m_ : yb → (List (List Int)) → Option (Bool)) (args : List V) (H : Heap) (K : V → Heap → Prop) : Prop :=
  aC args fun a0 r => aC r fun a1 r => aN r <| aAgg a0 fun c0 => y1t c0 fun c => aRow 0 a1 <| aC H fun b0 r => aN r <| bRow 19 true b0 fun (acts : List (List Int)) => So (m_ c acts) fun x => K (vb (x)) [.row 19 acts true]
def ya0 (m_ : yb → (List (List Int)) → Option (Bool)) : Spec := ⟨y3s m_, (true : Bool)⟩
noncomputable def y1n (y0j : Option (Bool)) (y0m : yb → (List (List Int)) → Option (yc × Bool × yc × (List Int) × (List (List Int)))) (y0s : Option ((List Pr))) (y0l : yc → (List Int) → (List (List Int)) → Option ((List Pr))) (yj : Y0) (yr : Y4) (yn : Int → yc → (List Int) → (List (List Int)) → Option (Int × Int × Bool)) (yq : Y0) : Cfg := { cfgB with
  sigs := (sigC 8 (y7c y0j) (sigC 22 (y7q y0m) (sigC 17 (altNil (y75 y0l) (y6u y0s)) (sigC 23 (y13 yj) (sigC 21 (altNil (y2c yn) (y2d yr)) (sigC 24 (y2r yq) sigN)))))),
  keep := fun r => match r with | 9 => some [(5, none), (6, none), (8, some 2), (9, none), (10, none)] | _ => none }
theorem y9l (y0j : Option (Bool)) (y0m : yb → (List (List Int)) → Option (yc × Bool × yc × (List Int) × (List (List Int)))) (y0s : Option ((List Pr))) (y0l : yc → (List Int) → (List (List Int)) → Option ((List Pr))) (yj : Y0) (yr : Y4) (yn : Int → yc → (List Int) → (List (List Int)) → Option (Int × Int × Bool)) (yq : Y0) (c : yb) (acts : List (List Int)) (endv : Int) (iv : Int) (c2 : Int) (c3 : Int) (c4 : Int) (c5 : Int) (c6 : Int) (c7 : Int) (c8 : Int) (c9 : Int) (c10 : Int) (c11 : Int) (c12 : Int) (c13 : Int) (c14 : Int) (c15 : Int) (c16 : Int) (c17 : Int) (c18 : Int) (c19 : Int) (c20 : Int) (c21 : Int) (c22 : Int) (c23 : Int) (c24 : Int) (c25 : yc) (w : List Go.Rx.Pr) (w2 : List Int) (w3 : List (List Int)) (K : V → Heap → Prop) (J1 : Env → Heap → Prop) : (ex (y1n y0j y0m y0s y0l yj yr yn yq) (⟨104, 1⟩ : Cx) (at_ (bodyOf Try.f4) [1, 1, 1, 1, 1, 1, 0, 1, 0, 0]) (mkEnv [(5, .ptr 1 0), (6, .ptr 2 0), (8, .row 3), (9, vi (endv)), (10, vi (iv))]) [.row 19 (acts : List (List Int)) Bool.true, .cells 0 [vi (c2), vi (c3), vi (c4), vi (c5), vi (c6), vi (c7), vi (c8), vi (c9), vi (c10), vi (c11), vi (c12), vi (c13), vi (c14), vi (c15), vi (c16), vi (c17), vi (c18), vi (c19), vi (c20), vi (c21), vi (c22), vi (c23), vi (c24), .ptr 4 0, .row 5], .cells 63 (yi c25), .row 2 (w : List (Go.Rx.Pr)) Bool.false, .cells 0 [.row 6], .row 0 (w2 : List (Int)) Bool.false, .row 70 (w3 : List (List Int)) Bool.false] (roundK (y1n y0j y0m y0s y0l yj yr yn yq) (⟨104, 1⟩ : Cx) (at_ (bodyOf Try.f4) [1, 1, 1, 1, 1, 1, 0, 1, 0, 0]) (contK (y1n y0j y0m y0s y0l yj yr yn yq) (⟨104, 1⟩ : Cx) (bodyOf Try.f4) [1, 1, 1, 1, 1, 1, 0, 1, 0] (retK (y1n y0j y0m y0s y0l yj yr yn yq) Try.f4 1 K)) J1)) = (
    br (Decidable.decide (iv < (↑(List.length w) : Int))) (Req (inR iv (List.length w)) (Req (inR (offs iv 0) (List.length w)) (So (yn (Pr.Addr (List.getD w (Int.toNat (offs iv 0)) (Pr.mk 0 0))) (yc.mk (yb.mk c2 c3 c4 c5 c6 c7 c8 c9 c10 c11 c12) c13 c14 c15 c16 c17 c18 c19 c20 c21 c22 c23 c24) w2 w3) (fun (y0 : Int × Int × Bool) => (br (!Prod.snd (Prod.snd y0)) (K (vb (Bool.false)) [.row 19 (acts : List (List Int)) Bool.true]) (Req (inR iv (List.length w)) (Req (inR (offs iv 0) (List.length w)) (br (Prod.fst y0 != Pr.Addr (List.getD w (Int.toNat (offs iv 0)) (Pr.mk 0 0))) (K (vb (Bool.false)) [.row 19 (acts : List (List Int)) Bool.true]) (Req (inR iv (List.length w)) (Req (inR (offs iv 0) (List.length w)) (br (Decidable.decide (Prod.fst (Prod.snd y0) < if Pr.Val (List.getD w (Int.toNat (offs iv (0 : Nat))) (Pr.mk (0 : Int) (0 : Int))) > (1 : Int) then Pr.Val (List.getD w (Int.toNat (offs iv (0 : Nat))) (Pr.mk (0 : Int) (0 : Int))) else (1 : Int))) (K (vb (Bool.false)) [.row 19 (acts : List (List Int)) Bool.true]) (br (Decidable.decide (Prod.fst y0 < endv)) (K (vb (Bool.false)) [.row 19 (acts : List (List Int)) Bool.true]) (So (yq c25) (fun (y1 : Int) => (br (Decidable.decide (Prod.fst (Prod.snd y0) > IntKind.wrap IntKind.i64 (y1 - Prod.fst y0))) (K (vb (Bool.false)) [.row 19 (acts : List (List Int)) Bool.true]) (So (yn (IntKind.wrap IntKind.i64 (IntKind.wrap IntKind.i64 (Prod.fst y0 + Prod.fst (Prod.snd y0)) - 1)) (yc.mk (yb.mk c2 c3 c4 c5 c6 c7 c8 c9 c10 c11 c12) c13 c14 c15 c16 c17 c18 c19 c20 c21 c22 c23 c24) w2 w3) (fun (y2 : Int × Int × Bool) => (br (!Prod.snd (Prod.snd y2)) (K (vb (Bool.false)) [.row 19 (acts : List (List Int)) Bool.true]) (br (Prod.fst y2 != Prod.fst y0) (K (vb (Bool.false)) [.row 19 (acts : List (List Int)) Bool.true]) (J1 (mkEnv [(5, .ptr 1 0), (6, .ptr 2 0), (8, .row 3), (9, vi (IntKind.wrap IntKind.i64 (Prod.fst y0 + Prod.fst (Prod.snd y0)))), (10, vi (IntKind.wrap IntKind.i64 (iv + 1)))]) [.row 19 (acts : List (List Int)) Bool.true, .cells 0 [vi (c2), vi (c3), vi (c4), vi (c5), vi (c6), vi (c7), vi (c8), vi (c9), vi (c10), vi (c11), vi (c12), vi (c13), vi (c14), vi (c15), vi (c16), vi (c17), vi (c18), vi (c19), vi (c20), vi (c21), vi (c22), vi (c23), vi (c24), .ptr 4 0, .row 5], .cells 63 (yi c25), .row 2 (w : List (Pr)) Bool.false, .cells 0 [.row 6], .row 0 (w2 : List (Int)) Bool.false, .row 70 (w3 : List (List Int)) Bool.false])))))))))))))))))))) (So (y0j) (fun (y3 : Bool) => (K (vb (y3)) [.row 19 (acts : List (List Int)) Bool.true])))) := by
  kernel_rfl
theorem y98 (y0j : Option (Bool)) (y0m : yb → (List (List Int)) → Option (yc × Bool × yc × (List Int) × (List (List Int)))) (y0s : Option ((List Pr))) (y0l : yc → (List Int) → (List (List Int)) → Option ((List Pr))) (yj : Y0) (yr : Y4) (yn : Int → yc → (List Int) → (List (List Int)) → Option (Int × Int × Bool)) (yq : Y0) (c : yb) (acts : List (List Int)) (K : V → Heap → Prop) : (exF (y1n y0j y0m y0s y0l yj yr yn yq) Try.f4 [.agg (y19 c), .row 0] [.row 19 acts true] K) = (
    br (Decidable.decide ((↑(List.length acts) : Int) > 60)) (So (y0j) (fun (y0 : Bool) => (K (vb (y0)) [.row 19 (acts : List (List Int)) Bool.true]))) (So (y0m c acts) (fun (y1 : yc × Bool × yc × List Int × List (List Int)) => (br (!Prod.fst (Prod.snd y1)) (K (vb (Bool.false)) [.row 19 (acts : List (List Int)) Bool.true]) (So (y0l (Prod.fst (Prod.snd (Prod.snd y1))) (Prod.fst (Prod.snd (Prod.snd (Prod.snd y1)))) (Prod.snd (Prod.snd (Prod.snd (Prod.snd y1))))) (fun (y2 : List Pr) => (So (yj (Prod.fst y1)) (fun (y3 : Int) => (Loop (y1n y0j y0m y0s y0l yj yr yn yq) (⟨104, 1⟩ : Cx) (at_ (bodyOf Try.f4) [1, 1, 1, 1, 1, 1, 0, 1, 0, 0]) (mkEnv [(5, .ptr 1 0), (6, .ptr 2 0), (8, .row 3), (9, vi (y3)), (10, vi (0))]) [.row 19 (acts : List (List Int)) Bool.true, .cells 0 (yi (Prod.fst (Prod.snd (Prod.snd y1))) ++ [.ptr 4 0, .row 5]), .cells 63 (yi (Prod.fst y1)), .row 2 (y2 : List (Pr)) Bool.false, .cells 0 [.row 6], .row 0 (Prod.fst (Prod.snd (Prod.snd (Prod.snd y1))) : List (Int)) Bool.false, .row 70 (Prod.snd (Prod.snd (Prod.snd (Prod.snd y1))) : List (List Int)) Bool.false] (contK (y1n y0j y0m y0s y0l yj yr yn yq) (⟨104, 1⟩ : Cx) (bodyOf Try.f4) [1, 1, 1, 1, 1, 1, 0, 1, 0] (retK (y1n y0j y0m y0s y0l yj yr yn yq) Try.f4 1 K))))))))))) := by
  kernel_rfl
noncomputable def y28 (c2 : Int) (c3 : Int) (c4 : Int) (c5 : Int) (c6 : Int) (c7 : Int) (c8 : Int) (c9 : Int) (c10 : Int) (c11 : Int) (c12 : Int) (c13 : Int) (c14 : Int) (c15 : Int) (c16 : Int) (c17 : Int) (c18 : Int) (c19 : Int) (c20 : Int) (c21 : Int) (c22 : Int) (c23 : Int) (c24 : Int) (c25 : yc) (w : List Go.Rx.Pr) (w2 : List Int) (w3 : List (List Int)) (endv : Int) (iv : Int) : Option ((Int × Int) ⊕ (Bool)) :=
  (bif (Decidable.decide (iv < (↑(List.length w) : Int))) then (bif (inR iv (List.length w)) then (bif (inR (offs iv 0) (List.length w)) then ((yn (Pr.Addr (List.getD w (Int.toNat (offs iv 0)) (Pr.mk 0 0))) (yc.mk (yb.mk c2 c3 c4 c5 c6 c7 c8 c9 c10 c11 c12) c13 c14 c15 c16 c17 c18 c19 c20 c21 c22 c23 c24) w2 w3).bind fun y0 => (bif (!Prod.snd (Prod.snd y0)) then some (.inr ((Bool.false))) else (bif (inR iv (List.length w)) then (bif (inR (offs iv 0) (List.length w)) then (bif (Prod.fst y0 != Pr.Addr (List.getD w (Int.toNat (offs iv 0)) (Pr.mk 0 0))) then some (.inr ((Bool.false))) else (bif (inR iv (List.length w)) then (bif (inR (offs iv 0) (List.length w)) then (bif (Decidable.decide (Prod.fst (Prod.snd y0) < if Pr.Val (List.getD w (Int.toNat (offs iv (0 : Nat))) (Pr.mk (0 : Int) (0 : Int))) > (1 : Int) then Pr.Val (List.getD w (Int.toNat (offs iv (0 : Nat))) (Pr.mk (0 : Int) (0 : Int))) else (1 : Int))) then some (.inr ((Bool.false))) else (bif (Decidable.decide (Prod.fst y0 < endv)) then some (.inr ((Bool.false))) else ((yq c25).bind fun y1 => (bif (Decidable.decide (Prod.fst (Prod.snd y0) > IntKind.wrap IntKind.i64 (y1 - Prod.fst y0))) then some (.inr ((Bool.false))) else ((yn (IntKind.wrap IntKind.i64 (IntKind.wrap IntKind.i64 (Prod.fst y0 + Prod.fst (Prod.snd y0)) - 1)) (yc.mk (yb.mk c2 c3 c4 c5 c6 c7 c8 c9 c10 c11 c12) c13 c14 c15 c16 c17 c18 c19 c20 c21 c22 c23 c24) w2 w3).bind fun y2 => (bif (!Prod.snd (Prod.snd y2)) then some (.inr ((Bool.false))) else (bif (Prod.fst y2 != Prod.fst y0) then some (.inr ((Bool.false))) else some (.inl ((IntKind.wrap IntKind.i64 (Prod.fst y0 + Prod.fst (Prod.snd y0))), (IntKind.wrap IntKind.i64 (iv + 1))))))))))) else none) else none)) else none) else none))) else none) else none) else ((y0j).bind fun y3 => some (.inr ((y3)))))
noncomputable def y4e (c2 : Int) (c3 : Int) (c4 : Int) (c5 : Int) (c6 : Int) (c7 : Int) (c8 : Int) (c9 : Int) (c10 : Int) (c11 : Int) (c12 : Int) (c13 : Int) (c14 : Int) (c15 : Int) (c16 : Int) (c17 : Int) (c18 : Int) (c19 : Int) (c20 : Int) (c21 : Int) (c22 : Int) (c23 : Int) (c24 : Int) (c25 : yc) (w : List Go.Rx.Pr) (w2 : List Int) (w3 : List (List Int)) (s : Int × Int) : Option (Bool) :=
  loopO (fun s => y28 c2 c3 c4 c5 c6 c7 c8 c9 c10 c11 c12 c13 c14 c15 c16 c17 c18 c19 c20 c21 c22 c23 c24 c25 w w2 w3 s.1 s.2) s
noncomputable def y23 (c : yb) (acts : List (List Int)) : Option (Bool) :=
  (bif (Decidable.decide ((↑(List.length acts) : Int) > 60)) then ((y0j).bind fun y0 => some ((y0))) else ((y0m c acts).bind fun y1 => (bif (!Prod.fst (Prod.snd y1)) then some ((Bool.false)) else ((y0l (Prod.fst (Prod.snd (Prod.snd y1))) (Prod.fst (Prod.snd (Prod.snd (Prod.snd y1)))) (Prod.snd (Prod.snd (Prod.snd (Prod.snd y1))))).bind fun y2 => ((yj (Prod.fst y1)).bind fun y3 => (y4e (yb.Workers (yc.c (Prod.fst (Prod.snd (Prod.snd y1))))) (yb.CPUs (yc.c (Prod.fst (Prod.snd (Prod.snd y1))))) (yb.Pages (yc.c (Prod.fst (Prod.snd (Prod.snd y1))))) (yb.Stripes (yc.c (Prod.fst (Prod.snd (Prod.snd y1))))) (yb.Tries (yc.c (Prod.fst (Prod.snd (Prod.snd y1))))) (yb.Wait (yc.c (Prod.fst (Prod.snd (Prod.snd y1))))) (yb.Clock (yc.c (Prod.fst (Prod.snd (Prod.snd y1))))) (yb.Private (yc.c (Prod.fst (Prod.snd (Prod.snd y1))))) (yb.Cache (yc.c (Prod.fst (Prod.snd (Prod.snd y1))))) (yb.Bin (yc.c (Prod.fst (Prod.snd (Prod.snd y1))))) (yb.Batch (yc.c (Prod.fst (Prod.snd (Prod.snd y1))))) (yc.at_0 (Prod.fst (Prod.snd (Prod.snd y1)))) (yc.at_1 (Prod.fst (Prod.snd (Prod.snd y1)))) (yc.at_2 (Prod.fst (Prod.snd (Prod.snd y1)))) (yc.at_3 (Prod.fst (Prod.snd (Prod.snd y1)))) (yc.at_4 (Prod.fst (Prod.snd (Prod.snd y1)))) (yc.at_5 (Prod.fst (Prod.snd (Prod.snd y1)))) (yc.at_6 (Prod.fst (Prod.snd (Prod.snd y1)))) (yc.at_7 (Prod.fst (Prod.snd (Prod.snd y1)))) (yc.at_8 (Prod.fst (Prod.snd (Prod.snd y1)))) (yc.at_9 (Prod.fst (Prod.snd (Prod.snd y1)))) (yc.at_10 (Prod.fst (Prod.snd (Prod.snd y1)))) (yc.at_11 (Prod.fst (Prod.snd (Prod.snd y1)))) (Prod.fst y1) (y2) (Prod.fst (Prod.snd (Prod.snd (Prod.snd y1)))) (Prod.snd (Prod.snd (Prod.snd (Prod.snd y1)))) ((y3), (0))))))))
attribute [local irreducible] Loop ex exF contK roundK retK at_ bodyOf mkEnv
theorem lpok_law20_ModelApart_L1 (c : yb) (acts : List (List Int)) (endv : Int) (iv : Int) (c2 : Int) (c3 : Int) (c4 : Int) (c5 : Int) (c6 : Int) (c7 : Int) (c8 : Int) (c9 : Int) (c10 : Int) (c11 : Int) (c12 : Int) (c13 : Int) (c14 : Int) (c15 : Int) (c16 : Int) (c17 : Int) (c18 : Int) (c19 : Int) (c20 : Int) (c21 : Int) (c22 : Int) (c23 : Int) (c24 : Int) (c25 : yc) (w : List Go.Rx.Pr) (w2 : List Int) (w3 : List (List Int)) (K : V → Heap → Prop) : So (y4e (c2) (c3) (c4) (c5) (c6) (c7) (c8) (c9) (c10) (c11) (c12) (c13) (c14) (c15) (c16) (c17) (c18) (c19) (c20) (c21) (c22) (c23) (c24) (c25) (w) (w2) (w3) (endv, iv)) (fun (x : Bool) => K (vb (x)) [.row 19 acts true]) → Loop (y1n y0j y0m y0s y0l yj yr yn yq) (⟨104, 1⟩ : Cx) (at_ (bodyOf Try.f4) [1, 1, 1, 1, 1, 1, 0, 1, 0, 0]) (mkEnv [(5, .ptr 1 0), (6, .ptr 2 0), (8, .row 3), (9, vi (endv)), (10, vi (iv))]) [.row 19 (acts : List (List Int)) Bool.true, .cells 0 [vi (c2), vi (c3), vi (c4), vi (c5), vi (c6), vi (c7), vi (c8), vi (c9), vi (c10), vi (c11), vi (c12), vi (c13), vi (c14), vi (c15), vi (c16), vi (c17), vi (c18), vi (c19), vi (c20), vi (c21), vi (c22), vi (c23), vi (c24), .ptr 4 0, .row 5], .cells 63 (yi c25), .row 2 (w : List (Pr)) Bool.false, .cells 0 [.row 6], .row 0 (w2 : List (Int)) Bool.false, .row 70 (w3 : List (List Int)) Bool.false] (contK (y1n y0j y0m y0s y0l yj yr yn yq) (⟨104, 1⟩ : Cx) (bodyOf Try.f4) [1, 1, 1, 1, 1, 1, 0, 1, 0] (retK (y1n y0j y0m y0s y0l yj yr yn yq) Try.f4 1 K)) := by
  refine loopK_So (fun (s_ : Int × Int) => (mkEnv [(5, .ptr 1 0), (6, .ptr 2 0), (8, .row 3), (9, vi ((s_.1))), (10, vi ((s_.2)))])) (fun (s_ : Int × Int) => [.row 19 (acts : List (List Int)) Bool.true, .cells 0 [vi (c2), vi (c3), vi (c4), vi (c5), vi (c6), vi (c7), vi (c8), vi (c9), vi (c10), vi (c11), vi (c12), vi (c13), vi (c14), vi (c15), vi (c16), vi (c17), vi (c18), vi (c19), vi (c20), vi (c21), vi (c22), vi (c23), vi (c24), .ptr 4 0, .row 5], .cells 63 (yi c25), .row 2 (w : List (Pr)) Bool.false, .cells 0 [.row 6], .row 0 (w2 : List (Int)) Bool.false, .row 70 (w3 : List (List Int)) Bool.false]) (fun (x : Bool) => K (vb (x)) [.row 19 acts true]) ?_ (endv, iv)
  intro s_ J1 h
  clear endv
  clear iv
  obtain ⟨endv, iv⟩ := s_
  refine Eq.mpr (y9l y0j y0m y0s y0l yj yr yn yq c acts endv iv c2 c3 c4 c5 c6 c7 c8 c9 c10 c11 c12 c13 c14 c15 c16 c17 c18 c19 c20 c21 c22 c23 c24 c25 w w2 w3 K J1) ?_
  have h : So (y28 (c2) (c3) (c4) (c5) (c6) (c7) (c8) (c9) (c10) (c11) (c12) (c13) (c14) (c15) (c16) (c17) (c18) (c19) (c20) (c21) (c22) (c23) (c24) (c25) (w) (w2) (w3) endv iv) _ := h
  unfold y28 at h
  revert h
  exact br_So (req_So (req_So (bind_So fun y0 => br_So (fun h => h) (req_So (req_So (br_So (fun h => h) (req_So (req_So (br_So (fun h => h) (br_So (fun h => h) (bind_So fun y1 => br_So (fun h => h) (bind_So fun y2 => br_So (fun h => h) (br_So (fun h => h) (fun h => h)))))))))))))) (bind_So fun y3 => fun h => h)
theorem ya9 : SpecOK Try.prog elTT 4 (ya0 y23) := by
  refine spec_of_exF (cfg := (y1n y0j y0m y0s y0l yj yr yn yq)) (yo rfl rfl rfl) (yk y7w (yk y8m (yk (altNil_ok yaa y7z) (yk y1u (yk (altNil_ok y2o y2f) (yk y54 yp)))))) (fn := Try.f4) (by kernel_rfl) (by kernel_rfl) (by kernel_rfl) ?_
  intro args H K h
  change y3s y23 args H K at h
  unfold y3s at h
  repeat first | (obtain ⟨_, h⟩ := h) | replace h := Des.el h
  subst_vars
  refine Eq.mpr (y98 y0j y0m y0s y0l yj yr yn yq _ _ K) ?_
  unfold y23 at h
  revert h
  exact br_So (bind_So fun y0 => fun h => h) (bind_So fun y1 => br_So (fun h => h) (bind_So fun y2 => bind_So fun y3 => lpok_law20_ModelApart_L1 (by first | assumption | exact default) _ _ _ _ _ _ _ _ _ _ _ _ _ _ _ _ _ _ _ _ _ _ _ _ _ _ (Prod.fst y1) _ _ _ K))
end Go.Rx
end

section
namespace Go.Rx
open Go.Proofs
def endA (u : Int) (A : List (List Int)) : Int := A.foldl (fun _ x => kk x + ww x) u
theorem endA_snoc (u : Int) (A : List (List Int)) (b : List Int) : endA u (A ++ [b]) = kk b + ww b := by simp [endA, List.foldl_append]
theorem endA_le {L : yc} {its A C : List (List Int)} {b : List Int} (h : SOK L its) (e : its = A ++ b :: C) : endA L.at_10 A ≤ kk b := by
  obtain ⟨hb, hA, _⟩ := h.parts e
  rcases List.eq_nil_or_concat A with rfl | ⟨A', y, rfl⟩
  · exact hb.lo
  · rw [List.concat_eq_append, endA_snoc]
    exact hA y (by simp)
theorem ModelApart_main (c : yb) (acts : List (List Int)) (hacts : ∀ e ∈ acts, ActOK e) : y23 c acts = some true := by
  unfold y23
  by_cases hlen : ((acts.length : Nat) : Int) > 60
  · rw [decide_eq_true hlen, cond_true, lives_ok]; rfl
  rw [decide_eq_false hlen, cond_false]
  obtain ⟨d, its, ws, hR, ha, hs, hn, hw⟩ := after_eq c acts (by omega) hacts
  have hL := layC_ok hR
  have hb := hL.big; have h11 := hL.a11; have hpg := hL.pages
  rw [ha, Option.bind_some]
  dsimp only
  rw [Bool.not_true, cond_false, Live_eq (by omega), Option.bind_some, User_eq, Option.bind_some]
  unfold y4e
  have hh := scanS (step := fun s => y28 (layC d).c.Workers (layC d).c.CPUs (layC d).c.Pages (layC d).c.Stripes (layC d).c.Tries (layC d).c.Wait (layC d).c.Clock (layC d).c.Private (layC d).c.Cache (layC d).c.Bin (layC d).c.Batch
        (layC d).at_0 (layC d).at_1 (layC d).at_2 (layC d).at_3 (layC d).at_4 (layC d).at_5 (layC d).at_6 (layC d).at_7 (layC d).at_8 (layC d).at_9 (layC d).at_10 (layC d).at_11 (layC d) (pairs its) ws its s.1 s.2) (l := its) (fun A => (endA (layC d).at_10 A, (A.length : Int))) (fun _ => True) (fun r => r = true)
      (fun A b C e _ => by
        left
        refine ⟨?_, trivial⟩
        have hl : A.length < its.length := by rw [e]; simp
        have hlt : decide ((A.length : Int) < ((pairs its).length : Int)) = true := by rw [pairs_len]; exact decide_eq_true (by omega)
        have hi : inR (A.length : Int) (pairs its).length = true := by rw [pairs_len]; exact inR_nat hl
        have hg : (pairs its).getD A.length ⟨0, 0⟩ = ⟨kk b, aa b⟩ := by
          have ep : pairs its = pairs A ++ ⟨kk b, aa b⟩ :: pairs C := by rw [e]; simp [pairs]
          rw [ep, ← pairs_len A]; exact mid_get _ _ _ _
        have hm : b ∈ its := by rw [e]; simp
        have hB := hs.all b hm
        have b1 := hB.lo; have b2 := hB.hi; have b3 := hB.one; have b4 := hB.ask
        have hend := endA_le hs e
        have hblk : ∀ q : Int, kk b ≤ q → q < kk b + ww b → yn q (layC d) ws its = some (kk b, ww b, true) := fun q h1 h2 => by
          rw [Block_eq hs (by omega) (by omega), blkA_mem hs hm ⟨h1, h2⟩]
        simp only [y28, hlt, cond_true, offs0, hi, Int.toNat_natCast, hg]
        rw [etaL, hblk (kk b) (by omega) (by omega), Option.bind_some]
        simp only [Bool.not_true, cond_false]
        rw [show (kk b != kk b) = false by simp, cond_false, decide_eq_false (show ¬ (ww b < if aa b > 1 then aa b else 1) by split <;> omega), cond_false, decide_eq_false (show ¬ kk b < endA (layC d).at_10 A by omega), cond_false, Words_eq, Option.bind_some, wrap_id (x := (layC d).at_11 - kk b) (by omega) (by omega),
          decide_eq_false (show ¬ (ww b > (layC d).at_11 - kk b) by omega), cond_false, wrap_id (x := kk b + ww b) (by omega) (by omega), wrap_id (x := kk b + ww b - 1) (by omega) (by omega), hblk (kk b + ww b - 1) (by omega) (by omega), Option.bind_some]
        simp only [Bool.not_true, cond_false]
        rw [show (kk b != kk b) = false by simp, cond_false, wrap_succ (by omega), endA_snoc]
        simp)
      (fun _ => ⟨true, by
        simp only [y28]
        rw [decide_eq_false (by rw [pairs_len]; omega), cond_false, lives_ok]; rfl, rfl⟩)
      trivial
  obtain ⟨r, h1, h2⟩ := hh
  have h1 : loopO _ ((layC d).at_10, (0 : Int)) = some r := h1
  rw [h1, h2]
end Go.Rx
end

section
namespace Go.Rx
open Go.Proofs
theorem el_i64 {n : Nat} {e : List Int} (h : elWf (n + 4) e) {i : Nat} (hi : i < n % 32 + 1) : I64 (e.getD i 0) := by
  have h1 := h .i64 (e.getD i 0) (List.mem_map.2 ⟨i, List.mem_range.2 hi, rfl⟩)
  exact bounds_i64 h1
theorem y9g : SpecOK Try.prog elTT 4 (lawS [.el 14, .row 19]) := spec_mono (fun args H K h => by
  obtain ⟨ha, hk⟩ := h
  obtain ⟨e0, _, rfl, hw0, l1, _, _, rfl, rfl, hw1, hn1, rfl, rfl⟩ := ha
  show So (y23 (⟨List.getD (e0 : List Int) 0 0, List.getD (e0 : List Int) 1 0, List.getD (e0 : List Int) 2 0, List.getD (e0 : List Int) 3 0, List.getD (e0 : List Int) 4 0, List.getD (e0 : List Int) 5 0, List.getD (e0 : List Int) 6 0, List.getD (e0 : List Int) 7 0, List.getD (e0 : List Int) 8 0, List.getD (e0 : List Int) 9 0, List.getD (e0 : List Int) 10 0⟩ : yb) l1) _
  exact So_eq (ModelApart_main _ _ (fun a ha i hi => el_i64 (n := 15) (hw1 a ha) hi)) (hk _)) ya9
end Go.Rx
end
