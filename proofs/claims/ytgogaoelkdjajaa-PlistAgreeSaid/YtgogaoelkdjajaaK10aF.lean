/- What the row's text of this claim stands on, part 6: the symbolic executor, contracts of the program's functions, plain facts. No condition. -/
import Derived.WalkKit
import Derived.ProofKit
import Derived.OpenShut
import Derived.Carry
import Derived.Deep.Slices
import Derived.JoinedOf
import Derived.Test.YtgogaoelkdjajaaK10aE
section
/- Contracts. -/
namespace Go.Rx
open Go.Proofs
set_option maxRecDepth 100000
set_option maxHeartbeats 4000000
/-! assart/assartlaw10.lives -/
def tr_law10_lives (m_ : Option (Bool)) (args : List V) (H : Heap) (K : V → Heap → Prop) : Prop :=
  aN args <| aN H <| So (m_ ) fun x => K (vb (x)) []
def sp_law10_lives (m_ : Option (Bool)) : Spec := ⟨tr_law10_lives m_, (true : Bool)⟩

/-! assart/assartlaw10.after -/
def tr_law10_after (m_ : T_api_Config → (List (List Int)) → Option (T_layout_Layout × (List Int) × (List Int) × Bool)) (args : List V) (H : Heap) (K : V → Heap → Prop) : Prop :=
  aC args fun a0 r => aC r fun a1 r => aN r <| aAgg a0 fun c0 => d_api_Config c0 fun c => aRow 0 a1 <| aC H fun b0 r => aN r <| bRow 39 true b0 fun (acts : List (List Int)) => So (m_ c acts) fun x => K (.tup [.agg (e_layout_Layout (x.1)), .row 1, .row 2, vb (x.2.2.2)]) [.row 39 acts true, .row 0 (x.2.1) false, .row 0 (x.2.2.1) false]
def sp_law10_after (m_ : T_api_Config → (List (List Int)) → Option (T_layout_Layout × (List Int) × (List Int) × Bool)) : Spec := ⟨tr_law10_after m_, (true : Bool)⟩

/-! assart/assartlaw10.PlistPlays -/
def tr_law10_PlistPlays (m_ : T_api_Config → Int → (List (List Int)) → Option (Bool)) (args : List V) (H : Heap) (K : V → Heap → Prop) : Prop :=
  aC args fun a0 r => aC r fun a1 r => aC r fun a2 r => aN r <| aAgg a0 fun c0 => d_api_Config c0 fun c => aRow 0 a1 <| aInt a2 fun q => aC H fun b0 r => aN r <| bRow 39 true b0 fun (acts : List (List Int)) => So (m_ c q acts) fun x => K (vb (x)) [.row 39 acts true]
def sp_law10_PlistPlays (m_ : T_api_Config → Int → (List (List Int)) → Option (Bool)) : Spec := ⟨tr_law10_PlistPlays m_, (true : Bool)⟩

/-! assart/assartlaw10.PlistAgree -/
def tr_law10_PlistAgree (m_ : T_api_Config → Int → Int → (List (List Int)) → Option (Bool)) (args : List V) (H : Heap) (K : V → Heap → Prop) : Prop :=
  aC args fun a0 r => aC r fun a1 r => aC r fun a2 r => aC r fun a3 r => aN r <| aAgg a0 fun c0 => d_api_Config c0 fun c => aRow 0 a1 <| aInt a2 fun q => aInt a3 fun f => aC H fun b0 r => aN r <| bRow 39 true b0 fun (acts : List (List Int)) => So (m_ c q f acts) fun x => K (vb (x)) [.row 39 acts true]
def sp_law10_PlistAgree (m_ : T_api_Config → Int → Int → (List (List Int)) → Option (Bool)) : Spec := ⟨tr_law10_PlistAgree m_, (true : Bool)⟩

/-! assart/assartlaw10.PlistOut -/
def tr_law10_PlistOut (m_ : T_api_Config → Int → Int → Int → (List (List Int)) → Option (Bool)) (args : List V) (H : Heap) (K : V → Heap → Prop) : Prop :=
  aC args fun a0 r => aC r fun a1 r => aC r fun a2 r => aC r fun a3 r => aC r fun a4 r => aN r <| aAgg a0 fun c0 => d_api_Config c0 fun c => aRow 0 a1 <| aInt a2 fun p => aInt a3 fun q => aInt a4 fun f => aC H fun b0 r => aN r <| bRow 39 true b0 fun (acts : List (List Int)) => So (m_ c p q f acts) fun x => K (vb (x)) [.row 39 acts true]
def sp_law10_PlistOut (m_ : T_api_Config → Int → Int → Int → (List (List Int)) → Option (Bool)) : Spec := ⟨tr_law10_PlistOut m_, (true : Bool)⟩

/-! assart/assartlaw10.PlistEach -/
def tr_law10_PlistEach (m_ : T_api_Config → (List (List Int)) → Option (Bool)) (args : List V) (H : Heap) (K : V → Heap → Prop) : Prop :=
  aC args fun a0 r => aC r fun a1 r => aN r <| aAgg a0 fun c0 => d_api_Config c0 fun c => aRow 0 a1 <| aC H fun b0 r => aN r <| bRow 39 true b0 fun (acts : List (List Int)) => So (m_ c acts) fun x => K (vb (x)) [.row 39 acts true]
def sp_law10_PlistEach (m_ : T_api_Config → (List (List Int)) → Option (Bool)) : Spec := ⟨tr_law10_PlistEach m_, (true : Bool)⟩

noncomputable def cfg_law10_lives (m_law08_Small : T_api_Config → Option (T_api_Config)) (m_layout_Of : T_api_Config → Option (T_layout_Layout × Int)) (m_layout_Layout_Words : T_layout_Layout → Option (Int)) (m_law10_lives_1 : Nat → (List Int) → T_layout_Layout → Option ((List Int) × (List Int) × (List Int))) (m_law01_Ints_Same : (List Int) → (List Int) → Option (Bool)) : Cfg := { cfgB with
  sigs := (sigC 71 (sp_law08_Small m_law08_Small) (sigC 68 (sp_layout_Of m_layout_Of) (sigC 69 (sp_layout_Layout_Words m_layout_Layout_Words) (sigC 16 (sp_do_law10_lives_1 m_law10_lives_1) (sigC 20 (sp_law01_Ints_Same m_law01_Ints_Same) sigN))))) }

noncomputable def cfg_law10_after (m_law08_Begin : T_api_Config → Option (T_layout_Layout × T_assartref02_Layout × (List Int))) (m_law10_after_1 : Nat → (List Int) → T_assartref02_Layout → T_layout_Layout → (List Int) → (List (List Int)) → Option ((List Int) × (List Int))) : Cfg := { cfgB with
  sigs := (sigC 15 (sp_law08_Begin m_law08_Begin) (sigC 16 (sp_do_law10_after_1 m_law10_after_1) sigN)),
  plan := fun r => match r with | 4 => some (List.range 16, 48) | _ => none,
  flag := fun d => Nat.beq d 4 }

noncomputable def cfg_law10_PlistPlays (m_law10_lives : Option (Bool)) (m_law08_Begin : T_api_Config → Option (T_layout_Layout × T_assartref02_Layout × (List Int))) (m_law10_Where_skipped : T_assartlaw10_Act → (List Int) → Option (Bool)) (m_law10_PlistPlays_1 : Nat → (List Int) → T_layout_Layout → T_assartlaw10_Act → Bool → Int → Int → Option ((List Int) × Bool × (List Int) × Int)) (m_law10_told : T_assartref02_Layout → T_assartlaw10_Act → (List Int) → Option (Bool × (List Int))) (m_law10_Where_note : T_assartlaw10_Act → (List Int) → Option ((List Int))) (m_ref10_List : T_assartref02_Layout → Int → Int → (List Int) → Option ((List Int))) (m_law01_Ints_Same : (List Int) → (List Int) → Option (Bool)) (m_ref10_First : T_assartref02_Layout → Int → (List Int) → Option (Int)) : Cfg := { cfgB with
  sigs := (sigC 32 (sp_law10_lives m_law10_lives) (sigC 15 (sp_law08_Begin m_law08_Begin) (sigC 42 (sp_law10_Where_skipped m_law10_Where_skipped) (sigC 16 (sp_do_law10_PlistPlays_1 m_law10_PlistPlays_1) (sigC 46 (sp_law10_told m_law10_told) (sigC 47 (sp_law10_Where_note m_law10_Where_note) (sigC 48 (sp_ref10_List m_ref10_List) (sigC 20 (sp_law01_Ints_Same m_law01_Ints_Same) (sigC 49 (sp_ref10_First m_ref10_First) sigN))))))))),
  keep := fun r => match r with | 7 => some [(1, some 39), (5, none), (7, none), (8, none), (9, some 0), (10, some 0), (11, some 0), (12, none)] | _ => none,
  plan := fun r => match r with | 18 => some (List.range 33, 0) | _ => none }

noncomputable def cfg_law10_PlistAgree (m_law10_lives : Option (Bool)) (m_law10_after : T_api_Config → (List (List Int)) → Option (T_layout_Layout × (List Int) × (List Int) × Bool)) (m_layout_Layout_Next : T_layout_Layout → Int → Option (Int)) (m_layout_Layout_Prev : T_layout_Layout → Int → Option (Int)) (m_law10_PlistAgree_1 : Nat → (List Int) → T_layout_Layout → Int → Int → Option ((List Int))) : Cfg := { cfgB with
  sigs := (sigC 32 (sp_law10_lives m_law10_lives) (sigC 33 (sp_law10_after m_law10_after) (sigC 34 (sp_layout_Layout_Next m_layout_Layout_Next) (sigC 35 (sp_layout_Layout_Prev m_layout_Layout_Prev) (sigC 16 (sp_do_law10_PlistAgree_1 m_law10_PlistAgree_1) sigN))))),
  keep := fun r => match r with | 7 => some [(6, none), (7, none), (9, none), (10, some 0), (11, some 0), (13, none)] | 14 => some [(9, none), (10, some 0), (11, some 0), (14, none), (17, none), (18, none)] | _ => none,
  plan := fun r => match r with | 17 => some ([0, 1, 2, 3, 4, 5, 6, 7, 8, 9, 10, 11, 16, 17, 12, 13, 14, 15, 18, 19, 20, 21, 22, 23, 28, 29, 30, 31, 32, 24, 25, 26, 27, 33, 34, 35, 36, 37, 38, 39, 40, 41, 45, 46, 47, 48, 49, 50, 42, 43, 44, 51, 52, 53], 0) | _ => none }

noncomputable def cfg_law10_PlistOut (m_law10_lives : Option (Bool)) (m_law10_after : T_api_Config → (List (List Int)) → Option (T_layout_Layout × (List Int) × (List Int) × Bool)) (m_law10_PlistOut_1 : Nat → (List Int) → T_layout_Layout → Int → Int → Int → Bool → (List Int) → Option ((List Int) × Bool)) (m_law01_Ints_Same : (List Int) → (List Int) → Option (Bool)) : Cfg := { cfgB with
  sigs := (sigC 32 (sp_law10_lives m_law10_lives) (sigC 33 (sp_law10_after m_law10_after) (sigC 16 (sp_do_law10_PlistOut_1 m_law10_PlistOut_1) (sigC 20 (sp_law01_Ints_Same m_law01_Ints_Same) sigN)))) }

noncomputable def cfg_law10_PlistEach (m_law10_lives : Option (Bool)) (m_law10_after : T_api_Config → (List (List Int)) → Option (T_layout_Layout × (List Int) × (List Int) × Bool)) (m_law10_PlistEach_1 : Nat → (List Int) → Bool → T_layout_Layout → (List Int) → (List Int) → Option ((List Int) × Bool)) (m_law01_Ints_Same : (List Int) → (List Int) → Option (Bool)) : Cfg := { cfgB with
  sigs := (sigC 32 (sp_law10_lives m_law10_lives) (sigC 33 (sp_law10_after m_law10_after) (sigC 16 (sp_do_law10_PlistEach_1 m_law10_PlistEach_1) (sigC 20 (sp_law01_Ints_Same m_law01_Ints_Same) sigN)))) }

theorem nf_law10_lives (m_law08_Small : T_api_Config → Option (T_api_Config)) (m_layout_Of : T_api_Config → Option (T_layout_Layout × Int)) (m_layout_Layout_Words : T_layout_Layout → Option (Int)) (m_law10_lives_1 : Nat → (List Int) → T_layout_Layout → Option ((List Int) × (List Int) × (List Int))) (m_law01_Ints_Same : (List Int) → (List Int) → Option (Bool)) (K : V → Heap → Prop) : (exF (cfg_law10_lives m_law08_Small m_layout_Of m_layout_Layout_Words m_law10_lives_1 m_law01_Ints_Same) Try.f32 [] [] K) = (
    So (m_law08_Small (T_api_Config.mk 0 0 0 0 0 0 0 0 0 0 0)) (fun (y0 : T_api_Config) => (So (m_layout_Of (T_api_Config.mk (T_api_Config.Workers y0) (T_api_Config.CPUs y0) 6 (T_api_Config.Stripes y0) (T_api_Config.Tries y0) (T_api_Config.Wait y0) (T_api_Config.Clock y0) (T_api_Config.Private y0) (T_api_Config.Cache y0) (T_api_Config.Bin y0) (T_api_Config.Batch y0))) (fun (y1 : T_layout_Layout × Int) => (So (m_layout_Layout_Words (Prod.fst y1)) (fun (y2 : Int) => (Req (Decidable.decide (0 ≤ y2 ∧ y2 ≤ y2 ∧ y2 ≤ 1048576)) (Req (Nat.ble (List.length (List.replicate (Int.toNat y2) (0 : Int))) (1048576 : Nat)) (So (m_law10_lives_1 (List.length (List.replicate (Int.toNat y2) (0 : Int))) (List.replicate (Int.toNat y2) (0 : Int)) (Prod.fst y1)) (fun (y3 : List Int × List Int × List Int) => ((∀ (y4 : List Pr), (br (Prod.snd y1 == 0) (So (m_law01_Ints_Same (Prod.fst (Prod.snd y3)) [5, 3]) (fun (y5 : Bool) => (br (y5) (So (m_law01_Ints_Same (Prod.snd (Prod.snd y3)) [3]) (fun (y6 : Bool) => (br (y6) (So (m_layout_Layout_Words (Prod.fst y1)) (fun (y7 : Int) => (K (vb ((↑(List.length (Prod.fst y3)) : Int) == y7)) []))) (K (vb (Bool.false)) [])))) (K (vb (Bool.false)) [])))) (K (vb (Bool.false)) [])))))))))))))) := by
  kernel_rfl

theorem nf_law10_after (m_law08_Begin : T_api_Config → Option (T_layout_Layout × T_assartref02_Layout × (List Int))) (m_law10_after_1 : Nat → (List Int) → T_assartref02_Layout → T_layout_Layout → (List Int) → (List (List Int)) → Option ((List Int) × (List Int))) (c : T_api_Config) (acts : List (List Int)) (K : V → Heap → Prop) : (exF (cfg_law10_after m_law08_Begin m_law10_after_1) Try.f33 [.agg (e_api_Config c), .row 0] [.row 39 acts true] K) = (
    So (m_law08_Begin c) (fun (y0 : T_layout_Layout × T_assartref02_Layout × List Int) => (Req (Decidable.decide (0 ≤ T_api_Config.Pages (T_assartref02_Layout.C (Prod.fst (Prod.snd y0))) ∧ T_api_Config.Pages (T_assartref02_Layout.C (Prod.fst (Prod.snd y0))) ≤ T_api_Config.Pages (T_assartref02_Layout.C (Prod.fst (Prod.snd y0))) ∧ T_api_Config.Pages (T_assartref02_Layout.C (Prod.fst (Prod.snd y0))) ≤ 1048576)) (Req (Nat.ble (List.length (Prod.snd (Prod.snd y0))) 1048576) (So (m_law10_after_1 (List.length (Prod.snd (Prod.snd y0))) (Prod.snd (Prod.snd y0)) (Prod.fst (Prod.snd y0)) (Prod.fst y0) (List.replicate (Int.toNat (T_api_Config.Pages (T_assartref02_Layout.C (Prod.fst (Prod.snd y0))))) (0 : Int)) acts) (fun (y1 : List Int × List Int) => ((∀ (y2 : List Pr), (K (.tup [.agg (e_layout_Layout (Prod.fst y0)), .row 1, .row 2, vb ((↑(List.length (Prod.fst y1)) : Int) == (↑(List.length (Prod.snd (Prod.snd y0))) : Int))]) [.row 39 (acts : List (List Int)) Bool.true, .row 0 (Prod.fst y1 : List (Int)) Bool.false, .row 0 (Prod.snd y1 : List (Int)) Bool.false]))))))))) := by
  kernel_rfl

theorem nf_law10_PlistPlays_L1 (m_law10_lives : Option (Bool)) (m_law08_Begin : T_api_Config → Option (T_layout_Layout × T_assartref02_Layout × (List Int))) (m_law10_Where_skipped : T_assartlaw10_Act → (List Int) → Option (Bool)) (m_law10_PlistPlays_1 : Nat → (List Int) → T_layout_Layout → T_assartlaw10_Act → Bool → Int → Int → Option ((List Int) × Bool × (List Int) × Int)) (m_law10_told : T_assartref02_Layout → T_assartlaw10_Act → (List Int) → Option (Bool × (List Int))) (m_law10_Where_note : T_assartlaw10_Act → (List Int) → Option ((List Int))) (m_ref10_List : T_assartref02_Layout → Int → Int → (List Int) → Option ((List Int))) (m_law01_Ints_Same : (List Int) → (List Int) → Option (Bool)) (m_ref10_First : T_assartref02_Layout → Int → (List Int) → Option (Int)) (c : T_api_Config) (q : Int) (acts : List (List Int)) (iv : Int) (c2 : T_layout_Layout) (c3 : T_assartref02_Layout) (w : List Int) (w2 : List Int) (w3 : List Int) (K : V → Heap → Prop) (J1 : Env → Heap → Prop) : (ex (cfg_law10_PlistPlays m_law10_lives m_law08_Begin m_law10_Where_skipped m_law10_PlistPlays_1 m_law10_told m_law10_Where_note m_ref10_List m_law01_Ints_Same m_ref10_First) (⟨101, 1⟩ : Cx) (at_ (bodyOf Try.f8) [1, 1, 1, 1, 1, 0, 1, 0, 0]) (mkEnv [(1, .row 0), (5, .ptr 1 0), (7, .ptr 2 0), (8, .ptr 3 0), (9, .row 4), (10, .row 5), (11, .row 6), (12, vi (iv))]) [.row 39 (acts : List (List Int)) Bool.true, .cells 3 [vi (q)], .cells 28 (e_layout_Layout c2), .cells 30 (e_api_Config (T_assartref02_Layout.C c3)), .row 0 (w : List (Int)) Bool.false, .row 0 (w2 : List (Int)) Bool.false, .row 0 (w3 : List (Int)) Bool.false] (roundK (cfg_law10_PlistPlays m_law10_lives m_law08_Begin m_law10_Where_skipped m_law10_PlistPlays_1 m_law10_told m_law10_Where_note m_ref10_List m_law01_Ints_Same m_ref10_First) (⟨101, 1⟩ : Cx) (at_ (bodyOf Try.f8) [1, 1, 1, 1, 1, 0, 1, 0, 0]) (contK (cfg_law10_PlistPlays m_law10_lives m_law08_Begin m_law10_Where_skipped m_law10_PlistPlays_1 m_law10_told m_law10_Where_note m_ref10_List m_law01_Ints_Same m_ref10_First) (⟨101, 1⟩ : Cx) (bodyOf Try.f8) [1, 1, 1, 1, 1, 0, 1, 0] (retK (cfg_law10_PlistPlays m_law10_lives m_law08_Begin m_law10_Where_skipped m_law10_PlistPlays_1 m_law10_told m_law10_Where_note m_ref10_List m_law01_Ints_Same m_ref10_First) Try.f8 1 K)) J1)) = (
    br (Decidable.decide (iv < (↑(List.length acts) : Int))) (Req (inR iv (List.length acts)) (Req (inR (offs iv 0) (List.length acts)) (So (m_law10_Where_skipped (T_assartlaw10_Act.mk (List.getD (List.getD acts (Int.toNat (offs iv (0 : Nat))) (List.replicate (4 : Nat) (0 : Int))) (0 : Nat) (0 : Int)) (List.getD (List.getD acts (Int.toNat (offs iv (0 : Nat))) (List.replicate (4 : Nat) (0 : Int))) (1 : Nat) (0 : Int)) (List.getD (List.getD acts (Int.toNat (offs iv (0 : Nat))) (List.replicate (4 : Nat) (0 : Int))) (2 : Nat) (0 : Int)) (List.getD (List.getD acts (Int.toNat (offs iv (0 : Nat))) (List.replicate (4 : Nat) (0 : Int))) (3 : Nat) (0 : Int))) w3) (fun (y0 : Bool) => (br (y0) (J1 (mkEnv [(1, .row 0), (5, .ptr 1 0), (7, .ptr 2 0), (8, .ptr 3 0), (9, .row 4), (10, .row 5), (11, .row 6), (12, vi (IntKind.wrap IntKind.i64 (iv + 1)))]) [.row 39 (acts : List (List Int)) Bool.true, .cells 3 [vi (q)], .cells 28 (e_layout_Layout c2), .cells 30 (e_api_Config (T_assartref02_Layout.C c3)), .row 0 (w : List (Int)) Bool.false, .row 0 (w2 : List (Int)) Bool.false, .row 0 (w3 : List (Int)) Bool.false]) (Req (Nat.ble (List.length w) 1048576) (So (m_law10_PlistPlays_1 (List.length w) w c2 (T_assartlaw10_Act.mk (List.getD (List.getD acts (Int.toNat (offs iv (0 : Nat))) (List.replicate (4 : Nat) (0 : Int))) (0 : Nat) (0 : Int)) (List.getD (List.getD acts (Int.toNat (offs iv (0 : Nat))) (List.replicate (4 : Nat) (0 : Int))) (1 : Nat) (0 : Int)) (List.getD (List.getD acts (Int.toNat (offs iv (0 : Nat))) (List.replicate (4 : Nat) (0 : Int))) (2 : Nat) (0 : Int)) (List.getD (List.getD acts (Int.toNat (offs iv (0 : Nat))) (List.replicate (4 : Nat) (0 : Int))) (3 : Nat) (0 : Int))) Bool.false q (0 : Int)) (fun (y1 : List Int × Bool × List Int × Int) => ((∀ (y2 : List Pr), (So (m_law10_told c3 (T_assartlaw10_Act.mk (List.getD (List.getD acts (Int.toNat (offs iv (0 : Nat))) (List.replicate (4 : Nat) (0 : Int))) (0 : Nat) (0 : Int)) (List.getD (List.getD acts (Int.toNat (offs iv (0 : Nat))) (List.replicate (4 : Nat) (0 : Int))) (1 : Nat) (0 : Int)) (List.getD (List.getD acts (Int.toNat (offs iv (0 : Nat))) (List.replicate (4 : Nat) (0 : Int))) (2 : Nat) (0 : Int)) (List.getD (List.getD acts (Int.toNat (offs iv (0 : Nat))) (List.replicate (4 : Nat) (0 : Int))) (3 : Nat) (0 : Int))) w2) (fun (y3 : Bool × List Int) => (br (Prod.fst y3) (So (m_law10_Where_note (T_assartlaw10_Act.mk (List.getD (List.getD acts (Int.toNat (offs iv (0 : Nat))) (List.replicate (4 : Nat) (0 : Int))) (0 : Nat) (0 : Int)) (List.getD (List.getD acts (Int.toNat (offs iv (0 : Nat))) (List.replicate (4 : Nat) (0 : Int))) (1 : Nat) (0 : Int)) (List.getD (List.getD acts (Int.toNat (offs iv (0 : Nat))) (List.replicate (4 : Nat) (0 : Int))) (2 : Nat) (0 : Int)) (List.getD (List.getD acts (Int.toNat (offs iv (0 : Nat))) (List.replicate (4 : Nat) (0 : Int))) (3 : Nat) (0 : Int))) w3) (fun (y4 : List Int) => (br (!Prod.fst (Prod.snd y1) == Prod.fst y3) (K (vb (Bool.false)) [.row 39 (acts : List (List Int)) Bool.true]) (So (m_ref10_List c3 (List.getD (List.getD acts (Int.toNat (offs iv (0 : Nat))) (List.replicate (4 : Nat) (0 : Int))) (2 : Nat) (0 : Int)) (List.getD (List.getD acts (Int.toNat (offs iv (0 : Nat))) (List.replicate (4 : Nat) (0 : Int))) (3 : Nat) (0 : Int)) (Prod.snd y3)) (fun (y5 : List Int) => (So (m_law01_Ints_Same (Prod.fst (Prod.snd (Prod.snd y1))) y5) (fun (y6 : Bool) => (br (!y6) (K (vb (Bool.false)) [.row 39 (acts : List (List Int)) Bool.true]) (So (m_ref10_First c3 q (Prod.snd y3)) (fun (y7 : Int) => (br (Prod.snd (Prod.snd (Prod.snd y1)) != y7) (K (vb (Bool.false)) [.row 39 (acts : List (List Int)) Bool.true]) (So (m_law01_Ints_Same (Prod.fst y1) (Prod.snd y3)) (fun (y8 : Bool) => (br (!y8) (K (vb (Bool.false)) [.row 39 (acts : List (List Int)) Bool.true]) (J1 (mkEnv [(1, .row 0), (5, .ptr 1 0), (7, .ptr 2 0), (8, .ptr 3 0), (9, .row 4), (10, .row 5), (11, .row 6), (12, vi (IntKind.wrap IntKind.i64 (iv + 1)))]) [.row 39 (acts : List (List Int)) Bool.true, .cells 3 [vi (q)], .cells 28 (e_layout_Layout c2), .cells 30 (e_api_Config (T_assartref02_Layout.C c3)), .row 0 (Prod.fst y1 : List (Int)) Bool.false, .row 0 (Prod.snd y3 : List (Int)) Bool.false, .row 0 (y4 : List (Int)) Bool.false]))))))))))))))) (br (!Prod.fst (Prod.snd y1) == Prod.fst y3) (K (vb (Bool.false)) [.row 39 (acts : List (List Int)) Bool.true]) (So (m_ref10_List c3 (List.getD (List.getD acts (Int.toNat (offs iv (0 : Nat))) (List.replicate (4 : Nat) (0 : Int))) (2 : Nat) (0 : Int)) (List.getD (List.getD acts (Int.toNat (offs iv (0 : Nat))) (List.replicate (4 : Nat) (0 : Int))) (3 : Nat) (0 : Int)) (Prod.snd y3)) (fun (y9 : List Int) => (So (m_law01_Ints_Same (Prod.fst (Prod.snd (Prod.snd y1))) y9) (fun (y10 : Bool) => (br (!y10) (K (vb (Bool.false)) [.row 39 (acts : List (List Int)) Bool.true]) (So (m_ref10_First c3 q (Prod.snd y3)) (fun (y11 : Int) => (br (Prod.snd (Prod.snd (Prod.snd y1)) != y11) (K (vb (Bool.false)) [.row 39 (acts : List (List Int)) Bool.true]) (So (m_law01_Ints_Same (Prod.fst y1) (Prod.snd y3)) (fun (y12 : Bool) => (br (!y12) (K (vb (Bool.false)) [.row 39 (acts : List (List Int)) Bool.true]) (J1 (mkEnv [(1, .row 0), (5, .ptr 1 0), (7, .ptr 2 0), (8, .ptr 3 0), (9, .row 4), (10, .row 5), (11, .row 6), (12, vi (IntKind.wrap IntKind.i64 (iv + 1)))]) [.row 39 (acts : List (List Int)) Bool.true, .cells 3 [vi (q)], .cells 28 (e_layout_Layout c2), .cells 30 (e_api_Config (T_assartref02_Layout.C c3)), .row 0 (Prod.fst y1 : List (Int)) Bool.false, .row 0 (Prod.snd y3 : List (Int)) Bool.false, .row 0 (w3 : List (Int)) Bool.false])))))))))))))))))))))))))) (So (m_law10_lives) (fun (y13 : Bool) => (K (vb (y13)) [.row 39 (acts : List (List Int)) Bool.true])))) := by
  kernel_rfl

theorem nf_law10_PlistPlays (m_law10_lives : Option (Bool)) (m_law08_Begin : T_api_Config → Option (T_layout_Layout × T_assartref02_Layout × (List Int))) (m_law10_Where_skipped : T_assartlaw10_Act → (List Int) → Option (Bool)) (m_law10_PlistPlays_1 : Nat → (List Int) → T_layout_Layout → T_assartlaw10_Act → Bool → Int → Int → Option ((List Int) × Bool × (List Int) × Int)) (m_law10_told : T_assartref02_Layout → T_assartlaw10_Act → (List Int) → Option (Bool × (List Int))) (m_law10_Where_note : T_assartlaw10_Act → (List Int) → Option ((List Int))) (m_ref10_List : T_assartref02_Layout → Int → Int → (List Int) → Option ((List Int))) (m_law01_Ints_Same : (List Int) → (List Int) → Option (Bool)) (m_ref10_First : T_assartref02_Layout → Int → (List Int) → Option (Int)) (c : T_api_Config) (q : Int) (acts : List (List Int)) (K : V → Heap → Prop) : (exF (cfg_law10_PlistPlays m_law10_lives m_law08_Begin m_law10_Where_skipped m_law10_PlistPlays_1 m_law10_told m_law10_Where_note m_ref10_List m_law01_Ints_Same m_ref10_First) Try.f8 [.agg (e_api_Config c), .row 0, vi q] [.row 39 acts true] K) = (
    br (Decidable.decide ((↑(List.length acts) : Int) > 100)) (So (m_law10_lives) (fun (y0 : Bool) => (K (vb (y0)) [.row 39 (acts : List (List Int)) Bool.true]))) (So (m_law08_Begin c) (fun (y1 : T_layout_Layout × T_assartref02_Layout × List Int) => (Req (Decidable.decide (0 + List.length (Prod.snd (Prod.snd y1)) ≤ 1048576)) (Req (Decidable.decide (0 ≤ T_api_Config.Pages (T_assartref02_Layout.C (Prod.fst (Prod.snd y1))) ∧ T_api_Config.Pages (T_assartref02_Layout.C (Prod.fst (Prod.snd y1))) ≤ T_api_Config.Pages (T_assartref02_Layout.C (Prod.fst (Prod.snd y1))) ∧ T_api_Config.Pages (T_assartref02_Layout.C (Prod.fst (Prod.snd y1))) ≤ 1048576)) (Loop (cfg_law10_PlistPlays m_law10_lives m_law08_Begin m_law10_Where_skipped m_law10_PlistPlays_1 m_law10_told m_law10_Where_note m_ref10_List m_law01_Ints_Same m_ref10_First) (⟨101, 1⟩ : Cx) (at_ (bodyOf Try.f8) [1, 1, 1, 1, 1, 0, 1, 0, 0]) (mkEnv [(1, .row 0), (5, .ptr 1 0), (7, .ptr 2 0), (8, .ptr 3 0), (9, .row 4), (10, .row 5), (11, .row 6), (12, vi (0))]) [.row 39 (acts : List (List Int)) Bool.true, .cells 3 [vi (q)], .cells 28 (e_layout_Layout (Prod.fst y1)), .cells 30 (e_api_Config (T_assartref02_Layout.C (Prod.fst (Prod.snd y1)))), .row 0 (Prod.snd (Prod.snd y1) : List (Int)) Bool.false, .row 0 (Prod.snd (Prod.snd y1) : List (Int)) Bool.false, .row 0 (List.replicate (Int.toNat (T_api_Config.Pages (T_assartref02_Layout.C (Prod.fst (Prod.snd y1))))) (0 : Int) : List (Int)) Bool.false] (contK (cfg_law10_PlistPlays m_law10_lives m_law08_Begin m_law10_Where_skipped m_law10_PlistPlays_1 m_law10_told m_law10_Where_note m_ref10_List m_law01_Ints_Same m_ref10_First) (⟨101, 1⟩ : Cx) (bodyOf Try.f8) [1, 1, 1, 1, 1, 0, 1, 0] (retK (cfg_law10_PlistPlays m_law10_lives m_law08_Begin m_law10_Where_skipped m_law10_PlistPlays_1 m_law10_told m_law10_Where_note m_ref10_List m_law01_Ints_Same m_ref10_First) Try.f8 1 K)))))))) := by
  kernel_rfl

theorem nf_law10_PlistAgree_L2 (m_law10_lives : Option (Bool)) (m_law10_after : T_api_Config → (List (List Int)) → Option (T_layout_Layout × (List Int) × (List Int) × Bool)) (m_layout_Layout_Next : T_layout_Layout → Int → Option (Int)) (m_layout_Layout_Prev : T_layout_Layout → Int → Option (Int)) (m_law10_PlistAgree_1 : Nat → (List Int) → T_layout_Layout → Int → Int → Option ((List Int))) (c : T_api_Config) (q : Int) (f : Int) (acts : List (List Int)) (e : Int) (iv : Int) (c2 : T_layout_Layout) (w : List Int) (w2 : List Int) (w3 : List Int) (K : V → Heap → Prop) (J1 : Env → Heap → Prop) : (ex (cfg_law10_PlistAgree m_law10_lives m_law10_after m_layout_Layout_Next m_layout_Layout_Prev m_law10_PlistAgree_1) (⟨139, 1⟩ : Cx) (at_ (bodyOf Try.f6) [1, 1, 1, 1, 1, 1, 1, 0, 1, 0, 0]) (mkEnv [(9, .ptr 1 0), (10, .row 2), (11, .row 3), (14, .ptr 4 0), (17, vi (e)), (18, vi (iv))]) [.row 39 (acts : List (List Int)) Bool.true, .cells 28 (e_layout_Layout c2), .row 0 (w : List (Int)) Bool.false, .row 0 (w2 : List (Int)) Bool.false, .cells 31 [.row 5], .row 0 (w3 : List (Int)) Bool.false] (roundK (cfg_law10_PlistAgree m_law10_lives m_law10_after m_layout_Layout_Next m_layout_Layout_Prev m_law10_PlistAgree_1) (⟨139, 1⟩ : Cx) (at_ (bodyOf Try.f6) [1, 1, 1, 1, 1, 1, 1, 0, 1, 0, 0]) (contK (cfg_law10_PlistAgree m_law10_lives m_law10_after m_layout_Layout_Next m_layout_Layout_Prev m_law10_PlistAgree_1) (⟨139, 1⟩ : Cx) (bodyOf Try.f6) [1, 1, 1, 1, 1, 1, 1, 0, 1, 0] (retK (cfg_law10_PlistAgree m_law10_lives m_law10_after m_layout_Layout_Next m_layout_Layout_Prev m_law10_PlistAgree_1) Try.f6 1 K)) J1)) = (
    br (Decidable.decide (iv < (↑(List.length w3) : Int))) (Req (inR iv (List.length w3)) (Req (inR (offs iv 0) (List.length w3)) (br (Decidable.decide (List.getD w3 (Int.toNat (offs iv 0)) 0 < 0)) (K (vb (Bool.false)) [.row 39 (acts : List (List Int)) Bool.true]) (br (Decidable.decide (List.getD w3 (Int.toNat (offs iv 0)) 0 ≥ (↑(List.length w2) : Int))) (K (vb (Bool.false)) [.row 39 (acts : List (List Int)) Bool.true]) (So (m_layout_Layout_Prev c2 (List.getD w3 (Int.toNat (offs iv 0)) 0)) (fun (y0 : Int) => (Req (inR y0 (List.length w)) (Req (inR (offs y0 0) (List.length w)) (br (!(List.getD w (Int.toNat (offs y0 0)) 0 == 0) == (iv == 0)) (K (vb (Bool.false)) [.row 39 (acts : List (List Int)) Bool.true]) (So (m_layout_Layout_Next c2 (List.getD w3 (Int.toNat (offs iv 0)) 0)) (fun (y1 : Int) => (Req (inR y1 (List.length w)) (Req (inR (offs y1 0) (List.length w)) (br (!(List.getD w (Int.toNat (offs y1 0)) 0 == 0) == (IntKind.wrap IntKind.i64 (iv + 1) == (↑(List.length w3) : Int))) (K (vb (Bool.false)) [.row 39 (acts : List (List Int)) Bool.true]) (br (Decidable.decide (iv > 0)) (Req (inR (IntKind.wrap IntKind.i64 (iv - 1)) (List.length w3)) (Req (inR (offs (IntKind.wrap IntKind.i64 (iv - 1)) 0) (List.length w3)) (So (m_layout_Layout_Prev c2 (List.getD w3 (Int.toNat (offs iv 0)) 0)) (fun (y2 : Int) => (Req (inR y2 (List.length w)) (Req (inR (offs y2 0) (List.length w)) (br (List.getD w (Int.toNat (offs y2 0)) 0 != IntKind.wrap IntKind.i64 (List.getD w3 (Int.toNat (offs (IntKind.wrap IntKind.i64 (iv - 1)) 0)) 0 + 1)) (K (vb (Bool.false)) [.row 39 (acts : List (List Int)) Bool.true]) (J1 (mkEnv [(9, .ptr 1 0), (10, .row 2), (11, .row 3), (14, .ptr 4 0), (17, vi (e)), (18, vi (IntKind.wrap IntKind.i64 (iv + 1)))]) [.row 39 (acts : List (List Int)) Bool.true, .cells 28 (e_layout_Layout c2), .row 0 (w : List (Int)) Bool.false, .row 0 (w2 : List (Int)) Bool.false, .cells 31 [.row 5], .row 0 (w3 : List (Int)) Bool.false])))))))) (J1 (mkEnv [(9, .ptr 1 0), (10, .row 2), (11, .row 3), (14, .ptr 4 0), (17, vi (e)), (18, vi (IntKind.wrap IntKind.i64 (iv + 1)))]) [.row 39 (acts : List (List Int)) Bool.true, .cells 28 (e_layout_Layout c2), .row 0 (w : List (Int)) Bool.false, .row 0 (w2 : List (Int)) Bool.false, .cells 31 [.row 5], .row 0 (w3 : List (Int)) Bool.false])))))))))))))))) (br (e == 0) (So (m_law10_lives) (fun (y3 : Bool) => (K (vb (y3)) [.row 39 (acts : List (List Int)) Bool.true]))) (K (vb (Bool.false)) [.row 39 (acts : List (List Int)) Bool.true]))) := by
  kernel_rfl

theorem nf_law10_PlistAgree_L1 (m_law10_lives : Option (Bool)) (m_law10_after : T_api_Config → (List (List Int)) → Option (T_layout_Layout × (List Int) × (List Int) × Bool)) (m_layout_Layout_Next : T_layout_Layout → Int → Option (Int)) (m_layout_Layout_Prev : T_layout_Layout → Int → Option (Int)) (m_law10_PlistAgree_1 : Nat → (List Int) → T_layout_Layout → Int → Int → Option ((List Int))) (c : T_api_Config) (q : Int) (f : Int) (acts : List (List Int)) (p : Int) (c2 : T_layout_Layout) (w : List Int) (w2 : List Int) (K : V → Heap → Prop) (J1 : Env → Heap → Prop) : (ex (cfg_law10_PlistAgree m_law10_lives m_law10_after m_layout_Layout_Next m_layout_Layout_Prev m_law10_PlistAgree_1) (⟨139, 1⟩ : Cx) (at_ (bodyOf Try.f6) [1, 1, 1, 1, 0, 1, 0, 0]) (mkEnv [(6, .ptr 1 0), (7, .ptr 2 0), (9, .ptr 3 0), (10, .row 4), (11, .row 5), (13, vi (p))]) [.row 39 (acts : List (List Int)) Bool.true, .cells 3 [vi (q)], .cells 3 [vi (f)], .cells 28 (e_layout_Layout c2), .row 0 (w : List (Int)) Bool.false, .row 0 (w2 : List (Int)) Bool.false] (roundK (cfg_law10_PlistAgree m_law10_lives m_law10_after m_layout_Layout_Next m_layout_Layout_Prev m_law10_PlistAgree_1) (⟨139, 1⟩ : Cx) (at_ (bodyOf Try.f6) [1, 1, 1, 1, 0, 1, 0, 0]) (contK (cfg_law10_PlistAgree m_law10_lives m_law10_after m_layout_Layout_Next m_layout_Layout_Prev m_law10_PlistAgree_1) (⟨139, 1⟩ : Cx) (bodyOf Try.f6) [1, 1, 1, 1, 0, 1, 0] (retK (cfg_law10_PlistAgree m_law10_lives m_law10_after m_layout_Layout_Next m_layout_Layout_Prev m_law10_PlistAgree_1) Try.f6 1 K)) J1)) = (
    br (Decidable.decide (p < (↑(List.length w2) : Int))) (Req (inR p (List.length w2)) (Req (inR (offs p 0) (List.length w2)) (br (List.getD w2 (Int.toNat (offs p 0)) 0 == 0) (So (m_layout_Layout_Next c2 p) (fun (y0 : Int) => (Req (inR y0 (List.length w)) (Req (inR (offs y0 0) (List.length w)) (br (List.getD w (Int.toNat (offs y0 0)) 0 != 0) (K (vb (Bool.false)) [.row 39 (acts : List (List Int)) Bool.true]) (So (m_layout_Layout_Prev c2 p) (fun (y1 : Int) => (Req (inR y1 (List.length w)) (Req (inR (offs y1 0) (List.length w)) (br (List.getD w (Int.toNat (offs y1 0)) 0 != 0) (K (vb (Bool.false)) [.row 39 (acts : List (List Int)) Bool.true]) (J1 (mkEnv [(6, .ptr 1 0), (7, .ptr 2 0), (9, .ptr 3 0), (10, .row 4), (11, .row 5), (13, vi (IntKind.wrap IntKind.i64 (p + 1)))]) [.row 39 (acts : List (List Int)) Bool.true, .cells 3 [vi (q)], .cells 3 [vi (f)], .cells 28 (e_layout_Layout c2), .row 0 (w : List (Int)) Bool.false, .row 0 (w2 : List (Int)) Bool.false]))))))))))) (J1 (mkEnv [(6, .ptr 1 0), (7, .ptr 2 0), (9, .ptr 3 0), (10, .row 4), (11, .row 5), (13, vi (IntKind.wrap IntKind.i64 (p + 1)))]) [.row 39 (acts : List (List Int)) Bool.true, .cells 3 [vi (q)], .cells 3 [vi (f)], .cells 28 (e_layout_Layout c2), .row 0 (w : List (Int)) Bool.false, .row 0 (w2 : List (Int)) Bool.false])))) (Req (Nat.ble (List.length w) 1048576) (So (m_law10_PlistAgree_1 (List.length w) w c2 q f) (fun (y2 : List Int) => ((∀ (y3 : List Pr), (Loop (cfg_law10_PlistAgree m_law10_lives m_law10_after m_layout_Layout_Next m_layout_Layout_Prev m_law10_PlistAgree_1) (⟨139, 1⟩ : Cx) (at_ (bodyOf Try.f6) [1, 1, 1, 1, 1, 1, 1, 0, 1, 0, 0]) (mkEnv [(9, .ptr 1 0), (10, .row 2), (11, .row 3), (14, .ptr 4 0), (17, vi (0)), (18, vi (0))]) [.row 39 (acts : List (List Int)) Bool.true, .cells 28 (e_layout_Layout c2), .row 0 (w : List (Int)) Bool.false, .row 0 (w2 : List (Int)) Bool.false, .cells 31 [.row 5], .row 0 (y2 : List (Int)) Bool.false] (contK (cfg_law10_PlistAgree m_law10_lives m_law10_after m_layout_Layout_Next m_layout_Layout_Prev m_law10_PlistAgree_1) (⟨139, 1⟩ : Cx) (bodyOf Try.f6) [1, 1, 1, 1, 1, 1, 1, 0, 1, 0] (retK (cfg_law10_PlistAgree m_law10_lives m_law10_after m_layout_Layout_Next m_layout_Layout_Prev m_law10_PlistAgree_1) Try.f6 1 K))))))))) := by
  kernel_rfl

theorem nf_law10_PlistAgree (m_law10_lives : Option (Bool)) (m_law10_after : T_api_Config → (List (List Int)) → Option (T_layout_Layout × (List Int) × (List Int) × Bool)) (m_layout_Layout_Next : T_layout_Layout → Int → Option (Int)) (m_layout_Layout_Prev : T_layout_Layout → Int → Option (Int)) (m_law10_PlistAgree_1 : Nat → (List Int) → T_layout_Layout → Int → Int → Option ((List Int))) (c : T_api_Config) (q : Int) (f : Int) (acts : List (List Int)) (K : V → Heap → Prop) : (exF (cfg_law10_PlistAgree m_law10_lives m_law10_after m_layout_Layout_Next m_layout_Layout_Prev m_law10_PlistAgree_1) Try.f6 [.agg (e_api_Config c), .row 0, vi q, vi f] [.row 39 acts true] K) = (
    br (Decidable.decide ((↑(List.length acts) : Int) > 60)) (So (m_law10_lives) (fun (y0 : Bool) => (K (vb (y0)) [.row 39 (acts : List (List Int)) Bool.true]))) (So (m_law10_after c acts) (fun (y1 : T_layout_Layout × List Int × List Int × Bool) => (br (!Prod.snd (Prod.snd (Prod.snd y1))) (K (vb (Bool.false)) [.row 39 (acts : List (List Int)) Bool.true]) (Loop (cfg_law10_PlistAgree m_law10_lives m_law10_after m_layout_Layout_Next m_layout_Layout_Prev m_law10_PlistAgree_1) (⟨139, 1⟩ : Cx) (at_ (bodyOf Try.f6) [1, 1, 1, 1, 0, 1, 0, 0]) (mkEnv [(6, .ptr 1 0), (7, .ptr 2 0), (9, .ptr 3 0), (10, .row 4), (11, .row 5), (13, vi (0))]) [.row 39 (acts : List (List Int)) Bool.true, .cells 3 [vi (q)], .cells 3 [vi (f)], .cells 28 (e_layout_Layout (Prod.fst y1)), .row 0 (Prod.fst (Prod.snd y1) : List (Int)) Bool.false, .row 0 (Prod.fst (Prod.snd (Prod.snd y1)) : List (Int)) Bool.false] (contK (cfg_law10_PlistAgree m_law10_lives m_law10_after m_layout_Layout_Next m_layout_Layout_Prev m_law10_PlistAgree_1) (⟨139, 1⟩ : Cx) (bodyOf Try.f6) [1, 1, 1, 1, 0, 1, 0] (retK (cfg_law10_PlistAgree m_law10_lives m_law10_after m_layout_Layout_Next m_layout_Layout_Prev m_law10_PlistAgree_1) Try.f6 1 K))))))) := by
  kernel_rfl

theorem nf_law10_PlistOut (m_law10_lives : Option (Bool)) (m_law10_after : T_api_Config → (List (List Int)) → Option (T_layout_Layout × (List Int) × (List Int) × Bool)) (m_law10_PlistOut_1 : Nat → (List Int) → T_layout_Layout → Int → Int → Int → Bool → (List Int) → Option ((List Int) × Bool)) (m_law01_Ints_Same : (List Int) → (List Int) → Option (Bool)) (c : T_api_Config) (p : Int) (q : Int) (f : Int) (acts : List (List Int)) (K : V → Heap → Prop) : (exF (cfg_law10_PlistOut m_law10_lives m_law10_after m_law10_PlistOut_1 m_law01_Ints_Same) Try.f7 [.agg (e_api_Config c), .row 0, vi p, vi q, vi f] [.row 39 acts true] K) = (
    br (Decidable.decide ((↑(List.length acts) : Int) > 60)) (So (m_law10_lives) (fun (y0 : Bool) => (K (vb (y0)) [.row 39 (acts : List (List Int)) Bool.true]))) (So (m_law10_after c acts) (fun (y1 : T_layout_Layout × List Int × List Int × Bool) => (br (!Prod.snd (Prod.snd (Prod.snd y1))) (K (vb (Bool.false)) [.row 39 (acts : List (List Int)) Bool.true]) (br (Decidable.decide (p < 0)) (So (m_law10_lives) (fun (y2 : Bool) => (K (vb (y2)) [.row 39 (acts : List (List Int)) Bool.true]))) (br (Decidable.decide (p ≥ (↑(List.length (Prod.fst (Prod.snd (Prod.snd y1)))) : Int))) (So (m_law10_lives) (fun (y3 : Bool) => (K (vb (y3)) [.row 39 (acts : List (List Int)) Bool.true]))) (Req (Nat.ble (List.length (Prod.fst (Prod.snd y1))) 1048576) (So (m_law10_PlistOut_1 (List.length (Prod.fst (Prod.snd y1))) (Prod.fst (Prod.snd y1)) (Prod.fst y1) q f p Bool.false (Prod.fst (Prod.snd (Prod.snd y1)))) (fun (y4 : List Int × Bool) => ((∀ (y5 : List Pr), (br (Prod.snd y4) (Req (inR p (List.length (Prod.fst (Prod.snd (Prod.snd y1))))) (Req (inR (offs p 0) (List.length (Prod.fst (Prod.snd (Prod.snd y1))))) (br (List.getD (Prod.fst (Prod.snd (Prod.snd y1))) (Int.toNat (offs p 0)) 0 != 0) (So (m_law10_lives) (fun (y6 : Bool) => (K (vb (y6)) [.row 39 (acts : List (List Int)) Bool.true]))) (So (m_law01_Ints_Same (Prod.fst y4) (Prod.fst (Prod.snd y1))) (fun (y7 : Bool) => (br (y7) (So (m_law10_lives) (fun (y8 : Bool) => (K (vb (y8)) [.row 39 (acts : List (List Int)) Bool.true]))) (K (vb (Bool.false)) [.row 39 (acts : List (List Int)) Bool.true]))))))) (K (vb (Bool.false)) [.row 39 (acts : List (List Int)) Bool.true]))))))))))))) := by
  kernel_rfl

theorem nf_law10_PlistEach (m_law10_lives : Option (Bool)) (m_law10_after : T_api_Config → (List (List Int)) → Option (T_layout_Layout × (List Int) × (List Int) × Bool)) (m_law10_PlistEach_1 : Nat → (List Int) → Bool → T_layout_Layout → (List Int) → (List Int) → Option ((List Int) × Bool)) (m_law01_Ints_Same : (List Int) → (List Int) → Option (Bool)) (c : T_api_Config) (acts : List (List Int)) (K : V → Heap → Prop) : (exF (cfg_law10_PlistEach m_law10_lives m_law10_after m_law10_PlistEach_1 m_law01_Ints_Same) Try.f9 [.agg (e_api_Config c), .row 0] [.row 39 acts true] K) = (
    br (Decidable.decide ((↑(List.length acts) : Int) > 60)) (So (m_law10_lives) (fun (y0 : Bool) => (K (vb (y0)) [.row 39 (acts : List (List Int)) Bool.true]))) (So (m_law10_after c acts) (fun (y1 : T_layout_Layout × List Int × List Int × Bool) => (Req (Decidable.decide (0 ≤ (↑(List.length (Prod.fst (Prod.snd (Prod.snd y1)))) : Int) ∧ (↑(List.length (Prod.fst (Prod.snd (Prod.snd y1)))) : Int) ≤ (↑(List.length (Prod.fst (Prod.snd (Prod.snd y1)))) : Int) ∧ (↑(List.length (Prod.fst (Prod.snd (Prod.snd y1)))) : Int) ≤ 1048576)) (Req (Nat.ble (List.length (Prod.fst (Prod.snd y1))) 1048576) (So (m_law10_PlistEach_1 (List.length (Prod.fst (Prod.snd y1))) (Prod.fst (Prod.snd y1)) Bool.false (Prod.fst y1) (Prod.fst (Prod.snd (Prod.snd y1))) (List.replicate (Int.toNat (↑(List.length (Prod.fst (Prod.snd (Prod.snd y1)))) : Int)) (0 : Int))) (fun (y2 : List Int × Bool) => ((∀ (y3 : List Pr), (br (Prod.snd (Prod.snd (Prod.snd y1))) (br (Prod.snd y2) (So (m_law01_Ints_Same (Prod.fst y2) (Prod.fst (Prod.snd (Prod.snd y1)))) (fun (y4 : Bool) => (br (y4) (So (m_law10_lives) (fun (y5 : Bool) => (K (vb (y5)) [.row 39 (acts : List (List Int)) Bool.true]))) (K (vb (Bool.false)) [.row 39 (acts : List (List Int)) Bool.true])))) (K (vb (Bool.false)) [.row 39 (acts : List (List Int)) Bool.true])) (K (vb (Bool.false)) [.row 39 (acts : List (List Int)) Bool.true]))))))))))) := by
  kernel_rfl

noncomputable def m_law10_lives  : Option (Bool) :=
  ((m_law08_Small (T_api_Config.mk 0 0 0 0 0 0 0 0 0 0 0)).bind fun y0 => ((m_layout_Of (T_api_Config.mk (T_api_Config.Workers y0) (T_api_Config.CPUs y0) 6 (T_api_Config.Stripes y0) (T_api_Config.Tries y0) (T_api_Config.Wait y0) (T_api_Config.Clock y0) (T_api_Config.Private y0) (T_api_Config.Cache y0) (T_api_Config.Bin y0) (T_api_Config.Batch y0))).bind fun y1 => ((m_layout_Layout_Words (Prod.fst y1)).bind fun y2 => (bif (Decidable.decide (0 ≤ y2 ∧ y2 ≤ y2 ∧ y2 ≤ 1048576)) then (bif (Nat.ble (List.length (List.replicate (Int.toNat y2) (0 : Int))) (1048576 : Nat)) then ((m_law10_lives_1 (List.length (List.replicate (Int.toNat y2) (0 : Int))) (List.replicate (Int.toNat y2) (0 : Int)) (Prod.fst y1)).bind fun y3 => (bif (Prod.snd y1 == 0) then ((m_law01_Ints_Same (Prod.fst (Prod.snd y3)) [5, 3]).bind fun y5 => (bif (y5) then ((m_law01_Ints_Same (Prod.snd (Prod.snd y3)) [3]).bind fun y6 => (bif (y6) then ((m_layout_Layout_Words (Prod.fst y1)).bind fun y7 => some (((↑(List.length (Prod.fst y3)) : Int) == y7))) else some ((Bool.false)))) else some ((Bool.false)))) else some ((Bool.false)))) else none) else none))))

noncomputable def m_law10_after (c : T_api_Config) (acts : List (List Int)) : Option (T_layout_Layout × (List Int) × (List Int) × Bool) :=
  ((m_law08_Begin c).bind fun y0 => (bif (Decidable.decide (0 ≤ T_api_Config.Pages (T_assartref02_Layout.C (Prod.fst (Prod.snd y0))) ∧ T_api_Config.Pages (T_assartref02_Layout.C (Prod.fst (Prod.snd y0))) ≤ T_api_Config.Pages (T_assartref02_Layout.C (Prod.fst (Prod.snd y0))) ∧ T_api_Config.Pages (T_assartref02_Layout.C (Prod.fst (Prod.snd y0))) ≤ 1048576)) then (bif (Nat.ble (List.length (Prod.snd (Prod.snd y0))) 1048576) then ((m_law10_after_1 (List.length (Prod.snd (Prod.snd y0))) (Prod.snd (Prod.snd y0)) (Prod.fst (Prod.snd y0)) (Prod.fst y0) (List.replicate (Int.toNat (T_api_Config.Pages (T_assartref02_Layout.C (Prod.fst (Prod.snd y0))))) (0 : Int)) acts).bind fun y1 => some ((((Prod.fst y0)), (Prod.fst y1), (Prod.snd y1), ((↑(List.length (Prod.fst y1)) : Int) == (↑(List.length (Prod.snd (Prod.snd y0))) : Int))))) else none) else none))

noncomputable def sb_law10_PlistPlays_L1 (q : Int) (acts : List (List Int)) (c2 : T_layout_Layout) (c3 : T_assartref02_Layout) (iv : Int) (w : List Int) (w2 : List Int) (w3 : List Int) : Option ((Int × (List Int) × (List Int) × (List Int)) ⊕ (Bool)) :=
  (bif (Decidable.decide (iv < (↑(List.length acts) : Int))) then (bif (inR iv (List.length acts)) then (bif (inR (offs iv 0) (List.length acts)) then ((m_law10_Where_skipped (T_assartlaw10_Act.mk (List.getD (List.getD acts (Int.toNat (offs iv (0 : Nat))) (List.replicate (4 : Nat) (0 : Int))) (0 : Nat) (0 : Int)) (List.getD (List.getD acts (Int.toNat (offs iv (0 : Nat))) (List.replicate (4 : Nat) (0 : Int))) (1 : Nat) (0 : Int)) (List.getD (List.getD acts (Int.toNat (offs iv (0 : Nat))) (List.replicate (4 : Nat) (0 : Int))) (2 : Nat) (0 : Int)) (List.getD (List.getD acts (Int.toNat (offs iv (0 : Nat))) (List.replicate (4 : Nat) (0 : Int))) (3 : Nat) (0 : Int))) w3).bind fun y0 => (bif (y0) then some (.inl ((IntKind.wrap IntKind.i64 (iv + 1)), (w), (w2), (w3))) else (bif (Nat.ble (List.length w) 1048576) then ((m_law10_PlistPlays_1 (List.length w) w c2 (T_assartlaw10_Act.mk (List.getD (List.getD acts (Int.toNat (offs iv (0 : Nat))) (List.replicate (4 : Nat) (0 : Int))) (0 : Nat) (0 : Int)) (List.getD (List.getD acts (Int.toNat (offs iv (0 : Nat))) (List.replicate (4 : Nat) (0 : Int))) (1 : Nat) (0 : Int)) (List.getD (List.getD acts (Int.toNat (offs iv (0 : Nat))) (List.replicate (4 : Nat) (0 : Int))) (2 : Nat) (0 : Int)) (List.getD (List.getD acts (Int.toNat (offs iv (0 : Nat))) (List.replicate (4 : Nat) (0 : Int))) (3 : Nat) (0 : Int))) Bool.false q (0 : Int)).bind fun y1 => ((m_law10_told c3 (T_assartlaw10_Act.mk (List.getD (List.getD acts (Int.toNat (offs iv (0 : Nat))) (List.replicate (4 : Nat) (0 : Int))) (0 : Nat) (0 : Int)) (List.getD (List.getD acts (Int.toNat (offs iv (0 : Nat))) (List.replicate (4 : Nat) (0 : Int))) (1 : Nat) (0 : Int)) (List.getD (List.getD acts (Int.toNat (offs iv (0 : Nat))) (List.replicate (4 : Nat) (0 : Int))) (2 : Nat) (0 : Int)) (List.getD (List.getD acts (Int.toNat (offs iv (0 : Nat))) (List.replicate (4 : Nat) (0 : Int))) (3 : Nat) (0 : Int))) w2).bind fun y3 => (bif (Prod.fst y3) then ((m_law10_Where_note (T_assartlaw10_Act.mk (List.getD (List.getD acts (Int.toNat (offs iv (0 : Nat))) (List.replicate (4 : Nat) (0 : Int))) (0 : Nat) (0 : Int)) (List.getD (List.getD acts (Int.toNat (offs iv (0 : Nat))) (List.replicate (4 : Nat) (0 : Int))) (1 : Nat) (0 : Int)) (List.getD (List.getD acts (Int.toNat (offs iv (0 : Nat))) (List.replicate (4 : Nat) (0 : Int))) (2 : Nat) (0 : Int)) (List.getD (List.getD acts (Int.toNat (offs iv (0 : Nat))) (List.replicate (4 : Nat) (0 : Int))) (3 : Nat) (0 : Int))) w3).bind fun y4 => (bif (!Prod.fst (Prod.snd y1) == Prod.fst y3) then some (.inr ((Bool.false))) else ((m_ref10_List c3 (List.getD (List.getD acts (Int.toNat (offs iv (0 : Nat))) (List.replicate (4 : Nat) (0 : Int))) (2 : Nat) (0 : Int)) (List.getD (List.getD acts (Int.toNat (offs iv (0 : Nat))) (List.replicate (4 : Nat) (0 : Int))) (3 : Nat) (0 : Int)) (Prod.snd y3)).bind fun y5 => ((m_law01_Ints_Same (Prod.fst (Prod.snd (Prod.snd y1))) y5).bind fun y6 => (bif (!y6) then some (.inr ((Bool.false))) else ((m_ref10_First c3 q (Prod.snd y3)).bind fun y7 => (bif (Prod.snd (Prod.snd (Prod.snd y1)) != y7) then some (.inr ((Bool.false))) else ((m_law01_Ints_Same (Prod.fst y1) (Prod.snd y3)).bind fun y8 => (bif (!y8) then some (.inr ((Bool.false))) else some (.inl ((IntKind.wrap IntKind.i64 (iv + 1)), (Prod.fst y1), (Prod.snd y3), (y4)))))))))))) else (bif (!Prod.fst (Prod.snd y1) == Prod.fst y3) then some (.inr ((Bool.false))) else ((m_ref10_List c3 (List.getD (List.getD acts (Int.toNat (offs iv (0 : Nat))) (List.replicate (4 : Nat) (0 : Int))) (2 : Nat) (0 : Int)) (List.getD (List.getD acts (Int.toNat (offs iv (0 : Nat))) (List.replicate (4 : Nat) (0 : Int))) (3 : Nat) (0 : Int)) (Prod.snd y3)).bind fun y9 => ((m_law01_Ints_Same (Prod.fst (Prod.snd (Prod.snd y1))) y9).bind fun y10 => (bif (!y10) then some (.inr ((Bool.false))) else ((m_ref10_First c3 q (Prod.snd y3)).bind fun y11 => (bif (Prod.snd (Prod.snd (Prod.snd y1)) != y11) then some (.inr ((Bool.false))) else ((m_law01_Ints_Same (Prod.fst y1) (Prod.snd y3)).bind fun y12 => (bif (!y12) then some (.inr ((Bool.false))) else some (.inl ((IntKind.wrap IntKind.i64 (iv + 1)), (Prod.fst y1), (Prod.snd y3), (w3)))))))))))))) else none))) else none) else none) else ((m_law10_lives).bind fun y13 => some (.inr ((y13)))))

noncomputable def lp_law10_PlistPlays_L1 (q : Int) (acts : List (List Int)) (c2 : T_layout_Layout) (c3 : T_assartref02_Layout) (s : Int × (List Int) × (List Int) × (List Int)) : Option (Bool) :=
  loopO (fun s => sb_law10_PlistPlays_L1 q acts c2 c3 s.1 s.2.1 s.2.2.1 s.2.2.2) s

noncomputable def m_law10_PlistPlays (c : T_api_Config) (q : Int) (acts : List (List Int)) : Option (Bool) :=
  (bif (Decidable.decide ((↑(List.length acts) : Int) > 100)) then ((m_law10_lives).bind fun y0 => some ((y0))) else ((m_law08_Begin c).bind fun y1 => (bif (Decidable.decide (0 + List.length (Prod.snd (Prod.snd y1)) ≤ 1048576)) then (bif (Decidable.decide (0 ≤ T_api_Config.Pages (T_assartref02_Layout.C (Prod.fst (Prod.snd y1))) ∧ T_api_Config.Pages (T_assartref02_Layout.C (Prod.fst (Prod.snd y1))) ≤ T_api_Config.Pages (T_assartref02_Layout.C (Prod.fst (Prod.snd y1))) ∧ T_api_Config.Pages (T_assartref02_Layout.C (Prod.fst (Prod.snd y1))) ≤ 1048576)) then (lp_law10_PlistPlays_L1 q acts (Prod.fst y1) (Prod.fst (Prod.snd y1)) ((0), (Prod.snd (Prod.snd y1)), (Prod.snd (Prod.snd y1)), (List.replicate (Int.toNat (T_api_Config.Pages (T_assartref02_Layout.C (Prod.fst (Prod.snd y1))))) (0 : Int)))) else none) else none)))

noncomputable def sb_law10_PlistAgree_L2 (e : Int) (c2 : T_layout_Layout) (w : List Int) (w2 : List Int) (w3 : List Int) (iv : Int) : Option ((Int) ⊕ (Bool)) :=
  (bif (Decidable.decide (iv < (↑(List.length w3) : Int))) then (bif (inR iv (List.length w3)) then (bif (inR (offs iv 0) (List.length w3)) then (bif (Decidable.decide (List.getD w3 (Int.toNat (offs iv 0)) 0 < 0)) then some (.inr ((Bool.false))) else (bif (Decidable.decide (List.getD w3 (Int.toNat (offs iv 0)) 0 ≥ (↑(List.length w2) : Int))) then some (.inr ((Bool.false))) else ((m_layout_Layout_Prev c2 (List.getD w3 (Int.toNat (offs iv 0)) 0)).bind fun y0 => (bif (inR y0 (List.length w)) then (bif (inR (offs y0 0) (List.length w)) then (bif (!(List.getD w (Int.toNat (offs y0 0)) 0 == 0) == (iv == 0)) then some (.inr ((Bool.false))) else ((m_layout_Layout_Next c2 (List.getD w3 (Int.toNat (offs iv 0)) 0)).bind fun y1 => (bif (inR y1 (List.length w)) then (bif (inR (offs y1 0) (List.length w)) then (bif (!(List.getD w (Int.toNat (offs y1 0)) 0 == 0) == (IntKind.wrap IntKind.i64 (iv + 1) == (↑(List.length w3) : Int))) then some (.inr ((Bool.false))) else (bif (Decidable.decide (iv > 0)) then (bif (inR (IntKind.wrap IntKind.i64 (iv - 1)) (List.length w3)) then (bif (inR (offs (IntKind.wrap IntKind.i64 (iv - 1)) 0) (List.length w3)) then ((m_layout_Layout_Prev c2 (List.getD w3 (Int.toNat (offs iv 0)) 0)).bind fun y2 => (bif (inR y2 (List.length w)) then (bif (inR (offs y2 0) (List.length w)) then (bif (List.getD w (Int.toNat (offs y2 0)) 0 != IntKind.wrap IntKind.i64 (List.getD w3 (Int.toNat (offs (IntKind.wrap IntKind.i64 (iv - 1)) 0)) 0 + 1)) then some (.inr ((Bool.false))) else some (.inl (IntKind.wrap IntKind.i64 (iv + 1)))) else none) else none)) else none) else none) else some (.inl (IntKind.wrap IntKind.i64 (iv + 1))))) else none) else none))) else none) else none)))) else none) else none) else (bif (e == 0) then ((m_law10_lives).bind fun y3 => some (.inr ((y3)))) else some (.inr ((Bool.false)))))

noncomputable def lp_law10_PlistAgree_L2 (e : Int) (c2 : T_layout_Layout) (w : List Int) (w2 : List Int) (w3 : List Int) (s : Int) : Option (Bool) :=
  loopO (fun s => sb_law10_PlistAgree_L2 e c2 w w2 w3 s) s

noncomputable def sb_law10_PlistAgree_L1 (q : Int) (f : Int) (c2 : T_layout_Layout) (w : List Int) (w2 : List Int) (p : Int) : Option ((Int) ⊕ (Bool)) :=
  (bif (Decidable.decide (p < (↑(List.length w2) : Int))) then (bif (inR p (List.length w2)) then (bif (inR (offs p 0) (List.length w2)) then (bif (List.getD w2 (Int.toNat (offs p 0)) 0 == 0) then ((m_layout_Layout_Next c2 p).bind fun y0 => (bif (inR y0 (List.length w)) then (bif (inR (offs y0 0) (List.length w)) then (bif (List.getD w (Int.toNat (offs y0 0)) 0 != 0) then some (.inr ((Bool.false))) else ((m_layout_Layout_Prev c2 p).bind fun y1 => (bif (inR y1 (List.length w)) then (bif (inR (offs y1 0) (List.length w)) then (bif (List.getD w (Int.toNat (offs y1 0)) 0 != 0) then some (.inr ((Bool.false))) else some (.inl (IntKind.wrap IntKind.i64 (p + 1)))) else none) else none))) else none) else none)) else some (.inl (IntKind.wrap IntKind.i64 (p + 1)))) else none) else none) else (bif (Nat.ble (List.length w) 1048576) then ((m_law10_PlistAgree_1 (List.length w) w c2 q f).bind fun y2 => ((lp_law10_PlistAgree_L2 (0) (c2) (w) (w2) (y2) (0)).bind fun z => some (.inr z))) else none))

noncomputable def lp_law10_PlistAgree_L1 (q : Int) (f : Int) (c2 : T_layout_Layout) (w : List Int) (w2 : List Int) (s : Int) : Option (Bool) :=
  loopO (fun s => sb_law10_PlistAgree_L1 q f c2 w w2 s) s

noncomputable def m_law10_PlistAgree (c : T_api_Config) (q : Int) (f : Int) (acts : List (List Int)) : Option (Bool) :=
  (bif (Decidable.decide ((↑(List.length acts) : Int) > 60)) then ((m_law10_lives).bind fun y0 => some ((y0))) else ((m_law10_after c acts).bind fun y1 => (bif (!Prod.snd (Prod.snd (Prod.snd y1))) then some ((Bool.false)) else (lp_law10_PlistAgree_L1 q f (Prod.fst y1) (Prod.fst (Prod.snd y1)) (Prod.fst (Prod.snd (Prod.snd y1))) (0)))))

noncomputable def m_law10_PlistOut (c : T_api_Config) (p : Int) (q : Int) (f : Int) (acts : List (List Int)) : Option (Bool) :=
  (bif (Decidable.decide ((↑(List.length acts) : Int) > 60)) then ((m_law10_lives).bind fun y0 => some ((y0))) else ((m_law10_after c acts).bind fun y1 => (bif (!Prod.snd (Prod.snd (Prod.snd y1))) then some ((Bool.false)) else (bif (Decidable.decide (p < 0)) then ((m_law10_lives).bind fun y2 => some ((y2))) else (bif (Decidable.decide (p ≥ (↑(List.length (Prod.fst (Prod.snd (Prod.snd y1)))) : Int))) then ((m_law10_lives).bind fun y3 => some ((y3))) else (bif (Nat.ble (List.length (Prod.fst (Prod.snd y1))) 1048576) then ((m_law10_PlistOut_1 (List.length (Prod.fst (Prod.snd y1))) (Prod.fst (Prod.snd y1)) (Prod.fst y1) q f p Bool.false (Prod.fst (Prod.snd (Prod.snd y1)))).bind fun y4 => (bif (Prod.snd y4) then (bif (inR p (List.length (Prod.fst (Prod.snd (Prod.snd y1))))) then (bif (inR (offs p 0) (List.length (Prod.fst (Prod.snd (Prod.snd y1))))) then (bif (List.getD (Prod.fst (Prod.snd (Prod.snd y1))) (Int.toNat (offs p 0)) 0 != 0) then ((m_law10_lives).bind fun y6 => some ((y6))) else ((m_law01_Ints_Same (Prod.fst y4) (Prod.fst (Prod.snd y1))).bind fun y7 => (bif (y7) then ((m_law10_lives).bind fun y8 => some ((y8))) else some ((Bool.false))))) else none) else none) else some ((Bool.false)))) else none))))))

noncomputable def m_law10_PlistEach (c : T_api_Config) (acts : List (List Int)) : Option (Bool) :=
  (bif (Decidable.decide ((↑(List.length acts) : Int) > 60)) then ((m_law10_lives).bind fun y0 => some ((y0))) else ((m_law10_after c acts).bind fun y1 => (bif (Decidable.decide (0 ≤ (↑(List.length (Prod.fst (Prod.snd (Prod.snd y1)))) : Int) ∧ (↑(List.length (Prod.fst (Prod.snd (Prod.snd y1)))) : Int) ≤ (↑(List.length (Prod.fst (Prod.snd (Prod.snd y1)))) : Int) ∧ (↑(List.length (Prod.fst (Prod.snd (Prod.snd y1)))) : Int) ≤ 1048576)) then (bif (Nat.ble (List.length (Prod.fst (Prod.snd y1))) 1048576) then ((m_law10_PlistEach_1 (List.length (Prod.fst (Prod.snd y1))) (Prod.fst (Prod.snd y1)) Bool.false (Prod.fst y1) (Prod.fst (Prod.snd (Prod.snd y1))) (List.replicate (Int.toNat (↑(List.length (Prod.fst (Prod.snd (Prod.snd y1)))) : Int)) (0 : Int))).bind fun y2 => (bif (Prod.snd (Prod.snd (Prod.snd y1))) then (bif (Prod.snd y2) then ((m_law01_Ints_Same (Prod.fst y2) (Prod.fst (Prod.snd (Prod.snd y1)))).bind fun y4 => (bif (y4) then ((m_law10_lives).bind fun y5 => some ((y5))) else some ((Bool.false)))) else some ((Bool.false))) else some ((Bool.false)))) else none) else none)))

attribute [local irreducible] Loop ex exF contK roundK retK at_ bodyOf mkEnv
theorem ok_law10_lives : SpecOK Try.prog elTT 32 (sp_law10_lives m_law10_lives) := by
  refine spec_of_exF (cfg := (cfg_law10_lives m_law08_Small m_layout_Of m_layout_Layout_Words m_law10_lives_1 m_law01_Ints_Same)) (cfg_ok rfl rfl rfl) (sig_cons ok_law08_Small (sig_cons ok_layout_Of (sig_cons ok_layout_Layout_Words (sig_cons (okdo_law10_lives_1 ok_law10_lives_1) (sig_cons ok_law01_Ints_Same sig_nil))))) (fn := Try.f32) (by kernel_rfl) (by kernel_rfl) (by kernel_rfl) ?_
  intro args H K h
  change tr_law10_lives m_law10_lives args H K at h
  unfold tr_law10_lives at h
  replace h := aN_el h
  obtain ⟨rfl, h⟩ := h
  replace h := aN_el h
  obtain ⟨rfl, h⟩ := h
  refine Eq.mpr (nf_law10_lives m_law08_Small m_layout_Of m_layout_Layout_Words m_law10_lives_1 m_law01_Ints_Same  K) ?_
  unfold m_law10_lives at h
  revert h
  exact bind_So fun y0 => bind_So fun y1 => bind_So fun y2 => req_So (req_So (bind_So fun y3 => all_So fun y4 => br_So (bind_So fun y5 => br_So (bind_So fun y6 => br_So (bind_So fun y7 => fun h => h) (fun h => h)) (fun h => h)) (fun h => h)))

theorem ok_law10_after : SpecOK Try.prog elTT 33 (sp_law10_after m_law10_after) := by
  refine spec_of_exF (cfg := (cfg_law10_after m_law08_Begin m_law10_after_1)) (cfg_ok rfl rfl rfl) (sig_cons ok_law08_Begin (sig_cons (okdo_law10_after_1 ok_law10_after_1) sig_nil)) (fn := Try.f33) (by kernel_rfl) (by kernel_rfl) (by kernel_rfl) ?_
  intro args H K h
  change tr_law10_after m_law10_after args H K at h
  unfold tr_law10_after at h
  replace h := aC_el h
  obtain ⟨a0, _, rfl, h⟩ := h
  replace h := aC_el h
  obtain ⟨a1, _, rfl, h⟩ := h
  replace h := aN_el h
  obtain ⟨rfl, h⟩ := h
  replace h := aAgg_el h
  obtain ⟨c0, rfl, h⟩ := h
  replace h := d_api_Config_el h
  obtain ⟨c, rfl, h⟩ := h
  replace h := aRow_el h
  obtain ⟨rfl, h⟩ := h
  replace h := aC_el h
  obtain ⟨b0, _, rfl, h⟩ := h
  replace h := aN_el h
  obtain ⟨rfl, h⟩ := h
  replace h := bRow_el h
  obtain ⟨(acts : List (List Int)), rfl, h⟩ := h
  refine Eq.mpr (nf_law10_after m_law08_Begin m_law10_after_1 c acts K) ?_
  unfold m_law10_after at h
  revert h
  exact bind_So fun y0 => req_So (req_So (bind_So fun y1 => all_So fun y2 => fun h => h))

theorem lpok_law10_PlistPlays_L1 (c : T_api_Config) (q : Int) (acts : List (List Int)) (iv : Int) (c2 : T_layout_Layout) (c3 : T_assartref02_Layout) (w : List Int) (w2 : List Int) (w3 : List Int) (K : V → Heap → Prop) : So (lp_law10_PlistPlays_L1 (q) (acts) (c2) (c3) (iv, w, w2, w3)) (fun (x : Bool) => K (vb (x)) [.row 39 acts true]) → Loop (cfg_law10_PlistPlays m_law10_lives m_law08_Begin m_law10_Where_skipped m_law10_PlistPlays_1 m_law10_told m_law10_Where_note m_ref10_List m_law01_Ints_Same m_ref10_First) (⟨101, 1⟩ : Cx) (at_ (bodyOf Try.f8) [1, 1, 1, 1, 1, 0, 1, 0, 0]) (mkEnv [(1, .row 0), (5, .ptr 1 0), (7, .ptr 2 0), (8, .ptr 3 0), (9, .row 4), (10, .row 5), (11, .row 6), (12, vi (iv))]) [.row 39 (acts : List (List Int)) Bool.true, .cells 3 [vi (q)], .cells 28 (e_layout_Layout c2), .cells 30 (e_api_Config (T_assartref02_Layout.C c3)), .row 0 (w : List (Int)) Bool.false, .row 0 (w2 : List (Int)) Bool.false, .row 0 (w3 : List (Int)) Bool.false] (contK (cfg_law10_PlistPlays m_law10_lives m_law08_Begin m_law10_Where_skipped m_law10_PlistPlays_1 m_law10_told m_law10_Where_note m_ref10_List m_law01_Ints_Same m_ref10_First) (⟨101, 1⟩ : Cx) (bodyOf Try.f8) [1, 1, 1, 1, 1, 0, 1, 0] (retK (cfg_law10_PlistPlays m_law10_lives m_law08_Begin m_law10_Where_skipped m_law10_PlistPlays_1 m_law10_told m_law10_Where_note m_ref10_List m_law01_Ints_Same m_ref10_First) Try.f8 1 K)) := by
  refine loopK_So (fun (s_ : Int × (List Int) × (List Int) × (List Int)) => (mkEnv [(1, .row 0), (5, .ptr 1 0), (7, .ptr 2 0), (8, .ptr 3 0), (9, .row 4), (10, .row 5), (11, .row 6), (12, vi ((s_.1)))])) (fun (s_ : Int × (List Int) × (List Int) × (List Int)) => [.row 39 (acts : List (List Int)) Bool.true, .cells 3 [vi (q)], .cells 28 (e_layout_Layout c2), .cells 30 (e_api_Config (T_assartref02_Layout.C c3)), .row 0 ((s_.2.1) : List (Int)) Bool.false, .row 0 ((s_.2.2.1) : List (Int)) Bool.false, .row 0 ((s_.2.2.2) : List (Int)) Bool.false]) (fun (x : Bool) => K (vb (x)) [.row 39 acts true]) ?_ (iv, w, w2, w3)
  intro s_ J1 h
  clear iv
  clear w
  clear w2
  clear w3
  obtain ⟨iv, w, w2, w3⟩ := s_
  refine Eq.mpr (nf_law10_PlistPlays_L1 m_law10_lives m_law08_Begin m_law10_Where_skipped m_law10_PlistPlays_1 m_law10_told m_law10_Where_note m_ref10_List m_law01_Ints_Same m_ref10_First c q acts iv c2 c3 w w2 w3 K J1) ?_
  have h : So (sb_law10_PlistPlays_L1 (q) (acts) (c2) (c3) iv w w2 w3) _ := h
  unfold sb_law10_PlistPlays_L1 at h
  revert h
  exact br_So (req_So (req_So (bind_So fun y0 => br_So (fun h => h) (req_So (bind_So fun y1 => all_So fun y2 => bind_So fun y3 => br_So (bind_So fun y4 => br_So (fun h => h) (bind_So fun y5 => bind_So fun y6 => br_So (fun h => h) (bind_So fun y7 => br_So (fun h => h) (bind_So fun y8 => br_So (fun h => h) (fun h => h))))) (br_So (fun h => h) (bind_So fun y9 => bind_So fun y10 => br_So (fun h => h) (bind_So fun y11 => br_So (fun h => h) (bind_So fun y12 => br_So (fun h => h) (fun h => h)))))))))) (bind_So fun y13 => fun h => h)

theorem ok_law10_PlistPlays : SpecOK Try.prog elTT 8 (sp_law10_PlistPlays m_law10_PlistPlays) := by
  refine spec_of_exF (cfg := (cfg_law10_PlistPlays m_law10_lives m_law08_Begin m_law10_Where_skipped m_law10_PlistPlays_1 m_law10_told m_law10_Where_note m_ref10_List m_law01_Ints_Same m_ref10_First)) (cfg_ok rfl rfl rfl) (sig_cons ok_law10_lives (sig_cons ok_law08_Begin (sig_cons ok_law10_Where_skipped (sig_cons (okdo_law10_PlistPlays_1 ok_law10_PlistPlays_1) (sig_cons ok_law10_told (sig_cons ok_law10_Where_note (sig_cons ok_ref10_List (sig_cons ok_law01_Ints_Same (sig_cons ok_ref10_First sig_nil))))))))) (fn := Try.f8) (by kernel_rfl) (by kernel_rfl) (by kernel_rfl) ?_
  intro args H K h
  change tr_law10_PlistPlays m_law10_PlistPlays args H K at h
  unfold tr_law10_PlistPlays at h
  replace h := aC_el h
  obtain ⟨a0, _, rfl, h⟩ := h
  replace h := aC_el h
  obtain ⟨a1, _, rfl, h⟩ := h
  replace h := aC_el h
  obtain ⟨a2, _, rfl, h⟩ := h
  replace h := aN_el h
  obtain ⟨rfl, h⟩ := h
  replace h := aAgg_el h
  obtain ⟨c0, rfl, h⟩ := h
  replace h := d_api_Config_el h
  obtain ⟨c, rfl, h⟩ := h
  replace h := aRow_el h
  obtain ⟨rfl, h⟩ := h
  replace h := aInt_el h
  obtain ⟨q, rfl, h⟩ := h
  replace h := aC_el h
  obtain ⟨b0, _, rfl, h⟩ := h
  replace h := aN_el h
  obtain ⟨rfl, h⟩ := h
  replace h := bRow_el h
  obtain ⟨(acts : List (List Int)), rfl, h⟩ := h
  refine Eq.mpr (nf_law10_PlistPlays m_law10_lives m_law08_Begin m_law10_Where_skipped m_law10_PlistPlays_1 m_law10_told m_law10_Where_note m_ref10_List m_law01_Ints_Same m_ref10_First c q acts K) ?_
  unfold m_law10_PlistPlays at h
  revert h
  exact br_So (bind_So fun y0 => fun h => h) (bind_So fun y1 => req_So (req_So (lpok_law10_PlistPlays_L1 c q acts (0) (Prod.fst y1) (Prod.fst (Prod.snd y1)) (Prod.snd (Prod.snd y1)) (Prod.snd (Prod.snd y1)) (List.replicate (Int.toNat (T_api_Config.Pages (T_assartref02_Layout.C (Prod.fst (Prod.snd y1))))) (0 : Int)) K)))

theorem lpok_law10_PlistAgree_L2 (c : T_api_Config) (q : Int) (f : Int) (acts : List (List Int)) (e : Int) (iv : Int) (c2 : T_layout_Layout) (w : List Int) (w2 : List Int) (w3 : List Int) (K : V → Heap → Prop) : So (lp_law10_PlistAgree_L2 (e) (c2) (w) (w2) (w3) iv) (fun (x : Bool) => K (vb (x)) [.row 39 acts true]) → Loop (cfg_law10_PlistAgree m_law10_lives m_law10_after m_layout_Layout_Next m_layout_Layout_Prev m_law10_PlistAgree_1) (⟨139, 1⟩ : Cx) (at_ (bodyOf Try.f6) [1, 1, 1, 1, 1, 1, 1, 0, 1, 0, 0]) (mkEnv [(9, .ptr 1 0), (10, .row 2), (11, .row 3), (14, .ptr 4 0), (17, vi (e)), (18, vi (iv))]) [.row 39 (acts : List (List Int)) Bool.true, .cells 28 (e_layout_Layout c2), .row 0 (w : List (Int)) Bool.false, .row 0 (w2 : List (Int)) Bool.false, .cells 31 [.row 5], .row 0 (w3 : List (Int)) Bool.false] (contK (cfg_law10_PlistAgree m_law10_lives m_law10_after m_layout_Layout_Next m_layout_Layout_Prev m_law10_PlistAgree_1) (⟨139, 1⟩ : Cx) (bodyOf Try.f6) [1, 1, 1, 1, 1, 1, 1, 0, 1, 0] (retK (cfg_law10_PlistAgree m_law10_lives m_law10_after m_layout_Layout_Next m_layout_Layout_Prev m_law10_PlistAgree_1) Try.f6 1 K)) := by
  refine loopK_So (fun (s_ : Int) => (mkEnv [(9, .ptr 1 0), (10, .row 2), (11, .row 3), (14, .ptr 4 0), (17, vi (e)), (18, vi ((s_)))])) (fun (s_ : Int) => [.row 39 (acts : List (List Int)) Bool.true, .cells 28 (e_layout_Layout c2), .row 0 (w : List (Int)) Bool.false, .row 0 (w2 : List (Int)) Bool.false, .cells 31 [.row 5], .row 0 (w3 : List (Int)) Bool.false]) (fun (x : Bool) => K (vb (x)) [.row 39 acts true]) ?_ iv
  intro s_ J1 h
  clear iv
  revert h; revert s_; intro iv h
  refine Eq.mpr (nf_law10_PlistAgree_L2 m_law10_lives m_law10_after m_layout_Layout_Next m_layout_Layout_Prev m_law10_PlistAgree_1 c q f acts e iv c2 w w2 w3 K J1) ?_
  have h : So (sb_law10_PlistAgree_L2 (e) (c2) (w) (w2) (w3) iv) _ := h
  unfold sb_law10_PlistAgree_L2 at h
  revert h
  exact br_So (req_So (req_So (br_So (fun h => h) (br_So (fun h => h) (bind_So fun y0 => req_So (req_So (br_So (fun h => h) (bind_So fun y1 => req_So (req_So (br_So (fun h => h) (br_So (req_So (req_So (bind_So fun y2 => req_So (req_So (br_So (fun h => h) (fun h => h)))))) (fun h => h)))))))))))) (br_So (bind_So fun y3 => fun h => h) (fun h => h))

theorem lpok_law10_PlistAgree_L1 (c : T_api_Config) (q : Int) (f : Int) (acts : List (List Int)) (p : Int) (c2 : T_layout_Layout) (w : List Int) (w2 : List Int) (K : V → Heap → Prop) : So (lp_law10_PlistAgree_L1 (q) (f) (c2) (w) (w2) p) (fun (x : Bool) => K (vb (x)) [.row 39 acts true]) → Loop (cfg_law10_PlistAgree m_law10_lives m_law10_after m_layout_Layout_Next m_layout_Layout_Prev m_law10_PlistAgree_1) (⟨139, 1⟩ : Cx) (at_ (bodyOf Try.f6) [1, 1, 1, 1, 0, 1, 0, 0]) (mkEnv [(6, .ptr 1 0), (7, .ptr 2 0), (9, .ptr 3 0), (10, .row 4), (11, .row 5), (13, vi (p))]) [.row 39 (acts : List (List Int)) Bool.true, .cells 3 [vi (q)], .cells 3 [vi (f)], .cells 28 (e_layout_Layout c2), .row 0 (w : List (Int)) Bool.false, .row 0 (w2 : List (Int)) Bool.false] (contK (cfg_law10_PlistAgree m_law10_lives m_law10_after m_layout_Layout_Next m_layout_Layout_Prev m_law10_PlistAgree_1) (⟨139, 1⟩ : Cx) (bodyOf Try.f6) [1, 1, 1, 1, 0, 1, 0] (retK (cfg_law10_PlistAgree m_law10_lives m_law10_after m_layout_Layout_Next m_layout_Layout_Prev m_law10_PlistAgree_1) Try.f6 1 K)) := by
  refine loopK_So (fun (s_ : Int) => (mkEnv [(6, .ptr 1 0), (7, .ptr 2 0), (9, .ptr 3 0), (10, .row 4), (11, .row 5), (13, vi ((s_)))])) (fun (s_ : Int) => [.row 39 (acts : List (List Int)) Bool.true, .cells 3 [vi (q)], .cells 3 [vi (f)], .cells 28 (e_layout_Layout c2), .row 0 (w : List (Int)) Bool.false, .row 0 (w2 : List (Int)) Bool.false]) (fun (x : Bool) => K (vb (x)) [.row 39 acts true]) ?_ p
  intro s_ J1 h
  clear p
  revert h; revert s_; intro p h
  refine Eq.mpr (nf_law10_PlistAgree_L1 m_law10_lives m_law10_after m_layout_Layout_Next m_layout_Layout_Prev m_law10_PlistAgree_1 c q f acts p c2 w w2 K J1) ?_
  have h : So (sb_law10_PlistAgree_L1 (q) (f) (c2) (w) (w2) p) _ := h
  unfold sb_law10_PlistAgree_L1 at h
  revert h
  exact br_So (req_So (req_So (br_So (bind_So fun y0 => req_So (req_So (br_So (fun h => h) (bind_So fun y1 => req_So (req_So (br_So (fun h => h) (fun h => h))))))) (fun h => h)))) (req_So (bind_So fun y2 => all_So fun y3 => mapK_So (lpok_law10_PlistAgree_L2 c q f acts (0) (0) (c2) (w) (w2) (y2) K)))

theorem ok_law10_PlistAgree : SpecOK Try.prog elTT 6 (sp_law10_PlistAgree m_law10_PlistAgree) := by
  refine spec_of_exF (cfg := (cfg_law10_PlistAgree m_law10_lives m_law10_after m_layout_Layout_Next m_layout_Layout_Prev m_law10_PlistAgree_1)) (cfg_ok rfl rfl rfl) (sig_cons ok_law10_lives (sig_cons ok_law10_after (sig_cons ok_layout_Layout_Next (sig_cons ok_layout_Layout_Prev (sig_cons (okdo_law10_PlistAgree_1 ok_law10_PlistAgree_1) sig_nil))))) (fn := Try.f6) (by kernel_rfl) (by kernel_rfl) (by kernel_rfl) ?_
  intro args H K h
  change tr_law10_PlistAgree m_law10_PlistAgree args H K at h
  unfold tr_law10_PlistAgree at h
  replace h := aC_el h
  obtain ⟨a0, _, rfl, h⟩ := h
  replace h := aC_el h
  obtain ⟨a1, _, rfl, h⟩ := h
  replace h := aC_el h
  obtain ⟨a2, _, rfl, h⟩ := h
  replace h := aC_el h
  obtain ⟨a3, _, rfl, h⟩ := h
  replace h := aN_el h
  obtain ⟨rfl, h⟩ := h
  replace h := aAgg_el h
  obtain ⟨c0, rfl, h⟩ := h
  replace h := d_api_Config_el h
  obtain ⟨c, rfl, h⟩ := h
  replace h := aRow_el h
  obtain ⟨rfl, h⟩ := h
  replace h := aInt_el h
  obtain ⟨q, rfl, h⟩ := h
  replace h := aInt_el h
  obtain ⟨f, rfl, h⟩ := h
  replace h := aC_el h
  obtain ⟨b0, _, rfl, h⟩ := h
  replace h := aN_el h
  obtain ⟨rfl, h⟩ := h
  replace h := bRow_el h
  obtain ⟨(acts : List (List Int)), rfl, h⟩ := h
  refine Eq.mpr (nf_law10_PlistAgree m_law10_lives m_law10_after m_layout_Layout_Next m_layout_Layout_Prev m_law10_PlistAgree_1 c q f acts K) ?_
  unfold m_law10_PlistAgree at h
  revert h
  exact br_So (bind_So fun y0 => fun h => h) (bind_So fun y1 => br_So (fun h => h) (lpok_law10_PlistAgree_L1 c q f acts (0) (Prod.fst y1) (Prod.fst (Prod.snd y1)) (Prod.fst (Prod.snd (Prod.snd y1))) K))

theorem ok_law10_PlistOut : SpecOK Try.prog elTT 7 (sp_law10_PlistOut m_law10_PlistOut) := by
  refine spec_of_exF (cfg := (cfg_law10_PlistOut m_law10_lives m_law10_after m_law10_PlistOut_1 m_law01_Ints_Same)) (cfg_ok rfl rfl rfl) (sig_cons ok_law10_lives (sig_cons ok_law10_after (sig_cons (okdo_law10_PlistOut_1 ok_law10_PlistOut_1) (sig_cons ok_law01_Ints_Same sig_nil)))) (fn := Try.f7) (by kernel_rfl) (by kernel_rfl) (by kernel_rfl) ?_
  intro args H K h
  change tr_law10_PlistOut m_law10_PlistOut args H K at h
  unfold tr_law10_PlistOut at h
  replace h := aC_el h
  obtain ⟨a0, _, rfl, h⟩ := h
  replace h := aC_el h
  obtain ⟨a1, _, rfl, h⟩ := h
  replace h := aC_el h
  obtain ⟨a2, _, rfl, h⟩ := h
  replace h := aC_el h
  obtain ⟨a3, _, rfl, h⟩ := h
  replace h := aC_el h
  obtain ⟨a4, _, rfl, h⟩ := h
  replace h := aN_el h
  obtain ⟨rfl, h⟩ := h
  replace h := aAgg_el h
  obtain ⟨c0, rfl, h⟩ := h
  replace h := d_api_Config_el h
  obtain ⟨c, rfl, h⟩ := h
  replace h := aRow_el h
  obtain ⟨rfl, h⟩ := h
  replace h := aInt_el h
  obtain ⟨p, rfl, h⟩ := h
  replace h := aInt_el h
  obtain ⟨q, rfl, h⟩ := h
  replace h := aInt_el h
  obtain ⟨f, rfl, h⟩ := h
  replace h := aC_el h
  obtain ⟨b0, _, rfl, h⟩ := h
  replace h := aN_el h
  obtain ⟨rfl, h⟩ := h
  replace h := bRow_el h
  obtain ⟨(acts : List (List Int)), rfl, h⟩ := h
  refine Eq.mpr (nf_law10_PlistOut m_law10_lives m_law10_after m_law10_PlistOut_1 m_law01_Ints_Same c p q f acts K) ?_
  unfold m_law10_PlistOut at h
  revert h
  exact br_So (bind_So fun y0 => fun h => h) (bind_So fun y1 => br_So (fun h => h) (br_So (bind_So fun y2 => fun h => h) (br_So (bind_So fun y3 => fun h => h) (req_So (bind_So fun y4 => all_So fun y5 => br_So (req_So (req_So (br_So (bind_So fun y6 => fun h => h) (bind_So fun y7 => br_So (bind_So fun y8 => fun h => h) (fun h => h))))) (fun h => h))))))

theorem ok_law10_PlistEach : SpecOK Try.prog elTT 9 (sp_law10_PlistEach m_law10_PlistEach) := by
  refine spec_of_exF (cfg := (cfg_law10_PlistEach m_law10_lives m_law10_after m_law10_PlistEach_1 m_law01_Ints_Same)) (cfg_ok rfl rfl rfl) (sig_cons ok_law10_lives (sig_cons ok_law10_after (sig_cons (okdo_law10_PlistEach_1 ok_law10_PlistEach_1) (sig_cons ok_law01_Ints_Same sig_nil)))) (fn := Try.f9) (by kernel_rfl) (by kernel_rfl) (by kernel_rfl) ?_
  intro args H K h
  change tr_law10_PlistEach m_law10_PlistEach args H K at h
  unfold tr_law10_PlistEach at h
  replace h := aC_el h
  obtain ⟨a0, _, rfl, h⟩ := h
  replace h := aC_el h
  obtain ⟨a1, _, rfl, h⟩ := h
  replace h := aN_el h
  obtain ⟨rfl, h⟩ := h
  replace h := aAgg_el h
  obtain ⟨c0, rfl, h⟩ := h
  replace h := d_api_Config_el h
  obtain ⟨c, rfl, h⟩ := h
  replace h := aRow_el h
  obtain ⟨rfl, h⟩ := h
  replace h := aC_el h
  obtain ⟨b0, _, rfl, h⟩ := h
  replace h := aN_el h
  obtain ⟨rfl, h⟩ := h
  replace h := bRow_el h
  obtain ⟨(acts : List (List Int)), rfl, h⟩ := h
  refine Eq.mpr (nf_law10_PlistEach m_law10_lives m_law10_after m_law10_PlistEach_1 m_law01_Ints_Same c acts K) ?_
  unfold m_law10_PlistEach at h
  revert h
  exact br_So (bind_So fun y0 => fun h => h) (bind_So fun y1 => req_So (req_So (bind_So fun y2 => all_So fun y3 => br_So (br_So (bind_So fun y4 => br_So (bind_So fun y5 => fun h => h) (fun h => h)) (fun h => h)) (fun h => h))))

end Go.Rx
end

section
/- The laws of chapter 10, plainly. -/
namespace Go.Rx
open Go.Proofs

theorem LayOK.words {L : T_layout_Layout} (h : LayOK L) : 128 ≤ L.at_11 ∧ L.at_11 ≤ 40000 := by
  have hb := h.big; have h11 := h.a11; have hp := h.pages
  omega

theorem lives10_eq : m_law10_lives = some true := by
  unfold m_law10_lives
  obtain ⟨d, hS, hR⟩ := Small_eq (T_api_Config.mk 0 0 0 0 0 0 0 0 0 0 0)
  rw [hS, Option.bind_some, Of_eq]
  have hR' : RightC (T_api_Config.mk d.Workers d.CPUs 6 d.Stripes d.Tries d.Wait d.Clock d.Private d.Cache d.Bin d.Batch) :=
    ⟨hR.workers, hR.cpus, by simp only; omega, hR.stripes, hR.tries, hR.wait, hR.clock, hR.private_, hR.cache, hR.bin, hR.batch⟩
  rw [if_pos hR', Option.bind_some, Words_eq, Option.bind_some]
  have hL := layC_ok hR'
  have hP : (layC (T_api_Config.mk d.Workers d.CPUs 6 d.Stripes d.Tries d.Wait d.Clock d.Private d.Cache d.Bin d.Batch)).c.Pages = 6 := rfl
  simp only
  generalize layC (T_api_Config.mk d.Workers d.CPUs 6 d.Stripes d.Tries d.Wait d.Clock d.Private d.Cache d.Bin d.Batch) = L at *
  have hw := hL.words
  have v0 := rep_VOK hL
  have r0 := RepW.start hL
  have hlen : (List.replicate L.at_11.toNat (0 : Int)).length = L.at_11.toNat := by simp
  rw [decide_eq_true (by omega), cond_true, Nat.ble_eq_true_of_le (by rw [hlen]; omega), cond_true]
  generalize List.replicate L.at_11.toNat (0 : Int) = w at *
  have k : isL 0 2 := by decide
  have l0 := r0.lst 0 2 k
  have g0 : Geo L.at_4 L.c.Pages w.length (hdI (L.at_4 + 2 * L.c.Pages) 0 2) := v0.geoA.geo k
  obtain ⟨l1, o1⟩ := link_ok (p := 3) g0 l0 (by omega) (by simp)
  have v1 : VOK L w.length (linkW L.at_4 L.c.Pages w (hdI (L.at_4 + 2 * L.c.Pages) 0 2) 3) := ⟨hL, by rw [linkW_len], v0.all⟩
  have g1 : Geo L.at_4 L.c.Pages (linkW L.at_4 L.c.Pages w (hdI (L.at_4 + 2 * L.c.Pages) 0 2) 3).length (hdI (L.at_4 + 2 * L.c.Pages) 0 2) := by rw [linkW_len]; exact g0
  obtain ⟨l2, o2⟩ := link_ok (p := 5) g1 l1 (by omega) (by simp)
  have v2 : VOK L w.length (linkW L.at_4 L.c.Pages (linkW L.at_4 L.c.Pages w (hdI (L.at_4 + 2 * L.c.Pages) 0 2) 3) (hdI (L.at_4 + 2 * L.c.Pages) 0 2) 5) := ⟨hL, by rw [linkW_len, linkW_len], v0.all⟩
  have g2 : Geo L.at_4 L.c.Pages (linkW L.at_4 L.c.Pages (linkW L.at_4 L.c.Pages w (hdI (L.at_4 + 2 * L.c.Pages) 0 2) 3) (hdI (L.at_4 + 2 * L.c.Pages) 0 2) 5).length (hdI (L.at_4 + 2 * L.c.Pages) 0 2) := by rw [linkW_len]; exact g1
  obtain ⟨l3, o3, _, _⟩ := unlink_ok (k := 0) g2 l2 (by simp)
  simp only [List.getD_cons_zero, List.eraseIdx_cons_zero] at l3 o3
  have v3 : VOK L w.length (unlinkW L.at_4 L.c.Pages (linkW L.at_4 L.c.Pages (linkW L.at_4 L.c.Pages w (hdI (L.at_4 + 2 * L.c.Pages) 0 2) 3) (hdI (L.at_4 + 2 * L.c.Pages) 0 2) 5) (hdI (L.at_4 + 2 * L.c.Pages) 0 2) 5) := ⟨hL, by rw [unlinkW_len, linkW_len, linkW_len], v0.all⟩
  unfold m_law10_lives_1
  rw [Link_eq v0 (fun _ => l0), if_pos ⟨k, by omega, by omega⟩]
  simp only [Option.bind_some]
  rw [Link_eq v1 (fun _ => l1), if_pos ⟨k, by omega, by omega⟩]
  simp only [Option.bind_some]
  rw [pList_eq v2 k l2]
  simp only [Option.bind_some]
  rw [Unlink_eq v2 (fun _ => l2), if_pos ⟨k, by simp⟩]
  simp only [Option.bind_some]
  rw [pList_eq v3 k l3]
  simp only [Option.bind_some, beq_self_eq_true, cond_true]
  rw [Same_eq (by simp)]
  simp only [Option.bind_some, decide_true, cond_true]
  rw [Same_eq (by simp)]
  simp only [Option.bind_some, decide_true, cond_true, Words_eq]
  rw [unlinkW_len, linkW_len, linkW_len, hlen]
  have e : ((L.at_11.toNat : Int) == L.at_11) = true := by simp; omega
  rw [e]

/-- What is behind some steps. -/
theorem after10_eq (c : T_api_Config) {acts : List (List Int)} (hl : acts.length ≤ 1000) : ∃ L w inn ls, m_law10_after c acts = some (L, w, inn, true) ∧ VOK L w.length w ∧ w.length ≤ 40000 ∧ RepW L.at_4 L.c.Pages w inn ls := by
  unfold m_law10_after
  obtain ⟨d, hR, hB⟩ := Begin_eq c
  have hL := layC_ok hR
  have hw := hL.words
  have hpg := hR.pages
  have hlen : (List.replicate (layC d).at_11.toNat (0 : Int)).length = (layC d).at_11.toNat := by simp
  rw [hB, Option.bind_some]
  simp only
  rw [decide_eq_true (by omega), cond_true, Nat.ble_eq_true_of_le (by rw [hlen]; omega), cond_true]
  obtain ⟨w', inn, ls, h1, h2, h3⟩ := after1_eq hR (List.replicate d.Pages.toNat 0) hl (w := List.replicate (layC d).at_11.toNat 0) rfl
  rw [h1, Option.bind_some]
  have hl2 := h2.len
  simp only
  rw [hl2, beq_self_eq_true]
  refine ⟨_, _, _, ls, rfl, ?_, by rw [hl2, hlen]; omega, h3⟩
  rw [← hl2] at h2; exact h2

theorem PlistOut_main (c : T_api_Config) (p q f : Int) (acts : List (List Int)) : m_law10_PlistOut c p q f acts = some true := by
  unfold m_law10_PlistOut
  by_cases hl : (acts.length : Int) > 60
  · rw [decide_eq_true hl, cond_true, lives10_eq]; rfl
  rw [decide_eq_false hl, cond_false]
  obtain ⟨L, w, inn, ls, h1, v, hwl, r⟩ := after10_eq c (acts := acts) (by omega)
  have hpg := v.lay.pages
  have hlen := r.len
  rw [h1, Option.bind_some]
  simp only [Bool.not_true, cond_false]
  by_cases p0 : p < 0
  · rw [decide_eq_true p0, cond_true, lives10_eq]; rfl
  rw [decide_eq_false p0, cond_false]
  by_cases p1 : p ≥ (inn.length : Int)
  · rw [decide_eq_true p1, cond_true, lives10_eq]; rfl
  rw [decide_eq_false p1, cond_false, Nat.ble_eq_true_of_le (by omega), cond_true]
  obtain ⟨u, e1, e2, e3⟩ := out1_eq v r (p := p) (by omega) q f false
  rw [e1, Option.bind_some]
  simp only [cond_true]
  rw [offs_nn (by omega), inR_int (by omega) (by omega), cond_true, cond_true]
  have hwd : inn.getD p.toNat 0 = wd inn p := rfl
  rw [hwd]
  by_cases z : wd inn p = 0
  · rw [z, show ((0 : Int) != 0) = false from rfl, cond_false, e3 z, Same_eq (by omega), Option.bind_some, decide_eq_true rfl, cond_true, lives10_eq]; rfl
  · have e : (wd inn p != 0) = true := by simpa using z
    rw [e, cond_true, lives10_eq]; rfl

theorem PlistEach_main (c : T_api_Config) (acts : List (List Int)) : m_law10_PlistEach c acts = some true := by
  unfold m_law10_PlistEach
  by_cases hl : (acts.length : Int) > 60
  · rw [decide_eq_true hl, cond_true, lives10_eq]; rfl
  rw [decide_eq_false hl, cond_false]
  obtain ⟨L, w, inn, ls, h1, v, hwl, r⟩ := after10_eq c (acts := acts) (by omega)
  have hpg := v.lay.pages
  have hlen := r.len
  rw [h1, Option.bind_some]
  simp only
  rw [decide_eq_true (by omega), cond_true, Nat.ble_eq_true_of_le (by omega), cond_true, each_eq v r, Option.bind_some]
  simp only [cond_true]
  rw [Same_eq (by omega), Option.bind_some, decide_eq_true rfl, cond_true, lives10_eq]; rfl

theorem agree2 {L : T_layout_Layout} {w inn : List Int} {ls : Int → Int → List Int} (v : VOK L w.length w) (r : RepW L.at_4 L.c.Pages w inn ls) (q f : Int) : lp_law10_PlistAgree_L2 0 L w inn (lsOf ls q f) 0 = some true := by
  have hpg := v.lay.pages
  have hlen := r.len
  have hg := v.geoA
  obtain ⟨g1, g2, g3⟩ := hg
  have hwl := lsOf_len v r q f
  have hls : isL q f → Lst L.at_4 L.c.Pages w (hdI (L.at_4 + 2 * L.c.Pages) q f) (lsOf ls q f) := fun k => by
    unfold lsOf; rw [if_pos k]; exact r.lst q f k
  have hno : ¬ isL q f → lsOf ls q f = [] := fun k => by unfold lsOf; rw [if_neg k]
  generalize lsOf ls q f = xs at *
  obtain ⟨rr, h1, rfl⟩ := loopO_ind (step := fun s : Int => sb_law10_PlistAgree_L2 0 L w inn xs s)
    (I := fun s => ∃ i : Nat, i ≤ xs.length ∧ s = i) (μ := fun s => xs.length - s.toNat) (fun rr => rr = true) (by
      rintro _ ⟨i, hi, rfl⟩
      simp only [sb_law10_PlistAgree_L2]
      by_cases c : i < xs.length
      · have k : isL q f := by
          by_cases k : isL q f
          · exact k
          · rw [hno k] at c; simp at c
        have l := hls k
        have hx := l.inn _ (getD_mem c)
        have ho : offs (i : Int) 0 = (i : Int) := rfl
        have hP : m_layout_Layout_Prev L (xs.getD i 0) = some (L.at_4 + L.c.Pages + xs.getD i 0) := by rw [Prev_eq v.lay, pv_is v.lay hx]
        have hN : m_layout_Layout_Next L (xs.getD i 0) = some (L.at_4 + xs.getD i 0) := by rw [Next_eq v.lay, nx_is hx]
        have o1 : offs (L.at_4 + xs.getD i 0) 0 = L.at_4 + xs.getD i 0 := offs_nn (by omega)
        have o2 : offs (L.at_4 + L.c.Pages + xs.getD i 0) 0 = L.at_4 + L.c.Pages + xs.getD i 0 := offs_nn (by omega)
        have r1 : inR (L.at_4 + xs.getD i 0) w.length = true := inR_int (by omega) (by omega)
        have r2 : inR (L.at_4 + L.c.Pages + xs.getD i 0) w.length = true := inR_int (by omega) (by omega)
        have eN : w.getD (L.at_4 + xs.getD i 0).toNat 0 = nxV xs (i + 1) := l.next i c
        have eP : w.getD (L.at_4 + L.c.Pages + xs.getD i 0).toNat 0 = pvV xs i := l.prev i c
        have bN : (nxV xs (i + 1) == 0) = decide (i + 1 = xs.length) := by
          have := (nxV_pos l (i + 1)).2
          by_cases e : i + 1 = xs.length
          · rw [decide_eq_true e, this.2 (by omega)]; rfl
          · rw [decide_eq_false e]
            have h0 : ¬ nxV xs (i + 1) = 0 := fun h => by have := this.1 h; omega
            simpa using h0
        have bP : (pvV xs i == 0) = ((i : Int) == 0) := by
          cases i with
          | zero => rw [pvV_zero]; rfl
          | succ j =>
            have hj := l.inn _ (getD_mem (i := j) (by omega))
            rw [pvV_succ, nxV_at (by omega)]
            have e1 : (xs.getD j 0 + 1 == 0) = false := by simpa using (show ¬ xs.getD j 0 + 1 = 0 by omega)
            have e2 : (((j + 1 : Nat) : Int) == 0) = false := by simpa using (show ¬ ((j + 1 : Nat) : Int) = 0 by omega)
            rw [e1, e2]
        rw [decide_eq_true (show (i : Int) < (xs.length : Int) by omega)]
        simp only [cond_true, ho, inR_nat c, Int.toNat_natCast, hP, hN, Option.bind_some, o1, o2, r1, r2, eN, eP, bN, bP]
        rw [decide_eq_false (show ¬ xs.getD i 0 < 0 by omega), cond_false, decide_eq_false (show ¬ xs.getD i 0 ≥ (inn.length : Int) by omega), cond_false, wrap_succ (by omega)]
        have b1 : (((i + 1 : Nat) : Int) == (xs.length : Int)) = decide (i + 1 = xs.length) := by
          by_cases e : i + 1 = xs.length
          · rw [decide_eq_true e, e]; simp
          · rw [decide_eq_false e]
            have : ¬ ((i + 1 : Nat) : Int) = (xs.length : Int) := by omega
            simpa using this
        rw [b1]
        simp only [beq_self_eq_true, Bool.not_true, cond_false]
        by_cases z : (i : Int) > 0
        · rw [decide_eq_true z, cond_true]
          have w2 : IntKind.i64.wrap ((i : Int) - 1) = ((i - 1 : Nat) : Int) := by rw [wrap_id (by omega) (by omega)]; omega
          have ho2 : offs ((i - 1 : Nat) : Int) 0 = ((i - 1 : Nat) : Int) := rfl
          have hb2 := l.inn _ (getD_mem (xs := xs) (i := i - 1) (by omega))
          have epv : pvV xs i = xs.getD (i - 1) 0 + 1 := by
            have : i = (i - 1) + 1 := by omega
            rw [this, pvV_succ, nxV_at (by omega)]; rfl
          rw [w2, ho2, inR_nat (by omega), Int.toNat_natCast, wrap_id (x := xs.getD (i - 1) 0 + 1) (by omega) (by omega), epv, bne_self_eq_false]
          exact .inl ⟨_, rfl, ⟨i + 1, c, rfl⟩, by omega⟩
        · rw [decide_eq_false z]
          exact .inl ⟨_, rfl, ⟨i + 1, c, rfl⟩, by omega⟩
      · rw [decide_eq_false (by omega), cond_false, lives10_eq]
        exact .inr ⟨_, rfl, rfl⟩) 0 ⟨0, by omega, rfl⟩
  exact h1

theorem PlistAgree_main (c : T_api_Config) (q f : Int) (acts : List (List Int)) : m_law10_PlistAgree c q f acts = some true := by
  unfold m_law10_PlistAgree
  by_cases hl : (acts.length : Int) > 60
  · rw [decide_eq_true hl, cond_true, lives10_eq]; rfl
  rw [decide_eq_false hl, cond_false]
  obtain ⟨L, w, inn, ls, h1, v, hwl, r⟩ := after10_eq c (acts := acts) (by omega)
  have hpg := v.lay.pages
  have hlen := r.len
  obtain ⟨g1, g2, g3⟩ := v.geoA
  rw [h1, Option.bind_some]
  simp only [Bool.not_true, cond_false]
  obtain ⟨rr, h1, rfl⟩ := loopO_ind (step := fun s : Int => sb_law10_PlistAgree_L1 q f L w inn s)
    (I := fun s => 0 ≤ s ∧ s ≤ L.c.Pages) (μ := fun s => (L.c.Pages - s).toNat) (fun rr => rr = true) (by
      rintro p ⟨p0, p1⟩
      simp only [sb_law10_PlistAgree_L1]
      by_cases c : p < L.c.Pages
      · have o0 : offs p 0 = p := offs_nn p0
        have o1 : offs (L.at_4 + p) 0 = L.at_4 + p := offs_nn (by omega)
        have o2 : offs (L.at_4 + L.c.Pages + p) 0 = L.at_4 + L.c.Pages + p := offs_nn (by omega)
        have r1 : inR (L.at_4 + p) w.length = true := inR_int (by omega) (by omega)
        have r2 : inR (L.at_4 + L.c.Pages + p) w.length = true := inR_int (by omega) (by omega)
        rw [decide_eq_true (by omega), wrap_id (x := p + 1) (by omega) (by omega)]
        simp only [cond_true, o0, inR_int p0 (show p < (inn.length : Int) by omega), Next_eq v.lay, Prev_eq v.lay, nx_is ⟨p0, c⟩, pv_is v.lay ⟨p0, c⟩, Option.bind_some, o1, o2, r1, r2]
        have hwd : inn.getD p.toNat 0 = wd inn p := rfl
        rw [hwd]
        by_cases z : wd inn p = 0
        · obtain ⟨z1, z2⟩ := r.none p p0 c z
          have e1 : w.getD (L.at_4 + p).toNat 0 = 0 := z1
          have e2 : w.getD (L.at_4 + L.c.Pages + p).toNat 0 = 0 := z2
          rw [z, beq_self_eq_true, cond_true, e1, e2, bne_self_eq_false]
          exact .inl ⟨_, rfl, ⟨by omega, by omega⟩, by omega⟩
        · have e : (wd inn p == 0) = false := by simpa using z
          rw [e]
          exact .inl ⟨_, rfl, ⟨by omega, by omega⟩, by omega⟩
      · rw [decide_eq_false (by omega), cond_false, Nat.ble_eq_true_of_le (by omega), cond_true]
        unfold m_law10_PlistAgree_1
        rw [pList_rep v r, Option.bind_some, Option.bind_some, agree2 v r]
        exact .inr ⟨_, rfl, rfl⟩) 0 ⟨by omega, by omega⟩
  exact h1
end Go.Rx
end

section
/- From a function's contract to the row of its law: how arguments read, and that they read so behind the call. -/
namespace Go.Rx
open Go.ChangeShapes Go.WideShapes Go.ChangeAt Go.RowKit

/-- The kinds of a law's arguments: a slice that is read, a value. -/
inductive AK where
  | row (tg : Nat)
  | el (tg : Nat)

/-- An element's numbers fit their kinds. -/
def elWf (tg : Nat) (e : El tg) : Prop := ∀ k n, Value.int k n ∈ elEnc tg e → (Lit.int k n).wf = true

/-- A value of an element's kind. -/
def elV : (tg : Nat) → El tg → V
  | 0, (n : Int) => vi n
  | 1, (b : Bool) => vb b
  | t, e => .agg ((elEnc t e).map .ext)

def ArgsOf : List AK → Nat → List V → Heap → Prop
  | [], _, ags, H => ags = [] ∧ H = []
  | .row tg :: ks, n, ags, H => ∃ (l : List (El tg)) (ags' : List V) (H' : Heap), ags = .row n :: ags' ∧ H = .row tg l true :: H' ∧ (∀ e ∈ l, elWf tg e) ∧ l.length ≤ maxLen ∧ ArgsOf ks (n + 1) ags' H'
  | .el tg :: ks, n, ags, H => ∃ (e : El tg) (ags' : List V), ags = elV tg e :: ags' ∧ elWf tg e ∧ ArgsOf ks n ags' H

/-- A law: whatever comes in, true. -/
def lawS (ks : List AK) : Spec where
  tr := fun args H K => ArgsOf ks 0 args H ∧ ∀ H', K (vb true) H'

section
variable {P : Program} {elT : ET}

/-- What a program must tell of an element's type. -/
structure ElOK (P : Program) (elT : ET) (tg : Nat) : Prop where
  cells : P.cellsOf (elT tg) = elM tg
  reads : ∀ {H : Type} (enc : TypeId × Value → H) (W : World) (base : Nat) (sp : Nat → Bool) (held : Bool) (fuel : Nat) (cs : List Value) (x : DataW H × List MemPlace),
    DataW.trod enc P W base sp held fuel (elT tg) cs = some x → ∃ e : El tg, cs = elEnc tg e ∧ elWf tg e
  value : ∀ (W : World) (r : Reach) (b : Nat) (v : Value) (e : El tg), Value.okWide P W r b (elT tg) v → v.cells.toList = elEnc tg e → ∀ ρ, (elV tg e).den ρ = some v

variable {H : Type} {enc : TypeId × Value → H} {W : World} {sp : Nat → Bool} {held : Bool}

theorem open_row {tg : Nat} (ok : ElOK P elT tg) {t : TypeId} (ht : P.underlying t = some (.slice (elT tg))) {r : Reach} {b0 : Nat} {v : Value} {d : DataW H} {ps : List MemPlace}
    (hval : Value.okWide P W r b0 t v) (hd : DataW.Trod enc P W 0 sp held t v d ps) :
    ∃ (l : List (El tg)) (F : List Nat), (∀ n ∈ F, n < W.heap.size) ∧ (∀ e ∈ l, elWf tg e) ∧ l.length ≤ maxLen ∧ (∃ a cap, v = .slice a l.length cap) ∧ ∀ ρ, (Blk.row tg l true).holds elT ρ W v F := by
  obtain ⟨a, len, cap, rfl⟩ := okWide_slice ht hval
  obtain ⟨fuel, hf⟩ := hd
  rcases Deep.open_slice ht hf with ⟨h, _⟩ | ⟨ad, len', cap', m, n, D, Pl, h, _, hl, hm, hmm, _, hx⟩
  · simp [Value.cells] at h
    obtain ⟨rfl, rfl, rfl⟩ := h
    exact ⟨[], [], by simp, by simp, Nat.zero_le _, ⟨none, 0, rfl⟩, fun ρ => ⟨none, 0, rfl, Nat.le_refl _, Nat.zero_le _, fun _ => rfl, fun j x hj => by simp [flat] at hj⟩⟩
  · simp [Value.cells] at h
    obtain ⟨rfl, rfl, rfl⟩ := h
    have hlm : len ≤ m := by rw [hmm]; split <;> omega
    have key : ∀ i, i < len → ∃ e : El tg, W.cells? 0 (ad.add (i * elM tg)) (elM tg) = some (elEnc tg e) ∧ elWf tg e := by
      intro i hi
      obtain ⟨cs', h1, h2⟩ := hx i (by omega)
      rw [ok.cells] at h1
      obtain ⟨e, he, hw⟩ := ok.reads enc W 0 sp held n cs' _ h2
      exact ⟨e, by rw [h1, he], hw⟩
    haveI : Inhabited (El tg) := ⟨elD tg⟩
    obtain ⟨E, hE⟩ := Deep.choose_lt key
    refine ⟨(List.range len).map E, if ad.block < W.heap.size then [ad.block] else [], ?_, ?_, by simp; omega, ⟨some ad, cap, by simp⟩, fun ρ => ⟨some ad, cap, by simp, by simpa using hl, hm, (fun h => by cases h), fun j x hj => ?_⟩⟩
    · intro n hn
      split at hn
      · rename_i hb; simp at hn; omega
      · simp at hn
    · intro e he
      obtain ⟨i, hi, rfl⟩ := List.mem_map.1 he
      exact (hE i (by simpa using hi)).2
    · have hjl : j < len * elM tg := by
        have := (List.getElem?_eq_some_iff.1 hj).1
        rw [flat_len] at this; simpa using this
      have hM : 0 < elM tg := by
        rcases Nat.eq_zero_or_pos (elM tg) with h | h
        · rw [h] at hjl; simp at hjl
        · exact h
      have hk : j / elM tg < len := (Nat.div_lt_iff_lt_mul hM).2 hjl
      have hr : j % elM tg < elM tg := Nat.mod_lt _ hM
      have hje : j = j / elM tg * elM tg + j % elM tg := by rw [Nat.mul_comm]; exact (Nat.div_add_mod _ _).symm
      rw [hje, flat_get tg _ _ (by simpa using hk) _ hr] at hj
      have hg : ((List.range len).map E).getD (j / elM tg) (elD tg) = E (j / elM tg) := by simp [List.getD, hk]
      rw [hg] at hj
      obtain ⟨_, _, hc⟩ := World.cells?_some (hE _ hk).1
      have := hc _ hr
      rw [hj, Deep.add_add, ← hje] at this
      refine ⟨ad, rfl, ?_, this⟩
      have hb : (ad.add j).block = ad.block := block_add ad j
      have hlt : ad.block < W.heap.size := by
        rcases Nat.lt_or_ge ad.block W.heap.size with h | h
        · exact h
        · rw [← hb] at h
          simp [World.cell?, Array.getElem?_eq_none h] at this
      simp [hlt]

/-- What each argument's type must be. -/
def AKOK (P : Program) (elT : ET) : AK → TypeId → Prop
  | .row tg, t => P.underlying t = some (.slice (elT tg)) ∧ ElOK P elT tg
  | .el tg, t => t = elT tg ∧ ElOK P elT tg

def AKsOK (P : Program) (elT : ET) : List AK → List TypeId → Prop
  | [], [] => True
  | k :: ks, t :: ts => AKOK P elT k t ∧ AKsOK P elT ks ts
  | _, _ => False

theorem open_args : ∀ (ks : List AK) (ts : List TypeId) (vs : List Value) (ds : List (DataW H)) (ps : List MemPlace) (r : Reach) (b0 : Nat), AKsOK P elT ks ts →
    (∀ (j : Nat) t v, ts[j]? = some t → vs[j]? = some v → Value.okWide P W r b0 t v) → DataW.TrodAll enc P W 0 sp held ts vs ds ps → ∀ (ρ : List Value) (F : Nat → List Nat) (H0 : Heap), Sat elT ρ F H0 W → (∀ b ∈ H0, b.writable = false) →
    ∃ (ags : List V) (H1 : Heap) (ρ' : List Value) (F' : Nat → List Nat), ArgsOf ks ρ.length ags H1 ∧ denL ρ' ags = some vs ∧ Sat elT ρ' F' (H0 ++ H1) W ∧ (∀ b ∈ H0 ++ H1, b.writable = false) ∧ Le ρ ρ'
  | [], ts, vs, ds, ps, r, b0, hk, _, hd, ρ, F, H0, hs, hw => by
    cases ts with
    | cons t ts => exact hk.elim
    | nil =>
      obtain ⟨rfl, rfl, rfl⟩ := trodAll_nil hd
      exact ⟨[], [], ρ, F, ⟨rfl, rfl⟩, rfl, by simpa using hs, by simpa using hw, Le.refl ρ⟩
  | k :: ks, ts, vs, ds, ps, r, b0, hk, hval, hd, ρ, F, H0, hs, hw => by
    cases ts with
    | nil => exact hk.elim
    | cons t ts =>
      obtain ⟨hk1, hk2⟩ := hk
      obtain ⟨v, vs', d, ds', p, q, rfl, rfl, rfl, h1, h2⟩ := trodAll_cons hd
      have hv := hval 0 t v rfl rfl
      have hval' : ∀ (j : Nat) t v, ts[j]? = some t → vs'[j]? = some v → Value.okWide P W r b0 t v := fun j t v a b => hval (j + 1) t v (by simpa using a) (by simpa using b)
      cases k with
      | row tg =>
        obtain ⟨ht, ok⟩ := hk1
        obtain ⟨l, G, hG, hwf, hml, ⟨a, cap, hv2⟩, hh⟩ := open_row ok ht hv h1
        have hlen := hs.len
        have hs1 : Sat elT (ρ ++ [v]) (fset F H0.length G) (H0 ++ [.row tg l true]) W := by
          refine ⟨by simp [hlen], ?_, ?_, ?_⟩
          · intro i b x hb hx
            rcases push_get hb with ⟨hi, hb⟩ | ⟨rfl, rfl⟩
            · have hx' : ρ[i]? = some x := by rw [List.getElem?_append_left (by omega)] at hx; exact hx
              have e : fset F H0.length G i = F i := by unfold fset; rw [if_neg (by omega)]
              rw [e]
              exact Blk.holds_le (by intro i x h; exact List.getElem?_append_left (List.getElem?_eq_some_iff.1 h).1 ▸ h) (fun _ _ => rfl) b (hs.each i b x hb hx')
            · have hx' : x = v := by
                rw [List.getElem?_append_right (by omega)] at hx
                rw [show H0.length - ρ.length = 0 by omega] at hx
                simpa using hx.symm
              subst hx'
              have e : fset F H0.length G H0.length = G := by simp [fset]
              rw [e]
              exact hh _
          · intro i b hb n hn
            rcases push_get hb with ⟨hi, hb⟩ | ⟨rfl, rfl⟩
            · have e : fset F H0.length G i = F i := by unfold fset; rw [if_neg (by omega)]
              rw [e] at hn
              exact hs.lt i b hb n hn
            · have e : fset F H0.length G H0.length = G := by simp [fset]
              rw [e] at hn
              exact hG n hn
          · intro i j bi bj hbi hbj hij hwi
            exfalso
            have hm := List.mem_of_getElem? hbi
            rcases List.mem_append.1 hm with hm | hm
            · rw [hw bi hm] at hwi; cases hwi
            · simp at hm; subst hm; cases hwi
        have hw1 : ∀ b ∈ H0 ++ [Blk.row tg l true], b.writable = false := by
          intro b hb
          rcases List.mem_append.1 hb with hb | hb
          · exact hw b hb
          · simp at hb; subst hb; rfl
        obtain ⟨ags, H1, ρ', F', g1, g2, g3, g4, g5⟩ := open_args ks ts vs' ds' q r b0 hk2 hval' h2 _ _ _ hs1 hw1
        have hρ : ρ'[ρ.length]? = some v := g5 _ _ (by simp)
        refine ⟨.row ρ.length :: ags, .row tg l true :: H1, ρ', F', ⟨l, ags, H1, rfl, rfl, hwf, hml, by simpa using g1⟩, ?_, by simpa using g3, by simpa using g4, ?_⟩
        · have e : (V.row ρ.length).den ρ' = some v := by subst hv2; simp only [V.den, hρ]
          simp only [denL, e, g2]
        · intro i x hx
          exact g5 i x (by rw [List.getElem?_append_left (List.getElem?_eq_some_iff.1 hx).1]; exact hx)
      | el tg =>
        obtain ⟨rfl, ok⟩ := hk1
        obtain ⟨fuel, hf⟩ := h1
        obtain ⟨e, he, hwf⟩ := ok.reads enc W 0 sp held fuel _ _ hf
        obtain ⟨ags, H1, ρ', F', g1, g2, g3, g4, g5⟩ := open_args ks ts vs' ds' q r b0 hk2 hval' h2 ρ F H0 hs hw
        refine ⟨elV tg e :: ags, H1, ρ', F', ⟨e, ags, rfl, hwf, g1⟩, ?_, g3, g4, g5⟩
        simp only [denL, ok.value W r b0 v e hv he ρ', g2]

theorem trodAll_stays (hl : laidOutB P = true) {W' : World} {sp' : Nat → Bool} : ∀ {ts : List TypeId} {vs : List Value} {ds : List (DataW H)} {ps : List MemPlace}, ts.all (fun t => P.readableRec t && decide (t < P.types.size)) = true →
    DataW.TrodAll enc P W 0 (fun _ => true) true ts vs ds ps → (∀ x ∈ ps, W.sameAt W' x) → (∀ x ∈ ps, sp' x.block = true) → DataW.TrodAll enc P W' 0 sp' true ts vs ds ps
  | [], vs, ds, ps, _, h, _, _ => by
    obtain ⟨rfl, rfl, rfl⟩ := trodAll_nil h
    rfl
  | t :: ts, vs, ds, ps, hr, h, h1, h2 => by
    obtain ⟨v, vs', d, ds', p, q, rfl, rfl, rfl, g1, g2⟩ := trodAll_cons h
    simp only [List.all_cons, Bool.and_eq_true, decide_eq_true_eq] at hr
    exact ⟨p, q, WideElems.Trod_stays hl hr.1.1 hr.1.2 g1 (fun x hx => h1 x (by simp [hx])) (fun x hx => h2 x (by simp [hx])),
      trodAll_stays hl hr.2 g2 (fun x hx => h1 x (by simp [hx])) (fun x hx => h2 x (by simp [hx])), rfl⟩

/-- A call that reads alone, and its post. -/
theorem post_law {f : Func} {s : ChangeSpec} {apart fresh handsOn : Bool} {tb : TypeId} (hl : laidOutB P = true) (htb : P.underlying tb = some .bool) (hres : f.resultTypes = #[tb]) (hall : f.params.toList.all (fun t => P.readableRec t && decide (t < P.types.size)) = true)
    (hsv : s.vars = []) (hsp : ∀ ds : List (DataW H), ds.length = f.params.toList.length → s.fn H ds = { results := [.lit (.bool true)], args := ds })
    {W W' : World} {args : Array Value} {ds gs : List (DataW H)} {before : List MemPlace} (hW : DataW.Whole enc P f.params.toList s.vars apart W args.toList ds gs before) (hb : Below W.heap.size W W') :
    s.post enc P f apart fresh handsOn false W args (.bool true) W' := by
  have hlt : ∀ p ∈ before, p.block < W.heap.size := fun p hp => hW.lt p hp
  have hW' := hW
  obtain ⟨p, q, hA, hV, rfl, hfz, hnd⟩ := hW
  rw [hsv] at hV
  obtain ⟨rfl, rfl⟩ := trodVars_none hV
  have hlen : ∀ (ts : List TypeId) (vs : List Value) (ds : List (DataW H)) (ps : List MemPlace), DataW.TrodAll enc P W 0 (fun _ => true) true ts vs ds ps → ds.length = ts.length := by
    intro ts
    induction ts with
    | nil => intro vs ds ps h; obtain ⟨rfl, rfl, rfl⟩ := trodAll_nil h; rfl
    | cons t ts ih =>
      intro vs ds ps h
      obtain ⟨v, vs', d, ds', p, q, rfl, rfl, rfl, g1, g2⟩ := trodAll_cons h
      simp [ih _ _ _ g2]
  have hfn : s.fn H (ds ++ []) = { results := [.lit (.bool true)], args := ds } := by rw [List.append_nil]; exact hsp ds (hlen _ _ _ _ hA)
  refine ⟨ds, [], p ++ [], [], p, [], hW', ?_, ?_, ?_, hb.frame _, fun h => by cases h⟩
  · rw [hfn, hres]
    exact trodAll_mk1 (shut_bool htb true)
  · rw [hfn]
    exact trodAll_stays hl hall hA (fun x hx => hb.same (hlt x (by simpa using hx))) (fun x hx => by simpa using hlt x (by simpa using hx))
  · rw [hfn, hsv]
    rfl

/-- The law's contract is the row's. -/
theorem law_calls {f : Func} {s : ChangeSpec} {apart fresh handsOn : Bool} {tb : TypeId} {g : FuncId} {ks : List AK} (hspec : SpecOK P elT g (lawS ks)) (hk : AKsOK P elT ks f.params.toList)
    (hl : laidOutB P = true) (htb : P.underlying tb = some .bool) (hres : f.resultTypes = #[tb]) (hall : f.params.toList.all (fun t => P.readableRec t && decide (t < P.types.size)) = true)
    (hsv : s.vars = []) (hsp : ∀ ds : List (DataW H), ds.length = f.params.toList.length → s.fn H ds = { results := [.lit (.bool true)], args := ds })
    {W : World} {r : Reach} {base : Nat} {args : Array Value} {ds gs : List (DataW H)} {before : List MemPlace} (hval : ∀ (j : Nat) t v, f.params[j]? = some t → args[j]? = some v → Value.okWide P W r base t v)
    (hW : DataW.Whole enc P f.params.toList s.vars apart W args.toList ds gs before) :
    Calls P g args W fun e W' => ∃ v, e = .returned v ∧ s.post enc P f apart fresh handsOn false W args v W' := by
  have hW' := hW
  obtain ⟨p, q, hA, _⟩ := hW
  have h0 : Sat elT [] (fun _ => []) [] W := ⟨rfl, fun i b x hb => by simp at hb, fun i b hb => by simp at hb, fun i j bi bj hb => by simp at hb⟩
  obtain ⟨ags, H1, ρ, F, g1, g2, g3, g4, _⟩ := open_args ks f.params.toList args.toList ds p r base hk (fun j t v a b => hval j t v (by simpa using a) (by simpa using b)) hA [] (fun _ => []) [] h0 (by simp)
  have hc := hspec.2 ags H1 (fun v _ => v = vb true) ⟨g1, fun _ => rfl⟩ ρ F W args.toList g2 (by simpa using g3)
  rw [Array.toArray_toList] at hc
  refine hc.mono fun e W' h => ?_
  obtain ⟨v, x, ρ', F', H', rfl, rfl, hr, _, _, hfr⟩ := h
  have hx : x = .bool true := den_ext hr
  subst hx
  have hnw : ∀ (i : Nat) (b : Blk), H1[i]? = some b → b.writable = true → False := fun i b hb hw => by
    have := g4 b (by simpa using List.mem_of_getElem? hb)
    rw [this] at hw; cases hw
  have hb : Below W.heap.size W W' := ⟨hfr.os, hfr.tape, hfr.output, hfr.size, fun n hn => hfr.block n hn (fun i b hb hw => (hnw i b hb hw).elim)⟩
  exact ⟨_, rfl, post_law hl htb hres hall hsv hsp hW' hb⟩

/-! The cells of a type without pointers: numbers and truth values. -/
end

def flatFs (P : Program) (rec : TypeId → Option (List Bool)) : List Field → Nat → Option (List Bool)
  | [], _ => some []
  | f :: fs, o => match rec f.type with
    | none => none
    | some a => bif Nat.beq f.offset o && Nat.beq (P.cellsOf f.type) a.length then match flatFs P rec fs (o + a.length) with
      | some b => some (a ++ b)
      | none => none
      else none

/-- 'true': an int's cell; 'false': a bool's. -/
def flatK (P : Program) : Nat → TypeId → Option (List Bool)
  | 0, _ => none
  | n + 1, t => match P.underlying t with
    | some .bool => some [false]
    | some (.int .i64) => some [true]
    | some (.struct fs) => match flatFs P (flatK P n) fs.toList 0 with
      | some ks => bif Nat.beq (P.cellsOf t) ks.length then some ks else none
      | none => none
    | _ => none

def goodCell (b : Bool) (v : Option Value) : Prop := match b with
  | true => ∃ n, v = some (.int .i64 n) ∧ (Lit.int .i64 n).wf = true
  | false => ∃ c, v = some (.bool c)

section
variable {P : Program} {elT : ET} {H : Type} {enc : TypeId × Value → H} {W : World} {sp : Nat → Bool} {held : Bool}

theorem flatFs_good {rec : TypeId → Option (List Bool)} {base : Nat} {cs : List Value} (hrec : ∀ t ks fuel cs (x : DataW H × List MemPlace), rec t = some ks → DataW.trod enc P W base sp held fuel t cs = some x → cs.length = ks.length ∧ ∀ (i : Nat) (b : Bool), ks[i]? = some b → goodCell b cs[i]?) {n : Nat} :
    ∀ (fl : List Field) (o : Nat) (ks : List Bool), (∀ f ∈ fl, ∃ y, DataW.trod enc P W base sp held n f.type ((cs.drop f.offset).take (P.cellsOf f.type)) = some y) → flatFs P rec fl o = some ks → ∀ (i : Nat) (b : Bool), ks[i]? = some b → goodCell b cs[o + i]?
  | [], o, ks, _, h, i, b, hb => by simp only [flatFs, Option.some.injEq] at h; subst h; simp at hb
  | f :: fl, o, ks, hall, h, i, b, hb => by
    simp only [flatFs] at h
    split at h
    · cases h
    · rename_i a ha
      cases hc : (Nat.beq f.offset o && Nat.beq (P.cellsOf f.type) a.length) with
      | false => rw [hc] at h; cases h
      | true =>
        rw [hc] at h
        simp only [cond_true] at h
        simp only [Bool.and_eq_true] at hc
        have e1 := Nat.eq_of_beq_eq_true hc.1
        have e2 := Nat.eq_of_beq_eq_true hc.2
        split at h
        · rename_i b' hb'
          injection h with h
          subst h
          rcases Nat.lt_or_ge i a.length with hi | hi
          · rw [List.getElem?_append_left hi] at hb
            obtain ⟨y, hy⟩ := hall f (by simp)
            have hg := (hrec f.type a n _ y ha hy).2 i b hb
            rw [e1, e2, List.getElem?_take, if_pos hi, List.getElem?_drop] at hg
            exact hg
          · rw [List.getElem?_append_right hi] at hb
            have := flatFs_good hrec fl (o + a.length) b' (fun f hf => hall f (by simp [hf])) hb' (i - a.length) b hb
            rw [show o + a.length + (i - a.length) = o + i by omega] at this
            exact this
        · cases h

theorem flatK_good {base : Nat} : ∀ (n : Nat) (t : TypeId) (ks : List Bool) (fuel : Nat) (cs : List Value) (x : DataW H × List MemPlace), flatK P n t = some ks → DataW.trod enc P W base sp held fuel t cs = some x →
    cs.length = ks.length ∧ ∀ (i : Nat) (b : Bool), ks[i]? = some b → goodCell b cs[i]?
  | 0, t, ks, fuel, cs, x, h, _ => by cases h
  | n + 1, t, ks, fuel, cs, x, h, hx => by
    simp only [flatK] at h
    split at h
    · rename_i ht
      injection h with h; subst h
      obtain ⟨b, rfl, _⟩ := DataW.trod_bool ht hx
      refine ⟨rfl, fun i b' hb => ?_⟩
      cases i with
      | zero => simp at hb; subst hb; exact ⟨b, rfl⟩
      | succ i => simp at hb
    · rename_i ht
      injection h with h; subst h
      obtain ⟨m, rfl, _, hw⟩ := DataW.trod_int ht hx
      refine ⟨rfl, fun i b' hb => ?_⟩
      cases i with
      | zero => simp at hb; subst hb; exact ⟨m, rfl, hw⟩
      | succ i => simp at hb
    · rename_i fs ht
      split at h
      · rename_i ks' hks
        cases hc : Nat.beq (P.cellsOf t) ks'.length with
        | false => rw [hc] at h; cases h
        | true =>
          rw [hc] at h
          injection h with h; subst h
          obtain ⟨xs, m, _, _, hlen, hxs, hall⟩ := DataW.trod_struct ht hx
          refine ⟨by rw [hlen, Nat.eq_of_beq_eq_true hc], fun i b hb => ?_⟩
          have := flatFs_good (enc := enc) (W := W) (sp := sp) (held := held) (base := base) (cs := cs) (n := m) (fun t ks fuel cs x a b => flatK_good n t ks fuel cs x a b) fs.toList 0 ks' (fun f hf => by
            obtain ⟨k, hk⟩ := List.getElem?_of_mem hf
            rw [Array.getElem?_toList] at hk
            have h1 := hall k f hk
            have hi : k < fs.size := (Array.getElem?_eq_some_iff.1 hk).1
            rw [List.getElem?_eq_getElem (by omega)] at h1
            exact ⟨_, h1⟩) hks i b hb
          rwa [Nat.zero_add] at this
      · cases h
    · cases h

theorem elOK_int (ht : P.underlying (elT 0) = some (.int .i64)) (hc : P.cellsOf (elT 0) = 1) : ElOK P elT 0 := by
  refine ⟨hc, fun enc W base sp held fuel cs x h => ?_, fun W r b v e hv hcs ρ => ?_⟩
  · obtain ⟨n, rfl, _, hw⟩ := DataW.trod_int ht h
    refine ⟨n, rfl, fun k m hm => ?_⟩
    simp [elEnc, i64] at hm
    obtain ⟨rfl, rfl⟩ := hm
    exact hw
  · simp only [Value.okWide, ht, Cell.okWide] at hv
    have hcs' : v.cells.toList = [.int .i64 e] := hcs
    show some (Value.int .i64 e) = some v
    cases v <;> simp_all [Cell.ok, Value.cells]

theorem elOK_bool (ht : P.underlying (elT 1) = some .bool) (hc : P.cellsOf (elT 1) = 1) : ElOK P elT 1 := by
  refine ⟨hc, fun enc W base sp held fuel cs x h => ?_, fun W r b v e hv hcs ρ => ?_⟩
  · obtain ⟨b, rfl, _⟩ := DataW.trod_bool ht h
    refine ⟨b, rfl, fun k m hm => ?_⟩
    simp [elEnc] at hm
  · obtain ⟨b', rfl⟩ := okWide_bool ht hv
    have hcs' : (Value.bool b').cells.toList = [.bool e] := hcs
    show some (Value.bool e) = some (Value.bool b')
    simp [Value.cells] at hcs'
    rw [hcs']

theorem struct_value {tg : Nat} {e : El tg} {fs : Array Field} {W : World} {r : Reach} {b : Nat} {v : Value} (ht : P.underlying (elT tg) = some (.struct fs)) (hv : Value.okWide P W r b (elT tg) v) (hcs : v.cells.toList = elEnc tg e) (ρ : List Value) :
    (V.agg ((elEnc tg e).map .ext)).den ρ = some v := by
  obtain ⟨cs, rfl, _⟩ := okWide_struct ht hv
  simp only [Value.cells] at hcs
  simp only [V.den, denL_ext]
  rw [← hcs]

end
end Go.Rx
end

section
/- Structs of ints, as a row reads them. -/
namespace Go.Rx
open Go.ChangeShapes Go.WideShapes

theorem elOK_ints {P : Program} {elT : ET} {fs : Array Field} {m : Nat} (ht : P.underlying (elT (m + 4)) = some (.struct fs)) (hc : P.cellsOf (elT (m + 4)) = m % 32 + 1)
    (hf : flatK P 6 (elT (m + 4)) = some (List.replicate (m % 32 + 1) true)) : ElOK P elT (m + 4) := by
  refine ⟨hc, fun enc W base sp held fuel cs x h => ?_, fun W r b v e hv hcs ρ => struct_value ht hv hcs ρ⟩
  obtain ⟨hlen, hg⟩ := flatK_good 6 (elT (m + 4)) _ fuel cs x hf h
  rw [List.length_replicate] at hlen
  have hI : ∀ i, i < m % 32 + 1 → ∃ n, cs[i]? = some (.int .i64 n) ∧ (Lit.int .i64 n).wf = true := fun i hi => hg i true (by rw [List.getElem?_replicate, if_pos hi])
  obtain ⟨N, hN⟩ := Deep.choose_lt hI
  have hget : ∀ i, i < m % 32 + 1 → ((List.range (m % 32 + 1)).map N).getD i 0 = N i := fun i hi => by simp [List.getD, hi]
  have hcs : cs = elEnc (m + 4) ((List.range (m % 32 + 1)).map N : List Int) := by
    show cs = (List.range (m % 32 + 1)).map fun i => i64 (((List.range (m % 32 + 1)).map N).getD i 0)
    apply List.ext_getElem?
    intro i
    rcases Nat.lt_or_ge i (m % 32 + 1) with hi | hi
    · rw [(hN i hi).1, List.getElem?_map, List.getElem?_range hi, Option.map_some, hget i hi]
    · rw [List.getElem?_eq_none (by omega), List.getElem?_eq_none (by simpa using hi)]
  refine ⟨_, hcs, fun k n hm => ?_⟩
  have hm' : Value.int k n ∈ cs := by rw [hcs]; exact hm
  obtain ⟨i, hi⟩ := List.getElem?_of_mem hm'
  have hil : i < m % 32 + 1 := by rw [← hlen]; exact (List.getElem?_eq_some_iff.1 hi).1
  obtain ⟨h1, h2⟩ := hN i hil
  rw [h1] at hi
  injection hi with hi
  injection hi with e1 e2
  subst e1; subst e2
  exact h2
end Go.Rx
end

section
/- The law 'PlistAgree', out of its plain form. -/
namespace Go.Rx
open Go.Proofs

theorem law_law10_PlistAgree : SpecOK Try.prog elTT 6 (lawS [.el 14, .row 39, .el 0, .el 0]) := spec_mono (fun args H K h => by
  obtain ⟨ha, hk⟩ := h
  obtain ⟨e0, _, rfl, hw0, l1, _, _, rfl, rfl, hw1, hn1, e2, _, rfl, hw2, e3, _, rfl, hw3, rfl, rfl⟩ := ha
  show So (m_law10_PlistAgree (⟨List.getD (e0 : List Int) 0 0, List.getD (e0 : List Int) 1 0, List.getD (e0 : List Int) 2 0, List.getD (e0 : List Int) 3 0, List.getD (e0 : List Int) 4 0, List.getD (e0 : List Int) 5 0, List.getD (e0 : List Int) 6 0, List.getD (e0 : List Int) 7 0, List.getD (e0 : List Int) 8 0, List.getD (e0 : List Int) 9 0, List.getD (e0 : List Int) 10 0⟩ : T_api_Config) e2 e3 l1) _
  exact So_eq (PlistAgree_main _ _ _ _) (hk _)) ok_law10_PlistAgree
end Go.Rx
end
