/- What the row's text of this claim stands on, part 3: the symbolic executor, contracts of the program's functions, plain facts. No condition. -/
import Derived.WalkKit
import Derived.ProofKit
import Derived.OpenShut
import Derived.Carry
import Derived.Deep.Slices
import Derived.JoinedOf
import Derived.Test.YtpgapdmmcanffaaK02aB
section
/- Contracts. -/
namespace Go.Rx
open Go.Proofs
set_option maxRecDepth 100000
/-! (assart/layout.Layout).Config -/
def tr_layout_Layout_Config (m_ : T_layout_Layout → Option (T_api_Config)) (args : List V) (H : Heap) (K : V → Heap → Prop) : Prop :=
  aC args fun a0 r => aN r <| aAgg a0 fun c0 => d_layout_Layout c0 fun l2 => aN H <| So (m_ l2) fun x => K (.agg (e_api_Config (x))) []
def sp_layout_Layout_Config (m_ : T_layout_Layout → Option (T_api_Config)) : Spec := ⟨tr_layout_Layout_Config m_, true⟩

/-! (assart/layout.Layout).Words -/
def tr_layout_Layout_Words (m_ : T_layout_Layout → Option (Int)) (args : List V) (H : Heap) (K : V → Heap → Prop) : Prop :=
  aC args fun a0 r => aN r <| aAgg a0 fun c0 => d_layout_Layout c0 fun l2 => aN H <| So (m_ l2) fun x => K (vi (x)) []
def sp_layout_Layout_Words (m_ : T_layout_Layout → Option (Int)) : Spec := ⟨tr_layout_Layout_Words m_, true⟩

/-! (assart/layout.Layout).User -/
def tr_layout_Layout_User (m_ : T_layout_Layout → Option (Int)) (args : List V) (H : Heap) (K : V → Heap → Prop) : Prop :=
  aC args fun a0 r => aN r <| aAgg a0 fun c0 => d_layout_Layout c0 fun l2 => aN H <| So (m_ l2) fun x => K (vi (x)) []
def sp_layout_Layout_User (m_ : T_layout_Layout → Option (Int)) : Spec := ⟨tr_layout_Layout_User m_, true⟩

/-! assart/layout.chunks -/
def tr_layout_chunks (m_ : Int → Option (Int)) (args : List V) (H : Heap) (K : V → Heap → Prop) : Prop :=
  aC args fun a0 r => aN r <| aInt a0 fun pages => aN H <| So (m_ pages) fun x => K (vi (x)) []
def sp_layout_chunks (m_ : Int → Option (Int)) : Spec := ⟨tr_layout_chunks m_, true⟩

/-! (assart/layout.Layout).Chunks -/
def tr_layout_Layout_Chunks (m_ : T_layout_Layout → Option (Int)) (args : List V) (H : Heap) (K : V → Heap → Prop) : Prop :=
  aC args fun a0 r => aN r <| aAgg a0 fun c0 => d_layout_Layout c0 fun l2 => aN H <| So (m_ l2) fun x => K (vi (x)) []
def sp_layout_Layout_Chunks (m_ : T_layout_Layout → Option (Int)) : Spec := ⟨tr_layout_Layout_Chunks m_, true⟩

/-! (assart/layout.Layout).Lock -/
def tr_layout_Layout_Lock (m_ : T_layout_Layout → Int → Option (Int)) (args : List V) (H : Heap) (K : V → Heap → Prop) : Prop :=
  aC args fun a0 r => aC r fun a1 r => aN r <| aAgg a0 fun c0 => d_layout_Layout c0 fun l2 => aInt a1 fun a => aN H <| So (m_ l2 a) fun x => K (vi (x)) []
def sp_layout_Layout_Lock (m_ : T_layout_Layout → Int → Option (Int)) : Spec := ⟨tr_layout_Layout_Lock m_, true⟩

/-! (assart/layout.Layout).Table -/
def tr_layout_Layout_Table (m_ : T_layout_Layout → Int → Option (Int)) (args : List V) (H : Heap) (K : V → Heap → Prop) : Prop :=
  aC args fun a0 r => aC r fun a1 r => aN r <| aAgg a0 fun c0 => d_layout_Layout c0 fun l2 => aInt a1 fun k => aN H <| So (m_ l2 k) fun x => K (vi (x)) []
def sp_layout_Layout_Table (m_ : T_layout_Layout → Int → Option (Int)) : Spec := ⟨tr_layout_Layout_Table m_, true⟩

/-! (assart/layout.Layout).Kind -/
def tr_layout_Layout_Kind (m_ : T_layout_Layout → Int → Option (Int)) (args : List V) (H : Heap) (K : V → Heap → Prop) : Prop :=
  aC args fun a0 r => aC r fun a1 r => aN r <| aAgg a0 fun c0 => d_layout_Layout c0 fun l2 => aInt a1 fun p => aN H <| So (m_ l2 p) fun x => K (vi (x)) []
def sp_layout_Layout_Kind (m_ : T_layout_Layout → Int → Option (Int)) : Spec := ⟨tr_layout_Layout_Kind m_, true⟩

/-! (assart/layout.Layout).Count -/
def tr_layout_Layout_Count (m_ : T_layout_Layout → Int → Option (Int)) (args : List V) (H : Heap) (K : V → Heap → Prop) : Prop :=
  aC args fun a0 r => aC r fun a1 r => aN r <| aAgg a0 fun c0 => d_layout_Layout c0 fun l2 => aInt a1 fun p => aN H <| So (m_ l2 p) fun x => K (vi (x)) []
def sp_layout_Layout_Count (m_ : T_layout_Layout → Int → Option (Int)) : Spec := ⟨tr_layout_Layout_Count m_, true⟩

/-! (assart/layout.Layout).Bits -/
def tr_layout_Layout_Bits (m_ : T_layout_Layout → Int → Option (Int)) (args : List V) (H : Heap) (K : V → Heap → Prop) : Prop :=
  aC args fun a0 r => aC r fun a1 r => aN r <| aAgg a0 fun c0 => d_layout_Layout c0 fun l2 => aInt a1 fun p => aN H <| So (m_ l2 p) fun x => K (vi (x)) []
def sp_layout_Layout_Bits (m_ : T_layout_Layout → Int → Option (Int)) : Spec := ⟨tr_layout_Layout_Bits m_, true⟩

/-! (assart/layout.Layout).Next -/
def tr_layout_Layout_Next (m_ : T_layout_Layout → Int → Option (Int)) (args : List V) (H : Heap) (K : V → Heap → Prop) : Prop :=
  aC args fun a0 r => aC r fun a1 r => aN r <| aAgg a0 fun c0 => d_layout_Layout c0 fun l2 => aInt a1 fun p => aN H <| So (m_ l2 p) fun x => K (vi (x)) []
def sp_layout_Layout_Next (m_ : T_layout_Layout → Int → Option (Int)) : Spec := ⟨tr_layout_Layout_Next m_, true⟩

/-! (assart/layout.Layout).Prev -/
def tr_layout_Layout_Prev (m_ : T_layout_Layout → Int → Option (Int)) (args : List V) (H : Heap) (K : V → Heap → Prop) : Prop :=
  aC args fun a0 r => aC r fun a1 r => aN r <| aAgg a0 fun c0 => d_layout_Layout c0 fun l2 => aInt a1 fun p => aN H <| So (m_ l2 p) fun x => K (vi (x)) []
def sp_layout_Layout_Prev (m_ : T_layout_Layout → Int → Option (Int)) : Spec := ⟨tr_layout_Layout_Prev m_, true⟩

/-! (assart/layout.Layout).none -/
def tr_layout_Layout_none (m_ : T_layout_Layout → Int → Option (Bool)) (args : List V) (H : Heap) (K : V → Heap → Prop) : Prop :=
  aC args fun a0 r => aC r fun a1 r => aN r <| aAgg a0 fun c0 => d_layout_Layout c0 fun l2 => aInt a1 fun c => aN H <| So (m_ l2 c) fun x => K (vb (x)) []
def sp_layout_Layout_none (m_ : T_layout_Layout → Int → Option (Bool)) : Spec := ⟨tr_layout_Layout_none m_, true⟩

/-! (assart/layout.Layout).Head -/
def tr_layout_Layout_Head (m_ : T_layout_Layout → Int → Int → Option (Int)) (args : List V) (H : Heap) (K : V → Heap → Prop) : Prop :=
  aC args fun a0 r => aC r fun a1 r => aC r fun a2 r => aN r <| aAgg a0 fun c0 => d_layout_Layout c0 fun l2 => aInt a1 fun c => aInt a2 fun f => aN H <| So (m_ l2 c f) fun x => K (vi (x)) []
def sp_layout_Layout_Head (m_ : T_layout_Layout → Int → Int → Option (Int)) : Spec := ⟨tr_layout_Layout_Head m_, true⟩

/-! (assart/layout.Layout).Cache -/
def tr_layout_Layout_Cache (m_ : T_layout_Layout → Int → Int → Option (Int)) (args : List V) (H : Heap) (K : V → Heap → Prop) : Prop :=
  aC args fun a0 r => aC r fun a1 r => aC r fun a2 r => aN r <| aAgg a0 fun c0 => d_layout_Layout c0 fun l2 => aInt a1 fun cpu => aInt a2 fun c => aN H <| So (m_ l2 cpu c) fun x => K (vi (x)) []
def sp_layout_Layout_Cache (m_ : T_layout_Layout → Int → Int → Option (Int)) : Spec := ⟨tr_layout_Layout_Cache m_, true⟩

/-! (assart/layout.Layout).Bin -/
def tr_layout_Layout_Bin (m_ : T_layout_Layout → Int → Option (Int)) (args : List V) (H : Heap) (K : V → Heap → Prop) : Prop :=
  aC args fun a0 r => aC r fun a1 r => aN r <| aAgg a0 fun c0 => d_layout_Layout c0 fun l2 => aInt a1 fun c => aN H <| So (m_ l2 c) fun x => K (vi (x)) []
def sp_layout_Layout_Bin (m_ : T_layout_Layout → Int → Option (Int)) : Spec := ⟨tr_layout_Layout_Bin m_, true⟩

/-! (assart/layout.Layout).mine -/
def tr_layout_Layout_mine (m_ : T_layout_Layout → Int → Option (Bool)) (args : List V) (H : Heap) (K : V → Heap → Prop) : Prop :=
  aC args fun a0 r => aC r fun a1 r => aN r <| aAgg a0 fun c0 => d_layout_Layout c0 fun l2 => aInt a1 fun a => aN H <| So (m_ l2 a) fun x => K (vb (x)) []
def sp_layout_Layout_mine (m_ : T_layout_Layout → Int → Option (Bool)) : Spec := ⟨tr_layout_Layout_mine m_, true⟩

/-! (assart/layout.Layout).Live -/
def tr_layout_Layout_Live (m_ : T_layout_Layout → Int → Option (Int)) (args : List V) (H : Heap) (K : V → Heap → Prop) : Prop :=
  aC args fun a0 r => aC r fun a1 r => aN r <| aAgg a0 fun c0 => d_layout_Layout c0 fun l2 => aInt a1 fun a => aN H <| So (m_ l2 a) fun x => K (vi (x)) []
def sp_layout_Layout_Live (m_ : T_layout_Layout → Int → Option (Int)) : Spec := ⟨tr_layout_Layout_Live m_, true⟩

/-! (assart/layout.Layout).Addr -/
def tr_layout_Layout_Addr (m_ : T_layout_Layout → Int → Option (Int)) (args : List V) (H : Heap) (K : V → Heap → Prop) : Prop :=
  aC args fun a0 r => aC r fun a1 r => aN r <| aAgg a0 fun c0 => d_layout_Layout c0 fun l2 => aInt a1 fun p => aN H <| So (m_ l2 p) fun x => K (vi (x)) []
def sp_layout_Layout_Addr (m_ : T_layout_Layout → Int → Option (Int)) : Spec := ⟨tr_layout_Layout_Addr m_, true⟩

/-! (assart/layout.Layout).Place -/
def tr_layout_Layout_Place (m_ : T_layout_Layout → Int → Option (Int × Int × Bool)) (args : List V) (H : Heap) (K : V → Heap → Prop) : Prop :=
  aC args fun a0 r => aC r fun a1 r => aN r <| aAgg a0 fun c0 => d_layout_Layout c0 fun l2 => aInt a1 fun a => aN H <| So (m_ l2 a) fun x => K (.tup [vi (x.1), vi (x.2.1), vb (x.2.2)]) []
def sp_layout_Layout_Place (m_ : T_layout_Layout → Int → Option (Int × Int × Bool)) : Spec := ⟨tr_layout_Layout_Place m_, true⟩

/-! (assart/layout.limit).holds -/
def tr_layout_limit_holds (m_ : T_layout_limit → Option (Bool)) (args : List V) (H : Heap) (K : V → Heap → Prop) : Prop :=
  aC args fun a0 r => aN r <| aAgg a0 fun c0 => d_layout_limit c0 fun x_ => aN H <| So (m_ x_) fun x => K (vb (x)) []
def sp_layout_limit_holds (m_ : T_layout_limit → Option (Bool)) : Spec := ⟨tr_layout_limit_holds m_, true⟩

/-! assart/layout.Check -/
def tr_layout_Check (m_ : T_api_Config → Option (Int)) (args : List V) (H : Heap) (K : V → Heap → Prop) : Prop :=
  aC args fun a0 r => aN r <| aAgg a0 fun c0 => d_api_Config c0 fun c => aN H <| So (m_ c) fun x => K (vi (x)) []
def sp_layout_Check (m_ : T_api_Config → Option (Int)) : Spec := ⟨tr_layout_Check m_, true⟩

/-! assart/layout.Of -/
def tr_layout_Of (m_ : T_api_Config → Option (T_layout_Layout × Int)) (args : List V) (H : Heap) (K : V → Heap → Prop) : Prop :=
  aC args fun a0 r => aN r <| aAgg a0 fun c0 => d_api_Config c0 fun c => aN H <| So (m_ c) fun x => K (.tup [.agg (e_layout_Layout (x.1)), vi (x.2)]) []
def sp_layout_Of (m_ : T_api_Config → Option (T_layout_Layout × Int)) : Spec := ⟨tr_layout_Of m_, true⟩

noncomputable def cfg_layout_Layout_Config  : Cfg := { cfgB with
  sigs := sigN }

noncomputable def cfg_layout_Layout_Words  : Cfg := { cfgB with
  sigs := sigN }

noncomputable def cfg_layout_Layout_User  : Cfg := { cfgB with
  sigs := sigN }

noncomputable def cfg_layout_chunks  : Cfg := { cfgB with
  sigs := sigN }

noncomputable def cfg_layout_Layout_Chunks (m_layout_chunks : Int → Option (Int)) : Cfg := { cfgB with
  sigs := (sigC 67 (sp_layout_chunks m_layout_chunks) sigN) }

noncomputable def cfg_layout_Layout_Lock (m_layout_Layout_Words : T_layout_Layout → Option (Int)) : Cfg := { cfgB with
  sigs := (sigC 15 (sp_layout_Layout_Words m_layout_Layout_Words) sigN) }

noncomputable def cfg_layout_Layout_Table (m_layout_Layout_Chunks : T_layout_Layout → Option (Int)) : Cfg := { cfgB with
  sigs := (sigC 18 (sp_layout_Layout_Chunks m_layout_Layout_Chunks) (sigC 70 (inlS cfgB Try.f70) sigN)),
  plan := fun r => match r with | 1 => some (List.range 6, 0) | _ => none }

noncomputable def cfg_layout_Layout_Kind  : Cfg := { cfgB with
  sigs := (sigC 70 (inlS cfgB Try.f70) sigN) }

noncomputable def cfg_layout_Layout_Count  : Cfg := { cfgB with
  sigs := (sigC 70 (inlS cfgB Try.f70) sigN) }

noncomputable def cfg_layout_Layout_Bits  : Cfg := { cfgB with
  sigs := (sigC 70 (inlS cfgB Try.f70) sigN) }

noncomputable def cfg_layout_Layout_Next  : Cfg := { cfgB with
  sigs := (sigC 70 (inlS cfgB Try.f70) sigN) }

noncomputable def cfg_layout_Layout_Prev  : Cfg := { cfgB with
  sigs := (sigC 70 (inlS cfgB Try.f70) sigN) }

noncomputable def cfg_layout_Layout_none  : Cfg := { cfgB with
  sigs := sigN }

noncomputable def cfg_layout_Layout_Head (m_layout_Layout_none : T_layout_Layout → Int → Option (Bool)) : Cfg := { cfgB with
  sigs := (sigC 73 (sp_layout_Layout_none m_layout_Layout_none) sigN) }

noncomputable def cfg_layout_Layout_Cache (m_layout_Layout_none : T_layout_Layout → Int → Option (Bool)) : Cfg := { cfgB with
  sigs := (sigC 73 (sp_layout_Layout_none m_layout_Layout_none) sigN) }

noncomputable def cfg_layout_Layout_Bin (m_layout_Layout_none : T_layout_Layout → Int → Option (Bool)) : Cfg := { cfgB with
  sigs := (sigC 73 (sp_layout_Layout_none m_layout_Layout_none) sigN) }

noncomputable def cfg_layout_Layout_mine  : Cfg := { cfgB with
  sigs := sigN }

noncomputable def cfg_layout_Layout_Live (m_layout_Layout_mine : T_layout_Layout → Int → Option (Bool)) : Cfg := { cfgB with
  sigs := (sigC 77 (sp_layout_Layout_mine m_layout_Layout_mine) sigN) }

noncomputable def cfg_layout_Layout_Addr  : Cfg := { cfgB with
  sigs := sigN }

noncomputable def cfg_layout_Layout_Place (m_layout_Layout_mine : T_layout_Layout → Int → Option (Bool)) : Cfg := { cfgB with
  sigs := (sigC 77 (sp_layout_Layout_mine m_layout_Layout_mine) sigN) }

noncomputable def cfg_layout_limit_holds  : Cfg := { cfgB with
  sigs := sigN }

noncomputable def cfg_layout_Check (m_layout_limit_holds : T_layout_limit → Option (Bool)) : Cfg := { cfgB with
  sigs := (sigC 66 (sp_layout_limit_holds m_layout_limit_holds) sigN),
  keep := fun r => match r with | 2 => some [(38, some 6), (39, none), (40, none)] | _ => none,
  unroll := fun r => match r with | 2 => some 12 | _ => none }

noncomputable def cfg_layout_Of (m_layout_Check : T_api_Config → Option (Int)) (m_layout_chunks : Int → Option (Int)) : Cfg := { cfgB with
  sigs := (sigC 11 (sp_layout_Check m_layout_Check) (sigC 67 (sp_layout_chunks m_layout_chunks) sigN)),
  keep := fun r => match r with | 8 => some [(1, none), (2, none), (5, none), (6, none), (23, some 0), (24, none), (25, none)] | 19 => some [(2, none), (5, none), (6, none), (9, none), (59, none)] | _ => none,
  unroll := fun r => match r with | 8 => some 6 | 19 => some 12 | _ => none }

theorem nf_layout_Layout_Config (l2 : T_layout_Layout) (K : V → Heap → Prop) : (exF cfg_layout_Layout_Config Try.f14 [.agg (e_layout_Layout l2)] [] K) = (
    K (.agg [vi (T_layout_Layout.c_Workers l2), vi (T_layout_Layout.c_CPUs l2), vi (T_layout_Layout.c_Pages l2), vi (T_layout_Layout.c_Stripes l2), vi (T_layout_Layout.c_Tries l2), vi (T_layout_Layout.c_Wait l2), vi (T_layout_Layout.c_Clock l2), vi (T_layout_Layout.c_Private l2), vi (T_layout_Layout.c_Cache l2), vi (T_layout_Layout.c_Bin l2), vi (T_layout_Layout.c_Batch l2)]) []) := by
  kernel_rfl

theorem nf_layout_Layout_Words (l2 : T_layout_Layout) (K : V → Heap → Prop) : (exF cfg_layout_Layout_Words Try.f15 [.agg (e_layout_Layout l2)] [] K) = (
    K (vi (T_layout_Layout.at_11 l2)) []) := by
  kernel_rfl

theorem nf_layout_Layout_User (l2 : T_layout_Layout) (K : V → Heap → Prop) : (exF cfg_layout_Layout_User Try.f38 [.agg (e_layout_Layout l2)] [] K) = (
    K (vi (T_layout_Layout.at_10 l2)) []) := by
  kernel_rfl

theorem nf_layout_chunks (pages : Int) (K : V → Heap → Prop) : (exF cfg_layout_chunks Try.f67 [vi pages] [] K) = (
    K (vi (IntKind.wrap IntKind.i64 (Int.tdiv (IntKind.wrap IntKind.i64 (IntKind.wrap IntKind.i64 (pages + 4) - 1)) 4))) []) := by
  kernel_rfl

theorem nf_layout_Layout_Chunks (m_layout_chunks : Int → Option (Int)) (l2 : T_layout_Layout) (K : V → Heap → Prop) : (exF (cfg_layout_Layout_Chunks m_layout_chunks) Try.f18 [.agg (e_layout_Layout l2)] [] K) = (
    So (m_layout_chunks (T_layout_Layout.c_Pages l2)) (fun (y0 : Int) => (K (vi (y0)) []))) := by
  kernel_rfl

theorem nf_layout_Layout_Lock (m_layout_Layout_Words : T_layout_Layout → Option (Int)) (l2 : T_layout_Layout) (a : Int) (K : V → Heap → Prop) : (exF (cfg_layout_Layout_Lock m_layout_Layout_Words) Try.f43 [.agg (e_layout_Layout l2), vi a] [] K) = (
    br (Decidable.decide (a < 0)) (K (vi (0)) []) (So (m_layout_Layout_Words l2) (fun (y0 : Int) => (br (Decidable.decide (a ≥ y0)) (K (vi (0)) []) (Req (!T_layout_Layout.c_Stripes l2 == 0) (K (vi (IntKind.wrap IntKind.i64 (3 + Int.tmod a (T_layout_Layout.c_Stripes l2)))) [])))))) := by
  kernel_rfl

theorem nf_layout_Layout_Table (m_layout_Layout_Chunks : T_layout_Layout → Option (Int)) (l2 : T_layout_Layout) (k : Int) (K : V → Heap → Prop) : (exF (cfg_layout_Layout_Table m_layout_Layout_Chunks) Try.f20 [.agg (e_layout_Layout l2), vi k] [] K) = (
    So (m_layout_Layout_Chunks l2) (fun (y0 : Int) => (br (Decidable.decide (k < 0)) (K (vi (0)) []) (br (Decidable.decide (k ≥ y0)) (K (vi (0)) []) (K (vi (IntKind.wrap IntKind.i64 (T_layout_Layout.at_0 l2 + k))) []))))) := by
  kernel_rfl

theorem nf_layout_Layout_Kind (l2 : T_layout_Layout) (p : Int) (K : V → Heap → Prop) : (exF cfg_layout_Layout_Kind Try.f24 [.agg (e_layout_Layout l2), vi p] [] K) = (
    br (Decidable.decide (p < 0)) (K (vi (0)) []) (br (Decidable.decide (p ≥ T_layout_Layout.c_Pages l2)) (K (vi (0)) []) (K (vi (IntKind.wrap IntKind.i64 (T_layout_Layout.at_1 l2 + p))) []))) := by
  kernel_rfl

theorem nf_layout_Layout_Count (l2 : T_layout_Layout) (p : Int) (K : V → Heap → Prop) : (exF cfg_layout_Layout_Count Try.f26 [.agg (e_layout_Layout l2), vi p] [] K) = (
    br (Decidable.decide (p < 0)) (K (vi (0)) []) (br (Decidable.decide (p ≥ T_layout_Layout.c_Pages l2)) (K (vi (0)) []) (K (vi (IntKind.wrap IntKind.i64 (T_layout_Layout.at_2 l2 + p))) []))) := by
  kernel_rfl

theorem nf_layout_Layout_Bits (l2 : T_layout_Layout) (p : Int) (K : V → Heap → Prop) : (exF cfg_layout_Layout_Bits Try.f28 [.agg (e_layout_Layout l2), vi p] [] K) = (
    br (Decidable.decide (p < 0)) (K (vi (0)) []) (br (Decidable.decide (p ≥ T_layout_Layout.c_Pages l2)) (K (vi (0)) []) (K (vi (IntKind.wrap IntKind.i64 (T_layout_Layout.at_3 l2 + p))) []))) := by
  kernel_rfl

theorem nf_layout_Layout_Next (l2 : T_layout_Layout) (p : Int) (K : V → Heap → Prop) : (exF cfg_layout_Layout_Next Try.f30 [.agg (e_layout_Layout l2), vi p] [] K) = (
    br (Decidable.decide (p < 0)) (K (vi (0)) []) (br (Decidable.decide (p ≥ T_layout_Layout.c_Pages l2)) (K (vi (0)) []) (K (vi (IntKind.wrap IntKind.i64 (T_layout_Layout.at_4 l2 + p))) []))) := by
  kernel_rfl

theorem nf_layout_Layout_Prev (l2 : T_layout_Layout) (p : Int) (K : V → Heap → Prop) : (exF cfg_layout_Layout_Prev Try.f32 [.agg (e_layout_Layout l2), vi p] [] K) = (
    br (Decidable.decide (p < 0)) (K (vi (0)) []) (br (Decidable.decide (p ≥ T_layout_Layout.c_Pages l2)) (K (vi (0)) []) (K (vi (IntKind.wrap IntKind.i64 (T_layout_Layout.at_5 l2 + p))) []))) := by
  kernel_rfl

theorem nf_layout_Layout_none (l2 : T_layout_Layout) (c : Int) (K : V → Heap → Prop) : (exF cfg_layout_Layout_none Try.f73 [.agg (e_layout_Layout l2), vi c] [] K) = (
    br (T_layout_Layout.c_Pages l2 == 0) (K (vb (Bool.true)) []) (br (Decidable.decide (c < 0)) (K (vb (Bool.true)) []) (K (vb (Decidable.decide (c ≥ 5))) []))) := by
  kernel_rfl

theorem nf_layout_Layout_Head (m_layout_Layout_none : T_layout_Layout → Int → Option (Bool)) (l2 : T_layout_Layout) (c : Int) (f : Int) (K : V → Heap → Prop) : (exF (cfg_layout_Layout_Head m_layout_Layout_none) Try.f22 [.agg (e_layout_Layout l2), vi c, vi f] [] K) = (
    So (m_layout_Layout_none l2 c) (fun (y0 : Bool) => (br (y0) (K (vi (0)) []) (Req (Decidable.decide (0 ≤ c)) (br (Decidable.decide (f < 1)) (K (vi (0)) []) (br (Decidable.decide (f > 32 / 2 ^ Min.min (Int.toNat c) (IntKind.bits IntKind.i64))) (K (vi (0)) []) (K (vi (IntKind.wrap IntKind.i64 (IntKind.wrap IntKind.i64 (IntKind.wrap IntKind.i64 (T_layout_Layout.at_6 l2 + IntKind.wrap IntKind.i64 (64 - IntKind.wrap IntKind.i64 (2 * (32 / 2 ^ Min.min (Int.toNat c) (IntKind.bits IntKind.i64))))) + f) - 1))) []))))))) := by
  kernel_rfl

theorem nf_layout_Layout_Cache (m_layout_Layout_none : T_layout_Layout → Int → Option (Bool)) (l2 : T_layout_Layout) (cpu : Int) (c : Int) (K : V → Heap → Prop) : (exF (cfg_layout_Layout_Cache m_layout_Layout_none) Try.f44 [.agg (e_layout_Layout l2), vi cpu, vi c] [] K) = (
    So (m_layout_Layout_none l2 c) (fun (y0 : Bool) => (br (y0) (K (vi (0)) []) (br (Decidable.decide (cpu < 0)) (K (vi (0)) []) (br (Decidable.decide (cpu ≥ T_layout_Layout.c_CPUs l2)) (K (vi (0)) []) (K (vi (IntKind.wrap IntKind.i64 (T_layout_Layout.at_7 l2 + IntKind.wrap IntKind.i64 (IntKind.wrap IntKind.i64 (IntKind.wrap IntKind.i64 (5 * cpu) + c) * IntKind.wrap IntKind.i64 (T_layout_Layout.c_Cache l2 + 1))))) [])))))) := by
  kernel_rfl

theorem nf_layout_Layout_Bin (m_layout_Layout_none : T_layout_Layout → Int → Option (Bool)) (l2 : T_layout_Layout) (c : Int) (K : V → Heap → Prop) : (exF (cfg_layout_Layout_Bin m_layout_Layout_none) Try.f45 [.agg (e_layout_Layout l2), vi c] [] K) = (
    So (m_layout_Layout_none l2 c) (fun (y0 : Bool) => (br (y0) (K (vi (0)) []) (K (vi (IntKind.wrap IntKind.i64 (T_layout_Layout.at_8 l2 + IntKind.wrap IntKind.i64 (c * IntKind.wrap IntKind.i64 (T_layout_Layout.c_Bin l2 + 1))))) [])))) := by
  kernel_rfl

theorem nf_layout_Layout_mine (l2 : T_layout_Layout) (a : Int) (K : V → Heap → Prop) : (exF cfg_layout_Layout_mine Try.f77 [.agg (e_layout_Layout l2), vi a] [] K) = (
    br (Decidable.decide (a ≥ T_layout_Layout.at_10 l2)) (K (vb (Decidable.decide (a < T_layout_Layout.at_11 l2))) []) (K (vb (Bool.false)) [])) := by
  kernel_rfl

theorem nf_layout_Layout_Live (m_layout_Layout_mine : T_layout_Layout → Int → Option (Bool)) (l2 : T_layout_Layout) (a : Int) (K : V → Heap → Prop) : (exF (cfg_layout_Layout_Live m_layout_Layout_mine) Try.f39 [.agg (e_layout_Layout l2), vi a] [] K) = (
    So (m_layout_Layout_mine l2 a) (fun (y0 : Bool) => (br (!y0) (K (vi (0)) []) (K (vi (IntKind.wrap IntKind.i64 (IntKind.wrap IntKind.i64 (T_layout_Layout.at_9 l2 + a) - T_layout_Layout.at_10 l2))) [])))) := by
  kernel_rfl

theorem nf_layout_Layout_Addr (l2 : T_layout_Layout) (p : Int) (K : V → Heap → Prop) : (exF cfg_layout_Layout_Addr Try.f34 [.agg (e_layout_Layout l2), vi p] [] K) = (
    br (Decidable.decide (p < 0)) (K (vi (0)) []) (br (Decidable.decide (p ≥ T_layout_Layout.c_Pages l2)) (K (vi (0)) []) (K (vi (IntKind.wrap IntKind.i64 (T_layout_Layout.at_10 l2 + IntKind.wrap IntKind.i64 (p * 32)))) []))) := by
  kernel_rfl

theorem nf_layout_Layout_Place (m_layout_Layout_mine : T_layout_Layout → Int → Option (Bool)) (l2 : T_layout_Layout) (a : Int) (K : V → Heap → Prop) : (exF (cfg_layout_Layout_Place m_layout_Layout_mine) Try.f37 [.agg (e_layout_Layout l2), vi a] [] K) = (
    So (m_layout_Layout_mine l2 a) (fun (y0 : Bool) => (br (!y0) (K (.tup [vi (0), vi (0), vb (Bool.false)]) []) (K (.tup [vi (IntKind.wrap IntKind.i64 (Int.tdiv (IntKind.wrap IntKind.i64 (a - T_layout_Layout.at_10 l2)) 32)), vi (Int.tmod (IntKind.wrap IntKind.i64 (a - T_layout_Layout.at_10 l2)) 32), vb (Bool.true)]) [])))) := by
  kernel_rfl

theorem nf_layout_limit_holds (x_ : T_layout_limit) (K : V → Heap → Prop) : (exF cfg_layout_limit_holds Try.f66 [.agg (e_layout_limit x_)] [] K) = (
    br (Decidable.decide (T_layout_limit.n x_ ≥ T_layout_limit.low x_)) (K (vb (Decidable.decide (T_layout_limit.n x_ ≤ T_layout_limit.high x_))) []) (K (vb (Bool.false)) [])) := by
  kernel_rfl

theorem nf_layout_Check (m_layout_limit_holds : T_layout_limit → Option (Bool)) (c : T_api_Config) (K : V → Heap → Prop) : (exF (cfg_layout_Check m_layout_limit_holds) Try.f11 [.agg (e_api_Config c)] [] K) = (
    So (m_layout_limit_holds (T_layout_limit.mk (T_api_Config.Workers c) 1 64)) (fun (y0 : Bool) => (br (!y0) (K (vi (2)) []) (So (m_layout_limit_holds (T_layout_limit.mk (T_api_Config.CPUs c) 1 8)) (fun (y1 : Bool) => (br (!y1) (K (vi (2)) []) (So (m_layout_limit_holds (T_layout_limit.mk (T_api_Config.Pages c) 1 256)) (fun (y2 : Bool) => (br (!y2) (K (vi (2)) []) (So (m_layout_limit_holds (T_layout_limit.mk (T_api_Config.Stripes c) 1 64)) (fun (y3 : Bool) => (br (!y3) (K (vi (2)) []) (So (m_layout_limit_holds (T_layout_limit.mk (T_api_Config.Tries c) 0 16)) (fun (y4 : Bool) => (br (!y4) (K (vi (2)) []) (So (m_layout_limit_holds (T_layout_limit.mk (T_api_Config.Wait c) 0 64)) (fun (y5 : Bool) => (br (!y5) (K (vi (2)) []) (So (m_layout_limit_holds (T_layout_limit.mk (T_api_Config.Clock c) 1 1099511627776)) (fun (y6 : Bool) => (br (!y6) (K (vi (2)) []) (So (m_layout_limit_holds (T_layout_limit.mk (T_api_Config.Private c) 1 8)) (fun (y7 : Bool) => (br (!y7) (K (vi (2)) []) (So (m_layout_limit_holds (T_layout_limit.mk (T_api_Config.Cache c) 0 8)) (fun (y8 : Bool) => (br (!y8) (K (vi (2)) []) (So (m_layout_limit_holds (T_layout_limit.mk (T_api_Config.Bin c) 0 16)) (fun (y9 : Bool) => (br (!y9) (K (vi (2)) []) (So (m_layout_limit_holds (T_layout_limit.mk (T_api_Config.Batch c) 1 8)) (fun (y10 : Bool) => (br (!y10) (K (vi (2)) []) (K (vi (0)) [])))))))))))))))))))))))))))))))))) := by
  kernel_rfl

theorem nf_layout_Of (m_layout_Check : T_api_Config → Option (Int)) (m_layout_chunks : Int → Option (Int)) (c : T_api_Config) (K : V → Heap → Prop) : (exF (cfg_layout_Of m_layout_Check m_layout_chunks) Try.f12 [.agg (e_api_Config c)] [] K) = (
    So (m_layout_Check c) (fun (y0 : Int) => (br (y0 != 0) (K (.tup [.agg [vi (0), vi (0), vi (0), vi (0), vi (0), vi (0), vi (0), vi (0), vi (0), vi (0), vi (0), vi (0), vi (0), vi (0), vi (0), vi (0), vi (0), vi (0), vi (0), vi (0), vi (0), vi (0), vi (0)], vi (y0)]) []) (So (m_layout_chunks (T_api_Config.Pages c)) (fun (y1 : Int) => (K (.tup [.agg (e_api_Config c ++ [vi (IntKind.wrap IntKind.i64 (3 + T_api_Config.Stripes c)), vi (IntKind.wrap IntKind.i64 (IntKind.wrap IntKind.i64 (3 + T_api_Config.Stripes c) + y1)), vi (IntKind.wrap IntKind.i64 (IntKind.wrap IntKind.i64 (IntKind.wrap IntKind.i64 (3 + T_api_Config.Stripes c) + y1) + T_api_Config.Pages c)), vi (IntKind.wrap IntKind.i64 (IntKind.wrap IntKind.i64 (IntKind.wrap IntKind.i64 (IntKind.wrap IntKind.i64 (3 + T_api_Config.Stripes c) + y1) + T_api_Config.Pages c) + T_api_Config.Pages c)), vi (IntKind.wrap IntKind.i64 (IntKind.wrap IntKind.i64 (IntKind.wrap IntKind.i64 (IntKind.wrap IntKind.i64 (IntKind.wrap IntKind.i64 (3 + T_api_Config.Stripes c) + y1) + T_api_Config.Pages c) + T_api_Config.Pages c) + T_api_Config.Pages c)), vi (IntKind.wrap IntKind.i64 (IntKind.wrap IntKind.i64 (IntKind.wrap IntKind.i64 (IntKind.wrap IntKind.i64 (IntKind.wrap IntKind.i64 (IntKind.wrap IntKind.i64 (3 + T_api_Config.Stripes c) + y1) + T_api_Config.Pages c) + T_api_Config.Pages c) + T_api_Config.Pages c) + T_api_Config.Pages c)), vi (IntKind.wrap IntKind.i64 (IntKind.wrap IntKind.i64 (IntKind.wrap IntKind.i64 (IntKind.wrap IntKind.i64 (IntKind.wrap IntKind.i64 (IntKind.wrap IntKind.i64 (IntKind.wrap IntKind.i64 (3 + T_api_Config.Stripes c) + y1) + T_api_Config.Pages c) + T_api_Config.Pages c) + T_api_Config.Pages c) + T_api_Config.Pages c) + T_api_Config.Pages c)), vi (IntKind.wrap IntKind.i64 (IntKind.wrap IntKind.i64 (IntKind.wrap IntKind.i64 (IntKind.wrap IntKind.i64 (IntKind.wrap IntKind.i64 (IntKind.wrap IntKind.i64 (IntKind.wrap IntKind.i64 (IntKind.wrap IntKind.i64 (3 + T_api_Config.Stripes c) + y1) + T_api_Config.Pages c) + T_api_Config.Pages c) + T_api_Config.Pages c) + T_api_Config.Pages c) + T_api_Config.Pages c) + 62)), vi (IntKind.wrap IntKind.i64 (IntKind.wrap IntKind.i64 (IntKind.wrap IntKind.i64 (IntKind.wrap IntKind.i64 (IntKind.wrap IntKind.i64 (IntKind.wrap IntKind.i64 (IntKind.wrap IntKind.i64 (IntKind.wrap IntKind.i64 (IntKind.wrap IntKind.i64 (3 + T_api_Config.Stripes c) + y1) + T_api_Config.Pages c) + T_api_Config.Pages c) + T_api_Config.Pages c) + T_api_Config.Pages c) + T_api_Config.Pages c) + 62) + IntKind.wrap IntKind.i64 (IntKind.wrap IntKind.i64 (T_api_Config.CPUs c * 5) * IntKind.wrap IntKind.i64 (T_api_Config.Cache c + 1)))), vi (IntKind.wrap IntKind.i64 (IntKind.wrap IntKind.i64 (IntKind.wrap IntKind.i64 (IntKind.wrap IntKind.i64 (IntKind.wrap IntKind.i64 (IntKind.wrap IntKind.i64 (IntKind.wrap IntKind.i64 (IntKind.wrap IntKind.i64 (IntKind.wrap IntKind.i64 (IntKind.wrap IntKind.i64 (3 + T_api_Config.Stripes c) + y1) + T_api_Config.Pages c) + T_api_Config.Pages c) + T_api_Config.Pages c) + T_api_Config.Pages c) + T_api_Config.Pages c) + 62) + IntKind.wrap IntKind.i64 (IntKind.wrap IntKind.i64 (T_api_Config.CPUs c * 5) * IntKind.wrap IntKind.i64 (T_api_Config.Cache c + 1))) + IntKind.wrap IntKind.i64 (5 * IntKind.wrap IntKind.i64 (T_api_Config.Bin c + 1)))), vi (IntKind.wrap IntKind.i64 (IntKind.wrap IntKind.i64 (Int.tdiv (IntKind.wrap IntKind.i64 (IntKind.wrap IntKind.i64 (IntKind.wrap IntKind.i64 (IntKind.wrap IntKind.i64 (IntKind.wrap IntKind.i64 (IntKind.wrap IntKind.i64 (IntKind.wrap IntKind.i64 (IntKind.wrap IntKind.i64 (IntKind.wrap IntKind.i64 (IntKind.wrap IntKind.i64 (IntKind.wrap IntKind.i64 (IntKind.wrap IntKind.i64 (IntKind.wrap IntKind.i64 (3 + T_api_Config.Stripes c) + y1) + T_api_Config.Pages c) + T_api_Config.Pages c) + T_api_Config.Pages c) + T_api_Config.Pages c) + T_api_Config.Pages c) + 62) + IntKind.wrap IntKind.i64 (IntKind.wrap IntKind.i64 (T_api_Config.CPUs c * 5) * IntKind.wrap IntKind.i64 (T_api_Config.Cache c + 1))) + IntKind.wrap IntKind.i64 (5 * IntKind.wrap IntKind.i64 (T_api_Config.Bin c + 1))) + IntKind.wrap IntKind.i64 (T_api_Config.Pages c * 32)) + 128) - 1)) 128) * 128)), vi (IntKind.wrap IntKind.i64 (IntKind.wrap IntKind.i64 (IntKind.wrap IntKind.i64 (Int.tdiv (IntKind.wrap IntKind.i64 (IntKind.wrap IntKind.i64 (IntKind.wrap IntKind.i64 (IntKind.wrap IntKind.i64 (IntKind.wrap IntKind.i64 (IntKind.wrap IntKind.i64 (IntKind.wrap IntKind.i64 (IntKind.wrap IntKind.i64 (IntKind.wrap IntKind.i64 (IntKind.wrap IntKind.i64 (IntKind.wrap IntKind.i64 (IntKind.wrap IntKind.i64 (IntKind.wrap IntKind.i64 (3 + T_api_Config.Stripes c) + y1) + T_api_Config.Pages c) + T_api_Config.Pages c) + T_api_Config.Pages c) + T_api_Config.Pages c) + T_api_Config.Pages c) + 62) + IntKind.wrap IntKind.i64 (IntKind.wrap IntKind.i64 (T_api_Config.CPUs c * 5) * IntKind.wrap IntKind.i64 (T_api_Config.Cache c + 1))) + IntKind.wrap IntKind.i64 (5 * IntKind.wrap IntKind.i64 (T_api_Config.Bin c + 1))) + IntKind.wrap IntKind.i64 (T_api_Config.Pages c * 32)) + 128) - 1)) 128) * 128) + IntKind.wrap IntKind.i64 (T_api_Config.Pages c * 32)))]), vi (0)]) [])))))) := by
  kernel_rfl

noncomputable def m_layout_Layout_Config (l2 : T_layout_Layout) : Option (T_api_Config) :=
  some ((T_api_Config.mk (T_layout_Layout.c_Workers l2) (T_layout_Layout.c_CPUs l2) (T_layout_Layout.c_Pages l2) (T_layout_Layout.c_Stripes l2) (T_layout_Layout.c_Tries l2) (T_layout_Layout.c_Wait l2) (T_layout_Layout.c_Clock l2) (T_layout_Layout.c_Private l2) (T_layout_Layout.c_Cache l2) (T_layout_Layout.c_Bin l2) (T_layout_Layout.c_Batch l2)))

noncomputable def m_layout_Layout_Words (l2 : T_layout_Layout) : Option (Int) :=
  some ((T_layout_Layout.at_11 l2))

noncomputable def m_layout_Layout_User (l2 : T_layout_Layout) : Option (Int) :=
  some ((T_layout_Layout.at_10 l2))

noncomputable def m_layout_chunks (pages : Int) : Option (Int) :=
  some ((IntKind.wrap IntKind.i64 (Int.tdiv (IntKind.wrap IntKind.i64 (IntKind.wrap IntKind.i64 (pages + 4) - 1)) 4)))

noncomputable def m_layout_Layout_Chunks (l2 : T_layout_Layout) : Option (Int) :=
  ((m_layout_chunks (T_layout_Layout.c_Pages l2)).bind fun y0 => some ((y0)))

noncomputable def m_layout_Layout_Lock (l2 : T_layout_Layout) (a : Int) : Option (Int) :=
  (bif (Decidable.decide (a < 0)) then some ((0)) else ((m_layout_Layout_Words l2).bind fun y0 => (bif (Decidable.decide (a ≥ y0)) then some ((0)) else (bif (!T_layout_Layout.c_Stripes l2 == 0) then some ((IntKind.wrap IntKind.i64 (3 + Int.tmod a (T_layout_Layout.c_Stripes l2)))) else none))))

noncomputable def m_layout_Layout_Table (l2 : T_layout_Layout) (k : Int) : Option (Int) :=
  ((m_layout_Layout_Chunks l2).bind fun y0 => (bif (Decidable.decide (k < 0)) then some ((0)) else (bif (Decidable.decide (k ≥ y0)) then some ((0)) else some ((IntKind.wrap IntKind.i64 (T_layout_Layout.at_0 l2 + k))))))

noncomputable def m_layout_Layout_Kind (l2 : T_layout_Layout) (p : Int) : Option (Int) :=
  (bif (Decidable.decide (p < 0)) then some ((0)) else (bif (Decidable.decide (p ≥ T_layout_Layout.c_Pages l2)) then some ((0)) else some ((IntKind.wrap IntKind.i64 (T_layout_Layout.at_1 l2 + p)))))

noncomputable def m_layout_Layout_Count (l2 : T_layout_Layout) (p : Int) : Option (Int) :=
  (bif (Decidable.decide (p < 0)) then some ((0)) else (bif (Decidable.decide (p ≥ T_layout_Layout.c_Pages l2)) then some ((0)) else some ((IntKind.wrap IntKind.i64 (T_layout_Layout.at_2 l2 + p)))))

noncomputable def m_layout_Layout_Bits (l2 : T_layout_Layout) (p : Int) : Option (Int) :=
  (bif (Decidable.decide (p < 0)) then some ((0)) else (bif (Decidable.decide (p ≥ T_layout_Layout.c_Pages l2)) then some ((0)) else some ((IntKind.wrap IntKind.i64 (T_layout_Layout.at_3 l2 + p)))))

noncomputable def m_layout_Layout_Next (l2 : T_layout_Layout) (p : Int) : Option (Int) :=
  (bif (Decidable.decide (p < 0)) then some ((0)) else (bif (Decidable.decide (p ≥ T_layout_Layout.c_Pages l2)) then some ((0)) else some ((IntKind.wrap IntKind.i64 (T_layout_Layout.at_4 l2 + p)))))

noncomputable def m_layout_Layout_Prev (l2 : T_layout_Layout) (p : Int) : Option (Int) :=
  (bif (Decidable.decide (p < 0)) then some ((0)) else (bif (Decidable.decide (p ≥ T_layout_Layout.c_Pages l2)) then some ((0)) else some ((IntKind.wrap IntKind.i64 (T_layout_Layout.at_5 l2 + p)))))

noncomputable def m_layout_Layout_none (l2 : T_layout_Layout) (c : Int) : Option (Bool) :=
  (bif (T_layout_Layout.c_Pages l2 == 0) then some ((Bool.true)) else (bif (Decidable.decide (c < 0)) then some ((Bool.true)) else some ((Decidable.decide (c ≥ 5)))))

noncomputable def m_layout_Layout_Head (l2 : T_layout_Layout) (c : Int) (f : Int) : Option (Int) :=
  ((m_layout_Layout_none l2 c).bind fun y0 => (bif (y0) then some ((0)) else (bif (Decidable.decide (0 ≤ c)) then (bif (Decidable.decide (f < 1)) then some ((0)) else (bif (Decidable.decide (f > 32 / 2 ^ Min.min (Int.toNat c) (IntKind.bits IntKind.i64))) then some ((0)) else some ((IntKind.wrap IntKind.i64 (IntKind.wrap IntKind.i64 (IntKind.wrap IntKind.i64 (T_layout_Layout.at_6 l2 + IntKind.wrap IntKind.i64 (64 - IntKind.wrap IntKind.i64 (2 * (32 / 2 ^ Min.min (Int.toNat c) (IntKind.bits IntKind.i64))))) + f) - 1))))) else none)))

noncomputable def m_layout_Layout_Cache (l2 : T_layout_Layout) (cpu : Int) (c : Int) : Option (Int) :=
  ((m_layout_Layout_none l2 c).bind fun y0 => (bif (y0) then some ((0)) else (bif (Decidable.decide (cpu < 0)) then some ((0)) else (bif (Decidable.decide (cpu ≥ T_layout_Layout.c_CPUs l2)) then some ((0)) else some ((IntKind.wrap IntKind.i64 (T_layout_Layout.at_7 l2 + IntKind.wrap IntKind.i64 (IntKind.wrap IntKind.i64 (IntKind.wrap IntKind.i64 (5 * cpu) + c) * IntKind.wrap IntKind.i64 (T_layout_Layout.c_Cache l2 + 1)))))))))

noncomputable def m_layout_Layout_Bin (l2 : T_layout_Layout) (c : Int) : Option (Int) :=
  ((m_layout_Layout_none l2 c).bind fun y0 => (bif (y0) then some ((0)) else some ((IntKind.wrap IntKind.i64 (T_layout_Layout.at_8 l2 + IntKind.wrap IntKind.i64 (c * IntKind.wrap IntKind.i64 (T_layout_Layout.c_Bin l2 + 1)))))))

noncomputable def m_layout_Layout_mine (l2 : T_layout_Layout) (a : Int) : Option (Bool) :=
  (bif (Decidable.decide (a ≥ T_layout_Layout.at_10 l2)) then some ((Decidable.decide (a < T_layout_Layout.at_11 l2))) else some ((Bool.false)))

noncomputable def m_layout_Layout_Live (l2 : T_layout_Layout) (a : Int) : Option (Int) :=
  ((m_layout_Layout_mine l2 a).bind fun y0 => (bif (!y0) then some ((0)) else some ((IntKind.wrap IntKind.i64 (IntKind.wrap IntKind.i64 (T_layout_Layout.at_9 l2 + a) - T_layout_Layout.at_10 l2)))))

noncomputable def m_layout_Layout_Addr (l2 : T_layout_Layout) (p : Int) : Option (Int) :=
  (bif (Decidable.decide (p < 0)) then some ((0)) else (bif (Decidable.decide (p ≥ T_layout_Layout.c_Pages l2)) then some ((0)) else some ((IntKind.wrap IntKind.i64 (T_layout_Layout.at_10 l2 + IntKind.wrap IntKind.i64 (p * 32))))))

noncomputable def m_layout_Layout_Place (l2 : T_layout_Layout) (a : Int) : Option (Int × Int × Bool) :=
  ((m_layout_Layout_mine l2 a).bind fun y0 => (bif (!y0) then some (((0), (0), (Bool.false))) else some (((IntKind.wrap IntKind.i64 (Int.tdiv (IntKind.wrap IntKind.i64 (a - T_layout_Layout.at_10 l2)) 32)), (Int.tmod (IntKind.wrap IntKind.i64 (a - T_layout_Layout.at_10 l2)) 32), (Bool.true)))))

noncomputable def m_layout_limit_holds (x_ : T_layout_limit) : Option (Bool) :=
  (bif (Decidable.decide (T_layout_limit.n x_ ≥ T_layout_limit.low x_)) then some ((Decidable.decide (T_layout_limit.n x_ ≤ T_layout_limit.high x_))) else some ((Bool.false)))

noncomputable def m_layout_Check (c : T_api_Config) : Option (Int) :=
  ((m_layout_limit_holds (T_layout_limit.mk (T_api_Config.Workers c) 1 64)).bind fun y0 => (bif (!y0) then some ((2)) else ((m_layout_limit_holds (T_layout_limit.mk (T_api_Config.CPUs c) 1 8)).bind fun y1 => (bif (!y1) then some ((2)) else ((m_layout_limit_holds (T_layout_limit.mk (T_api_Config.Pages c) 1 256)).bind fun y2 => (bif (!y2) then some ((2)) else ((m_layout_limit_holds (T_layout_limit.mk (T_api_Config.Stripes c) 1 64)).bind fun y3 => (bif (!y3) then some ((2)) else ((m_layout_limit_holds (T_layout_limit.mk (T_api_Config.Tries c) 0 16)).bind fun y4 => (bif (!y4) then some ((2)) else ((m_layout_limit_holds (T_layout_limit.mk (T_api_Config.Wait c) 0 64)).bind fun y5 => (bif (!y5) then some ((2)) else ((m_layout_limit_holds (T_layout_limit.mk (T_api_Config.Clock c) 1 1099511627776)).bind fun y6 => (bif (!y6) then some ((2)) else ((m_layout_limit_holds (T_layout_limit.mk (T_api_Config.Private c) 1 8)).bind fun y7 => (bif (!y7) then some ((2)) else ((m_layout_limit_holds (T_layout_limit.mk (T_api_Config.Cache c) 0 8)).bind fun y8 => (bif (!y8) then some ((2)) else ((m_layout_limit_holds (T_layout_limit.mk (T_api_Config.Bin c) 0 16)).bind fun y9 => (bif (!y9) then some ((2)) else ((m_layout_limit_holds (T_layout_limit.mk (T_api_Config.Batch c) 1 8)).bind fun y10 => (bif (!y10) then some ((2)) else some ((0))))))))))))))))))))))))

noncomputable def m_layout_Of (c : T_api_Config) : Option (T_layout_Layout × Int) :=
  ((m_layout_Check c).bind fun y0 => (bif (y0 != 0) then some (((T_layout_Layout.mk (0) (0) (0) (0) (0) (0) (0) (0) (0) (0) (0) (0) (0) (0) (0) (0) (0) (0) (0) (0) (0) (0) (0)), (y0))) else ((m_layout_chunks (T_api_Config.Pages c)).bind fun y1 => some (((T_layout_Layout.mk (T_api_Config.Workers c) (T_api_Config.CPUs c) (T_api_Config.Pages c) (T_api_Config.Stripes c) (T_api_Config.Tries c) (T_api_Config.Wait c) (T_api_Config.Clock c) (T_api_Config.Private c) (T_api_Config.Cache c) (T_api_Config.Bin c) (T_api_Config.Batch c) (IntKind.wrap IntKind.i64 (3 + T_api_Config.Stripes c)) (IntKind.wrap IntKind.i64 (IntKind.wrap IntKind.i64 (3 + T_api_Config.Stripes c) + y1)) (IntKind.wrap IntKind.i64 (IntKind.wrap IntKind.i64 (IntKind.wrap IntKind.i64 (3 + T_api_Config.Stripes c) + y1) + T_api_Config.Pages c)) (IntKind.wrap IntKind.i64 (IntKind.wrap IntKind.i64 (IntKind.wrap IntKind.i64 (IntKind.wrap IntKind.i64 (3 + T_api_Config.Stripes c) + y1) + T_api_Config.Pages c) + T_api_Config.Pages c)) (IntKind.wrap IntKind.i64 (IntKind.wrap IntKind.i64 (IntKind.wrap IntKind.i64 (IntKind.wrap IntKind.i64 (IntKind.wrap IntKind.i64 (3 + T_api_Config.Stripes c) + y1) + T_api_Config.Pages c) + T_api_Config.Pages c) + T_api_Config.Pages c)) (IntKind.wrap IntKind.i64 (IntKind.wrap IntKind.i64 (IntKind.wrap IntKind.i64 (IntKind.wrap IntKind.i64 (IntKind.wrap IntKind.i64 (IntKind.wrap IntKind.i64 (3 + T_api_Config.Stripes c) + y1) + T_api_Config.Pages c) + T_api_Config.Pages c) + T_api_Config.Pages c) + T_api_Config.Pages c)) (IntKind.wrap IntKind.i64 (IntKind.wrap IntKind.i64 (IntKind.wrap IntKind.i64 (IntKind.wrap IntKind.i64 (IntKind.wrap IntKind.i64 (IntKind.wrap IntKind.i64 (IntKind.wrap IntKind.i64 (3 + T_api_Config.Stripes c) + y1) + T_api_Config.Pages c) + T_api_Config.Pages c) + T_api_Config.Pages c) + T_api_Config.Pages c) + T_api_Config.Pages c)) (IntKind.wrap IntKind.i64 (IntKind.wrap IntKind.i64 (IntKind.wrap IntKind.i64 (IntKind.wrap IntKind.i64 (IntKind.wrap IntKind.i64 (IntKind.wrap IntKind.i64 (IntKind.wrap IntKind.i64 (IntKind.wrap IntKind.i64 (3 + T_api_Config.Stripes c) + y1) + T_api_Config.Pages c) + T_api_Config.Pages c) + T_api_Config.Pages c) + T_api_Config.Pages c) + T_api_Config.Pages c) + 62)) (IntKind.wrap IntKind.i64 (IntKind.wrap IntKind.i64 (IntKind.wrap IntKind.i64 (IntKind.wrap IntKind.i64 (IntKind.wrap IntKind.i64 (IntKind.wrap IntKind.i64 (IntKind.wrap IntKind.i64 (IntKind.wrap IntKind.i64 (IntKind.wrap IntKind.i64 (3 + T_api_Config.Stripes c) + y1) + T_api_Config.Pages c) + T_api_Config.Pages c) + T_api_Config.Pages c) + T_api_Config.Pages c) + T_api_Config.Pages c) + 62) + IntKind.wrap IntKind.i64 (IntKind.wrap IntKind.i64 (T_api_Config.CPUs c * 5) * IntKind.wrap IntKind.i64 (T_api_Config.Cache c + 1)))) (IntKind.wrap IntKind.i64 (IntKind.wrap IntKind.i64 (IntKind.wrap IntKind.i64 (IntKind.wrap IntKind.i64 (IntKind.wrap IntKind.i64 (IntKind.wrap IntKind.i64 (IntKind.wrap IntKind.i64 (IntKind.wrap IntKind.i64 (IntKind.wrap IntKind.i64 (IntKind.wrap IntKind.i64 (3 + T_api_Config.Stripes c) + y1) + T_api_Config.Pages c) + T_api_Config.Pages c) + T_api_Config.Pages c) + T_api_Config.Pages c) + T_api_Config.Pages c) + 62) + IntKind.wrap IntKind.i64 (IntKind.wrap IntKind.i64 (T_api_Config.CPUs c * 5) * IntKind.wrap IntKind.i64 (T_api_Config.Cache c + 1))) + IntKind.wrap IntKind.i64 (5 * IntKind.wrap IntKind.i64 (T_api_Config.Bin c + 1)))) (IntKind.wrap IntKind.i64 (IntKind.wrap IntKind.i64 (Int.tdiv (IntKind.wrap IntKind.i64 (IntKind.wrap IntKind.i64 (IntKind.wrap IntKind.i64 (IntKind.wrap IntKind.i64 (IntKind.wrap IntKind.i64 (IntKind.wrap IntKind.i64 (IntKind.wrap IntKind.i64 (IntKind.wrap IntKind.i64 (IntKind.wrap IntKind.i64 (IntKind.wrap IntKind.i64 (IntKind.wrap IntKind.i64 (IntKind.wrap IntKind.i64 (IntKind.wrap IntKind.i64 (3 + T_api_Config.Stripes c) + y1) + T_api_Config.Pages c) + T_api_Config.Pages c) + T_api_Config.Pages c) + T_api_Config.Pages c) + T_api_Config.Pages c) + 62) + IntKind.wrap IntKind.i64 (IntKind.wrap IntKind.i64 (T_api_Config.CPUs c * 5) * IntKind.wrap IntKind.i64 (T_api_Config.Cache c + 1))) + IntKind.wrap IntKind.i64 (5 * IntKind.wrap IntKind.i64 (T_api_Config.Bin c + 1))) + IntKind.wrap IntKind.i64 (T_api_Config.Pages c * 32)) + 128) - 1)) 128) * 128)) (IntKind.wrap IntKind.i64 (IntKind.wrap IntKind.i64 (IntKind.wrap IntKind.i64 (Int.tdiv (IntKind.wrap IntKind.i64 (IntKind.wrap IntKind.i64 (IntKind.wrap IntKind.i64 (IntKind.wrap IntKind.i64 (IntKind.wrap IntKind.i64 (IntKind.wrap IntKind.i64 (IntKind.wrap IntKind.i64 (IntKind.wrap IntKind.i64 (IntKind.wrap IntKind.i64 (IntKind.wrap IntKind.i64 (IntKind.wrap IntKind.i64 (IntKind.wrap IntKind.i64 (IntKind.wrap IntKind.i64 (3 + T_api_Config.Stripes c) + y1) + T_api_Config.Pages c) + T_api_Config.Pages c) + T_api_Config.Pages c) + T_api_Config.Pages c) + T_api_Config.Pages c) + 62) + IntKind.wrap IntKind.i64 (IntKind.wrap IntKind.i64 (T_api_Config.CPUs c * 5) * IntKind.wrap IntKind.i64 (T_api_Config.Cache c + 1))) + IntKind.wrap IntKind.i64 (5 * IntKind.wrap IntKind.i64 (T_api_Config.Bin c + 1))) + IntKind.wrap IntKind.i64 (T_api_Config.Pages c * 32)) + 128) - 1)) 128) * 128) + IntKind.wrap IntKind.i64 (T_api_Config.Pages c * 32)))), (0))))))

attribute [local irreducible] Loop ex exF contK roundK retK at_ bodyOf mkEnv
theorem ok_layout_Layout_Config : SpecOK Try.prog elTT 14 (sp_layout_Layout_Config m_layout_Layout_Config) := by
  refine spec_of_exF (cfg := cfg_layout_Layout_Config) (cfg_ok rfl rfl rfl) sig_nil (fn := Try.f14) (by kernel_rfl) (by kernel_rfl) (by kernel_rfl) ?_
  intro args H K h
  change tr_layout_Layout_Config m_layout_Layout_Config args H K at h
  unfold tr_layout_Layout_Config at h
  replace h := aC_el h
  obtain ⟨a0, _, rfl, h⟩ := h
  replace h := aN_el h
  obtain ⟨rfl, h⟩ := h
  replace h := aAgg_el h
  obtain ⟨c0, rfl, h⟩ := h
  replace h := d_layout_Layout_el h
  obtain ⟨l2, rfl, h⟩ := h
  replace h := aN_el h
  obtain ⟨rfl, h⟩ := h
  refine Eq.mpr (nf_layout_Layout_Config l2 K) ?_
  unfold m_layout_Layout_Config at h
  revert h
  exact fun h => h

theorem ok_layout_Layout_Words : SpecOK Try.prog elTT 15 (sp_layout_Layout_Words m_layout_Layout_Words) := by
  refine spec_of_exF (cfg := cfg_layout_Layout_Words) (cfg_ok rfl rfl rfl) sig_nil (fn := Try.f15) (by kernel_rfl) (by kernel_rfl) (by kernel_rfl) ?_
  intro args H K h
  change tr_layout_Layout_Words m_layout_Layout_Words args H K at h
  unfold tr_layout_Layout_Words at h
  replace h := aC_el h
  obtain ⟨a0, _, rfl, h⟩ := h
  replace h := aN_el h
  obtain ⟨rfl, h⟩ := h
  replace h := aAgg_el h
  obtain ⟨c0, rfl, h⟩ := h
  replace h := d_layout_Layout_el h
  obtain ⟨l2, rfl, h⟩ := h
  replace h := aN_el h
  obtain ⟨rfl, h⟩ := h
  refine Eq.mpr (nf_layout_Layout_Words l2 K) ?_
  unfold m_layout_Layout_Words at h
  revert h
  exact fun h => h

theorem ok_layout_Layout_User : SpecOK Try.prog elTT 38 (sp_layout_Layout_User m_layout_Layout_User) := by
  refine spec_of_exF (cfg := cfg_layout_Layout_User) (cfg_ok rfl rfl rfl) sig_nil (fn := Try.f38) (by kernel_rfl) (by kernel_rfl) (by kernel_rfl) ?_
  intro args H K h
  change tr_layout_Layout_User m_layout_Layout_User args H K at h
  unfold tr_layout_Layout_User at h
  replace h := aC_el h
  obtain ⟨a0, _, rfl, h⟩ := h
  replace h := aN_el h
  obtain ⟨rfl, h⟩ := h
  replace h := aAgg_el h
  obtain ⟨c0, rfl, h⟩ := h
  replace h := d_layout_Layout_el h
  obtain ⟨l2, rfl, h⟩ := h
  replace h := aN_el h
  obtain ⟨rfl, h⟩ := h
  refine Eq.mpr (nf_layout_Layout_User l2 K) ?_
  unfold m_layout_Layout_User at h
  revert h
  exact fun h => h

theorem ok_layout_chunks : SpecOK Try.prog elTT 67 (sp_layout_chunks m_layout_chunks) := by
  refine spec_of_exF (cfg := cfg_layout_chunks) (cfg_ok rfl rfl rfl) sig_nil (fn := Try.f67) (by kernel_rfl) (by kernel_rfl) (by kernel_rfl) ?_
  intro args H K h
  change tr_layout_chunks m_layout_chunks args H K at h
  unfold tr_layout_chunks at h
  replace h := aC_el h
  obtain ⟨a0, _, rfl, h⟩ := h
  replace h := aN_el h
  obtain ⟨rfl, h⟩ := h
  replace h := aInt_el h
  obtain ⟨pages, rfl, h⟩ := h
  replace h := aN_el h
  obtain ⟨rfl, h⟩ := h
  refine Eq.mpr (nf_layout_chunks pages K) ?_
  unfold m_layout_chunks at h
  revert h
  exact fun h => h

theorem ok_layout_Layout_Chunks : SpecOK Try.prog elTT 18 (sp_layout_Layout_Chunks m_layout_Layout_Chunks) := by
  refine spec_of_exF (cfg := (cfg_layout_Layout_Chunks m_layout_chunks)) (cfg_ok rfl rfl rfl) (sig_cons ok_layout_chunks sig_nil) (fn := Try.f18) (by kernel_rfl) (by kernel_rfl) (by kernel_rfl) ?_
  intro args H K h
  change tr_layout_Layout_Chunks m_layout_Layout_Chunks args H K at h
  unfold tr_layout_Layout_Chunks at h
  replace h := aC_el h
  obtain ⟨a0, _, rfl, h⟩ := h
  replace h := aN_el h
  obtain ⟨rfl, h⟩ := h
  replace h := aAgg_el h
  obtain ⟨c0, rfl, h⟩ := h
  replace h := d_layout_Layout_el h
  obtain ⟨l2, rfl, h⟩ := h
  replace h := aN_el h
  obtain ⟨rfl, h⟩ := h
  refine Eq.mpr (nf_layout_Layout_Chunks m_layout_chunks l2 K) ?_
  unfold m_layout_Layout_Chunks at h
  revert h
  exact bind_So fun y0 => fun h => h

theorem ok_layout_Layout_Lock : SpecOK Try.prog elTT 43 (sp_layout_Layout_Lock m_layout_Layout_Lock) := by
  refine spec_of_exF (cfg := (cfg_layout_Layout_Lock m_layout_Layout_Words)) (cfg_ok rfl rfl rfl) (sig_cons ok_layout_Layout_Words sig_nil) (fn := Try.f43) (by kernel_rfl) (by kernel_rfl) (by kernel_rfl) ?_
  intro args H K h
  change tr_layout_Layout_Lock m_layout_Layout_Lock args H K at h
  unfold tr_layout_Layout_Lock at h
  replace h := aC_el h
  obtain ⟨a0, _, rfl, h⟩ := h
  replace h := aC_el h
  obtain ⟨a1, _, rfl, h⟩ := h
  replace h := aN_el h
  obtain ⟨rfl, h⟩ := h
  replace h := aAgg_el h
  obtain ⟨c0, rfl, h⟩ := h
  replace h := d_layout_Layout_el h
  obtain ⟨l2, rfl, h⟩ := h
  replace h := aInt_el h
  obtain ⟨a, rfl, h⟩ := h
  replace h := aN_el h
  obtain ⟨rfl, h⟩ := h
  refine Eq.mpr (nf_layout_Layout_Lock m_layout_Layout_Words l2 a K) ?_
  unfold m_layout_Layout_Lock at h
  revert h
  exact br_So (fun h => h) (bind_So fun y0 => br_So (fun h => h) (req_So (fun h => h)))

theorem ok_layout_Layout_Table : SpecOK Try.prog elTT 20 (sp_layout_Layout_Table m_layout_Layout_Table) := by
  refine spec_of_exF (cfg := (cfg_layout_Layout_Table m_layout_Layout_Chunks)) (cfg_ok rfl rfl rfl) (sig_cons ok_layout_Layout_Chunks (sig_cons (inlS_ok (cfg := cfgB) (cfg_ok rfl rfl rfl) (nosig rfl) (by kernel_rfl) (by kernel_rfl) (by kernel_rfl)) sig_nil)) (fn := Try.f20) (by kernel_rfl) (by kernel_rfl) (by kernel_rfl) ?_
  intro args H K h
  change tr_layout_Layout_Table m_layout_Layout_Table args H K at h
  unfold tr_layout_Layout_Table at h
  replace h := aC_el h
  obtain ⟨a0, _, rfl, h⟩ := h
  replace h := aC_el h
  obtain ⟨a1, _, rfl, h⟩ := h
  replace h := aN_el h
  obtain ⟨rfl, h⟩ := h
  replace h := aAgg_el h
  obtain ⟨c0, rfl, h⟩ := h
  replace h := d_layout_Layout_el h
  obtain ⟨l2, rfl, h⟩ := h
  replace h := aInt_el h
  obtain ⟨k, rfl, h⟩ := h
  replace h := aN_el h
  obtain ⟨rfl, h⟩ := h
  refine Eq.mpr (nf_layout_Layout_Table m_layout_Layout_Chunks l2 k K) ?_
  unfold m_layout_Layout_Table at h
  revert h
  exact bind_So fun y0 => br_So (fun h => h) (br_So (fun h => h) (fun h => h))

theorem ok_layout_Layout_Kind : SpecOK Try.prog elTT 24 (sp_layout_Layout_Kind m_layout_Layout_Kind) := by
  refine spec_of_exF (cfg := cfg_layout_Layout_Kind) (cfg_ok rfl rfl rfl) (sig_cons (inlS_ok (cfg := cfgB) (cfg_ok rfl rfl rfl) (nosig rfl) (by kernel_rfl) (by kernel_rfl) (by kernel_rfl)) sig_nil) (fn := Try.f24) (by kernel_rfl) (by kernel_rfl) (by kernel_rfl) ?_
  intro args H K h
  change tr_layout_Layout_Kind m_layout_Layout_Kind args H K at h
  unfold tr_layout_Layout_Kind at h
  replace h := aC_el h
  obtain ⟨a0, _, rfl, h⟩ := h
  replace h := aC_el h
  obtain ⟨a1, _, rfl, h⟩ := h
  replace h := aN_el h
  obtain ⟨rfl, h⟩ := h
  replace h := aAgg_el h
  obtain ⟨c0, rfl, h⟩ := h
  replace h := d_layout_Layout_el h
  obtain ⟨l2, rfl, h⟩ := h
  replace h := aInt_el h
  obtain ⟨p, rfl, h⟩ := h
  replace h := aN_el h
  obtain ⟨rfl, h⟩ := h
  refine Eq.mpr (nf_layout_Layout_Kind l2 p K) ?_
  unfold m_layout_Layout_Kind at h
  revert h
  exact br_So (fun h => h) (br_So (fun h => h) (fun h => h))

theorem ok_layout_Layout_Count : SpecOK Try.prog elTT 26 (sp_layout_Layout_Count m_layout_Layout_Count) := by
  refine spec_of_exF (cfg := cfg_layout_Layout_Count) (cfg_ok rfl rfl rfl) (sig_cons (inlS_ok (cfg := cfgB) (cfg_ok rfl rfl rfl) (nosig rfl) (by kernel_rfl) (by kernel_rfl) (by kernel_rfl)) sig_nil) (fn := Try.f26) (by kernel_rfl) (by kernel_rfl) (by kernel_rfl) ?_
  intro args H K h
  change tr_layout_Layout_Count m_layout_Layout_Count args H K at h
  unfold tr_layout_Layout_Count at h
  replace h := aC_el h
  obtain ⟨a0, _, rfl, h⟩ := h
  replace h := aC_el h
  obtain ⟨a1, _, rfl, h⟩ := h
  replace h := aN_el h
  obtain ⟨rfl, h⟩ := h
  replace h := aAgg_el h
  obtain ⟨c0, rfl, h⟩ := h
  replace h := d_layout_Layout_el h
  obtain ⟨l2, rfl, h⟩ := h
  replace h := aInt_el h
  obtain ⟨p, rfl, h⟩ := h
  replace h := aN_el h
  obtain ⟨rfl, h⟩ := h
  refine Eq.mpr (nf_layout_Layout_Count l2 p K) ?_
  unfold m_layout_Layout_Count at h
  revert h
  exact br_So (fun h => h) (br_So (fun h => h) (fun h => h))

theorem ok_layout_Layout_Bits : SpecOK Try.prog elTT 28 (sp_layout_Layout_Bits m_layout_Layout_Bits) := by
  refine spec_of_exF (cfg := cfg_layout_Layout_Bits) (cfg_ok rfl rfl rfl) (sig_cons (inlS_ok (cfg := cfgB) (cfg_ok rfl rfl rfl) (nosig rfl) (by kernel_rfl) (by kernel_rfl) (by kernel_rfl)) sig_nil) (fn := Try.f28) (by kernel_rfl) (by kernel_rfl) (by kernel_rfl) ?_
  intro args H K h
  change tr_layout_Layout_Bits m_layout_Layout_Bits args H K at h
  unfold tr_layout_Layout_Bits at h
  replace h := aC_el h
  obtain ⟨a0, _, rfl, h⟩ := h
  replace h := aC_el h
  obtain ⟨a1, _, rfl, h⟩ := h
  replace h := aN_el h
  obtain ⟨rfl, h⟩ := h
  replace h := aAgg_el h
  obtain ⟨c0, rfl, h⟩ := h
  replace h := d_layout_Layout_el h
  obtain ⟨l2, rfl, h⟩ := h
  replace h := aInt_el h
  obtain ⟨p, rfl, h⟩ := h
  replace h := aN_el h
  obtain ⟨rfl, h⟩ := h
  refine Eq.mpr (nf_layout_Layout_Bits l2 p K) ?_
  unfold m_layout_Layout_Bits at h
  revert h
  exact br_So (fun h => h) (br_So (fun h => h) (fun h => h))

theorem ok_layout_Layout_Next : SpecOK Try.prog elTT 30 (sp_layout_Layout_Next m_layout_Layout_Next) := by
  refine spec_of_exF (cfg := cfg_layout_Layout_Next) (cfg_ok rfl rfl rfl) (sig_cons (inlS_ok (cfg := cfgB) (cfg_ok rfl rfl rfl) (nosig rfl) (by kernel_rfl) (by kernel_rfl) (by kernel_rfl)) sig_nil) (fn := Try.f30) (by kernel_rfl) (by kernel_rfl) (by kernel_rfl) ?_
  intro args H K h
  change tr_layout_Layout_Next m_layout_Layout_Next args H K at h
  unfold tr_layout_Layout_Next at h
  replace h := aC_el h
  obtain ⟨a0, _, rfl, h⟩ := h
  replace h := aC_el h
  obtain ⟨a1, _, rfl, h⟩ := h
  replace h := aN_el h
  obtain ⟨rfl, h⟩ := h
  replace h := aAgg_el h
  obtain ⟨c0, rfl, h⟩ := h
  replace h := d_layout_Layout_el h
  obtain ⟨l2, rfl, h⟩ := h
  replace h := aInt_el h
  obtain ⟨p, rfl, h⟩ := h
  replace h := aN_el h
  obtain ⟨rfl, h⟩ := h
  refine Eq.mpr (nf_layout_Layout_Next l2 p K) ?_
  unfold m_layout_Layout_Next at h
  revert h
  exact br_So (fun h => h) (br_So (fun h => h) (fun h => h))

theorem ok_layout_Layout_Prev : SpecOK Try.prog elTT 32 (sp_layout_Layout_Prev m_layout_Layout_Prev) := by
  refine spec_of_exF (cfg := cfg_layout_Layout_Prev) (cfg_ok rfl rfl rfl) (sig_cons (inlS_ok (cfg := cfgB) (cfg_ok rfl rfl rfl) (nosig rfl) (by kernel_rfl) (by kernel_rfl) (by kernel_rfl)) sig_nil) (fn := Try.f32) (by kernel_rfl) (by kernel_rfl) (by kernel_rfl) ?_
  intro args H K h
  change tr_layout_Layout_Prev m_layout_Layout_Prev args H K at h
  unfold tr_layout_Layout_Prev at h
  replace h := aC_el h
  obtain ⟨a0, _, rfl, h⟩ := h
  replace h := aC_el h
  obtain ⟨a1, _, rfl, h⟩ := h
  replace h := aN_el h
  obtain ⟨rfl, h⟩ := h
  replace h := aAgg_el h
  obtain ⟨c0, rfl, h⟩ := h
  replace h := d_layout_Layout_el h
  obtain ⟨l2, rfl, h⟩ := h
  replace h := aInt_el h
  obtain ⟨p, rfl, h⟩ := h
  replace h := aN_el h
  obtain ⟨rfl, h⟩ := h
  refine Eq.mpr (nf_layout_Layout_Prev l2 p K) ?_
  unfold m_layout_Layout_Prev at h
  revert h
  exact br_So (fun h => h) (br_So (fun h => h) (fun h => h))

theorem ok_layout_Layout_none : SpecOK Try.prog elTT 73 (sp_layout_Layout_none m_layout_Layout_none) := by
  refine spec_of_exF (cfg := cfg_layout_Layout_none) (cfg_ok rfl rfl rfl) sig_nil (fn := Try.f73) (by kernel_rfl) (by kernel_rfl) (by kernel_rfl) ?_
  intro args H K h
  change tr_layout_Layout_none m_layout_Layout_none args H K at h
  unfold tr_layout_Layout_none at h
  replace h := aC_el h
  obtain ⟨a0, _, rfl, h⟩ := h
  replace h := aC_el h
  obtain ⟨a1, _, rfl, h⟩ := h
  replace h := aN_el h
  obtain ⟨rfl, h⟩ := h
  replace h := aAgg_el h
  obtain ⟨c0, rfl, h⟩ := h
  replace h := d_layout_Layout_el h
  obtain ⟨l2, rfl, h⟩ := h
  replace h := aInt_el h
  obtain ⟨c, rfl, h⟩ := h
  replace h := aN_el h
  obtain ⟨rfl, h⟩ := h
  refine Eq.mpr (nf_layout_Layout_none l2 c K) ?_
  unfold m_layout_Layout_none at h
  revert h
  exact br_So (fun h => h) (br_So (fun h => h) (fun h => h))

theorem ok_layout_Layout_Head : SpecOK Try.prog elTT 22 (sp_layout_Layout_Head m_layout_Layout_Head) := by
  refine spec_of_exF (cfg := (cfg_layout_Layout_Head m_layout_Layout_none)) (cfg_ok rfl rfl rfl) (sig_cons ok_layout_Layout_none sig_nil) (fn := Try.f22) (by kernel_rfl) (by kernel_rfl) (by kernel_rfl) ?_
  intro args H K h
  change tr_layout_Layout_Head m_layout_Layout_Head args H K at h
  unfold tr_layout_Layout_Head at h
  replace h := aC_el h
  obtain ⟨a0, _, rfl, h⟩ := h
  replace h := aC_el h
  obtain ⟨a1, _, rfl, h⟩ := h
  replace h := aC_el h
  obtain ⟨a2, _, rfl, h⟩ := h
  replace h := aN_el h
  obtain ⟨rfl, h⟩ := h
  replace h := aAgg_el h
  obtain ⟨c0, rfl, h⟩ := h
  replace h := d_layout_Layout_el h
  obtain ⟨l2, rfl, h⟩ := h
  replace h := aInt_el h
  obtain ⟨c, rfl, h⟩ := h
  replace h := aInt_el h
  obtain ⟨f, rfl, h⟩ := h
  replace h := aN_el h
  obtain ⟨rfl, h⟩ := h
  refine Eq.mpr (nf_layout_Layout_Head m_layout_Layout_none l2 c f K) ?_
  unfold m_layout_Layout_Head at h
  revert h
  exact bind_So fun y0 => br_So (fun h => h) (req_So (br_So (fun h => h) (br_So (fun h => h) (fun h => h))))

theorem ok_layout_Layout_Cache : SpecOK Try.prog elTT 44 (sp_layout_Layout_Cache m_layout_Layout_Cache) := by
  refine spec_of_exF (cfg := (cfg_layout_Layout_Cache m_layout_Layout_none)) (cfg_ok rfl rfl rfl) (sig_cons ok_layout_Layout_none sig_nil) (fn := Try.f44) (by kernel_rfl) (by kernel_rfl) (by kernel_rfl) ?_
  intro args H K h
  change tr_layout_Layout_Cache m_layout_Layout_Cache args H K at h
  unfold tr_layout_Layout_Cache at h
  replace h := aC_el h
  obtain ⟨a0, _, rfl, h⟩ := h
  replace h := aC_el h
  obtain ⟨a1, _, rfl, h⟩ := h
  replace h := aC_el h
  obtain ⟨a2, _, rfl, h⟩ := h
  replace h := aN_el h
  obtain ⟨rfl, h⟩ := h
  replace h := aAgg_el h
  obtain ⟨c0, rfl, h⟩ := h
  replace h := d_layout_Layout_el h
  obtain ⟨l2, rfl, h⟩ := h
  replace h := aInt_el h
  obtain ⟨cpu, rfl, h⟩ := h
  replace h := aInt_el h
  obtain ⟨c, rfl, h⟩ := h
  replace h := aN_el h
  obtain ⟨rfl, h⟩ := h
  refine Eq.mpr (nf_layout_Layout_Cache m_layout_Layout_none l2 cpu c K) ?_
  unfold m_layout_Layout_Cache at h
  revert h
  exact bind_So fun y0 => br_So (fun h => h) (br_So (fun h => h) (br_So (fun h => h) (fun h => h)))

theorem ok_layout_Layout_Bin : SpecOK Try.prog elTT 45 (sp_layout_Layout_Bin m_layout_Layout_Bin) := by
  refine spec_of_exF (cfg := (cfg_layout_Layout_Bin m_layout_Layout_none)) (cfg_ok rfl rfl rfl) (sig_cons ok_layout_Layout_none sig_nil) (fn := Try.f45) (by kernel_rfl) (by kernel_rfl) (by kernel_rfl) ?_
  intro args H K h
  change tr_layout_Layout_Bin m_layout_Layout_Bin args H K at h
  unfold tr_layout_Layout_Bin at h
  replace h := aC_el h
  obtain ⟨a0, _, rfl, h⟩ := h
  replace h := aC_el h
  obtain ⟨a1, _, rfl, h⟩ := h
  replace h := aN_el h
  obtain ⟨rfl, h⟩ := h
  replace h := aAgg_el h
  obtain ⟨c0, rfl, h⟩ := h
  replace h := d_layout_Layout_el h
  obtain ⟨l2, rfl, h⟩ := h
  replace h := aInt_el h
  obtain ⟨c, rfl, h⟩ := h
  replace h := aN_el h
  obtain ⟨rfl, h⟩ := h
  refine Eq.mpr (nf_layout_Layout_Bin m_layout_Layout_none l2 c K) ?_
  unfold m_layout_Layout_Bin at h
  revert h
  exact bind_So fun y0 => br_So (fun h => h) (fun h => h)

theorem ok_layout_Layout_mine : SpecOK Try.prog elTT 77 (sp_layout_Layout_mine m_layout_Layout_mine) := by
  refine spec_of_exF (cfg := cfg_layout_Layout_mine) (cfg_ok rfl rfl rfl) sig_nil (fn := Try.f77) (by kernel_rfl) (by kernel_rfl) (by kernel_rfl) ?_
  intro args H K h
  change tr_layout_Layout_mine m_layout_Layout_mine args H K at h
  unfold tr_layout_Layout_mine at h
  replace h := aC_el h
  obtain ⟨a0, _, rfl, h⟩ := h
  replace h := aC_el h
  obtain ⟨a1, _, rfl, h⟩ := h
  replace h := aN_el h
  obtain ⟨rfl, h⟩ := h
  replace h := aAgg_el h
  obtain ⟨c0, rfl, h⟩ := h
  replace h := d_layout_Layout_el h
  obtain ⟨l2, rfl, h⟩ := h
  replace h := aInt_el h
  obtain ⟨a, rfl, h⟩ := h
  replace h := aN_el h
  obtain ⟨rfl, h⟩ := h
  refine Eq.mpr (nf_layout_Layout_mine l2 a K) ?_
  unfold m_layout_Layout_mine at h
  revert h
  exact br_So (fun h => h) (fun h => h)

theorem ok_layout_Layout_Live : SpecOK Try.prog elTT 39 (sp_layout_Layout_Live m_layout_Layout_Live) := by
  refine spec_of_exF (cfg := (cfg_layout_Layout_Live m_layout_Layout_mine)) (cfg_ok rfl rfl rfl) (sig_cons ok_layout_Layout_mine sig_nil) (fn := Try.f39) (by kernel_rfl) (by kernel_rfl) (by kernel_rfl) ?_
  intro args H K h
  change tr_layout_Layout_Live m_layout_Layout_Live args H K at h
  unfold tr_layout_Layout_Live at h
  replace h := aC_el h
  obtain ⟨a0, _, rfl, h⟩ := h
  replace h := aC_el h
  obtain ⟨a1, _, rfl, h⟩ := h
  replace h := aN_el h
  obtain ⟨rfl, h⟩ := h
  replace h := aAgg_el h
  obtain ⟨c0, rfl, h⟩ := h
  replace h := d_layout_Layout_el h
  obtain ⟨l2, rfl, h⟩ := h
  replace h := aInt_el h
  obtain ⟨a, rfl, h⟩ := h
  replace h := aN_el h
  obtain ⟨rfl, h⟩ := h
  refine Eq.mpr (nf_layout_Layout_Live m_layout_Layout_mine l2 a K) ?_
  unfold m_layout_Layout_Live at h
  revert h
  exact bind_So fun y0 => br_So (fun h => h) (fun h => h)

theorem ok_layout_Layout_Addr : SpecOK Try.prog elTT 34 (sp_layout_Layout_Addr m_layout_Layout_Addr) := by
  refine spec_of_exF (cfg := cfg_layout_Layout_Addr) (cfg_ok rfl rfl rfl) sig_nil (fn := Try.f34) (by kernel_rfl) (by kernel_rfl) (by kernel_rfl) ?_
  intro args H K h
  change tr_layout_Layout_Addr m_layout_Layout_Addr args H K at h
  unfold tr_layout_Layout_Addr at h
  replace h := aC_el h
  obtain ⟨a0, _, rfl, h⟩ := h
  replace h := aC_el h
  obtain ⟨a1, _, rfl, h⟩ := h
  replace h := aN_el h
  obtain ⟨rfl, h⟩ := h
  replace h := aAgg_el h
  obtain ⟨c0, rfl, h⟩ := h
  replace h := d_layout_Layout_el h
  obtain ⟨l2, rfl, h⟩ := h
  replace h := aInt_el h
  obtain ⟨p, rfl, h⟩ := h
  replace h := aN_el h
  obtain ⟨rfl, h⟩ := h
  refine Eq.mpr (nf_layout_Layout_Addr l2 p K) ?_
  unfold m_layout_Layout_Addr at h
  revert h
  exact br_So (fun h => h) (br_So (fun h => h) (fun h => h))

theorem ok_layout_Layout_Place : SpecOK Try.prog elTT 37 (sp_layout_Layout_Place m_layout_Layout_Place) := by
  refine spec_of_exF (cfg := (cfg_layout_Layout_Place m_layout_Layout_mine)) (cfg_ok rfl rfl rfl) (sig_cons ok_layout_Layout_mine sig_nil) (fn := Try.f37) (by kernel_rfl) (by kernel_rfl) (by kernel_rfl) ?_
  intro args H K h
  change tr_layout_Layout_Place m_layout_Layout_Place args H K at h
  unfold tr_layout_Layout_Place at h
  replace h := aC_el h
  obtain ⟨a0, _, rfl, h⟩ := h
  replace h := aC_el h
  obtain ⟨a1, _, rfl, h⟩ := h
  replace h := aN_el h
  obtain ⟨rfl, h⟩ := h
  replace h := aAgg_el h
  obtain ⟨c0, rfl, h⟩ := h
  replace h := d_layout_Layout_el h
  obtain ⟨l2, rfl, h⟩ := h
  replace h := aInt_el h
  obtain ⟨a, rfl, h⟩ := h
  replace h := aN_el h
  obtain ⟨rfl, h⟩ := h
  refine Eq.mpr (nf_layout_Layout_Place m_layout_Layout_mine l2 a K) ?_
  unfold m_layout_Layout_Place at h
  revert h
  exact bind_So fun y0 => br_So (fun h => h) (fun h => h)

theorem ok_layout_limit_holds : SpecOK Try.prog elTT 66 (sp_layout_limit_holds m_layout_limit_holds) := by
  refine spec_of_exF (cfg := cfg_layout_limit_holds) (cfg_ok rfl rfl rfl) sig_nil (fn := Try.f66) (by kernel_rfl) (by kernel_rfl) (by kernel_rfl) ?_
  intro args H K h
  change tr_layout_limit_holds m_layout_limit_holds args H K at h
  unfold tr_layout_limit_holds at h
  replace h := aC_el h
  obtain ⟨a0, _, rfl, h⟩ := h
  replace h := aN_el h
  obtain ⟨rfl, h⟩ := h
  replace h := aAgg_el h
  obtain ⟨c0, rfl, h⟩ := h
  replace h := d_layout_limit_el h
  obtain ⟨x_, rfl, h⟩ := h
  replace h := aN_el h
  obtain ⟨rfl, h⟩ := h
  refine Eq.mpr (nf_layout_limit_holds x_ K) ?_
  unfold m_layout_limit_holds at h
  revert h
  exact br_So (fun h => h) (fun h => h)

theorem ok_layout_Check : SpecOK Try.prog elTT 11 (sp_layout_Check m_layout_Check) := by
  refine spec_of_exF (cfg := (cfg_layout_Check m_layout_limit_holds)) (cfg_ok rfl rfl rfl) (sig_cons ok_layout_limit_holds sig_nil) (fn := Try.f11) (by kernel_rfl) (by kernel_rfl) (by kernel_rfl) ?_
  intro args H K h
  change tr_layout_Check m_layout_Check args H K at h
  unfold tr_layout_Check at h
  replace h := aC_el h
  obtain ⟨a0, _, rfl, h⟩ := h
  replace h := aN_el h
  obtain ⟨rfl, h⟩ := h
  replace h := aAgg_el h
  obtain ⟨c0, rfl, h⟩ := h
  replace h := d_api_Config_el h
  obtain ⟨c, rfl, h⟩ := h
  replace h := aN_el h
  obtain ⟨rfl, h⟩ := h
  refine Eq.mpr (nf_layout_Check m_layout_limit_holds c K) ?_
  unfold m_layout_Check at h
  revert h
  exact bind_So fun y0 => br_So (fun h => h) (bind_So fun y1 => br_So (fun h => h) (bind_So fun y2 => br_So (fun h => h) (bind_So fun y3 => br_So (fun h => h) (bind_So fun y4 => br_So (fun h => h) (bind_So fun y5 => br_So (fun h => h) (bind_So fun y6 => br_So (fun h => h) (bind_So fun y7 => br_So (fun h => h) (bind_So fun y8 => br_So (fun h => h) (bind_So fun y9 => br_So (fun h => h) (bind_So fun y10 => br_So (fun h => h) (fun h => h)))))))))))

theorem ok_layout_Of : SpecOK Try.prog elTT 12 (sp_layout_Of m_layout_Of) := by
  refine spec_of_exF (cfg := (cfg_layout_Of m_layout_Check m_layout_chunks)) (cfg_ok rfl rfl rfl) (sig_cons ok_layout_Check (sig_cons ok_layout_chunks sig_nil)) (fn := Try.f12) (by kernel_rfl) (by kernel_rfl) (by kernel_rfl) ?_
  intro args H K h
  change tr_layout_Of m_layout_Of args H K at h
  unfold tr_layout_Of at h
  replace h := aC_el h
  obtain ⟨a0, _, rfl, h⟩ := h
  replace h := aN_el h
  obtain ⟨rfl, h⟩ := h
  replace h := aAgg_el h
  obtain ⟨c0, rfl, h⟩ := h
  replace h := d_api_Config_el h
  obtain ⟨c, rfl, h⟩ := h
  replace h := aN_el h
  obtain ⟨rfl, h⟩ := h
  refine Eq.mpr (nf_layout_Of m_layout_Check m_layout_chunks c K) ?_
  unfold m_layout_Of at h
  revert h
  exact bind_So fun y0 => br_So (fun h => h) (bind_So fun y1 => fun h => h)

end Go.Rx
end

section
/- Layouts, plainly. -/
namespace Go.Rx
open Go.Proofs

theorem so_bif {α : Type} {c : Bool} {x y : Option α} {p : Prop} [Decidable p] (h : c = decide p) : (bif c then x else y) = if p then x else y := by
  subst h; by_cases hp : p <;> simp [hp]

/-- Which configurations may be. -/
structure RightC (c : T_api_Config) : Prop where
  workers : 1 ≤ c.Workers ∧ c.Workers ≤ 64
  cpus : 1 ≤ c.CPUs ∧ c.CPUs ≤ 8
  pages : 1 ≤ c.Pages ∧ c.Pages ≤ 256
  stripes : 1 ≤ c.Stripes ∧ c.Stripes ≤ 64
  tries : 0 ≤ c.Tries ∧ c.Tries ≤ 16
  wait : 0 ≤ c.Wait ∧ c.Wait ≤ 64
  clock : 1 ≤ c.Clock ∧ c.Clock ≤ 1099511627776
  private_ : 1 ≤ c.Private ∧ c.Private ≤ 8
  cache : 0 ≤ c.Cache ∧ c.Cache ≤ 8
  bin : 0 ≤ c.Bin ∧ c.Bin ≤ 16
  batch : 1 ≤ c.Batch ∧ c.Batch ≤ 8

instance (c : T_api_Config) : Decidable (RightC c) :=
  decidable_of_iff ((1 ≤ c.Workers ∧ c.Workers ≤ 64) ∧ (1 ≤ c.CPUs ∧ c.CPUs ≤ 8) ∧ (1 ≤ c.Pages ∧ c.Pages ≤ 256) ∧ (1 ≤ c.Stripes ∧ c.Stripes ≤ 64) ∧ (0 ≤ c.Tries ∧ c.Tries ≤ 16) ∧ (0 ≤ c.Wait ∧ c.Wait ≤ 64) ∧
    (1 ≤ c.Clock ∧ c.Clock ≤ 1099511627776) ∧ (1 ≤ c.Private ∧ c.Private ≤ 8) ∧ (0 ≤ c.Cache ∧ c.Cache ≤ 8) ∧ (0 ≤ c.Bin ∧ c.Bin ≤ 16) ∧ (1 ≤ c.Batch ∧ c.Batch ≤ 8))
    ⟨fun ⟨a, b, d, e, f, g, h, i, j, k, l⟩ => ⟨a, b, d, e, f, g, h, i, j, k, l⟩, fun ⟨a, b, d, e, f, g, h, i, j, k, l⟩ => ⟨a, b, d, e, f, g, h, i, j, k, l⟩⟩

theorem holds_eq (x : T_layout_limit) : m_layout_limit_holds x = some (decide (x.low ≤ x.n ∧ x.n ≤ x.high)) := by
  unfold m_layout_limit_holds
  by_cases a : x.low ≤ x.n <;> by_cases b : x.n ≤ x.high <;> simp [a, b]

theorem Check_eq (c : T_api_Config) : m_layout_Check c = some (if RightC c then 0 else 2) := by
  unfold m_layout_Check
  simp only [holds_eq, Option.bind_some]
  by_cases h : RightC c
  · obtain ⟨a, b, d, e, f, g, h', i, j, k, l⟩ := h
    have hR : RightC c := ⟨a, b, d, e, f, g, h', i, j, k, l⟩
    simp [a, b, d, e, f, g, h', i, j, k, l, hR]
  · rw [if_neg h]
    by_cases a : 1 ≤ c.Workers ∧ c.Workers ≤ 64
    case neg => rw [decide_eq_false a]; rfl
    rw [decide_eq_true a]; simp only [Bool.not_true, cond_false]
    by_cases b : 1 ≤ c.CPUs ∧ c.CPUs ≤ 8
    case neg => rw [decide_eq_false b]; rfl
    rw [decide_eq_true b]; simp only [Bool.not_true, cond_false]
    by_cases d : 1 ≤ c.Pages ∧ c.Pages ≤ 256
    case neg => rw [decide_eq_false d]; rfl
    rw [decide_eq_true d]; simp only [Bool.not_true, cond_false]
    by_cases e : 1 ≤ c.Stripes ∧ c.Stripes ≤ 64
    case neg => rw [decide_eq_false e]; rfl
    rw [decide_eq_true e]; simp only [Bool.not_true, cond_false]
    by_cases f : 0 ≤ c.Tries ∧ c.Tries ≤ 16
    case neg => rw [decide_eq_false f]; rfl
    rw [decide_eq_true f]; simp only [Bool.not_true, cond_false]
    by_cases g : 0 ≤ c.Wait ∧ c.Wait ≤ 64
    case neg => rw [decide_eq_false g]; rfl
    rw [decide_eq_true g]; simp only [Bool.not_true, cond_false]
    by_cases h' : 1 ≤ c.Clock ∧ c.Clock ≤ 1099511627776
    case neg => rw [decide_eq_false h']; rfl
    rw [decide_eq_true h']; simp only [Bool.not_true, cond_false]
    by_cases i : 1 ≤ c.Private ∧ c.Private ≤ 8
    case neg => rw [decide_eq_false i]; rfl
    rw [decide_eq_true i]; simp only [Bool.not_true, cond_false]
    by_cases j : 0 ≤ c.Cache ∧ c.Cache ≤ 8
    case neg => rw [decide_eq_false j]; rfl
    rw [decide_eq_true j]; simp only [Bool.not_true, cond_false]
    by_cases k : 0 ≤ c.Bin ∧ c.Bin ≤ 16
    case neg => rw [decide_eq_false k]; rfl
    rw [decide_eq_true k]; simp only [Bool.not_true, cond_false]
    by_cases l : 1 ≤ c.Batch ∧ c.Batch ≤ 8
    case neg => rw [decide_eq_false l]; rfl
    rw [decide_eq_true l]; simp only [Bool.not_true, cond_false]
    exact (h ⟨a, b, d, e, f, g, h', i, j, k, l⟩).elim

/-- A layout. -/
def layC (c : T_api_Config) : T_layout_Layout :=
  let a0 := 3 + c.Stripes
  let a1 := a0 + (c.Pages + 3) / 4
  let a6 := a1 + 5 * c.Pages
  let a7 := a6 + 62
  let a8 := a7 + c.CPUs * 5 * (c.Cache + 1)
  let a9 := a8 + 5 * (c.Bin + 1)
  let a10 := (a9 + c.Pages * 32 + 127) / 128 * 128
  ⟨c.Workers, c.CPUs, c.Pages, c.Stripes, c.Tries, c.Wait, c.Clock, c.Private, c.Cache, c.Bin, c.Batch, a0, a1, a1 + c.Pages, a1 + 2 * c.Pages, a1 + 3 * c.Pages, a1 + 4 * c.Pages, a6, a7, a8, a9, a10, a10 + c.Pages * 32⟩

def cOf (L : T_layout_Layout) : T_api_Config := ⟨L.c_Workers, L.c_CPUs, L.c_Pages, L.c_Stripes, L.c_Tries, L.c_Wait, L.c_Clock, L.c_Private, L.c_Cache, L.c_Bin, L.c_Batch⟩

theorem prodC {c : T_api_Config} (h : RightC c) : 5 ≤ c.CPUs * 5 * (c.Cache + 1) ∧ c.CPUs * 5 * (c.Cache + 1) ≤ 360 := by
  obtain ⟨h1, h2⟩ := h.cpus
  obtain ⟨h3, h4⟩ := h.cache
  have e : c.CPUs = 1 ∨ c.CPUs = 2 ∨ c.CPUs = 3 ∨ c.CPUs = 4 ∨ c.CPUs = 5 ∨ c.CPUs = 6 ∨ c.CPUs = 7 ∨ c.CPUs = 8 := by omega
  rcases e with e | e | e | e | e | e | e | e <;> rw [e] <;> omega

theorem chunks_eq {p : Int} (h : 0 ≤ p ∧ p ≤ 1000000) : m_layout_chunks p = some ((p + 3) / 4) := by
  unfold m_layout_chunks
  rw [wrap_id (x := p + 4) (by omega) (by omega), wrap_id (x := p + 4 - 1) (by omega) (by omega), Int.tdiv_eq_ediv_of_nonneg (by omega), wrap_id (by omega) (by omega)]
  congr 2; omega

theorem Of_eq (c : T_api_Config) : m_layout_Of c = some (if RightC c then (layC c, 0) else (⟨0,0,0,0,0,0,0,0,0,0,0,0,0,0,0,0,0,0,0,0,0,0,0⟩, 2)) := by
  unfold m_layout_Of
  rw [Check_eq]
  by_cases h : RightC c
  · simp only [if_pos h, Option.bind_some]
    rw [chunks_eq (by have := h.pages; omega)]
    have hp := prodC h
    have h1 := h.pages
    have h2 := h.stripes
    have h3 := h.cpus
    have h4 := h.cache
    have h5 := h.bin
    simp only [Option.bind_some, bne_self_eq_false, cond_false]
    have w5 : IntKind.i64.wrap (c.CPUs * 5) = c.CPUs * 5 := wrap_id (by omega) (by omega)
    have w6 : IntKind.i64.wrap (c.Cache + 1) = c.Cache + 1 := wrap_id (by omega) (by omega)
    have w7 : IntKind.i64.wrap (c.CPUs * 5 * (c.Cache + 1)) = c.CPUs * 5 * (c.Cache + 1) := wrap_id (by omega) (by omega)
    rw [w5, w6, w7]
    unfold layC
    generalize c.CPUs * 5 * (c.Cache + 1) = q at *
    simp (disch := omega) only [wrap_id, Int.tdiv_eq_ediv_of_nonneg]
    congr 2
    simp only [T_layout_Layout.mk.injEq, true_and]
    refine ⟨?_, ?_, ?_, ?_, ?_, ?_, ?_, ?_, ?_⟩ <;> omega
  · simp only [if_neg h, Option.bind_some]
    rfl

/-- What is known of a layout. -/
structure LayOK (L : T_layout_Layout) : Prop where
  cpus : 1 ≤ L.c_CPUs ∧ L.c_CPUs ≤ 8
  pages : 1 ≤ L.c_Pages ∧ L.c_Pages ≤ 256
  stripes : 1 ≤ L.c_Stripes ∧ L.c_Stripes ≤ 64
  private_ : 1 ≤ L.c_Private ∧ L.c_Private ≤ 8
  cache : 0 ≤ L.c_Cache ∧ L.c_Cache ≤ 8
  bin : 0 ≤ L.c_Bin ∧ L.c_Bin ≤ 16
  batch : 1 ≤ L.c_Batch ∧ L.c_Batch ≤ 8
  a0 : L.at_0 = 3 + L.c_Stripes
  a1 : L.at_1 = L.at_0 + (L.c_Pages + 3) / 4
  a2 : L.at_2 = L.at_1 + L.c_Pages
  a3 : L.at_3 = L.at_1 + 2 * L.c_Pages
  a4 : L.at_4 = L.at_1 + 3 * L.c_Pages
  a5 : L.at_5 = L.at_1 + 4 * L.c_Pages
  a6 : L.at_6 = L.at_1 + 5 * L.c_Pages
  a7 : L.at_7 = L.at_6 + 62
  a8 : L.at_8 = L.at_7 + L.c_CPUs * 5 * (L.c_Cache + 1)
  a8b : L.at_7 + 5 ≤ L.at_8 ∧ L.at_8 ≤ L.at_7 + 360
  a9 : L.at_9 = L.at_8 + 5 * (L.c_Bin + 1)
  a10 : L.at_10 = (L.at_9 + L.c_Pages * 32 + 127) / 128 * 128
  a11 : L.at_11 = L.at_10 + L.c_Pages * 32

theorem layC_ok {c : T_api_Config} (h : RightC c) : LayOK (layC c) := by
  have hp := prodC h
  refine ⟨h.cpus, h.pages, h.stripes, h.private_, h.cache, h.bin, h.batch, rfl, rfl, ?_, ?_, ?_, ?_, ?_, ?_, ?_, ?_, ?_, ?_, ?_⟩ <;> simp only [layC] <;> (try omega)

theorem Config_eq (L : T_layout_Layout) : m_layout_Layout_Config L = some (cOf L) := rfl
theorem Words_eq (L : T_layout_Layout) : m_layout_Layout_Words L = some L.at_11 := rfl
theorem User_eq (L : T_layout_Layout) : m_layout_Layout_User L = some L.at_10 := rfl
theorem Chunks_eq {L : T_layout_Layout} (h : LayOK L) : m_layout_Layout_Chunks L = some ((L.c_Pages + 3) / 4) := by
  unfold m_layout_Layout_Chunks
  rw [chunks_eq (by have := h.pages; omega)]; rfl

def lTab (L : T_layout_Layout) (k : Int) : Int := if 0 ≤ k ∧ k < (L.c_Pages + 3) / 4 then L.at_0 + k else 0
def lPg (L : T_layout_Layout) (at_ p : Int) : Int := if 0 ≤ p ∧ p < L.c_Pages then at_ + p else 0

theorem Table_eq {L : T_layout_Layout} (h : LayOK L) (k : Int) : m_layout_Layout_Table L k = some (lTab L k) := by
  unfold m_layout_Layout_Table
  rw [Chunks_eq h]
  have := h.pages; have := h.a0; have := h.stripes
  simp only [Option.bind_some, lTab]
  by_cases a : k < 0
  · rw [decide_eq_true a, if_neg (by omega)]; rfl
  · rw [decide_eq_false a]
    by_cases b : k < (L.c_Pages + 3) / 4
    · rw [decide_eq_false (show ¬ k ≥ (L.c_Pages + 3) / 4 by omega), if_pos (by omega), wrap_id (by omega) (by omega)]; rfl
    · rw [decide_eq_true (show k ≥ (L.c_Pages + 3) / 4 by omega), if_neg (by omega)]; rfl
theorem pg_eq {p n a : Int} (hn : 0 ≤ n ∧ n ≤ 1000) (ha : 0 ≤ a ∧ a ≤ 1000000) : (bif decide (p < 0) then some (0 : Int) else bif decide (p ≥ n) then some 0 else some (IntKind.i64.wrap (a + p))) = some (if 0 ≤ p ∧ p < n then a + p else 0) := by
  by_cases x : p < 0
  · rw [decide_eq_true x, if_neg (by omega)]; rfl
  · rw [decide_eq_false x]
    by_cases b : p < n
    · rw [decide_eq_false (show ¬ p ≥ n by omega), if_pos (by omega), wrap_id (by omega) (by omega)]; rfl
    · rw [decide_eq_true (show p ≥ n by omega), if_neg (by omega)]; rfl
theorem Kind_eq {L : T_layout_Layout} (h : LayOK L) (p : Int) : m_layout_Layout_Kind L p = some (lPg L L.at_1 p) := pg_eq (by have := h.pages; omega) (by have := h.pages; have := h.a0; have := h.stripes; have := h.a1; omega)
theorem Count_eq {L : T_layout_Layout} (h : LayOK L) (p : Int) : m_layout_Layout_Count L p = some (lPg L L.at_2 p) := pg_eq (by have := h.pages; omega) (by have := h.pages; have := h.a0; have := h.stripes; have := h.a1; have := h.a2; omega)
theorem Bits_eq {L : T_layout_Layout} (h : LayOK L) (p : Int) : m_layout_Layout_Bits L p = some (lPg L L.at_3 p) := pg_eq (by have := h.pages; omega) (by have := h.pages; have := h.a0; have := h.stripes; have := h.a1; have := h.a3; omega)
theorem Next_eq {L : T_layout_Layout} (h : LayOK L) (p : Int) : m_layout_Layout_Next L p = some (lPg L L.at_4 p) := pg_eq (by have := h.pages; omega) (by have := h.pages; have := h.a0; have := h.stripes; have := h.a1; have := h.a4; omega)
theorem Prev_eq {L : T_layout_Layout} (h : LayOK L) (p : Int) : m_layout_Layout_Prev L p = some (lPg L L.at_5 p) := pg_eq (by have := h.pages; omega) (by have := h.pages; have := h.a0; have := h.stripes; have := h.a1; have := h.a5; omega)

theorem none_eq {L : T_layout_Layout} (h : LayOK L) (c : Int) : m_layout_Layout_none L c = some (decide (¬ (0 ≤ c ∧ c < 5))) := by
  unfold m_layout_Layout_none
  have := h.pages
  have e : (L.c_Pages == 0) = false := by simp; omega
  rw [e]
  by_cases a : c < 0
  · rw [decide_eq_true a, decide_eq_true (show ¬ (0 ≤ c ∧ c < 5) by omega)]; rfl
  · rw [decide_eq_false a]
    by_cases b : c < 5
    · rw [decide_eq_false (show ¬ ¬ (0 ≤ c ∧ c < 5) by omega)]; simp; omega
    · rw [decide_eq_true (show ¬ (0 ≤ c ∧ c < 5) by omega)]; simp; omega
/-- How many blocks of a class a page has. -/
def slotsI (c : Int) : Int := if c = 0 then 32 else if c = 1 then 16 else if c = 2 then 8 else if c = 3 then 4 else if c = 4 then 2 else 0
theorem slots_shr {c : Int} (hc : 0 ≤ c ∧ c < 5) : (32 : Int) / 2 ^ min c.toNat IntKind.i64.bits = slotsI c := by
  have e : c = 0 ∨ c = 1 ∨ c = 2 ∨ c = 3 ∨ c = 4 := by omega
  rcases e with rfl | rfl | rfl | rfl | rfl <;> decide
theorem slots_le (c : Int) : 0 ≤ slotsI c ∧ slotsI c ≤ 32 := by
  unfold slotsI; repeat' split
  all_goals omega
def lHead (L : T_layout_Layout) (c f : Int) : Int := if (0 ≤ c ∧ c < 5) ∧ 1 ≤ f ∧ f ≤ slotsI c then L.at_6 + 64 - 2 * slotsI c + f - 1 else 0
theorem Head_eq {L : T_layout_Layout} (h : LayOK L) (c f : Int) : m_layout_Layout_Head L c f = some (lHead L c f) := by
  unfold m_layout_Layout_Head
  rw [none_eq h]
  have := h.pages; have := h.a0; have := h.stripes; have := h.a1; have := h.a6
  simp only [Option.bind_some, lHead]
  by_cases a : 0 ≤ c ∧ c < 5
  · have s1 := slots_le c
    rw [decide_eq_false (by omega), decide_eq_true (show 0 ≤ c by omega), slots_shr a]
    generalize slotsI c = s at *
    by_cases b : f < 1
    · rw [decide_eq_true b, if_neg (by omega)]; rfl
    · rw [decide_eq_false b]
      by_cases d : f > s
      · rw [decide_eq_true d, if_neg (by omega)]; rfl
      · rw [decide_eq_false d, if_pos (by omega)]
        simp (disch := omega) only [wrap_id, cond_true, cond_false]
        congr 1; omega
  · rw [decide_eq_true a, if_neg (by omega)]; rfl
def lCache (L : T_layout_Layout) (cpu c : Int) : Int := if (0 ≤ c ∧ c < 5) ∧ 0 ≤ cpu ∧ cpu < L.c_CPUs then L.at_7 + (5 * cpu + c) * (L.c_Cache + 1) else 0
theorem mul_b {x y a b : Int} (hx : 0 ≤ x ∧ x ≤ a) (hy : 0 ≤ y ∧ y ≤ b) : 0 ≤ x * y ∧ x * y ≤ a * b :=
  ⟨Int.mul_nonneg hx.1 hy.1, Int.mul_le_mul hx.2 hy.2 hy.1 (by omega)⟩
theorem Cache_eq {L : T_layout_Layout} (h : LayOK L) (cpu c : Int) : m_layout_Layout_Cache L cpu c = some (lCache L cpu c) := by
  unfold m_layout_Layout_Cache
  rw [none_eq h]
  have := h.pages; have := h.a0; have := h.stripes; have := h.a1; have := h.a6; have := h.a7; have h3 := h.cpus; have h4 := h.cache
  simp only [Option.bind_some, lCache]
  by_cases a : 0 ≤ c ∧ c < 5
  · rw [decide_eq_false (by omega)]
    by_cases b : cpu < 0
    · rw [decide_eq_true b, if_neg (by omega)]; rfl
    · rw [decide_eq_false b]
      by_cases d : cpu ≥ L.c_CPUs
      · rw [decide_eq_true d, if_neg (by omega)]; rfl
      · have hm := mul_b (x := 5 * cpu + c) (y := L.c_Cache + 1) (a := 100) (b := 9) (by omega) (by omega)
        rw [decide_eq_false d, if_pos (by omega), wrap_id (x := 5 * cpu) (by omega) (by omega), wrap_id (x := 5 * cpu + c) (by omega) (by omega), wrap_id (x := L.c_Cache + 1) (by omega) (by omega), wrap_id (x := (5 * cpu + c) * (L.c_Cache + 1)) (by omega) (by omega), wrap_id (by omega) (by omega)]
        rfl
  · rw [decide_eq_true a, if_neg (by omega)]; rfl
def lBin (L : T_layout_Layout) (c : Int) : Int := if 0 ≤ c ∧ c < 5 then L.at_8 + c * (L.c_Bin + 1) else 0
theorem Bin_eq {L : T_layout_Layout} (h : LayOK L) (c : Int) : m_layout_Layout_Bin L c = some (lBin L c) := by
  unfold m_layout_Layout_Bin
  rw [none_eq h]
  have := h.pages; have := h.a0; have := h.stripes; have := h.a1; have := h.a6; have := h.a7; have h3 := h.a8b; have h4 := h.bin
  simp only [Option.bind_some, lBin]
  by_cases a : 0 ≤ c ∧ c < 5
  · have hm := mul_b (x := c) (y := L.c_Bin + 1) (a := 5) (b := 17) (by omega) (by omega)
    rw [decide_eq_false (by omega), if_pos a, wrap_id (x := L.c_Bin + 1) (by omega) (by omega), wrap_id (x := c * (L.c_Bin + 1)) (by omega) (by omega), wrap_id (by omega) (by omega)]; rfl
  · rw [decide_eq_true a, if_neg (by omega)]; rfl
theorem LayOK.big {L : T_layout_Layout} (h : LayOK L) : 128 ≤ L.at_10 ∧ L.at_10 ≤ 20000 ∧ L.at_9 + L.c_Pages * 32 ≤ L.at_10 ∧ 0 ≤ L.at_9 := by
  have := h.pages; have := h.a0; have := h.stripes; have := h.a1; have := h.a6; have := h.a7; have h3 := h.a8b; have h4 := h.bin; have := h.a9; have := h.a10
  omega
theorem mine_eq {L : T_layout_Layout} (a : Int) : m_layout_Layout_mine L a = some (decide (L.at_10 ≤ a ∧ a < L.at_11)) := by
  unfold m_layout_Layout_mine
  by_cases x : L.at_10 ≤ a <;> by_cases y : a < L.at_11 <;> simp [x, y]
def lLive (L : T_layout_Layout) (a : Int) : Int := if L.at_10 ≤ a ∧ a < L.at_11 then L.at_9 + a - L.at_10 else 0
theorem Live_eq {L : T_layout_Layout} (h : LayOK L) (a : Int) : m_layout_Layout_Live L a = some (lLive L a) := by
  unfold m_layout_Layout_Live
  rw [mine_eq]
  have := h.big; have := h.a11; have := h.pages
  simp only [Option.bind_some, lLive]
  by_cases x : L.at_10 ≤ a ∧ a < L.at_11
  · rw [decide_eq_true x, if_pos x, wrap_id (x := L.at_9 + a) (by omega) (by omega), wrap_id (by omega) (by omega)]; rfl
  · rw [decide_eq_false x, if_neg x]; rfl
def lAddr (L : T_layout_Layout) (p : Int) : Int := if 0 ≤ p ∧ p < L.c_Pages then L.at_10 + p * 32 else 0
theorem Addr_eq {L : T_layout_Layout} (h : LayOK L) (p : Int) : m_layout_Layout_Addr L p = some (lAddr L p) := by
  unfold m_layout_Layout_Addr
  have := h.big; have := h.a11; have := h.pages
  simp only [lAddr]
  by_cases x : p < 0
  · rw [decide_eq_true x, if_neg (by omega)]; rfl
  · rw [decide_eq_false x]
    by_cases b : p < L.c_Pages
    · rw [decide_eq_false (show ¬ p ≥ L.c_Pages by omega), if_pos (by omega), wrap_id (x := p * 32) (by omega) (by omega), wrap_id (by omega) (by omega)]; rfl
    · rw [decide_eq_true (show p ≥ L.c_Pages by omega), if_neg (by omega)]; rfl
def lPlace (L : T_layout_Layout) (a : Int) : Int × Int × Bool := if L.at_10 ≤ a ∧ a < L.at_11 then ((a - L.at_10) / 32, (a - L.at_10) % 32, true) else (0, 0, false)
theorem Place_eq {L : T_layout_Layout} (h : LayOK L) (a : Int) : m_layout_Layout_Place L a = some (lPlace L a) := by
  unfold m_layout_Layout_Place
  rw [mine_eq]
  have := h.big; have := h.a11; have := h.pages
  simp only [Option.bind_some, lPlace]
  by_cases x : L.at_10 ≤ a ∧ a < L.at_11
  · rw [decide_eq_true x, if_pos x, wrap_id (x := a - L.at_10) (by omega) (by omega), Int.tdiv_eq_ediv_of_nonneg (by omega), Int.tmod_eq_emod_of_nonneg (by omega), wrap_id (by omega) (by omega)]; rfl
  · rw [decide_eq_false x, if_neg x]; rfl
def lLock (L : T_layout_Layout) (a : Int) : Int := if 0 ≤ a ∧ a < L.at_11 then 3 + a % L.c_Stripes else 0
theorem Lock_eq {L : T_layout_Layout} (h : LayOK L) (a : Int) : m_layout_Layout_Lock L a = some (lLock L a) := by
  unfold m_layout_Layout_Lock
  have h2 := h.stripes
  simp only [Words_eq, Option.bind_some, lLock]
  have e : (!L.c_Stripes == 0) = true := by simp; omega
  rw [e]
  by_cases x : a < 0
  · rw [decide_eq_true x, if_neg (by omega)]; rfl
  · rw [decide_eq_false x]
    by_cases b : a < L.at_11
    · have h3 : 0 ≤ a % L.c_Stripes := Int.emod_nonneg _ (by omega)
      have h4 : a % L.c_Stripes < L.c_Stripes := Int.emod_lt_of_pos _ (by omega)
      rw [decide_eq_false (show ¬ a ≥ L.at_11 by omega), if_pos (by omega), Int.tmod_eq_emod_of_nonneg (by omega), wrap_id (by omega) (by omega)]; rfl
    · rw [decide_eq_true (show a ≥ L.at_11 by omega), if_neg (by omega)]; rfl
end Go.Rx
end

section
/- Contracts. -/
namespace Go.Rx
open Go.Proofs
set_option maxRecDepth 100000
/-! assart/assartlaw02.within -/
def tr_law02_within (m_ : Int → Int → Int → Option (Int)) (args : List V) (H : Heap) (K : V → Heap → Prop) : Prop :=
  aC args fun a0 r => aC r fun a1 r => aC r fun a2 r => aN r <| aInt a0 fun n => aInt a1 fun low => aInt a2 fun high => aN H <| So (m_ n low high) fun x => K (vi (x)) []
def sp_law02_within (m_ : Int → Int → Int → Option (Int)) : Spec := ⟨tr_law02_within m_, true⟩

/-! assart/assartlaw02.Some -/
def tr_law02_Some (m_ : T_api_Config → Option (T_api_Config)) (args : List V) (H : Heap) (K : V → Heap → Prop) : Prop :=
  aC args fun a0 r => aN r <| aAgg a0 fun c0 => d_api_Config c0 fun c => aN H <| So (m_ c) fun x => K (.agg (e_api_Config (x))) []
def sp_law02_Some (m_ : T_api_Config → Option (T_api_Config)) : Spec := ⟨tr_law02_Some m_, true⟩

/-! assart/assartlaw02.lives -/
def tr_law02_lives (m_ : Option (Bool)) (args : List V) (H : Heap) (K : V → Heap → Prop) : Prop :=
  aN args <| aN H <| So (m_ ) fun x => K (vb (x)) []
def sp_law02_lives (m_ : Option (Bool)) : Spec := ⟨tr_law02_lives m_, true⟩

/-! assart/assartlaw02.named -/
def tr_law02_named (m_ : T_layout_Layout → Option ((List Int))) (args : List V) (H : Heap) (K : V → Heap → Prop) : Prop :=
  aC args fun a0 r => aN r <| aAgg a0 fun c0 => d_layout_Layout c0 fun l2 => aN H <| So (m_ l2) fun x => K (.row 0) [.row 0 (x) false]
def sp_law02_named (m_ : T_layout_Layout → Option ((List Int))) : Spec := ⟨tr_law02_named m_, true⟩

/-! assart/assartlaw02.LayoutApart -/
def tr_law02_LayoutApart (m_ : T_api_Config → Option (Bool)) (args : List V) (H : Heap) (K : V → Heap → Prop) : Prop :=
  aC args fun a0 r => aN r <| aAgg a0 fun c0 => d_api_Config c0 fun c => aN H <| So (m_ c) fun x => K (vb (x)) []
def sp_law02_LayoutApart (m_ : T_api_Config → Option (Bool)) : Spec := ⟨tr_law02_LayoutApart m_, true⟩

noncomputable def cfg_law02_within  : Cfg := { cfgB with
  sigs := sigN }

noncomputable def cfg_law02_Some (m_law02_within : Int → Int → Int → Option (Int)) : Cfg := { cfgB with
  sigs := (sigC 69 (sp_law02_within m_law02_within) sigN),
  plan := fun r => match r with | 1 => some ([0, 1, 3, 4, 6, 7, 9, 10, 12, 13, 15, 16, 18, 19, 21, 22, 24, 25, 27, 28, 30, 31, 2, 5, 8, 11, 14, 17, 20, 23, 26, 29, 32, 33, 34], 3) | _ => none,
  flag := fun d => Nat.beq d 2 }

noncomputable def cfg_law02_lives (m_layout_Of : T_api_Config → Option (T_layout_Layout × Int)) (m_layout_Layout_Place : T_layout_Layout → Int → Option (Int × Int × Bool)) (m_layout_Layout_Table : T_layout_Layout → Int → Option (Int)) (m_layout_Layout_Kind : T_layout_Layout → Int → Option (Int)) (m_layout_Layout_Head : T_layout_Layout → Int → Int → Option (Int)) (m_layout_Layout_Cache : T_layout_Layout → Int → Int → Option (Int)) (m_layout_Layout_Bin : T_layout_Layout → Int → Option (Int)) (m_layout_Layout_User : T_layout_Layout → Option (Int)) (m_layout_Layout_Words : T_layout_Layout → Option (Int)) : Cfg := { cfgB with
  sigs := (sigC 12 (sp_layout_Of m_layout_Of) (sigC 37 (sp_layout_Layout_Place m_layout_Layout_Place) (sigC 20 (sp_layout_Layout_Table m_layout_Layout_Table) (sigC 24 (sp_layout_Layout_Kind m_layout_Layout_Kind) (sigC 22 (sp_layout_Layout_Head m_layout_Layout_Head) (sigC 44 (sp_layout_Layout_Cache m_layout_Layout_Cache) (sigC 45 (sp_layout_Layout_Bin m_layout_Layout_Bin) (sigC 38 (sp_layout_Layout_User m_layout_Layout_User) (sigC 15 (sp_layout_Layout_Words m_layout_Layout_Words) sigN))))))))) }

noncomputable def cfg_law02_named (m_layout_Layout_Config : T_layout_Layout → Option (T_api_Config)) (m_layout_Layout_Chunks : T_layout_Layout → Option (Int)) (m_layout_Layout_Table : T_layout_Layout → Int → Option (Int)) (m_layout_Layout_Kind : T_layout_Layout → Int → Option (Int)) (m_layout_Layout_Count : T_layout_Layout → Int → Option (Int)) (m_layout_Layout_Bits : T_layout_Layout → Int → Option (Int)) (m_layout_Layout_Next : T_layout_Layout → Int → Option (Int)) (m_layout_Layout_Prev : T_layout_Layout → Int → Option (Int)) (m_layout_Layout_Head : T_layout_Layout → Int → Int → Option (Int)) (m_layout_Layout_Bin : T_layout_Layout → Int → Option (Int)) (m_layout_Layout_Cache : T_layout_Layout → Int → Int → Option (Int)) (m_layout_Layout_User : T_layout_Layout → Option (Int)) (m_layout_Layout_Words : T_layout_Layout → Option (Int)) (m_layout_Layout_Live : T_layout_Layout → Int → Option (Int)) : Cfg := { cfgB with
  sigs := (sigC 14 (sp_layout_Layout_Config m_layout_Layout_Config) (sigC 18 (sp_layout_Layout_Chunks m_layout_Layout_Chunks) (sigC 20 (sp_layout_Layout_Table m_layout_Layout_Table) (sigC 24 (sp_layout_Layout_Kind m_layout_Layout_Kind) (sigC 26 (sp_layout_Layout_Count m_layout_Layout_Count) (sigC 28 (sp_layout_Layout_Bits m_layout_Layout_Bits) (sigC 30 (sp_layout_Layout_Next m_layout_Layout_Next) (sigC 32 (sp_layout_Layout_Prev m_layout_Layout_Prev) (sigC 22 (sp_layout_Layout_Head m_layout_Layout_Head) (sigC 45 (sp_layout_Layout_Bin m_layout_Layout_Bin) (sigC 44 (sp_layout_Layout_Cache m_layout_Layout_Cache) (sigC 38 (sp_layout_Layout_User m_layout_Layout_User) (sigC 15 (sp_layout_Layout_Words m_layout_Layout_Words) (sigC 39 (sp_layout_Layout_Live m_layout_Layout_Live) sigN)))))))))))))),
  keep := fun r => match r with | 4 => some [(1, none), (3, none), (4, some 0), (5, none)] | 8 => some [(1, none), (3, none), (4, some 0), (6, none)] | 12 => some [(1, none), (3, none), (4, some 0), (7, none)] | 17 => some [(1, none), (3, none), (4, some 0), (8, none), (9, none)] | 20 => some [(1, none), (3, none), (4, some 0), (8, none), (9, none), (10, none)] | 24 => some [(1, none), (3, none), (4, some 0), (8, none), (9, none), (11, none)] | 28 => some [(1, none), (3, none), (4, some 0), (8, none), (9, none), (12, none)] | 31 => some [(1, none), (3, none), (4, some 0), (8, none), (9, none), (12, none), (13, none)] | 36 => some [(1, none), (4, some 0), (14, none)] | _ => none,
  plan := fun r => match r with | 14 => some ([0, 1, 2, 4, 5, 7, 8, 10, 11, 13, 14, 3, 6, 9, 12, 15, 16, 17, 18], 1) | _ => none }

noncomputable def cfg_law02_LayoutApart (m_law02_Some : T_api_Config → Option (T_api_Config)) (m_layout_Of : T_api_Config → Option (T_layout_Layout × Int)) (m_layout_Layout_Words : T_layout_Layout → Option (Int)) (m_law02_named : T_layout_Layout → Option ((List Int))) (m_law02_lives : Option (Bool)) : Cfg := { cfgB with
  sigs := (sigC 17 (sp_law02_Some m_law02_Some) (sigC 12 (sp_layout_Of m_layout_Of) (sigC 15 (sp_layout_Layout_Words m_layout_Layout_Words) (sigC 36 (sp_law02_named m_law02_named) (sigC 16 (sp_law02_lives m_law02_lives) sigN))))),
  keep := fun r => match r with | 10 => some [(5, none), (6, some 1), (7, some 0), (8, none)] | _ => none }

theorem nf_law02_within (n : Int) (low : Int) (high : Int) (K : V → Heap → Prop) : (exF cfg_law02_within Try.f69 [vi n, vi low, vi high] [] K) = (
    Req (!IntKind.wrap IntKind.u64 (IntKind.wrap IntKind.i64 (IntKind.wrap IntKind.i64 (high - low) + 1)) == 0) (K (vi (IntKind.wrap IntKind.i64 (low + IntKind.wrap IntKind.i64 (Int.tmod (IntKind.wrap IntKind.u64 n) (IntKind.wrap IntKind.u64 (IntKind.wrap IntKind.i64 (IntKind.wrap IntKind.i64 (high - low) + 1))))))) [])) := by
  kernel_rfl

theorem nf_law02_Some (m_law02_within : Int → Int → Int → Option (Int)) (c : T_api_Config) (K : V → Heap → Prop) : (exF (cfg_law02_Some m_law02_within) Try.f17 [.agg (e_api_Config c)] [] K) = (
    So (m_law02_within (T_api_Config.Workers c) 1 64) (fun (y0 : Int) => (So (m_law02_within (T_api_Config.CPUs c) 1 8) (fun (y1 : Int) => (So (m_law02_within (T_api_Config.Pages c) 1 256) (fun (y2 : Int) => (So (m_law02_within (T_api_Config.Stripes c) 1 64) (fun (y3 : Int) => (So (m_law02_within (T_api_Config.Tries c) 0 16) (fun (y4 : Int) => (So (m_law02_within (T_api_Config.Wait c) 0 64) (fun (y5 : Int) => (So (m_law02_within (T_api_Config.Clock c) 1 1099511627776) (fun (y6 : Int) => (So (m_law02_within (T_api_Config.Private c) 1 8) (fun (y7 : Int) => (So (m_law02_within (T_api_Config.Cache c) 0 8) (fun (y8 : Int) => (So (m_law02_within (T_api_Config.Bin c) 0 16) (fun (y9 : Int) => (So (m_law02_within (T_api_Config.Batch c) 1 8) (fun (y10 : Int) => (K (.agg [vi (y0), vi (y1), vi (y2), vi (y3), vi (y4), vi (y5), vi (y6), vi (y7), vi (y8), vi (y9), vi (y10)]) []))))))))))))))))))))))) := by
  kernel_rfl

theorem nf_law02_lives (m_layout_Of : T_api_Config → Option (T_layout_Layout × Int)) (m_layout_Layout_Place : T_layout_Layout → Int → Option (Int × Int × Bool)) (m_layout_Layout_Table : T_layout_Layout → Int → Option (Int)) (m_layout_Layout_Kind : T_layout_Layout → Int → Option (Int)) (m_layout_Layout_Head : T_layout_Layout → Int → Int → Option (Int)) (m_layout_Layout_Cache : T_layout_Layout → Int → Int → Option (Int)) (m_layout_Layout_Bin : T_layout_Layout → Int → Option (Int)) (m_layout_Layout_User : T_layout_Layout → Option (Int)) (m_layout_Layout_Words : T_layout_Layout → Option (Int)) (K : V → Heap → Prop) : (exF (cfg_law02_lives m_layout_Of m_layout_Layout_Place m_layout_Layout_Table m_layout_Layout_Kind m_layout_Layout_Head m_layout_Layout_Cache m_layout_Layout_Bin m_layout_Layout_User m_layout_Layout_Words) Try.f16 [] [] K) = (
    So (m_layout_Of (T_api_Config.mk 1 1 1 1 0 0 9 1 0 0 1)) (fun (y0 : T_layout_Layout × Int) => (So (m_layout_Layout_Place (Prod.fst y0) 130) (fun (y1 : Int × Int × Bool) => (br (Prod.snd y0 == 0) (So (m_layout_Layout_Table (Prod.fst y0) 0) (fun (y2 : Int) => (br (y2 == 4) (So (m_layout_Layout_Kind (Prod.fst y0) 0) (fun (y3 : Int) => (br (y3 == 5) (So (m_layout_Layout_Head (Prod.fst y0) 0 1) (fun (y4 : Int) => (br (y4 == 10) (So (m_layout_Layout_Cache (Prod.fst y0) 0 0) (fun (y5 : Int) => (br (y5 == 72) (So (m_layout_Layout_Bin (Prod.fst y0) 0) (fun (y6 : Int) => (br (y6 == 77) (So (m_layout_Layout_User (Prod.fst y0)) (fun (y7 : Int) => (br (y7 == 128) (So (m_layout_Layout_Words (Prod.fst y0)) (fun (y8 : Int) => (br (y8 == 160) (br (Prod.fst y1 == 0) (br (Prod.fst (Prod.snd y1) == 2) (K (vb (Prod.snd (Prod.snd y1))) []) (K (vb (Bool.false)) [])) (K (vb (Bool.false)) [])) (K (vb (Bool.false)) [])))) (K (vb (Bool.false)) [])))) (K (vb (Bool.false)) [])))) (K (vb (Bool.false)) [])))) (K (vb (Bool.false)) [])))) (K (vb (Bool.false)) [])))) (K (vb (Bool.false)) [])))) (K (vb (Bool.false)) [])))))) := by
  kernel_rfl

theorem nf_law02_named_9 (m_layout_Layout_Config : T_layout_Layout → Option (T_api_Config)) (m_layout_Layout_Chunks : T_layout_Layout → Option (Int)) (m_layout_Layout_Table : T_layout_Layout → Int → Option (Int)) (m_layout_Layout_Kind : T_layout_Layout → Int → Option (Int)) (m_layout_Layout_Count : T_layout_Layout → Int → Option (Int)) (m_layout_Layout_Bits : T_layout_Layout → Int → Option (Int)) (m_layout_Layout_Next : T_layout_Layout → Int → Option (Int)) (m_layout_Layout_Prev : T_layout_Layout → Int → Option (Int)) (m_layout_Layout_Head : T_layout_Layout → Int → Int → Option (Int)) (m_layout_Layout_Bin : T_layout_Layout → Int → Option (Int)) (m_layout_Layout_Cache : T_layout_Layout → Int → Int → Option (Int)) (m_layout_Layout_User : T_layout_Layout → Option (Int)) (m_layout_Layout_Words : T_layout_Layout → Option (Int)) (m_layout_Layout_Live : T_layout_Layout → Int → Option (Int)) (l2 : T_layout_Layout) (slots : Int) (q : Int) (c : Int) (c2 : Int) (c3 : Int) (c4 : Int) (c5 : Int) (c6 : Int) (c7 : Int) (c8 : Int) (c9 : Int) (c10 : Int) (c11 : Int) (w : List Int) (cpu : Int) (w2 : List Int) (i_ : Int) (w3 : List Int) (K : V → Heap → Prop) (J1 : Env → Heap → Prop) (J2 : Env → Heap → Prop) (J3 : Env → Heap → Prop) : (ex (cfg_law02_named m_layout_Layout_Config m_layout_Layout_Chunks m_layout_Layout_Table m_layout_Layout_Kind m_layout_Layout_Count m_layout_Layout_Bits m_layout_Layout_Next m_layout_Layout_Prev m_layout_Layout_Head m_layout_Layout_Bin m_layout_Layout_Cache m_layout_Layout_User m_layout_Layout_Words m_layout_Layout_Live) (⟨133, 0⟩ : Cx) (at_ (bodyOf Try.f36) [1, 1, 1, 1, 1, 1, 1, 0, 1, 0, 0, 1, 0, 0, 1, 1, 0, 1, 0, 0, 1, 0, 0, 1, 0, 0]) (mkEnv [(1, .ptr 0 0), (3, .ptr 1 0), (4, .row 2), (8, vi (slots)), (9, vi (q)), (12, vi (cpu)), (13, vi (i_))]) [.cells 28 (e_layout_Layout l2), .cells 23 [vi (c), vi (c2), vi (c3), vi (c4), vi (c5), vi (c6), vi (c7), vi (c8), vi (c9), vi (c10), vi (c11)], .row 0 (w3 : List (Int)) Bool.false] (roundK (cfg_law02_named m_layout_Layout_Config m_layout_Layout_Chunks m_layout_Layout_Table m_layout_Layout_Kind m_layout_Layout_Count m_layout_Layout_Bits m_layout_Layout_Next m_layout_Layout_Prev m_layout_Layout_Head m_layout_Layout_Bin m_layout_Layout_Cache m_layout_Layout_User m_layout_Layout_Words m_layout_Layout_Live) (⟨133, 0⟩ : Cx) (at_ (bodyOf Try.f36) [1, 1, 1, 1, 1, 1, 1, 0, 1, 0, 0, 1, 0, 0, 1, 1, 0, 1, 0, 0, 1, 0, 0, 1, 0, 0]) (contK (cfg_law02_named m_layout_Layout_Config m_layout_Layout_Chunks m_layout_Layout_Table m_layout_Layout_Kind m_layout_Layout_Count m_layout_Layout_Bits m_layout_Layout_Next m_layout_Layout_Prev m_layout_Layout_Head m_layout_Layout_Bin m_layout_Layout_Cache m_layout_Layout_User m_layout_Layout_Words m_layout_Layout_Live) (⟨133, 0⟩ : Cx) (at_ (bodyOf Try.f36) [1, 1, 1, 1, 1, 1, 1, 0, 1, 0, 0, 1, 0, 0, 1, 1, 0, 1, 0, 0]) [1, 0, 0, 1, 0] (roundK (cfg_law02_named m_layout_Layout_Config m_layout_Layout_Chunks m_layout_Layout_Table m_layout_Layout_Kind m_layout_Layout_Count m_layout_Layout_Bits m_layout_Layout_Next m_layout_Layout_Prev m_layout_Layout_Head m_layout_Layout_Bin m_layout_Layout_Cache m_layout_Layout_User m_layout_Layout_Words m_layout_Layout_Live) (⟨133, 0⟩ : Cx) (at_ (bodyOf Try.f36) [1, 1, 1, 1, 1, 1, 1, 0, 1, 0, 0, 1, 0, 0, 1, 1, 0, 1, 0, 0]) (contK (cfg_law02_named m_layout_Layout_Config m_layout_Layout_Chunks m_layout_Layout_Table m_layout_Layout_Kind m_layout_Layout_Count m_layout_Layout_Bits m_layout_Layout_Next m_layout_Layout_Prev m_layout_Layout_Head m_layout_Layout_Bin m_layout_Layout_Cache m_layout_Layout_User m_layout_Layout_Words m_layout_Layout_Live) (⟨133, 0⟩ : Cx) (at_ (bodyOf Try.f36) [1, 1, 1, 1, 1, 1, 1, 0, 1, 0, 0]) [1, 0, 0, 1, 1, 0, 1, 0] (roundK (cfg_law02_named m_layout_Layout_Config m_layout_Layout_Chunks m_layout_Layout_Table m_layout_Layout_Kind m_layout_Layout_Count m_layout_Layout_Bits m_layout_Layout_Next m_layout_Layout_Prev m_layout_Layout_Head m_layout_Layout_Bin m_layout_Layout_Cache m_layout_Layout_User m_layout_Layout_Words m_layout_Layout_Live) (⟨133, 0⟩ : Cx) (at_ (bodyOf Try.f36) [1, 1, 1, 1, 1, 1, 1, 0, 1, 0, 0]) (contK (cfg_law02_named m_layout_Layout_Config m_layout_Layout_Chunks m_layout_Layout_Table m_layout_Layout_Kind m_layout_Layout_Count m_layout_Layout_Bits m_layout_Layout_Next m_layout_Layout_Prev m_layout_Layout_Head m_layout_Layout_Bin m_layout_Layout_Cache m_layout_Layout_User m_layout_Layout_Words m_layout_Layout_Live) (⟨133, 0⟩ : Cx) (bodyOf Try.f36) [1, 1, 1, 1, 1, 1, 1, 0, 1, 0] (retK (cfg_law02_named m_layout_Layout_Config m_layout_Layout_Chunks m_layout_Layout_Table m_layout_Layout_Kind m_layout_Layout_Count m_layout_Layout_Bits m_layout_Layout_Next m_layout_Layout_Prev m_layout_Layout_Head m_layout_Layout_Bin m_layout_Layout_Cache m_layout_Layout_User m_layout_Layout_Words m_layout_Layout_Live) Try.f36 0 K)) J1)) J2)) J3)) = (
    br (Decidable.decide (i_ ≤ c9)) (So (m_layout_Layout_Cache l2 cpu q) (fun (y0 : Int) => (Req (Decidable.decide (List.length w3 + 1 ≤ 1048576)) (J3 (mkEnv [(1, .ptr 0 0), (3, .ptr 1 0), (4, .row 2), (8, vi (slots)), (9, vi (q)), (12, vi (cpu)), (13, vi (IntKind.wrap IntKind.i64 (i_ + 1)))]) [.cells 28 (e_layout_Layout l2), .cells 23 [vi (c), vi (c2), vi (c3), vi (c4), vi (c5), vi (c6), vi (c7), vi (c8), vi (c9), vi (c10), vi (c11)], .row 0 (w3 ++ [IntKind.wrap IntKind.i64 (y0 + i_)] : List (Int)) Bool.false])))) (J2 (mkEnv [(1, .ptr 0 0), (3, .ptr 1 0), (4, .row 2), (8, vi (slots)), (9, vi (q)), (12, vi (IntKind.wrap IntKind.i64 (cpu + 1)))]) [.cells 28 (e_layout_Layout l2), .cells 23 [vi (c), vi (c2), vi (c3), vi (c4), vi (c5), vi (c6), vi (c7), vi (c8), vi (c9), vi (c10), vi (c11)], .row 0 (w3 : List (Int)) Bool.false])) := by
  kernel_rfl

theorem nf_law02_named_8 (m_layout_Layout_Config : T_layout_Layout → Option (T_api_Config)) (m_layout_Layout_Chunks : T_layout_Layout → Option (Int)) (m_layout_Layout_Table : T_layout_Layout → Int → Option (Int)) (m_layout_Layout_Kind : T_layout_Layout → Int → Option (Int)) (m_layout_Layout_Count : T_layout_Layout → Int → Option (Int)) (m_layout_Layout_Bits : T_layout_Layout → Int → Option (Int)) (m_layout_Layout_Next : T_layout_Layout → Int → Option (Int)) (m_layout_Layout_Prev : T_layout_Layout → Int → Option (Int)) (m_layout_Layout_Head : T_layout_Layout → Int → Int → Option (Int)) (m_layout_Layout_Bin : T_layout_Layout → Int → Option (Int)) (m_layout_Layout_Cache : T_layout_Layout → Int → Int → Option (Int)) (m_layout_Layout_User : T_layout_Layout → Option (Int)) (m_layout_Layout_Words : T_layout_Layout → Option (Int)) (m_layout_Layout_Live : T_layout_Layout → Int → Option (Int)) (l2 : T_layout_Layout) (slots : Int) (q : Int) (c : Int) (c2 : Int) (c3 : Int) (c4 : Int) (c5 : Int) (c6 : Int) (c7 : Int) (c8 : Int) (c9 : Int) (c10 : Int) (c11 : Int) (w : List Int) (cpu : Int) (w2 : List Int) (K : V → Heap → Prop) (J1 : Env → Heap → Prop) (J2 : Env → Heap → Prop) : (ex (cfg_law02_named m_layout_Layout_Config m_layout_Layout_Chunks m_layout_Layout_Table m_layout_Layout_Kind m_layout_Layout_Count m_layout_Layout_Bits m_layout_Layout_Next m_layout_Layout_Prev m_layout_Layout_Head m_layout_Layout_Bin m_layout_Layout_Cache m_layout_Layout_User m_layout_Layout_Words m_layout_Layout_Live) (⟨133, 0⟩ : Cx) (at_ (bodyOf Try.f36) [1, 1, 1, 1, 1, 1, 1, 0, 1, 0, 0, 1, 0, 0, 1, 1, 0, 1, 0, 0]) (mkEnv [(1, .ptr 0 0), (3, .ptr 1 0), (4, .row 2), (8, vi (slots)), (9, vi (q)), (12, vi (cpu))]) [.cells 28 (e_layout_Layout l2), .cells 23 [vi (c), vi (c2), vi (c3), vi (c4), vi (c5), vi (c6), vi (c7), vi (c8), vi (c9), vi (c10), vi (c11)], .row 0 (w2 : List (Int)) Bool.false] (roundK (cfg_law02_named m_layout_Layout_Config m_layout_Layout_Chunks m_layout_Layout_Table m_layout_Layout_Kind m_layout_Layout_Count m_layout_Layout_Bits m_layout_Layout_Next m_layout_Layout_Prev m_layout_Layout_Head m_layout_Layout_Bin m_layout_Layout_Cache m_layout_Layout_User m_layout_Layout_Words m_layout_Layout_Live) (⟨133, 0⟩ : Cx) (at_ (bodyOf Try.f36) [1, 1, 1, 1, 1, 1, 1, 0, 1, 0, 0, 1, 0, 0, 1, 1, 0, 1, 0, 0]) (contK (cfg_law02_named m_layout_Layout_Config m_layout_Layout_Chunks m_layout_Layout_Table m_layout_Layout_Kind m_layout_Layout_Count m_layout_Layout_Bits m_layout_Layout_Next m_layout_Layout_Prev m_layout_Layout_Head m_layout_Layout_Bin m_layout_Layout_Cache m_layout_Layout_User m_layout_Layout_Words m_layout_Layout_Live) (⟨133, 0⟩ : Cx) (at_ (bodyOf Try.f36) [1, 1, 1, 1, 1, 1, 1, 0, 1, 0, 0]) [1, 0, 0, 1, 1, 0, 1, 0] (roundK (cfg_law02_named m_layout_Layout_Config m_layout_Layout_Chunks m_layout_Layout_Table m_layout_Layout_Kind m_layout_Layout_Count m_layout_Layout_Bits m_layout_Layout_Next m_layout_Layout_Prev m_layout_Layout_Head m_layout_Layout_Bin m_layout_Layout_Cache m_layout_Layout_User m_layout_Layout_Words m_layout_Layout_Live) (⟨133, 0⟩ : Cx) (at_ (bodyOf Try.f36) [1, 1, 1, 1, 1, 1, 1, 0, 1, 0, 0]) (contK (cfg_law02_named m_layout_Layout_Config m_layout_Layout_Chunks m_layout_Layout_Table m_layout_Layout_Kind m_layout_Layout_Count m_layout_Layout_Bits m_layout_Layout_Next m_layout_Layout_Prev m_layout_Layout_Head m_layout_Layout_Bin m_layout_Layout_Cache m_layout_Layout_User m_layout_Layout_Words m_layout_Layout_Live) (⟨133, 0⟩ : Cx) (bodyOf Try.f36) [1, 1, 1, 1, 1, 1, 1, 0, 1, 0] (retK (cfg_law02_named m_layout_Layout_Config m_layout_Layout_Chunks m_layout_Layout_Table m_layout_Layout_Kind m_layout_Layout_Count m_layout_Layout_Bits m_layout_Layout_Next m_layout_Layout_Prev m_layout_Layout_Head m_layout_Layout_Bin m_layout_Layout_Cache m_layout_Layout_User m_layout_Layout_Words m_layout_Layout_Live) Try.f36 0 K)) J1)) J2)) = (
    br (Decidable.decide (cpu < c2)) (Loop (cfg_law02_named m_layout_Layout_Config m_layout_Layout_Chunks m_layout_Layout_Table m_layout_Layout_Kind m_layout_Layout_Count m_layout_Layout_Bits m_layout_Layout_Next m_layout_Layout_Prev m_layout_Layout_Head m_layout_Layout_Bin m_layout_Layout_Cache m_layout_Layout_User m_layout_Layout_Words m_layout_Layout_Live) (⟨133, 0⟩ : Cx) (at_ (bodyOf Try.f36) [1, 1, 1, 1, 1, 1, 1, 0, 1, 0, 0, 1, 0, 0, 1, 1, 0, 1, 0, 0, 1, 0, 0, 1, 0, 0]) (mkEnv [(1, .ptr 0 0), (3, .ptr 1 0), (4, .row 2), (8, vi (slots)), (9, vi (q)), (12, vi (cpu)), (13, vi (0))]) [.cells 28 (e_layout_Layout l2), .cells 23 [vi (c), vi (c2), vi (c3), vi (c4), vi (c5), vi (c6), vi (c7), vi (c8), vi (c9), vi (c10), vi (c11)], .row 0 (w2 : List (Int)) Bool.false] (contK (cfg_law02_named m_layout_Layout_Config m_layout_Layout_Chunks m_layout_Layout_Table m_layout_Layout_Kind m_layout_Layout_Count m_layout_Layout_Bits m_layout_Layout_Next m_layout_Layout_Prev m_layout_Layout_Head m_layout_Layout_Bin m_layout_Layout_Cache m_layout_Layout_User m_layout_Layout_Words m_layout_Layout_Live) (⟨133, 0⟩ : Cx) (at_ (bodyOf Try.f36) [1, 1, 1, 1, 1, 1, 1, 0, 1, 0, 0, 1, 0, 0, 1, 1, 0, 1, 0, 0]) [1, 0, 0, 1, 0] (roundK (cfg_law02_named m_layout_Layout_Config m_layout_Layout_Chunks m_layout_Layout_Table m_layout_Layout_Kind m_layout_Layout_Count m_layout_Layout_Bits m_layout_Layout_Next m_layout_Layout_Prev m_layout_Layout_Head m_layout_Layout_Bin m_layout_Layout_Cache m_layout_Layout_User m_layout_Layout_Words m_layout_Layout_Live) (⟨133, 0⟩ : Cx) (at_ (bodyOf Try.f36) [1, 1, 1, 1, 1, 1, 1, 0, 1, 0, 0, 1, 0, 0, 1, 1, 0, 1, 0, 0]) (contK (cfg_law02_named m_layout_Layout_Config m_layout_Layout_Chunks m_layout_Layout_Table m_layout_Layout_Kind m_layout_Layout_Count m_layout_Layout_Bits m_layout_Layout_Next m_layout_Layout_Prev m_layout_Layout_Head m_layout_Layout_Bin m_layout_Layout_Cache m_layout_Layout_User m_layout_Layout_Words m_layout_Layout_Live) (⟨133, 0⟩ : Cx) (at_ (bodyOf Try.f36) [1, 1, 1, 1, 1, 1, 1, 0, 1, 0, 0]) [1, 0, 0, 1, 1, 0, 1, 0] (roundK (cfg_law02_named m_layout_Layout_Config m_layout_Layout_Chunks m_layout_Layout_Table m_layout_Layout_Kind m_layout_Layout_Count m_layout_Layout_Bits m_layout_Layout_Next m_layout_Layout_Prev m_layout_Layout_Head m_layout_Layout_Bin m_layout_Layout_Cache m_layout_Layout_User m_layout_Layout_Words m_layout_Layout_Live) (⟨133, 0⟩ : Cx) (at_ (bodyOf Try.f36) [1, 1, 1, 1, 1, 1, 1, 0, 1, 0, 0]) (contK (cfg_law02_named m_layout_Layout_Config m_layout_Layout_Chunks m_layout_Layout_Table m_layout_Layout_Kind m_layout_Layout_Count m_layout_Layout_Bits m_layout_Layout_Next m_layout_Layout_Prev m_layout_Layout_Head m_layout_Layout_Bin m_layout_Layout_Cache m_layout_Layout_User m_layout_Layout_Words m_layout_Layout_Live) (⟨133, 0⟩ : Cx) (bodyOf Try.f36) [1, 1, 1, 1, 1, 1, 1, 0, 1, 0] (retK (cfg_law02_named m_layout_Layout_Config m_layout_Layout_Chunks m_layout_Layout_Table m_layout_Layout_Kind m_layout_Layout_Count m_layout_Layout_Bits m_layout_Layout_Next m_layout_Layout_Prev m_layout_Layout_Head m_layout_Layout_Bin m_layout_Layout_Cache m_layout_Layout_User m_layout_Layout_Words m_layout_Layout_Live) Try.f36 0 K)) J1)) J2))) (J1 (mkEnv [(1, .ptr 0 0), (3, .ptr 1 0), (4, .row 2), (8, vi (IntKind.wrap IntKind.i64 (Int.tdiv slots 2))), (9, vi (IntKind.wrap IntKind.i64 (q + 1)))]) [.cells 28 (e_layout_Layout l2), .cells 23 [vi (c), vi (c2), vi (c3), vi (c4), vi (c5), vi (c6), vi (c7), vi (c8), vi (c9), vi (c10), vi (c11)], .row 0 (w2 : List (Int)) Bool.false])) := by
  kernel_rfl

theorem nf_law02_named_7 (m_layout_Layout_Config : T_layout_Layout → Option (T_api_Config)) (m_layout_Layout_Chunks : T_layout_Layout → Option (Int)) (m_layout_Layout_Table : T_layout_Layout → Int → Option (Int)) (m_layout_Layout_Kind : T_layout_Layout → Int → Option (Int)) (m_layout_Layout_Count : T_layout_Layout → Int → Option (Int)) (m_layout_Layout_Bits : T_layout_Layout → Int → Option (Int)) (m_layout_Layout_Next : T_layout_Layout → Int → Option (Int)) (m_layout_Layout_Prev : T_layout_Layout → Int → Option (Int)) (m_layout_Layout_Head : T_layout_Layout → Int → Int → Option (Int)) (m_layout_Layout_Bin : T_layout_Layout → Int → Option (Int)) (m_layout_Layout_Cache : T_layout_Layout → Int → Int → Option (Int)) (m_layout_Layout_User : T_layout_Layout → Option (Int)) (m_layout_Layout_Words : T_layout_Layout → Option (Int)) (m_layout_Layout_Live : T_layout_Layout → Int → Option (Int)) (l2 : T_layout_Layout) (slots : Int) (q : Int) (c : Int) (c2 : Int) (c3 : Int) (c4 : Int) (c5 : Int) (c6 : Int) (c7 : Int) (c8 : Int) (c9 : Int) (c10 : Int) (c11 : Int) (w : List Int) (i_ : Int) (w2 : List Int) (K : V → Heap → Prop) (J1 : Env → Heap → Prop) (J2 : Env → Heap → Prop) : (ex (cfg_law02_named m_layout_Layout_Config m_layout_Layout_Chunks m_layout_Layout_Table m_layout_Layout_Kind m_layout_Layout_Count m_layout_Layout_Bits m_layout_Layout_Next m_layout_Layout_Prev m_layout_Layout_Head m_layout_Layout_Bin m_layout_Layout_Cache m_layout_Layout_User m_layout_Layout_Words m_layout_Layout_Live) (⟨133, 0⟩ : Cx) (at_ (bodyOf Try.f36) [1, 1, 1, 1, 1, 1, 1, 0, 1, 0, 0, 1, 0, 0, 1, 0, 1, 0, 0]) (mkEnv [(1, .ptr 0 0), (3, .ptr 1 0), (4, .row 2), (8, vi (slots)), (9, vi (q)), (11, vi (i_))]) [.cells 28 (e_layout_Layout l2), .cells 23 [vi (c), vi (c2), vi (c3), vi (c4), vi (c5), vi (c6), vi (c7), vi (c8), vi (c9), vi (c10), vi (c11)], .row 0 (w2 : List (Int)) Bool.false] (roundK (cfg_law02_named m_layout_Layout_Config m_layout_Layout_Chunks m_layout_Layout_Table m_layout_Layout_Kind m_layout_Layout_Count m_layout_Layout_Bits m_layout_Layout_Next m_layout_Layout_Prev m_layout_Layout_Head m_layout_Layout_Bin m_layout_Layout_Cache m_layout_Layout_User m_layout_Layout_Words m_layout_Layout_Live) (⟨133, 0⟩ : Cx) (at_ (bodyOf Try.f36) [1, 1, 1, 1, 1, 1, 1, 0, 1, 0, 0, 1, 0, 0, 1, 0, 1, 0, 0]) (contK (cfg_law02_named m_layout_Layout_Config m_layout_Layout_Chunks m_layout_Layout_Table m_layout_Layout_Kind m_layout_Layout_Count m_layout_Layout_Bits m_layout_Layout_Next m_layout_Layout_Prev m_layout_Layout_Head m_layout_Layout_Bin m_layout_Layout_Cache m_layout_Layout_User m_layout_Layout_Words m_layout_Layout_Live) (⟨133, 0⟩ : Cx) (at_ (bodyOf Try.f36) [1, 1, 1, 1, 1, 1, 1, 0, 1, 0, 0]) [1, 0, 0, 1, 0, 1, 0] (roundK (cfg_law02_named m_layout_Layout_Config m_layout_Layout_Chunks m_layout_Layout_Table m_layout_Layout_Kind m_layout_Layout_Count m_layout_Layout_Bits m_layout_Layout_Next m_layout_Layout_Prev m_layout_Layout_Head m_layout_Layout_Bin m_layout_Layout_Cache m_layout_Layout_User m_layout_Layout_Words m_layout_Layout_Live) (⟨133, 0⟩ : Cx) (at_ (bodyOf Try.f36) [1, 1, 1, 1, 1, 1, 1, 0, 1, 0, 0]) (contK (cfg_law02_named m_layout_Layout_Config m_layout_Layout_Chunks m_layout_Layout_Table m_layout_Layout_Kind m_layout_Layout_Count m_layout_Layout_Bits m_layout_Layout_Next m_layout_Layout_Prev m_layout_Layout_Head m_layout_Layout_Bin m_layout_Layout_Cache m_layout_Layout_User m_layout_Layout_Words m_layout_Layout_Live) (⟨133, 0⟩ : Cx) (bodyOf Try.f36) [1, 1, 1, 1, 1, 1, 1, 0, 1, 0] (retK (cfg_law02_named m_layout_Layout_Config m_layout_Layout_Chunks m_layout_Layout_Table m_layout_Layout_Kind m_layout_Layout_Count m_layout_Layout_Bits m_layout_Layout_Next m_layout_Layout_Prev m_layout_Layout_Head m_layout_Layout_Bin m_layout_Layout_Cache m_layout_Layout_User m_layout_Layout_Words m_layout_Layout_Live) Try.f36 0 K)) J1)) J2)) = (
    br (Decidable.decide (i_ ≤ c10)) (So (m_layout_Layout_Bin l2 q) (fun (y0 : Int) => (Req (Decidable.decide (List.length w2 + 1 ≤ 1048576)) (J2 (mkEnv [(1, .ptr 0 0), (3, .ptr 1 0), (4, .row 2), (8, vi (slots)), (9, vi (q)), (11, vi (IntKind.wrap IntKind.i64 (i_ + 1)))]) [.cells 28 (e_layout_Layout l2), .cells 23 [vi (c), vi (c2), vi (c3), vi (c4), vi (c5), vi (c6), vi (c7), vi (c8), vi (c9), vi (c10), vi (c11)], .row 0 (w2 ++ [IntKind.wrap IntKind.i64 (y0 + i_)] : List (Int)) Bool.false])))) (Loop (cfg_law02_named m_layout_Layout_Config m_layout_Layout_Chunks m_layout_Layout_Table m_layout_Layout_Kind m_layout_Layout_Count m_layout_Layout_Bits m_layout_Layout_Next m_layout_Layout_Prev m_layout_Layout_Head m_layout_Layout_Bin m_layout_Layout_Cache m_layout_Layout_User m_layout_Layout_Words m_layout_Layout_Live) (⟨133, 0⟩ : Cx) (at_ (bodyOf Try.f36) [1, 1, 1, 1, 1, 1, 1, 0, 1, 0, 0, 1, 0, 0, 1, 1, 0, 1, 0, 0]) (mkEnv [(1, .ptr 0 0), (3, .ptr 1 0), (4, .row 2), (8, vi (slots)), (9, vi (q)), (12, vi (0))]) [.cells 28 (e_layout_Layout l2), .cells 23 [vi (c), vi (c2), vi (c3), vi (c4), vi (c5), vi (c6), vi (c7), vi (c8), vi (c9), vi (c10), vi (c11)], .row 0 (w2 : List (Int)) Bool.false] (contK (cfg_law02_named m_layout_Layout_Config m_layout_Layout_Chunks m_layout_Layout_Table m_layout_Layout_Kind m_layout_Layout_Count m_layout_Layout_Bits m_layout_Layout_Next m_layout_Layout_Prev m_layout_Layout_Head m_layout_Layout_Bin m_layout_Layout_Cache m_layout_Layout_User m_layout_Layout_Words m_layout_Layout_Live) (⟨133, 0⟩ : Cx) (at_ (bodyOf Try.f36) [1, 1, 1, 1, 1, 1, 1, 0, 1, 0, 0]) [1, 0, 0, 1, 1, 0, 1, 0] (roundK (cfg_law02_named m_layout_Layout_Config m_layout_Layout_Chunks m_layout_Layout_Table m_layout_Layout_Kind m_layout_Layout_Count m_layout_Layout_Bits m_layout_Layout_Next m_layout_Layout_Prev m_layout_Layout_Head m_layout_Layout_Bin m_layout_Layout_Cache m_layout_Layout_User m_layout_Layout_Words m_layout_Layout_Live) (⟨133, 0⟩ : Cx) (at_ (bodyOf Try.f36) [1, 1, 1, 1, 1, 1, 1, 0, 1, 0, 0]) (contK (cfg_law02_named m_layout_Layout_Config m_layout_Layout_Chunks m_layout_Layout_Table m_layout_Layout_Kind m_layout_Layout_Count m_layout_Layout_Bits m_layout_Layout_Next m_layout_Layout_Prev m_layout_Layout_Head m_layout_Layout_Bin m_layout_Layout_Cache m_layout_Layout_User m_layout_Layout_Words m_layout_Layout_Live) (⟨133, 0⟩ : Cx) (bodyOf Try.f36) [1, 1, 1, 1, 1, 1, 1, 0, 1, 0] (retK (cfg_law02_named m_layout_Layout_Config m_layout_Layout_Chunks m_layout_Layout_Table m_layout_Layout_Kind m_layout_Layout_Count m_layout_Layout_Bits m_layout_Layout_Next m_layout_Layout_Prev m_layout_Layout_Head m_layout_Layout_Bin m_layout_Layout_Cache m_layout_Layout_User m_layout_Layout_Words m_layout_Layout_Live) Try.f36 0 K)) J1)))) := by
  kernel_rfl

theorem nf_law02_named_5 (m_layout_Layout_Config : T_layout_Layout → Option (T_api_Config)) (m_layout_Layout_Chunks : T_layout_Layout → Option (Int)) (m_layout_Layout_Table : T_layout_Layout → Int → Option (Int)) (m_layout_Layout_Kind : T_layout_Layout → Int → Option (Int)) (m_layout_Layout_Count : T_layout_Layout → Int → Option (Int)) (m_layout_Layout_Bits : T_layout_Layout → Int → Option (Int)) (m_layout_Layout_Next : T_layout_Layout → Int → Option (Int)) (m_layout_Layout_Prev : T_layout_Layout → Int → Option (Int)) (m_layout_Layout_Head : T_layout_Layout → Int → Int → Option (Int)) (m_layout_Layout_Bin : T_layout_Layout → Int → Option (Int)) (m_layout_Layout_Cache : T_layout_Layout → Int → Int → Option (Int)) (m_layout_Layout_User : T_layout_Layout → Option (Int)) (m_layout_Layout_Words : T_layout_Layout → Option (Int)) (m_layout_Layout_Live : T_layout_Layout → Int → Option (Int)) (l2 : T_layout_Layout) (slots : Int) (q : Int) (c : Int) (c2 : Int) (c3 : Int) (c4 : Int) (c5 : Int) (c6 : Int) (c7 : Int) (c8 : Int) (c9 : Int) (c10 : Int) (c11 : Int) (w : List Int) (f : Int) (w2 : List Int) (K : V → Heap → Prop) (J1 : Env → Heap → Prop) (J2 : Env → Heap → Prop) : (ex (cfg_law02_named m_layout_Layout_Config m_layout_Layout_Chunks m_layout_Layout_Table m_layout_Layout_Kind m_layout_Layout_Count m_layout_Layout_Bits m_layout_Layout_Next m_layout_Layout_Prev m_layout_Layout_Head m_layout_Layout_Bin m_layout_Layout_Cache m_layout_Layout_User m_layout_Layout_Words m_layout_Layout_Live) (⟨133, 0⟩ : Cx) (at_ (bodyOf Try.f36) [1, 1, 1, 1, 1, 1, 1, 0, 1, 0, 0, 1, 0, 0, 0, 1, 0, 0]) (mkEnv [(1, .ptr 0 0), (3, .ptr 1 0), (4, .row 2), (8, vi (slots)), (9, vi (q)), (10, vi (f))]) [.cells 28 (e_layout_Layout l2), .cells 23 [vi (c), vi (c2), vi (c3), vi (c4), vi (c5), vi (c6), vi (c7), vi (c8), vi (c9), vi (c10), vi (c11)], .row 0 (w2 : List (Int)) Bool.false] (roundK (cfg_law02_named m_layout_Layout_Config m_layout_Layout_Chunks m_layout_Layout_Table m_layout_Layout_Kind m_layout_Layout_Count m_layout_Layout_Bits m_layout_Layout_Next m_layout_Layout_Prev m_layout_Layout_Head m_layout_Layout_Bin m_layout_Layout_Cache m_layout_Layout_User m_layout_Layout_Words m_layout_Layout_Live) (⟨133, 0⟩ : Cx) (at_ (bodyOf Try.f36) [1, 1, 1, 1, 1, 1, 1, 0, 1, 0, 0, 1, 0, 0, 0, 1, 0, 0]) (contK (cfg_law02_named m_layout_Layout_Config m_layout_Layout_Chunks m_layout_Layout_Table m_layout_Layout_Kind m_layout_Layout_Count m_layout_Layout_Bits m_layout_Layout_Next m_layout_Layout_Prev m_layout_Layout_Head m_layout_Layout_Bin m_layout_Layout_Cache m_layout_Layout_User m_layout_Layout_Words m_layout_Layout_Live) (⟨133, 0⟩ : Cx) (at_ (bodyOf Try.f36) [1, 1, 1, 1, 1, 1, 1, 0, 1, 0, 0]) [1, 0, 0, 0, 1, 0] (roundK (cfg_law02_named m_layout_Layout_Config m_layout_Layout_Chunks m_layout_Layout_Table m_layout_Layout_Kind m_layout_Layout_Count m_layout_Layout_Bits m_layout_Layout_Next m_layout_Layout_Prev m_layout_Layout_Head m_layout_Layout_Bin m_layout_Layout_Cache m_layout_Layout_User m_layout_Layout_Words m_layout_Layout_Live) (⟨133, 0⟩ : Cx) (at_ (bodyOf Try.f36) [1, 1, 1, 1, 1, 1, 1, 0, 1, 0, 0]) (contK (cfg_law02_named m_layout_Layout_Config m_layout_Layout_Chunks m_layout_Layout_Table m_layout_Layout_Kind m_layout_Layout_Count m_layout_Layout_Bits m_layout_Layout_Next m_layout_Layout_Prev m_layout_Layout_Head m_layout_Layout_Bin m_layout_Layout_Cache m_layout_Layout_User m_layout_Layout_Words m_layout_Layout_Live) (⟨133, 0⟩ : Cx) (bodyOf Try.f36) [1, 1, 1, 1, 1, 1, 1, 0, 1, 0] (retK (cfg_law02_named m_layout_Layout_Config m_layout_Layout_Chunks m_layout_Layout_Table m_layout_Layout_Kind m_layout_Layout_Count m_layout_Layout_Bits m_layout_Layout_Next m_layout_Layout_Prev m_layout_Layout_Head m_layout_Layout_Bin m_layout_Layout_Cache m_layout_Layout_User m_layout_Layout_Words m_layout_Layout_Live) Try.f36 0 K)) J1)) J2)) = (
    br (Decidable.decide (f ≤ slots)) (So (m_layout_Layout_Head l2 q f) (fun (y0 : Int) => (Req (Decidable.decide (List.length w2 + 1 ≤ 1048576)) (J2 (mkEnv [(1, .ptr 0 0), (3, .ptr 1 0), (4, .row 2), (8, vi (slots)), (9, vi (q)), (10, vi (IntKind.wrap IntKind.i64 (f + 1)))]) [.cells 28 (e_layout_Layout l2), .cells 23 [vi (c), vi (c2), vi (c3), vi (c4), vi (c5), vi (c6), vi (c7), vi (c8), vi (c9), vi (c10), vi (c11)], .row 0 (w2 ++ [y0] : List (Int)) Bool.false])))) (Loop (cfg_law02_named m_layout_Layout_Config m_layout_Layout_Chunks m_layout_Layout_Table m_layout_Layout_Kind m_layout_Layout_Count m_layout_Layout_Bits m_layout_Layout_Next m_layout_Layout_Prev m_layout_Layout_Head m_layout_Layout_Bin m_layout_Layout_Cache m_layout_Layout_User m_layout_Layout_Words m_layout_Layout_Live) (⟨133, 0⟩ : Cx) (at_ (bodyOf Try.f36) [1, 1, 1, 1, 1, 1, 1, 0, 1, 0, 0, 1, 0, 0, 1, 0, 1, 0, 0]) (mkEnv [(1, .ptr 0 0), (3, .ptr 1 0), (4, .row 2), (8, vi (slots)), (9, vi (q)), (11, vi (0))]) [.cells 28 (e_layout_Layout l2), .cells 23 [vi (c), vi (c2), vi (c3), vi (c4), vi (c5), vi (c6), vi (c7), vi (c8), vi (c9), vi (c10), vi (c11)], .row 0 (w2 : List (Int)) Bool.false] (contK (cfg_law02_named m_layout_Layout_Config m_layout_Layout_Chunks m_layout_Layout_Table m_layout_Layout_Kind m_layout_Layout_Count m_layout_Layout_Bits m_layout_Layout_Next m_layout_Layout_Prev m_layout_Layout_Head m_layout_Layout_Bin m_layout_Layout_Cache m_layout_Layout_User m_layout_Layout_Words m_layout_Layout_Live) (⟨133, 0⟩ : Cx) (at_ (bodyOf Try.f36) [1, 1, 1, 1, 1, 1, 1, 0, 1, 0, 0]) [1, 0, 0, 1, 0, 1, 0] (roundK (cfg_law02_named m_layout_Layout_Config m_layout_Layout_Chunks m_layout_Layout_Table m_layout_Layout_Kind m_layout_Layout_Count m_layout_Layout_Bits m_layout_Layout_Next m_layout_Layout_Prev m_layout_Layout_Head m_layout_Layout_Bin m_layout_Layout_Cache m_layout_Layout_User m_layout_Layout_Words m_layout_Layout_Live) (⟨133, 0⟩ : Cx) (at_ (bodyOf Try.f36) [1, 1, 1, 1, 1, 1, 1, 0, 1, 0, 0]) (contK (cfg_law02_named m_layout_Layout_Config m_layout_Layout_Chunks m_layout_Layout_Table m_layout_Layout_Kind m_layout_Layout_Count m_layout_Layout_Bits m_layout_Layout_Next m_layout_Layout_Prev m_layout_Layout_Head m_layout_Layout_Bin m_layout_Layout_Cache m_layout_Layout_User m_layout_Layout_Words m_layout_Layout_Live) (⟨133, 0⟩ : Cx) (bodyOf Try.f36) [1, 1, 1, 1, 1, 1, 1, 0, 1, 0] (retK (cfg_law02_named m_layout_Layout_Config m_layout_Layout_Chunks m_layout_Layout_Table m_layout_Layout_Kind m_layout_Layout_Count m_layout_Layout_Bits m_layout_Layout_Next m_layout_Layout_Prev m_layout_Layout_Head m_layout_Layout_Bin m_layout_Layout_Cache m_layout_Layout_User m_layout_Layout_Words m_layout_Layout_Live) Try.f36 0 K)) J1)))) := by
  kernel_rfl

theorem nf_law02_named_6 (m_layout_Layout_Config : T_layout_Layout → Option (T_api_Config)) (m_layout_Layout_Chunks : T_layout_Layout → Option (Int)) (m_layout_Layout_Table : T_layout_Layout → Int → Option (Int)) (m_layout_Layout_Kind : T_layout_Layout → Int → Option (Int)) (m_layout_Layout_Count : T_layout_Layout → Int → Option (Int)) (m_layout_Layout_Bits : T_layout_Layout → Int → Option (Int)) (m_layout_Layout_Next : T_layout_Layout → Int → Option (Int)) (m_layout_Layout_Prev : T_layout_Layout → Int → Option (Int)) (m_layout_Layout_Head : T_layout_Layout → Int → Int → Option (Int)) (m_layout_Layout_Bin : T_layout_Layout → Int → Option (Int)) (m_layout_Layout_Cache : T_layout_Layout → Int → Int → Option (Int)) (m_layout_Layout_User : T_layout_Layout → Option (Int)) (m_layout_Layout_Words : T_layout_Layout → Option (Int)) (m_layout_Layout_Live : T_layout_Layout → Int → Option (Int)) (l2 : T_layout_Layout) (a : Int) (w : List Int) (K : V → Heap → Prop) (J1 : Env → Heap → Prop) : (ex (cfg_law02_named m_layout_Layout_Config m_layout_Layout_Chunks m_layout_Layout_Table m_layout_Layout_Kind m_layout_Layout_Count m_layout_Layout_Bits m_layout_Layout_Next m_layout_Layout_Prev m_layout_Layout_Head m_layout_Layout_Bin m_layout_Layout_Cache m_layout_Layout_User m_layout_Layout_Words m_layout_Layout_Live) (⟨133, 0⟩ : Cx) (at_ (bodyOf Try.f36) [1, 1, 1, 1, 1, 1, 1, 1, 0, 1, 0, 0]) (mkEnv [(1, .ptr 0 0), (4, .row 1), (14, vi (a))]) [.cells 28 (e_layout_Layout l2), .row 0 (w : List (Int)) Bool.false] (roundK (cfg_law02_named m_layout_Layout_Config m_layout_Layout_Chunks m_layout_Layout_Table m_layout_Layout_Kind m_layout_Layout_Count m_layout_Layout_Bits m_layout_Layout_Next m_layout_Layout_Prev m_layout_Layout_Head m_layout_Layout_Bin m_layout_Layout_Cache m_layout_Layout_User m_layout_Layout_Words m_layout_Layout_Live) (⟨133, 0⟩ : Cx) (at_ (bodyOf Try.f36) [1, 1, 1, 1, 1, 1, 1, 1, 0, 1, 0, 0]) (contK (cfg_law02_named m_layout_Layout_Config m_layout_Layout_Chunks m_layout_Layout_Table m_layout_Layout_Kind m_layout_Layout_Count m_layout_Layout_Bits m_layout_Layout_Next m_layout_Layout_Prev m_layout_Layout_Head m_layout_Layout_Bin m_layout_Layout_Cache m_layout_Layout_User m_layout_Layout_Words m_layout_Layout_Live) (⟨133, 0⟩ : Cx) (bodyOf Try.f36) [1, 1, 1, 1, 1, 1, 1, 1, 0, 1, 0] (retK (cfg_law02_named m_layout_Layout_Config m_layout_Layout_Chunks m_layout_Layout_Table m_layout_Layout_Kind m_layout_Layout_Count m_layout_Layout_Bits m_layout_Layout_Next m_layout_Layout_Prev m_layout_Layout_Head m_layout_Layout_Bin m_layout_Layout_Cache m_layout_Layout_User m_layout_Layout_Words m_layout_Layout_Live) Try.f36 0 K)) J1)) = (
    So (m_layout_Layout_Words l2) (fun (y0 : Int) => (br (Decidable.decide (a < y0)) (So (m_layout_Layout_Live l2 a) (fun (y1 : Int) => (Req (Decidable.decide (List.length w + 2 ≤ 1048576)) (J1 (mkEnv [(1, .ptr 0 0), (4, .row 1), (14, vi (IntKind.wrap IntKind.i64 (a + 1)))]) [.cells 28 (e_layout_Layout l2), .row 0 (w ++ [a, y1] : List (Int)) Bool.false])))) (K (.row 0) [.row 0 (w : List (Int)) Bool.false])))) := by
  kernel_rfl

theorem nf_law02_named_4 (m_layout_Layout_Config : T_layout_Layout → Option (T_api_Config)) (m_layout_Layout_Chunks : T_layout_Layout → Option (Int)) (m_layout_Layout_Table : T_layout_Layout → Int → Option (Int)) (m_layout_Layout_Kind : T_layout_Layout → Int → Option (Int)) (m_layout_Layout_Count : T_layout_Layout → Int → Option (Int)) (m_layout_Layout_Bits : T_layout_Layout → Int → Option (Int)) (m_layout_Layout_Next : T_layout_Layout → Int → Option (Int)) (m_layout_Layout_Prev : T_layout_Layout → Int → Option (Int)) (m_layout_Layout_Head : T_layout_Layout → Int → Int → Option (Int)) (m_layout_Layout_Bin : T_layout_Layout → Int → Option (Int)) (m_layout_Layout_Cache : T_layout_Layout → Int → Int → Option (Int)) (m_layout_Layout_User : T_layout_Layout → Option (Int)) (m_layout_Layout_Words : T_layout_Layout → Option (Int)) (m_layout_Layout_Live : T_layout_Layout → Int → Option (Int)) (l2 : T_layout_Layout) (slots : Int) (q : Int) (c : Int) (c2 : Int) (c3 : Int) (c4 : Int) (c5 : Int) (c6 : Int) (c7 : Int) (c8 : Int) (c9 : Int) (c10 : Int) (c11 : Int) (w : List Int) (K : V → Heap → Prop) (J1 : Env → Heap → Prop) : (ex (cfg_law02_named m_layout_Layout_Config m_layout_Layout_Chunks m_layout_Layout_Table m_layout_Layout_Kind m_layout_Layout_Count m_layout_Layout_Bits m_layout_Layout_Next m_layout_Layout_Prev m_layout_Layout_Head m_layout_Layout_Bin m_layout_Layout_Cache m_layout_Layout_User m_layout_Layout_Words m_layout_Layout_Live) (⟨133, 0⟩ : Cx) (at_ (bodyOf Try.f36) [1, 1, 1, 1, 1, 1, 1, 0, 1, 0, 0]) (mkEnv [(1, .ptr 0 0), (3, .ptr 1 0), (4, .row 2), (8, vi (slots)), (9, vi (q))]) [.cells 28 (e_layout_Layout l2), .cells 23 [vi (c), vi (c2), vi (c3), vi (c4), vi (c5), vi (c6), vi (c7), vi (c8), vi (c9), vi (c10), vi (c11)], .row 0 (w : List (Int)) Bool.false] (roundK (cfg_law02_named m_layout_Layout_Config m_layout_Layout_Chunks m_layout_Layout_Table m_layout_Layout_Kind m_layout_Layout_Count m_layout_Layout_Bits m_layout_Layout_Next m_layout_Layout_Prev m_layout_Layout_Head m_layout_Layout_Bin m_layout_Layout_Cache m_layout_Layout_User m_layout_Layout_Words m_layout_Layout_Live) (⟨133, 0⟩ : Cx) (at_ (bodyOf Try.f36) [1, 1, 1, 1, 1, 1, 1, 0, 1, 0, 0]) (contK (cfg_law02_named m_layout_Layout_Config m_layout_Layout_Chunks m_layout_Layout_Table m_layout_Layout_Kind m_layout_Layout_Count m_layout_Layout_Bits m_layout_Layout_Next m_layout_Layout_Prev m_layout_Layout_Head m_layout_Layout_Bin m_layout_Layout_Cache m_layout_Layout_User m_layout_Layout_Words m_layout_Layout_Live) (⟨133, 0⟩ : Cx) (bodyOf Try.f36) [1, 1, 1, 1, 1, 1, 1, 0, 1, 0] (retK (cfg_law02_named m_layout_Layout_Config m_layout_Layout_Chunks m_layout_Layout_Table m_layout_Layout_Kind m_layout_Layout_Count m_layout_Layout_Bits m_layout_Layout_Next m_layout_Layout_Prev m_layout_Layout_Head m_layout_Layout_Bin m_layout_Layout_Cache m_layout_Layout_User m_layout_Layout_Words m_layout_Layout_Live) Try.f36 0 K)) J1)) = (
    br (Decidable.decide (q < 5)) (Loop (cfg_law02_named m_layout_Layout_Config m_layout_Layout_Chunks m_layout_Layout_Table m_layout_Layout_Kind m_layout_Layout_Count m_layout_Layout_Bits m_layout_Layout_Next m_layout_Layout_Prev m_layout_Layout_Head m_layout_Layout_Bin m_layout_Layout_Cache m_layout_Layout_User m_layout_Layout_Words m_layout_Layout_Live) (⟨133, 0⟩ : Cx) (at_ (bodyOf Try.f36) [1, 1, 1, 1, 1, 1, 1, 0, 1, 0, 0, 1, 0, 0, 0, 1, 0, 0]) (mkEnv [(1, .ptr 0 0), (3, .ptr 1 0), (4, .row 2), (8, vi (slots)), (9, vi (q)), (10, vi (1))]) [.cells 28 (e_layout_Layout l2), .cells 23 [vi (c), vi (c2), vi (c3), vi (c4), vi (c5), vi (c6), vi (c7), vi (c8), vi (c9), vi (c10), vi (c11)], .row 0 (w : List (Int)) Bool.false] (contK (cfg_law02_named m_layout_Layout_Config m_layout_Layout_Chunks m_layout_Layout_Table m_layout_Layout_Kind m_layout_Layout_Count m_layout_Layout_Bits m_layout_Layout_Next m_layout_Layout_Prev m_layout_Layout_Head m_layout_Layout_Bin m_layout_Layout_Cache m_layout_Layout_User m_layout_Layout_Words m_layout_Layout_Live) (⟨133, 0⟩ : Cx) (at_ (bodyOf Try.f36) [1, 1, 1, 1, 1, 1, 1, 0, 1, 0, 0]) [1, 0, 0, 0, 1, 0] (roundK (cfg_law02_named m_layout_Layout_Config m_layout_Layout_Chunks m_layout_Layout_Table m_layout_Layout_Kind m_layout_Layout_Count m_layout_Layout_Bits m_layout_Layout_Next m_layout_Layout_Prev m_layout_Layout_Head m_layout_Layout_Bin m_layout_Layout_Cache m_layout_Layout_User m_layout_Layout_Words m_layout_Layout_Live) (⟨133, 0⟩ : Cx) (at_ (bodyOf Try.f36) [1, 1, 1, 1, 1, 1, 1, 0, 1, 0, 0]) (contK (cfg_law02_named m_layout_Layout_Config m_layout_Layout_Chunks m_layout_Layout_Table m_layout_Layout_Kind m_layout_Layout_Count m_layout_Layout_Bits m_layout_Layout_Next m_layout_Layout_Prev m_layout_Layout_Head m_layout_Layout_Bin m_layout_Layout_Cache m_layout_Layout_User m_layout_Layout_Words m_layout_Layout_Live) (⟨133, 0⟩ : Cx) (bodyOf Try.f36) [1, 1, 1, 1, 1, 1, 1, 0, 1, 0] (retK (cfg_law02_named m_layout_Layout_Config m_layout_Layout_Chunks m_layout_Layout_Table m_layout_Layout_Kind m_layout_Layout_Count m_layout_Layout_Bits m_layout_Layout_Next m_layout_Layout_Prev m_layout_Layout_Head m_layout_Layout_Bin m_layout_Layout_Cache m_layout_Layout_User m_layout_Layout_Words m_layout_Layout_Live) Try.f36 0 K)) J1))) (So (m_layout_Layout_User l2) (fun (y0 : Int) => (Loop (cfg_law02_named m_layout_Layout_Config m_layout_Layout_Chunks m_layout_Layout_Table m_layout_Layout_Kind m_layout_Layout_Count m_layout_Layout_Bits m_layout_Layout_Next m_layout_Layout_Prev m_layout_Layout_Head m_layout_Layout_Bin m_layout_Layout_Cache m_layout_Layout_User m_layout_Layout_Words m_layout_Layout_Live) (⟨133, 0⟩ : Cx) (at_ (bodyOf Try.f36) [1, 1, 1, 1, 1, 1, 1, 1, 0, 1, 0, 0]) (mkEnv [(1, .ptr 0 0), (4, .row 1), (14, vi (y0))]) [.cells 28 (e_layout_Layout l2), .row 0 (w : List (Int)) Bool.false] (contK (cfg_law02_named m_layout_Layout_Config m_layout_Layout_Chunks m_layout_Layout_Table m_layout_Layout_Kind m_layout_Layout_Count m_layout_Layout_Bits m_layout_Layout_Next m_layout_Layout_Prev m_layout_Layout_Head m_layout_Layout_Bin m_layout_Layout_Cache m_layout_Layout_User m_layout_Layout_Words m_layout_Layout_Live) (⟨133, 0⟩ : Cx) (bodyOf Try.f36) [1, 1, 1, 1, 1, 1, 1, 1, 0, 1, 0] (retK (cfg_law02_named m_layout_Layout_Config m_layout_Layout_Chunks m_layout_Layout_Table m_layout_Layout_Kind m_layout_Layout_Count m_layout_Layout_Bits m_layout_Layout_Next m_layout_Layout_Prev m_layout_Layout_Head m_layout_Layout_Bin m_layout_Layout_Cache m_layout_Layout_User m_layout_Layout_Words m_layout_Layout_Live) Try.f36 0 K)))))) := by
  kernel_rfl

theorem nf_law02_named_3 (m_layout_Layout_Config : T_layout_Layout → Option (T_api_Config)) (m_layout_Layout_Chunks : T_layout_Layout → Option (Int)) (m_layout_Layout_Table : T_layout_Layout → Int → Option (Int)) (m_layout_Layout_Kind : T_layout_Layout → Int → Option (Int)) (m_layout_Layout_Count : T_layout_Layout → Int → Option (Int)) (m_layout_Layout_Bits : T_layout_Layout → Int → Option (Int)) (m_layout_Layout_Next : T_layout_Layout → Int → Option (Int)) (m_layout_Layout_Prev : T_layout_Layout → Int → Option (Int)) (m_layout_Layout_Head : T_layout_Layout → Int → Int → Option (Int)) (m_layout_Layout_Bin : T_layout_Layout → Int → Option (Int)) (m_layout_Layout_Cache : T_layout_Layout → Int → Int → Option (Int)) (m_layout_Layout_User : T_layout_Layout → Option (Int)) (m_layout_Layout_Words : T_layout_Layout → Option (Int)) (m_layout_Layout_Live : T_layout_Layout → Int → Option (Int)) (l2 : T_layout_Layout) (p : Int) (c : Int) (c2 : Int) (c3 : Int) (c4 : Int) (c5 : Int) (c6 : Int) (c7 : Int) (c8 : Int) (c9 : Int) (c10 : Int) (c11 : Int) (w : List Int) (K : V → Heap → Prop) (J1 : Env → Heap → Prop) : (ex (cfg_law02_named m_layout_Layout_Config m_layout_Layout_Chunks m_layout_Layout_Table m_layout_Layout_Kind m_layout_Layout_Count m_layout_Layout_Bits m_layout_Layout_Next m_layout_Layout_Prev m_layout_Layout_Head m_layout_Layout_Bin m_layout_Layout_Cache m_layout_Layout_User m_layout_Layout_Words m_layout_Layout_Live) (⟨133, 0⟩ : Cx) (at_ (bodyOf Try.f36) [1, 1, 1, 1, 1, 0, 1, 0, 0]) (mkEnv [(1, .ptr 0 0), (3, .ptr 1 0), (4, .row 2), (7, vi (p))]) [.cells 28 (e_layout_Layout l2), .cells 23 [vi (c), vi (c2), vi (c3), vi (c4), vi (c5), vi (c6), vi (c7), vi (c8), vi (c9), vi (c10), vi (c11)], .row 0 (w : List (Int)) Bool.false] (roundK (cfg_law02_named m_layout_Layout_Config m_layout_Layout_Chunks m_layout_Layout_Table m_layout_Layout_Kind m_layout_Layout_Count m_layout_Layout_Bits m_layout_Layout_Next m_layout_Layout_Prev m_layout_Layout_Head m_layout_Layout_Bin m_layout_Layout_Cache m_layout_Layout_User m_layout_Layout_Words m_layout_Layout_Live) (⟨133, 0⟩ : Cx) (at_ (bodyOf Try.f36) [1, 1, 1, 1, 1, 0, 1, 0, 0]) (contK (cfg_law02_named m_layout_Layout_Config m_layout_Layout_Chunks m_layout_Layout_Table m_layout_Layout_Kind m_layout_Layout_Count m_layout_Layout_Bits m_layout_Layout_Next m_layout_Layout_Prev m_layout_Layout_Head m_layout_Layout_Bin m_layout_Layout_Cache m_layout_Layout_User m_layout_Layout_Words m_layout_Layout_Live) (⟨133, 0⟩ : Cx) (bodyOf Try.f36) [1, 1, 1, 1, 1, 0, 1, 0] (retK (cfg_law02_named m_layout_Layout_Config m_layout_Layout_Chunks m_layout_Layout_Table m_layout_Layout_Kind m_layout_Layout_Count m_layout_Layout_Bits m_layout_Layout_Next m_layout_Layout_Prev m_layout_Layout_Head m_layout_Layout_Bin m_layout_Layout_Cache m_layout_Layout_User m_layout_Layout_Words m_layout_Layout_Live) Try.f36 0 K)) J1)) = (
    br (Decidable.decide (p < c3)) (So (m_layout_Layout_Kind l2 p) (fun (y0 : Int) => (So (m_layout_Layout_Count l2 p) (fun (y1 : Int) => (So (m_layout_Layout_Bits l2 p) (fun (y2 : Int) => (So (m_layout_Layout_Next l2 p) (fun (y3 : Int) => (So (m_layout_Layout_Prev l2 p) (fun (y4 : Int) => (Req (Decidable.decide (List.length w + 5 ≤ 1048576)) (J1 (mkEnv [(1, .ptr 0 0), (3, .ptr 1 0), (4, .row 2), (7, vi (IntKind.wrap IntKind.i64 (p + 1)))]) [.cells 28 (e_layout_Layout l2), .cells 23 [vi (c), vi (c2), vi (c3), vi (c4), vi (c5), vi (c6), vi (c7), vi (c8), vi (c9), vi (c10), vi (c11)], .row 0 (w ++ [y0, y1, y2, y3, y4] : List (Int)) Bool.false])))))))))))) (Loop (cfg_law02_named m_layout_Layout_Config m_layout_Layout_Chunks m_layout_Layout_Table m_layout_Layout_Kind m_layout_Layout_Count m_layout_Layout_Bits m_layout_Layout_Next m_layout_Layout_Prev m_layout_Layout_Head m_layout_Layout_Bin m_layout_Layout_Cache m_layout_Layout_User m_layout_Layout_Words m_layout_Layout_Live) (⟨133, 0⟩ : Cx) (at_ (bodyOf Try.f36) [1, 1, 1, 1, 1, 1, 1, 0, 1, 0, 0]) (mkEnv [(1, .ptr 0 0), (3, .ptr 1 0), (4, .row 2), (8, vi (32)), (9, vi (0))]) [.cells 28 (e_layout_Layout l2), .cells 23 [vi (c), vi (c2), vi (c3), vi (c4), vi (c5), vi (c6), vi (c7), vi (c8), vi (c9), vi (c10), vi (c11)], .row 0 (w : List (Int)) Bool.false] (contK (cfg_law02_named m_layout_Layout_Config m_layout_Layout_Chunks m_layout_Layout_Table m_layout_Layout_Kind m_layout_Layout_Count m_layout_Layout_Bits m_layout_Layout_Next m_layout_Layout_Prev m_layout_Layout_Head m_layout_Layout_Bin m_layout_Layout_Cache m_layout_Layout_User m_layout_Layout_Words m_layout_Layout_Live) (⟨133, 0⟩ : Cx) (bodyOf Try.f36) [1, 1, 1, 1, 1, 1, 1, 0, 1, 0] (retK (cfg_law02_named m_layout_Layout_Config m_layout_Layout_Chunks m_layout_Layout_Table m_layout_Layout_Kind m_layout_Layout_Count m_layout_Layout_Bits m_layout_Layout_Next m_layout_Layout_Prev m_layout_Layout_Head m_layout_Layout_Bin m_layout_Layout_Cache m_layout_Layout_User m_layout_Layout_Words m_layout_Layout_Live) Try.f36 0 K)))) := by
  kernel_rfl

theorem nf_law02_named_2 (m_layout_Layout_Config : T_layout_Layout → Option (T_api_Config)) (m_layout_Layout_Chunks : T_layout_Layout → Option (Int)) (m_layout_Layout_Table : T_layout_Layout → Int → Option (Int)) (m_layout_Layout_Kind : T_layout_Layout → Int → Option (Int)) (m_layout_Layout_Count : T_layout_Layout → Int → Option (Int)) (m_layout_Layout_Bits : T_layout_Layout → Int → Option (Int)) (m_layout_Layout_Next : T_layout_Layout → Int → Option (Int)) (m_layout_Layout_Prev : T_layout_Layout → Int → Option (Int)) (m_layout_Layout_Head : T_layout_Layout → Int → Int → Option (Int)) (m_layout_Layout_Bin : T_layout_Layout → Int → Option (Int)) (m_layout_Layout_Cache : T_layout_Layout → Int → Int → Option (Int)) (m_layout_Layout_User : T_layout_Layout → Option (Int)) (m_layout_Layout_Words : T_layout_Layout → Option (Int)) (m_layout_Layout_Live : T_layout_Layout → Int → Option (Int)) (l2 : T_layout_Layout) (i_ : Int) (c : Int) (c2 : Int) (c3 : Int) (c4 : Int) (c5 : Int) (c6 : Int) (c7 : Int) (c8 : Int) (c9 : Int) (c10 : Int) (c11 : Int) (w : List Int) (K : V → Heap → Prop) (J1 : Env → Heap → Prop) : (ex (cfg_law02_named m_layout_Layout_Config m_layout_Layout_Chunks m_layout_Layout_Table m_layout_Layout_Kind m_layout_Layout_Count m_layout_Layout_Bits m_layout_Layout_Next m_layout_Layout_Prev m_layout_Layout_Head m_layout_Layout_Bin m_layout_Layout_Cache m_layout_Layout_User m_layout_Layout_Words m_layout_Layout_Live) (⟨133, 0⟩ : Cx) (at_ (bodyOf Try.f36) [1, 1, 1, 1, 0, 1, 0, 0]) (mkEnv [(1, .ptr 0 0), (3, .ptr 1 0), (4, .row 2), (6, vi (i_))]) [.cells 28 (e_layout_Layout l2), .cells 23 [vi (c), vi (c2), vi (c3), vi (c4), vi (c5), vi (c6), vi (c7), vi (c8), vi (c9), vi (c10), vi (c11)], .row 0 (w : List (Int)) Bool.false] (roundK (cfg_law02_named m_layout_Layout_Config m_layout_Layout_Chunks m_layout_Layout_Table m_layout_Layout_Kind m_layout_Layout_Count m_layout_Layout_Bits m_layout_Layout_Next m_layout_Layout_Prev m_layout_Layout_Head m_layout_Layout_Bin m_layout_Layout_Cache m_layout_Layout_User m_layout_Layout_Words m_layout_Layout_Live) (⟨133, 0⟩ : Cx) (at_ (bodyOf Try.f36) [1, 1, 1, 1, 0, 1, 0, 0]) (contK (cfg_law02_named m_layout_Layout_Config m_layout_Layout_Chunks m_layout_Layout_Table m_layout_Layout_Kind m_layout_Layout_Count m_layout_Layout_Bits m_layout_Layout_Next m_layout_Layout_Prev m_layout_Layout_Head m_layout_Layout_Bin m_layout_Layout_Cache m_layout_Layout_User m_layout_Layout_Words m_layout_Layout_Live) (⟨133, 0⟩ : Cx) (bodyOf Try.f36) [1, 1, 1, 1, 0, 1, 0] (retK (cfg_law02_named m_layout_Layout_Config m_layout_Layout_Chunks m_layout_Layout_Table m_layout_Layout_Kind m_layout_Layout_Count m_layout_Layout_Bits m_layout_Layout_Next m_layout_Layout_Prev m_layout_Layout_Head m_layout_Layout_Bin m_layout_Layout_Cache m_layout_Layout_User m_layout_Layout_Words m_layout_Layout_Live) Try.f36 0 K)) J1)) = (
    So (m_layout_Layout_Chunks l2) (fun (y0 : Int) => (br (Decidable.decide (i_ < y0)) (So (m_layout_Layout_Table l2 i_) (fun (y1 : Int) => (Req (Decidable.decide (List.length w + 1 ≤ 1048576)) (J1 (mkEnv [(1, .ptr 0 0), (3, .ptr 1 0), (4, .row 2), (6, vi (IntKind.wrap IntKind.i64 (i_ + 1)))]) [.cells 28 (e_layout_Layout l2), .cells 23 [vi (c), vi (c2), vi (c3), vi (c4), vi (c5), vi (c6), vi (c7), vi (c8), vi (c9), vi (c10), vi (c11)], .row 0 (w ++ [y1] : List (Int)) Bool.false])))) (Loop (cfg_law02_named m_layout_Layout_Config m_layout_Layout_Chunks m_layout_Layout_Table m_layout_Layout_Kind m_layout_Layout_Count m_layout_Layout_Bits m_layout_Layout_Next m_layout_Layout_Prev m_layout_Layout_Head m_layout_Layout_Bin m_layout_Layout_Cache m_layout_Layout_User m_layout_Layout_Words m_layout_Layout_Live) (⟨133, 0⟩ : Cx) (at_ (bodyOf Try.f36) [1, 1, 1, 1, 1, 0, 1, 0, 0]) (mkEnv [(1, .ptr 0 0), (3, .ptr 1 0), (4, .row 2), (7, vi (0))]) [.cells 28 (e_layout_Layout l2), .cells 23 [vi (c), vi (c2), vi (c3), vi (c4), vi (c5), vi (c6), vi (c7), vi (c8), vi (c9), vi (c10), vi (c11)], .row 0 (w : List (Int)) Bool.false] (contK (cfg_law02_named m_layout_Layout_Config m_layout_Layout_Chunks m_layout_Layout_Table m_layout_Layout_Kind m_layout_Layout_Count m_layout_Layout_Bits m_layout_Layout_Next m_layout_Layout_Prev m_layout_Layout_Head m_layout_Layout_Bin m_layout_Layout_Cache m_layout_Layout_User m_layout_Layout_Words m_layout_Layout_Live) (⟨133, 0⟩ : Cx) (bodyOf Try.f36) [1, 1, 1, 1, 1, 0, 1, 0] (retK (cfg_law02_named m_layout_Layout_Config m_layout_Layout_Chunks m_layout_Layout_Table m_layout_Layout_Kind m_layout_Layout_Count m_layout_Layout_Bits m_layout_Layout_Next m_layout_Layout_Prev m_layout_Layout_Head m_layout_Layout_Bin m_layout_Layout_Cache m_layout_Layout_User m_layout_Layout_Words m_layout_Layout_Live) Try.f36 0 K)))))) := by
  kernel_rfl

theorem nf_law02_named_1 (m_layout_Layout_Config : T_layout_Layout → Option (T_api_Config)) (m_layout_Layout_Chunks : T_layout_Layout → Option (Int)) (m_layout_Layout_Table : T_layout_Layout → Int → Option (Int)) (m_layout_Layout_Kind : T_layout_Layout → Int → Option (Int)) (m_layout_Layout_Count : T_layout_Layout → Int → Option (Int)) (m_layout_Layout_Bits : T_layout_Layout → Int → Option (Int)) (m_layout_Layout_Next : T_layout_Layout → Int → Option (Int)) (m_layout_Layout_Prev : T_layout_Layout → Int → Option (Int)) (m_layout_Layout_Head : T_layout_Layout → Int → Int → Option (Int)) (m_layout_Layout_Bin : T_layout_Layout → Int → Option (Int)) (m_layout_Layout_Cache : T_layout_Layout → Int → Int → Option (Int)) (m_layout_Layout_User : T_layout_Layout → Option (Int)) (m_layout_Layout_Words : T_layout_Layout → Option (Int)) (m_layout_Layout_Live : T_layout_Layout → Int → Option (Int)) (l2 : T_layout_Layout) (i_ : Int) (c : Int) (c2 : Int) (c3 : Int) (c4 : Int) (c5 : Int) (c6 : Int) (c7 : Int) (c8 : Int) (c9 : Int) (c10 : Int) (c11 : Int) (w : List Int) (K : V → Heap → Prop) (J1 : Env → Heap → Prop) : (ex (cfg_law02_named m_layout_Layout_Config m_layout_Layout_Chunks m_layout_Layout_Table m_layout_Layout_Kind m_layout_Layout_Count m_layout_Layout_Bits m_layout_Layout_Next m_layout_Layout_Prev m_layout_Layout_Head m_layout_Layout_Bin m_layout_Layout_Cache m_layout_Layout_User m_layout_Layout_Words m_layout_Layout_Live) (⟨133, 0⟩ : Cx) (at_ (bodyOf Try.f36) [1, 1, 1, 0, 1, 0, 0]) (mkEnv [(1, .ptr 0 0), (3, .ptr 1 0), (4, .row 2), (5, vi (i_))]) [.cells 28 (e_layout_Layout l2), .cells 23 [vi (c), vi (c2), vi (c3), vi (c4), vi (c5), vi (c6), vi (c7), vi (c8), vi (c9), vi (c10), vi (c11)], .row 0 (w : List (Int)) Bool.false] (roundK (cfg_law02_named m_layout_Layout_Config m_layout_Layout_Chunks m_layout_Layout_Table m_layout_Layout_Kind m_layout_Layout_Count m_layout_Layout_Bits m_layout_Layout_Next m_layout_Layout_Prev m_layout_Layout_Head m_layout_Layout_Bin m_layout_Layout_Cache m_layout_Layout_User m_layout_Layout_Words m_layout_Layout_Live) (⟨133, 0⟩ : Cx) (at_ (bodyOf Try.f36) [1, 1, 1, 0, 1, 0, 0]) (contK (cfg_law02_named m_layout_Layout_Config m_layout_Layout_Chunks m_layout_Layout_Table m_layout_Layout_Kind m_layout_Layout_Count m_layout_Layout_Bits m_layout_Layout_Next m_layout_Layout_Prev m_layout_Layout_Head m_layout_Layout_Bin m_layout_Layout_Cache m_layout_Layout_User m_layout_Layout_Words m_layout_Layout_Live) (⟨133, 0⟩ : Cx) (bodyOf Try.f36) [1, 1, 1, 0, 1, 0] (retK (cfg_law02_named m_layout_Layout_Config m_layout_Layout_Chunks m_layout_Layout_Table m_layout_Layout_Kind m_layout_Layout_Count m_layout_Layout_Bits m_layout_Layout_Next m_layout_Layout_Prev m_layout_Layout_Head m_layout_Layout_Bin m_layout_Layout_Cache m_layout_Layout_User m_layout_Layout_Words m_layout_Layout_Live) Try.f36 0 K)) J1)) = (
    br (Decidable.decide (i_ < c4)) (Req (Decidable.decide (List.length w + 1 ≤ 1048576)) (J1 (mkEnv [(1, .ptr 0 0), (3, .ptr 1 0), (4, .row 2), (5, vi (IntKind.wrap IntKind.i64 (i_ + 1)))]) [.cells 28 (e_layout_Layout l2), .cells 23 [vi (c), vi (c2), vi (c3), vi (c4), vi (c5), vi (c6), vi (c7), vi (c8), vi (c9), vi (c10), vi (c11)], .row 0 (w ++ [IntKind.wrap IntKind.i64 (3 + i_)] : List (Int)) Bool.false])) (Loop (cfg_law02_named m_layout_Layout_Config m_layout_Layout_Chunks m_layout_Layout_Table m_layout_Layout_Kind m_layout_Layout_Count m_layout_Layout_Bits m_layout_Layout_Next m_layout_Layout_Prev m_layout_Layout_Head m_layout_Layout_Bin m_layout_Layout_Cache m_layout_Layout_User m_layout_Layout_Words m_layout_Layout_Live) (⟨133, 0⟩ : Cx) (at_ (bodyOf Try.f36) [1, 1, 1, 1, 0, 1, 0, 0]) (mkEnv [(1, .ptr 0 0), (3, .ptr 1 0), (4, .row 2), (6, vi (0))]) [.cells 28 (e_layout_Layout l2), .cells 23 [vi (c), vi (c2), vi (c3), vi (c4), vi (c5), vi (c6), vi (c7), vi (c8), vi (c9), vi (c10), vi (c11)], .row 0 (w : List (Int)) Bool.false] (contK (cfg_law02_named m_layout_Layout_Config m_layout_Layout_Chunks m_layout_Layout_Table m_layout_Layout_Kind m_layout_Layout_Count m_layout_Layout_Bits m_layout_Layout_Next m_layout_Layout_Prev m_layout_Layout_Head m_layout_Layout_Bin m_layout_Layout_Cache m_layout_Layout_User m_layout_Layout_Words m_layout_Layout_Live) (⟨133, 0⟩ : Cx) (bodyOf Try.f36) [1, 1, 1, 1, 0, 1, 0] (retK (cfg_law02_named m_layout_Layout_Config m_layout_Layout_Chunks m_layout_Layout_Table m_layout_Layout_Kind m_layout_Layout_Count m_layout_Layout_Bits m_layout_Layout_Next m_layout_Layout_Prev m_layout_Layout_Head m_layout_Layout_Bin m_layout_Layout_Cache m_layout_Layout_User m_layout_Layout_Words m_layout_Layout_Live) Try.f36 0 K)))) := by
  kernel_rfl

theorem nf_law02_named (m_layout_Layout_Config : T_layout_Layout → Option (T_api_Config)) (m_layout_Layout_Chunks : T_layout_Layout → Option (Int)) (m_layout_Layout_Table : T_layout_Layout → Int → Option (Int)) (m_layout_Layout_Kind : T_layout_Layout → Int → Option (Int)) (m_layout_Layout_Count : T_layout_Layout → Int → Option (Int)) (m_layout_Layout_Bits : T_layout_Layout → Int → Option (Int)) (m_layout_Layout_Next : T_layout_Layout → Int → Option (Int)) (m_layout_Layout_Prev : T_layout_Layout → Int → Option (Int)) (m_layout_Layout_Head : T_layout_Layout → Int → Int → Option (Int)) (m_layout_Layout_Bin : T_layout_Layout → Int → Option (Int)) (m_layout_Layout_Cache : T_layout_Layout → Int → Int → Option (Int)) (m_layout_Layout_User : T_layout_Layout → Option (Int)) (m_layout_Layout_Words : T_layout_Layout → Option (Int)) (m_layout_Layout_Live : T_layout_Layout → Int → Option (Int)) (l2 : T_layout_Layout) (K : V → Heap → Prop) : (exF (cfg_law02_named m_layout_Layout_Config m_layout_Layout_Chunks m_layout_Layout_Table m_layout_Layout_Kind m_layout_Layout_Count m_layout_Layout_Bits m_layout_Layout_Next m_layout_Layout_Prev m_layout_Layout_Head m_layout_Layout_Bin m_layout_Layout_Cache m_layout_Layout_User m_layout_Layout_Words m_layout_Layout_Live) Try.f36 [.agg (e_layout_Layout l2)] [] K) = (
    So (m_layout_Layout_Config l2) (fun (y0 : T_api_Config) => (Loop (cfg_law02_named m_layout_Layout_Config m_layout_Layout_Chunks m_layout_Layout_Table m_layout_Layout_Kind m_layout_Layout_Count m_layout_Layout_Bits m_layout_Layout_Next m_layout_Layout_Prev m_layout_Layout_Head m_layout_Layout_Bin m_layout_Layout_Cache m_layout_Layout_User m_layout_Layout_Words m_layout_Layout_Live) (⟨133, 0⟩ : Cx) (at_ (bodyOf Try.f36) [1, 1, 1, 0, 1, 0, 0]) (mkEnv [(1, .ptr 0 0), (3, .ptr 1 0), (4, .row 2), (5, vi (0))]) [.cells 28 (e_layout_Layout l2), .cells 23 (e_api_Config y0), .row 0 ([] : List (Int)) Bool.false] (contK (cfg_law02_named m_layout_Layout_Config m_layout_Layout_Chunks m_layout_Layout_Table m_layout_Layout_Kind m_layout_Layout_Count m_layout_Layout_Bits m_layout_Layout_Next m_layout_Layout_Prev m_layout_Layout_Head m_layout_Layout_Bin m_layout_Layout_Cache m_layout_Layout_User m_layout_Layout_Words m_layout_Layout_Live) (⟨133, 0⟩ : Cx) (bodyOf Try.f36) [1, 1, 1, 0, 1, 0] (retK (cfg_law02_named m_layout_Layout_Config m_layout_Layout_Chunks m_layout_Layout_Table m_layout_Layout_Kind m_layout_Layout_Count m_layout_Layout_Bits m_layout_Layout_Next m_layout_Layout_Prev m_layout_Layout_Head m_layout_Layout_Bin m_layout_Layout_Cache m_layout_Layout_User m_layout_Layout_Words m_layout_Layout_Live) Try.f36 0 K))))) := by
  kernel_rfl

theorem nf_law02_LayoutApart_1 (m_law02_Some : T_api_Config → Option (T_api_Config)) (m_layout_Of : T_api_Config → Option (T_layout_Layout × Int)) (m_layout_Layout_Words : T_layout_Layout → Option (Int)) (m_law02_named : T_layout_Layout → Option ((List Int))) (m_law02_lives : Option (Bool)) (c : T_api_Config) (words : Int) (i_ : Int) (w : List Bool) (w2 : List Int) (K : V → Heap → Prop) (J1 : Env → Heap → Prop) : (ex (cfg_law02_LayoutApart m_law02_Some m_layout_Of m_layout_Layout_Words m_law02_named m_law02_lives) (⟨65, 0⟩ : Cx) (at_ (bodyOf Try.f5) [1, 1, 1, 1, 1, 1, 1, 1, 0, 1, 0, 0]) (mkEnv [(5, vi (words)), (6, .row 0), (7, .row 1), (8, vi (i_))]) [.row 1 (w : List (Bool)) Bool.false, .row 0 (w2 : List (Int)) Bool.false] (roundK (cfg_law02_LayoutApart m_law02_Some m_layout_Of m_layout_Layout_Words m_law02_named m_law02_lives) (⟨65, 0⟩ : Cx) (at_ (bodyOf Try.f5) [1, 1, 1, 1, 1, 1, 1, 1, 0, 1, 0, 0]) (contK (cfg_law02_LayoutApart m_law02_Some m_layout_Of m_layout_Layout_Words m_law02_named m_law02_lives) (⟨65, 0⟩ : Cx) (bodyOf Try.f5) [1, 1, 1, 1, 1, 1, 1, 1, 0, 1, 0] (retK (cfg_law02_LayoutApart m_law02_Some m_layout_Of m_layout_Layout_Words m_law02_named m_law02_lives) Try.f5 0 K)) J1)) = (
    br (Decidable.decide (i_ < (↑(List.length w2) : Int))) (Req (inR i_ (List.length w2)) (Req (inR (offs i_ 0) (List.length w2)) (br (Decidable.decide (List.getD w2 (Int.toNat (offs i_ 0)) 0 < 3)) (K (vb (Bool.false)) []) (br (Decidable.decide (List.getD w2 (Int.toNat (offs i_ 0)) 0 ≥ words)) (K (vb (Bool.false)) []) (Req (inR (List.getD w2 (Int.toNat (offs i_ 0)) 0) (List.length w)) (Req (inR (offs (List.getD w2 (Int.toNat (offs i_ 0)) 0) 0) (List.length w)) (br (List.getD w (Int.toNat (offs (List.getD w2 (Int.toNat (offs i_ 0)) 0) 0)) Bool.false) (K (vb (Bool.false)) []) (Req (inR (List.getD w2 (Int.toNat (offs i_ 0)) 0) (List.length w)) (Req (inR (offs (List.getD w2 (Int.toNat (offs i_ 0)) 0) 0) (List.length w)) (J1 (mkEnv [(5, vi (words)), (6, .row 0), (7, .row 1), (8, vi (IntKind.wrap IntKind.i64 (i_ + 1)))]) [.row 1 (List.set w (Int.toNat (offs (List.getD w2 (Int.toNat (offs i_ 0)) 0) 0)) Bool.true : List (Bool)) Bool.false, .row 0 (w2 : List (Int)) Bool.false])))))))))) (So (m_law02_lives) (fun (y0 : Bool) => (K (vb (y0)) [])))) := by
  kernel_rfl

theorem nf_law02_LayoutApart (m_law02_Some : T_api_Config → Option (T_api_Config)) (m_layout_Of : T_api_Config → Option (T_layout_Layout × Int)) (m_layout_Layout_Words : T_layout_Layout → Option (Int)) (m_law02_named : T_layout_Layout → Option ((List Int))) (m_law02_lives : Option (Bool)) (c : T_api_Config) (K : V → Heap → Prop) : (exF (cfg_law02_LayoutApart m_law02_Some m_layout_Of m_layout_Layout_Words m_law02_named m_law02_lives) Try.f5 [.agg (e_api_Config c)] [] K) = (
    So (m_law02_Some c) (fun (y0 : T_api_Config) => (So (m_layout_Of (T_api_Config.mk (T_api_Config.Workers y0) (T_api_Config.CPUs y0) (IntKind.wrap IntKind.i64 (1 + Int.tmod (T_api_Config.Pages y0) 20)) (T_api_Config.Stripes y0) (T_api_Config.Tries y0) (T_api_Config.Wait y0) (T_api_Config.Clock y0) (T_api_Config.Private y0) (T_api_Config.Cache y0) (T_api_Config.Bin y0) (T_api_Config.Batch y0))) (fun (y1 : T_layout_Layout × Int) => (So (m_layout_Layout_Words (Prod.fst y1)) (fun (y2 : Int) => (br (Prod.snd y1 != 0) (K (vb (Bool.false)) []) (br (Decidable.decide (y2 < 1)) (K (vb (Bool.false)) []) (br (Decidable.decide (y2 > 1048576)) (K (vb (Bool.false)) []) (Req (Decidable.decide (0 ≤ y2 ∧ y2 ≤ y2 ∧ y2 ≤ 1048576)) (So (m_law02_named (Prod.fst y1)) (fun (y3 : List Int) => (Loop (cfg_law02_LayoutApart m_law02_Some m_layout_Of m_layout_Layout_Words m_law02_named m_law02_lives) (⟨65, 0⟩ : Cx) (at_ (bodyOf Try.f5) [1, 1, 1, 1, 1, 1, 1, 1, 0, 1, 0, 0]) (mkEnv [(5, vi (y2)), (6, .row 0), (7, .row 1), (8, vi (0))]) [.row 1 (List.replicate (Int.toNat y2) Bool.false : List (Bool)) Bool.false, .row 0 (y3 : List (Int)) Bool.false] (contK (cfg_law02_LayoutApart m_law02_Some m_layout_Of m_layout_Layout_Words m_law02_named m_law02_lives) (⟨65, 0⟩ : Cx) (bodyOf Try.f5) [1, 1, 1, 1, 1, 1, 1, 1, 0, 1, 0] (retK (cfg_law02_LayoutApart m_law02_Some m_layout_Of m_layout_Layout_Words m_law02_named m_law02_lives) Try.f5 0 K))))))))))))))) := by
  kernel_rfl

noncomputable def m_law02_within (n : Int) (low : Int) (high : Int) : Option (Int) :=
  (bif (!IntKind.wrap IntKind.u64 (IntKind.wrap IntKind.i64 (IntKind.wrap IntKind.i64 (high - low) + 1)) == 0) then some ((IntKind.wrap IntKind.i64 (low + IntKind.wrap IntKind.i64 (Int.tmod (IntKind.wrap IntKind.u64 n) (IntKind.wrap IntKind.u64 (IntKind.wrap IntKind.i64 (IntKind.wrap IntKind.i64 (high - low) + 1))))))) else none)

noncomputable def m_law02_Some (c : T_api_Config) : Option (T_api_Config) :=
  ((m_law02_within (T_api_Config.Workers c) 1 64).bind fun y0 => ((m_law02_within (T_api_Config.CPUs c) 1 8).bind fun y1 => ((m_law02_within (T_api_Config.Pages c) 1 256).bind fun y2 => ((m_law02_within (T_api_Config.Stripes c) 1 64).bind fun y3 => ((m_law02_within (T_api_Config.Tries c) 0 16).bind fun y4 => ((m_law02_within (T_api_Config.Wait c) 0 64).bind fun y5 => ((m_law02_within (T_api_Config.Clock c) 1 1099511627776).bind fun y6 => ((m_law02_within (T_api_Config.Private c) 1 8).bind fun y7 => ((m_law02_within (T_api_Config.Cache c) 0 8).bind fun y8 => ((m_law02_within (T_api_Config.Bin c) 0 16).bind fun y9 => ((m_law02_within (T_api_Config.Batch c) 1 8).bind fun y10 => some ((T_api_Config.mk (y0) (y1) (y2) (y3) (y4) (y5) (y6) (y7) (y8) (y9) (y10))))))))))))))

noncomputable def m_law02_lives  : Option (Bool) :=
  ((m_layout_Of (T_api_Config.mk 1 1 1 1 0 0 9 1 0 0 1)).bind fun y0 => ((m_layout_Layout_Place (Prod.fst y0) 130).bind fun y1 => (bif (Prod.snd y0 == 0) then ((m_layout_Layout_Table (Prod.fst y0) 0).bind fun y2 => (bif (y2 == 4) then ((m_layout_Layout_Kind (Prod.fst y0) 0).bind fun y3 => (bif (y3 == 5) then ((m_layout_Layout_Head (Prod.fst y0) 0 1).bind fun y4 => (bif (y4 == 10) then ((m_layout_Layout_Cache (Prod.fst y0) 0 0).bind fun y5 => (bif (y5 == 72) then ((m_layout_Layout_Bin (Prod.fst y0) 0).bind fun y6 => (bif (y6 == 77) then ((m_layout_Layout_User (Prod.fst y0)).bind fun y7 => (bif (y7 == 128) then ((m_layout_Layout_Words (Prod.fst y0)).bind fun y8 => (bif (y8 == 160) then (bif (Prod.fst y1 == 0) then (bif (Prod.fst (Prod.snd y1) == 2) then some ((Prod.snd (Prod.snd y1))) else some ((Bool.false))) else some ((Bool.false))) else some ((Bool.false)))) else some ((Bool.false)))) else some ((Bool.false)))) else some ((Bool.false)))) else some ((Bool.false)))) else some ((Bool.false)))) else some ((Bool.false)))) else some ((Bool.false)))))

noncomputable def sb_law02_named_9 (l2 : T_layout_Layout) (q : Int) (c9 : Int) (cpu : Int) (i_ : Int) (w3 : List Int) : Option ((Int × (List Int)) ⊕ ((Int × (List Int)) ⊕ ((Int × Int × (List Int)) ⊕ ((List Int))))) :=
  (bif (Decidable.decide (i_ ≤ c9)) then ((m_layout_Layout_Cache l2 cpu q).bind fun y0 => (bif (Decidable.decide (List.length w3 + 1 ≤ 1048576)) then some (.inl ((IntKind.wrap IntKind.i64 (i_ + 1)), (w3 ++ [IntKind.wrap IntKind.i64 (y0 + i_)]))) else none)) else some (.inr (.inl ((IntKind.wrap IntKind.i64 (cpu + 1)), (w3)))))

noncomputable def lp_law02_named_9 (l2 : T_layout_Layout) (q : Int) (c9 : Int) (cpu : Int) (s : Int × (List Int)) : Option ((Int × (List Int)) ⊕ ((Int × Int × (List Int)) ⊕ ((List Int)))) :=
  loopO (fun s => sb_law02_named_9 l2 q c9 cpu s.1 s.2) s

noncomputable def sb_law02_named_8 (l2 : T_layout_Layout) (slots : Int) (q : Int) (c2 : Int) (c9 : Int) (cpu : Int) (w2 : List Int) : Option ((Int × (List Int)) ⊕ ((Int × Int × (List Int)) ⊕ ((List Int)))) :=
  (bif (Decidable.decide (cpu < c2)) then (lp_law02_named_9 l2 q c9 cpu ((0), (w2))) else some (.inr (.inl ((IntKind.wrap IntKind.i64 (Int.tdiv slots 2)), (IntKind.wrap IntKind.i64 (q + 1)), (w2)))))

noncomputable def lp_law02_named_8 (l2 : T_layout_Layout) (slots : Int) (q : Int) (c2 : Int) (c9 : Int) (s : Int × (List Int)) : Option ((Int × Int × (List Int)) ⊕ ((List Int))) :=
  loopO (fun s => sb_law02_named_8 l2 slots q c2 c9 s.1 s.2) s

noncomputable def sb_law02_named_7 (l2 : T_layout_Layout) (slots : Int) (q : Int) (c2 : Int) (c9 : Int) (c10 : Int) (i_ : Int) (w2 : List Int) : Option ((Int × (List Int)) ⊕ ((Int × Int × (List Int)) ⊕ ((List Int)))) :=
  (bif (Decidable.decide (i_ ≤ c10)) then ((m_layout_Layout_Bin l2 q).bind fun y0 => (bif (Decidable.decide (List.length w2 + 1 ≤ 1048576)) then some (.inl ((IntKind.wrap IntKind.i64 (i_ + 1)), (w2 ++ [IntKind.wrap IntKind.i64 (y0 + i_)]))) else none)) else ((lp_law02_named_8 l2 slots q c2 c9 ((0), (w2))).bind fun z => some (.inr z)))

noncomputable def lp_law02_named_7 (l2 : T_layout_Layout) (slots : Int) (q : Int) (c2 : Int) (c9 : Int) (c10 : Int) (s : Int × (List Int)) : Option ((Int × Int × (List Int)) ⊕ ((List Int))) :=
  loopO (fun s => sb_law02_named_7 l2 slots q c2 c9 c10 s.1 s.2) s

noncomputable def sb_law02_named_5 (l2 : T_layout_Layout) (slots : Int) (q : Int) (c2 : Int) (c9 : Int) (c10 : Int) (f : Int) (w2 : List Int) : Option ((Int × (List Int)) ⊕ ((Int × Int × (List Int)) ⊕ ((List Int)))) :=
  (bif (Decidable.decide (f ≤ slots)) then ((m_layout_Layout_Head l2 q f).bind fun y0 => (bif (Decidable.decide (List.length w2 + 1 ≤ 1048576)) then some (.inl ((IntKind.wrap IntKind.i64 (f + 1)), (w2 ++ [y0]))) else none)) else ((lp_law02_named_7 l2 slots q c2 c9 c10 ((0), (w2))).bind fun z => some (.inr z)))

noncomputable def lp_law02_named_5 (l2 : T_layout_Layout) (slots : Int) (q : Int) (c2 : Int) (c9 : Int) (c10 : Int) (s : Int × (List Int)) : Option ((Int × Int × (List Int)) ⊕ ((List Int))) :=
  loopO (fun s => sb_law02_named_5 l2 slots q c2 c9 c10 s.1 s.2) s

noncomputable def sb_law02_named_6 (l2 : T_layout_Layout) (a : Int) (w : List Int) : Option ((Int × (List Int)) ⊕ ((List Int))) :=
  ((m_layout_Layout_Words l2).bind fun y0 => (bif (Decidable.decide (a < y0)) then ((m_layout_Layout_Live l2 a).bind fun y1 => (bif (Decidable.decide (List.length w + 2 ≤ 1048576)) then some (.inl ((IntKind.wrap IntKind.i64 (a + 1)), (w ++ [a, y1]))) else none)) else some (.inr ((w)))))

noncomputable def lp_law02_named_6 (l2 : T_layout_Layout) (s : Int × (List Int)) : Option ((List Int)) :=
  loopO (fun s => sb_law02_named_6 l2 s.1 s.2) s

noncomputable def sb_law02_named_4 (l2 : T_layout_Layout) (c2 : Int) (c9 : Int) (c10 : Int) (slots : Int) (q : Int) (w : List Int) : Option ((Int × Int × (List Int)) ⊕ ((List Int))) :=
  (bif (Decidable.decide (q < 5)) then (lp_law02_named_5 l2 slots q c2 c9 c10 ((1), (w))) else ((m_layout_Layout_User l2).bind fun y0 => ((lp_law02_named_6 l2 ((y0), (w))).bind fun z => some (.inr z))))

noncomputable def lp_law02_named_4 (l2 : T_layout_Layout) (c2 : Int) (c9 : Int) (c10 : Int) (s : Int × Int × (List Int)) : Option ((List Int)) :=
  loopO (fun s => sb_law02_named_4 l2 c2 c9 c10 s.1 s.2.1 s.2.2) s

noncomputable def sb_law02_named_3 (l2 : T_layout_Layout) (c2 : Int) (c3 : Int) (c9 : Int) (c10 : Int) (p : Int) (w : List Int) : Option ((Int × (List Int)) ⊕ ((List Int))) :=
  (bif (Decidable.decide (p < c3)) then ((m_layout_Layout_Kind l2 p).bind fun y0 => ((m_layout_Layout_Count l2 p).bind fun y1 => ((m_layout_Layout_Bits l2 p).bind fun y2 => ((m_layout_Layout_Next l2 p).bind fun y3 => ((m_layout_Layout_Prev l2 p).bind fun y4 => (bif (Decidable.decide (List.length w + 5 ≤ 1048576)) then some (.inl ((IntKind.wrap IntKind.i64 (p + 1)), (w ++ [y0, y1, y2, y3, y4]))) else none)))))) else ((lp_law02_named_4 l2 (c2) (c9) (c10) ((32), (0), (w))).bind fun z => some (.inr z)))

noncomputable def lp_law02_named_3 (l2 : T_layout_Layout) (c2 : Int) (c3 : Int) (c9 : Int) (c10 : Int) (s : Int × (List Int)) : Option ((List Int)) :=
  loopO (fun s => sb_law02_named_3 l2 c2 c3 c9 c10 s.1 s.2) s

noncomputable def sb_law02_named_2 (l2 : T_layout_Layout) (c2 : Int) (c3 : Int) (c9 : Int) (c10 : Int) (i_ : Int) (w : List Int) : Option ((Int × (List Int)) ⊕ ((List Int))) :=
  ((m_layout_Layout_Chunks l2).bind fun y0 => (bif (Decidable.decide (i_ < y0)) then ((m_layout_Layout_Table l2 i_).bind fun y1 => (bif (Decidable.decide (List.length w + 1 ≤ 1048576)) then some (.inl ((IntKind.wrap IntKind.i64 (i_ + 1)), (w ++ [y1]))) else none)) else ((lp_law02_named_3 l2 (c2) (c3) (c9) (c10) ((0), (w))).bind fun z => some (.inr z))))

noncomputable def lp_law02_named_2 (l2 : T_layout_Layout) (c2 : Int) (c3 : Int) (c9 : Int) (c10 : Int) (s : Int × (List Int)) : Option ((List Int)) :=
  loopO (fun s => sb_law02_named_2 l2 c2 c3 c9 c10 s.1 s.2) s

noncomputable def sb_law02_named_1 (l2 : T_layout_Layout) (c2 : Int) (c3 : Int) (c4 : Int) (c9 : Int) (c10 : Int) (i_ : Int) (w : List Int) : Option ((Int × (List Int)) ⊕ ((List Int))) :=
  (bif (Decidable.decide (i_ < c4)) then (bif (Decidable.decide (List.length w + 1 ≤ 1048576)) then some (.inl ((IntKind.wrap IntKind.i64 (i_ + 1)), (w ++ [IntKind.wrap IntKind.i64 (3 + i_)]))) else none) else ((lp_law02_named_2 l2 (c2) (c3) (c9) (c10) ((0), (w))).bind fun z => some (.inr z)))

noncomputable def lp_law02_named_1 (l2 : T_layout_Layout) (c2 : Int) (c3 : Int) (c4 : Int) (c9 : Int) (c10 : Int) (s : Int × (List Int)) : Option ((List Int)) :=
  loopO (fun s => sb_law02_named_1 l2 c2 c3 c4 c9 c10 s.1 s.2) s

noncomputable def m_law02_named (l2 : T_layout_Layout) : Option ((List Int)) :=
  ((m_layout_Layout_Config l2).bind fun y0 => (lp_law02_named_1 l2 (T_api_Config.CPUs y0) (T_api_Config.Pages y0) (T_api_Config.Stripes y0) (T_api_Config.Cache y0) (T_api_Config.Bin y0) ((0), ([]))))

noncomputable def sb_law02_LayoutApart_1 (words : Int) (w2 : List Int) (i_ : Int) (w : List Bool) : Option ((Int × (List Bool)) ⊕ (Bool)) :=
  (bif (Decidable.decide (i_ < (↑(List.length w2) : Int))) then (bif (inR i_ (List.length w2)) then (bif (inR (offs i_ 0) (List.length w2)) then (bif (Decidable.decide (List.getD w2 (Int.toNat (offs i_ 0)) 0 < 3)) then some (.inr ((Bool.false))) else (bif (Decidable.decide (List.getD w2 (Int.toNat (offs i_ 0)) 0 ≥ words)) then some (.inr ((Bool.false))) else (bif (inR (List.getD w2 (Int.toNat (offs i_ 0)) 0) (List.length w)) then (bif (inR (offs (List.getD w2 (Int.toNat (offs i_ 0)) 0) 0) (List.length w)) then (bif (List.getD w (Int.toNat (offs (List.getD w2 (Int.toNat (offs i_ 0)) 0) 0)) Bool.false) then some (.inr ((Bool.false))) else (bif (inR (List.getD w2 (Int.toNat (offs i_ 0)) 0) (List.length w)) then (bif (inR (offs (List.getD w2 (Int.toNat (offs i_ 0)) 0) 0) (List.length w)) then some (.inl ((IntKind.wrap IntKind.i64 (i_ + 1)), (List.set w (Int.toNat (offs (List.getD w2 (Int.toNat (offs i_ 0)) 0) 0)) Bool.true))) else none) else none)) else none) else none))) else none) else none) else ((m_law02_lives).bind fun y0 => some (.inr ((y0)))))

noncomputable def lp_law02_LayoutApart_1 (words : Int) (w2 : List Int) (s : Int × (List Bool)) : Option (Bool) :=
  loopO (fun s => sb_law02_LayoutApart_1 words w2 s.1 s.2) s

noncomputable def m_law02_LayoutApart (c : T_api_Config) : Option (Bool) :=
  ((m_law02_Some c).bind fun y0 => ((m_layout_Of (T_api_Config.mk (T_api_Config.Workers y0) (T_api_Config.CPUs y0) (IntKind.wrap IntKind.i64 (1 + Int.tmod (T_api_Config.Pages y0) 20)) (T_api_Config.Stripes y0) (T_api_Config.Tries y0) (T_api_Config.Wait y0) (T_api_Config.Clock y0) (T_api_Config.Private y0) (T_api_Config.Cache y0) (T_api_Config.Bin y0) (T_api_Config.Batch y0))).bind fun y1 => ((m_layout_Layout_Words (Prod.fst y1)).bind fun y2 => (bif (Prod.snd y1 != 0) then some ((Bool.false)) else (bif (Decidable.decide (y2 < 1)) then some ((Bool.false)) else (bif (Decidable.decide (y2 > 1048576)) then some ((Bool.false)) else (bif (Decidable.decide (0 ≤ y2 ∧ y2 ≤ y2 ∧ y2 ≤ 1048576)) then ((m_law02_named (Prod.fst y1)).bind fun y3 => (lp_law02_LayoutApart_1 (y2) (y3) ((0), (List.replicate (Int.toNat y2) Bool.false)))) else none)))))))

attribute [local irreducible] Loop ex exF contK roundK retK at_ bodyOf mkEnv
theorem ok_law02_within : SpecOK Try.prog elTT 69 (sp_law02_within m_law02_within) := by
  refine spec_of_exF (cfg := cfg_law02_within) (cfg_ok rfl rfl rfl) sig_nil (fn := Try.f69) (by kernel_rfl) (by kernel_rfl) (by kernel_rfl) ?_
  intro args H K h
  change tr_law02_within m_law02_within args H K at h
  unfold tr_law02_within at h
  replace h := aC_el h
  obtain ⟨a0, _, rfl, h⟩ := h
  replace h := aC_el h
  obtain ⟨a1, _, rfl, h⟩ := h
  replace h := aC_el h
  obtain ⟨a2, _, rfl, h⟩ := h
  replace h := aN_el h
  obtain ⟨rfl, h⟩ := h
  replace h := aInt_el h
  obtain ⟨n, rfl, h⟩ := h
  replace h := aInt_el h
  obtain ⟨low, rfl, h⟩ := h
  replace h := aInt_el h
  obtain ⟨high, rfl, h⟩ := h
  replace h := aN_el h
  obtain ⟨rfl, h⟩ := h
  refine Eq.mpr (nf_law02_within n low high K) ?_
  unfold m_law02_within at h
  revert h
  exact req_So (fun h => h)

theorem ok_law02_Some : SpecOK Try.prog elTT 17 (sp_law02_Some m_law02_Some) := by
  refine spec_of_exF (cfg := (cfg_law02_Some m_law02_within)) (cfg_ok rfl rfl rfl) (sig_cons ok_law02_within sig_nil) (fn := Try.f17) (by kernel_rfl) (by kernel_rfl) (by kernel_rfl) ?_
  intro args H K h
  change tr_law02_Some m_law02_Some args H K at h
  unfold tr_law02_Some at h
  replace h := aC_el h
  obtain ⟨a0, _, rfl, h⟩ := h
  replace h := aN_el h
  obtain ⟨rfl, h⟩ := h
  replace h := aAgg_el h
  obtain ⟨c0, rfl, h⟩ := h
  replace h := d_api_Config_el h
  obtain ⟨c, rfl, h⟩ := h
  replace h := aN_el h
  obtain ⟨rfl, h⟩ := h
  refine Eq.mpr (nf_law02_Some m_law02_within c K) ?_
  unfold m_law02_Some at h
  revert h
  exact bind_So fun y0 => bind_So fun y1 => bind_So fun y2 => bind_So fun y3 => bind_So fun y4 => bind_So fun y5 => bind_So fun y6 => bind_So fun y7 => bind_So fun y8 => bind_So fun y9 => bind_So fun y10 => fun h => h

theorem ok_law02_lives : SpecOK Try.prog elTT 16 (sp_law02_lives m_law02_lives) := by
  refine spec_of_exF (cfg := (cfg_law02_lives m_layout_Of m_layout_Layout_Place m_layout_Layout_Table m_layout_Layout_Kind m_layout_Layout_Head m_layout_Layout_Cache m_layout_Layout_Bin m_layout_Layout_User m_layout_Layout_Words)) (cfg_ok rfl rfl rfl) (sig_cons ok_layout_Of (sig_cons ok_layout_Layout_Place (sig_cons ok_layout_Layout_Table (sig_cons ok_layout_Layout_Kind (sig_cons ok_layout_Layout_Head (sig_cons ok_layout_Layout_Cache (sig_cons ok_layout_Layout_Bin (sig_cons ok_layout_Layout_User (sig_cons ok_layout_Layout_Words sig_nil))))))))) (fn := Try.f16) (by kernel_rfl) (by kernel_rfl) (by kernel_rfl) ?_
  intro args H K h
  change tr_law02_lives m_law02_lives args H K at h
  unfold tr_law02_lives at h
  replace h := aN_el h
  obtain ⟨rfl, h⟩ := h
  replace h := aN_el h
  obtain ⟨rfl, h⟩ := h
  refine Eq.mpr (nf_law02_lives m_layout_Of m_layout_Layout_Place m_layout_Layout_Table m_layout_Layout_Kind m_layout_Layout_Head m_layout_Layout_Cache m_layout_Layout_Bin m_layout_Layout_User m_layout_Layout_Words  K) ?_
  unfold m_law02_lives at h
  revert h
  exact bind_So fun y0 => bind_So fun y1 => br_So (bind_So fun y2 => br_So (bind_So fun y3 => br_So (bind_So fun y4 => br_So (bind_So fun y5 => br_So (bind_So fun y6 => br_So (bind_So fun y7 => br_So (bind_So fun y8 => br_So (br_So (br_So (fun h => h) (fun h => h)) (fun h => h)) (fun h => h)) (fun h => h)) (fun h => h)) (fun h => h)) (fun h => h)) (fun h => h)) (fun h => h)) (fun h => h)

theorem lpok_law02_named_9 (l2 : T_layout_Layout) (slots : Int) (q : Int) (c : Int) (c2 : Int) (c3 : Int) (c4 : Int) (c5 : Int) (c6 : Int) (c7 : Int) (c8 : Int) (c9 : Int) (c10 : Int) (c11 : Int) (w : List Int) (cpu : Int) (w2 : List Int) (i_ : Int) (w3 : List Int) (K : V → Heap → Prop) (J1 : Env → Heap → Prop) (J2 : Env → Heap → Prop) : So (lp_law02_named_9 (l2) (q) (c9) (cpu) (i_, w3)) (sumK (fun (s_ : Int × (List Int)) => J2 (mkEnv [(1, .ptr 0 0), (3, .ptr 1 0), (4, .row 2), (8, vi (slots)), (9, vi (q)), (12, vi ((s_.1)))]) [.cells 28 (e_layout_Layout l2), .cells 23 [vi (c), vi (c2), vi (c3), vi (c4), vi (c5), vi (c6), vi (c7), vi (c8), vi (c9), vi (c10), vi (c11)], .row 0 ((s_.2) : List (Int)) Bool.false]) (sumK (fun (s_ : Int × Int × (List Int)) => J1 (mkEnv [(1, .ptr 0 0), (3, .ptr 1 0), (4, .row 2), (8, vi ((s_.1))), (9, vi ((s_.2.1)))]) [.cells 28 (e_layout_Layout l2), .cells 23 [vi (c), vi (c2), vi (c3), vi (c4), vi (c5), vi (c6), vi (c7), vi (c8), vi (c9), vi (c10), vi (c11)], .row 0 ((s_.2.2) : List (Int)) Bool.false]) (fun (x : (List Int)) => K (.row 0) [.row 0 (x) false]))) → Loop (cfg_law02_named m_layout_Layout_Config m_layout_Layout_Chunks m_layout_Layout_Table m_layout_Layout_Kind m_layout_Layout_Count m_layout_Layout_Bits m_layout_Layout_Next m_layout_Layout_Prev m_layout_Layout_Head m_layout_Layout_Bin m_layout_Layout_Cache m_layout_Layout_User m_layout_Layout_Words m_layout_Layout_Live) (⟨133, 0⟩ : Cx) (at_ (bodyOf Try.f36) [1, 1, 1, 1, 1, 1, 1, 0, 1, 0, 0, 1, 0, 0, 1, 1, 0, 1, 0, 0, 1, 0, 0, 1, 0, 0]) (mkEnv [(1, .ptr 0 0), (3, .ptr 1 0), (4, .row 2), (8, vi (slots)), (9, vi (q)), (12, vi (cpu)), (13, vi (i_))]) [.cells 28 (e_layout_Layout l2), .cells 23 [vi (c), vi (c2), vi (c3), vi (c4), vi (c5), vi (c6), vi (c7), vi (c8), vi (c9), vi (c10), vi (c11)], .row 0 (w3 : List (Int)) Bool.false] (contK (cfg_law02_named m_layout_Layout_Config m_layout_Layout_Chunks m_layout_Layout_Table m_layout_Layout_Kind m_layout_Layout_Count m_layout_Layout_Bits m_layout_Layout_Next m_layout_Layout_Prev m_layout_Layout_Head m_layout_Layout_Bin m_layout_Layout_Cache m_layout_Layout_User m_layout_Layout_Words m_layout_Layout_Live) (⟨133, 0⟩ : Cx) (at_ (bodyOf Try.f36) [1, 1, 1, 1, 1, 1, 1, 0, 1, 0, 0, 1, 0, 0, 1, 1, 0, 1, 0, 0]) [1, 0, 0, 1, 0] (roundK (cfg_law02_named m_layout_Layout_Config m_layout_Layout_Chunks m_layout_Layout_Table m_layout_Layout_Kind m_layout_Layout_Count m_layout_Layout_Bits m_layout_Layout_Next m_layout_Layout_Prev m_layout_Layout_Head m_layout_Layout_Bin m_layout_Layout_Cache m_layout_Layout_User m_layout_Layout_Words m_layout_Layout_Live) (⟨133, 0⟩ : Cx) (at_ (bodyOf Try.f36) [1, 1, 1, 1, 1, 1, 1, 0, 1, 0, 0, 1, 0, 0, 1, 1, 0, 1, 0, 0]) (contK (cfg_law02_named m_layout_Layout_Config m_layout_Layout_Chunks m_layout_Layout_Table m_layout_Layout_Kind m_layout_Layout_Count m_layout_Layout_Bits m_layout_Layout_Next m_layout_Layout_Prev m_layout_Layout_Head m_layout_Layout_Bin m_layout_Layout_Cache m_layout_Layout_User m_layout_Layout_Words m_layout_Layout_Live) (⟨133, 0⟩ : Cx) (at_ (bodyOf Try.f36) [1, 1, 1, 1, 1, 1, 1, 0, 1, 0, 0]) [1, 0, 0, 1, 1, 0, 1, 0] (roundK (cfg_law02_named m_layout_Layout_Config m_layout_Layout_Chunks m_layout_Layout_Table m_layout_Layout_Kind m_layout_Layout_Count m_layout_Layout_Bits m_layout_Layout_Next m_layout_Layout_Prev m_layout_Layout_Head m_layout_Layout_Bin m_layout_Layout_Cache m_layout_Layout_User m_layout_Layout_Words m_layout_Layout_Live) (⟨133, 0⟩ : Cx) (at_ (bodyOf Try.f36) [1, 1, 1, 1, 1, 1, 1, 0, 1, 0, 0]) (contK (cfg_law02_named m_layout_Layout_Config m_layout_Layout_Chunks m_layout_Layout_Table m_layout_Layout_Kind m_layout_Layout_Count m_layout_Layout_Bits m_layout_Layout_Next m_layout_Layout_Prev m_layout_Layout_Head m_layout_Layout_Bin m_layout_Layout_Cache m_layout_Layout_User m_layout_Layout_Words m_layout_Layout_Live) (⟨133, 0⟩ : Cx) (bodyOf Try.f36) [1, 1, 1, 1, 1, 1, 1, 0, 1, 0] (retK (cfg_law02_named m_layout_Layout_Config m_layout_Layout_Chunks m_layout_Layout_Table m_layout_Layout_Kind m_layout_Layout_Count m_layout_Layout_Bits m_layout_Layout_Next m_layout_Layout_Prev m_layout_Layout_Head m_layout_Layout_Bin m_layout_Layout_Cache m_layout_Layout_User m_layout_Layout_Words m_layout_Layout_Live) Try.f36 0 K)) J1)) J2)) := by
  refine loopK_So (fun (s_ : Int × (List Int)) => (mkEnv [(1, .ptr 0 0), (3, .ptr 1 0), (4, .row 2), (8, vi (slots)), (9, vi (q)), (12, vi (cpu)), (13, vi ((s_.1)))])) (fun (s_ : Int × (List Int)) => [.cells 28 (e_layout_Layout l2), .cells 23 [vi (c), vi (c2), vi (c3), vi (c4), vi (c5), vi (c6), vi (c7), vi (c8), vi (c9), vi (c10), vi (c11)], .row 0 ((s_.2) : List (Int)) Bool.false]) (sumK (fun (s_ : Int × (List Int)) => J2 (mkEnv [(1, .ptr 0 0), (3, .ptr 1 0), (4, .row 2), (8, vi (slots)), (9, vi (q)), (12, vi ((s_.1)))]) [.cells 28 (e_layout_Layout l2), .cells 23 [vi (c), vi (c2), vi (c3), vi (c4), vi (c5), vi (c6), vi (c7), vi (c8), vi (c9), vi (c10), vi (c11)], .row 0 ((s_.2) : List (Int)) Bool.false]) (sumK (fun (s_ : Int × Int × (List Int)) => J1 (mkEnv [(1, .ptr 0 0), (3, .ptr 1 0), (4, .row 2), (8, vi ((s_.1))), (9, vi ((s_.2.1)))]) [.cells 28 (e_layout_Layout l2), .cells 23 [vi (c), vi (c2), vi (c3), vi (c4), vi (c5), vi (c6), vi (c7), vi (c8), vi (c9), vi (c10), vi (c11)], .row 0 ((s_.2.2) : List (Int)) Bool.false]) (fun (x : (List Int)) => K (.row 0) [.row 0 (x) false]))) ?_ (i_, w3)
  intro s_ J3 h
  clear i_
  clear w3
  obtain ⟨i_, w3⟩ := s_
  refine Eq.mpr (nf_law02_named_9 m_layout_Layout_Config m_layout_Layout_Chunks m_layout_Layout_Table m_layout_Layout_Kind m_layout_Layout_Count m_layout_Layout_Bits m_layout_Layout_Next m_layout_Layout_Prev m_layout_Layout_Head m_layout_Layout_Bin m_layout_Layout_Cache m_layout_Layout_User m_layout_Layout_Words m_layout_Layout_Live l2 slots q c c2 c3 c4 c5 c6 c7 c8 c9 c10 c11 w cpu w2 i_ w3 K J1 J2 J3) ?_
  have h : So (sb_law02_named_9 (l2) (q) (c9) (cpu) i_ w3) _ := h
  unfold sb_law02_named_9 at h
  revert h
  exact br_So (bind_So fun y0 => req_So (fun h => h)) (fun h => h)

theorem lpok_law02_named_8 (l2 : T_layout_Layout) (slots : Int) (q : Int) (c : Int) (c2 : Int) (c3 : Int) (c4 : Int) (c5 : Int) (c6 : Int) (c7 : Int) (c8 : Int) (c9 : Int) (c10 : Int) (c11 : Int) (w : List Int) (cpu : Int) (w2 : List Int) (K : V → Heap → Prop) (J1 : Env → Heap → Prop) : So (lp_law02_named_8 (l2) (slots) (q) (c2) (c9) (cpu, w2)) (sumK (fun (s_ : Int × Int × (List Int)) => J1 (mkEnv [(1, .ptr 0 0), (3, .ptr 1 0), (4, .row 2), (8, vi ((s_.1))), (9, vi ((s_.2.1)))]) [.cells 28 (e_layout_Layout l2), .cells 23 [vi (c), vi (c2), vi (c3), vi (c4), vi (c5), vi (c6), vi (c7), vi (c8), vi (c9), vi (c10), vi (c11)], .row 0 ((s_.2.2) : List (Int)) Bool.false]) (fun (x : (List Int)) => K (.row 0) [.row 0 (x) false])) → Loop (cfg_law02_named m_layout_Layout_Config m_layout_Layout_Chunks m_layout_Layout_Table m_layout_Layout_Kind m_layout_Layout_Count m_layout_Layout_Bits m_layout_Layout_Next m_layout_Layout_Prev m_layout_Layout_Head m_layout_Layout_Bin m_layout_Layout_Cache m_layout_Layout_User m_layout_Layout_Words m_layout_Layout_Live) (⟨133, 0⟩ : Cx) (at_ (bodyOf Try.f36) [1, 1, 1, 1, 1, 1, 1, 0, 1, 0, 0, 1, 0, 0, 1, 1, 0, 1, 0, 0]) (mkEnv [(1, .ptr 0 0), (3, .ptr 1 0), (4, .row 2), (8, vi (slots)), (9, vi (q)), (12, vi (cpu))]) [.cells 28 (e_layout_Layout l2), .cells 23 [vi (c), vi (c2), vi (c3), vi (c4), vi (c5), vi (c6), vi (c7), vi (c8), vi (c9), vi (c10), vi (c11)], .row 0 (w2 : List (Int)) Bool.false] (contK (cfg_law02_named m_layout_Layout_Config m_layout_Layout_Chunks m_layout_Layout_Table m_layout_Layout_Kind m_layout_Layout_Count m_layout_Layout_Bits m_layout_Layout_Next m_layout_Layout_Prev m_layout_Layout_Head m_layout_Layout_Bin m_layout_Layout_Cache m_layout_Layout_User m_layout_Layout_Words m_layout_Layout_Live) (⟨133, 0⟩ : Cx) (at_ (bodyOf Try.f36) [1, 1, 1, 1, 1, 1, 1, 0, 1, 0, 0]) [1, 0, 0, 1, 1, 0, 1, 0] (roundK (cfg_law02_named m_layout_Layout_Config m_layout_Layout_Chunks m_layout_Layout_Table m_layout_Layout_Kind m_layout_Layout_Count m_layout_Layout_Bits m_layout_Layout_Next m_layout_Layout_Prev m_layout_Layout_Head m_layout_Layout_Bin m_layout_Layout_Cache m_layout_Layout_User m_layout_Layout_Words m_layout_Layout_Live) (⟨133, 0⟩ : Cx) (at_ (bodyOf Try.f36) [1, 1, 1, 1, 1, 1, 1, 0, 1, 0, 0]) (contK (cfg_law02_named m_layout_Layout_Config m_layout_Layout_Chunks m_layout_Layout_Table m_layout_Layout_Kind m_layout_Layout_Count m_layout_Layout_Bits m_layout_Layout_Next m_layout_Layout_Prev m_layout_Layout_Head m_layout_Layout_Bin m_layout_Layout_Cache m_layout_Layout_User m_layout_Layout_Words m_layout_Layout_Live) (⟨133, 0⟩ : Cx) (bodyOf Try.f36) [1, 1, 1, 1, 1, 1, 1, 0, 1, 0] (retK (cfg_law02_named m_layout_Layout_Config m_layout_Layout_Chunks m_layout_Layout_Table m_layout_Layout_Kind m_layout_Layout_Count m_layout_Layout_Bits m_layout_Layout_Next m_layout_Layout_Prev m_layout_Layout_Head m_layout_Layout_Bin m_layout_Layout_Cache m_layout_Layout_User m_layout_Layout_Words m_layout_Layout_Live) Try.f36 0 K)) J1)) := by
  refine loopK_So (fun (s_ : Int × (List Int)) => (mkEnv [(1, .ptr 0 0), (3, .ptr 1 0), (4, .row 2), (8, vi (slots)), (9, vi (q)), (12, vi ((s_.1)))])) (fun (s_ : Int × (List Int)) => [.cells 28 (e_layout_Layout l2), .cells 23 [vi (c), vi (c2), vi (c3), vi (c4), vi (c5), vi (c6), vi (c7), vi (c8), vi (c9), vi (c10), vi (c11)], .row 0 ((s_.2) : List (Int)) Bool.false]) (sumK (fun (s_ : Int × Int × (List Int)) => J1 (mkEnv [(1, .ptr 0 0), (3, .ptr 1 0), (4, .row 2), (8, vi ((s_.1))), (9, vi ((s_.2.1)))]) [.cells 28 (e_layout_Layout l2), .cells 23 [vi (c), vi (c2), vi (c3), vi (c4), vi (c5), vi (c6), vi (c7), vi (c8), vi (c9), vi (c10), vi (c11)], .row 0 ((s_.2.2) : List (Int)) Bool.false]) (fun (x : (List Int)) => K (.row 0) [.row 0 (x) false])) ?_ (cpu, w2)
  intro s_ J2 h
  clear cpu
  clear w2
  obtain ⟨cpu, w2⟩ := s_
  refine Eq.mpr (nf_law02_named_8 m_layout_Layout_Config m_layout_Layout_Chunks m_layout_Layout_Table m_layout_Layout_Kind m_layout_Layout_Count m_layout_Layout_Bits m_layout_Layout_Next m_layout_Layout_Prev m_layout_Layout_Head m_layout_Layout_Bin m_layout_Layout_Cache m_layout_Layout_User m_layout_Layout_Words m_layout_Layout_Live l2 slots q c c2 c3 c4 c5 c6 c7 c8 c9 c10 c11 w cpu w2 K J1 J2) ?_
  have h : So (sb_law02_named_8 (l2) (slots) (q) (c2) (c9) cpu w2) _ := h
  unfold sb_law02_named_8 at h
  revert h
  exact br_So (lpok_law02_named_9 l2 slots q c c2 c3 c4 c5 c6 c7 c8 c9 c10 c11 w cpu w2 (0) (w2) K J1 J2) (fun h => h)

theorem lpok_law02_named_7 (l2 : T_layout_Layout) (slots : Int) (q : Int) (c : Int) (c2 : Int) (c3 : Int) (c4 : Int) (c5 : Int) (c6 : Int) (c7 : Int) (c8 : Int) (c9 : Int) (c10 : Int) (c11 : Int) (w : List Int) (i_ : Int) (w2 : List Int) (K : V → Heap → Prop) (J1 : Env → Heap → Prop) : So (lp_law02_named_7 (l2) (slots) (q) (c2) (c9) (c10) (i_, w2)) (sumK (fun (s_ : Int × Int × (List Int)) => J1 (mkEnv [(1, .ptr 0 0), (3, .ptr 1 0), (4, .row 2), (8, vi ((s_.1))), (9, vi ((s_.2.1)))]) [.cells 28 (e_layout_Layout l2), .cells 23 [vi (c), vi (c2), vi (c3), vi (c4), vi (c5), vi (c6), vi (c7), vi (c8), vi (c9), vi (c10), vi (c11)], .row 0 ((s_.2.2) : List (Int)) Bool.false]) (fun (x : (List Int)) => K (.row 0) [.row 0 (x) false])) → Loop (cfg_law02_named m_layout_Layout_Config m_layout_Layout_Chunks m_layout_Layout_Table m_layout_Layout_Kind m_layout_Layout_Count m_layout_Layout_Bits m_layout_Layout_Next m_layout_Layout_Prev m_layout_Layout_Head m_layout_Layout_Bin m_layout_Layout_Cache m_layout_Layout_User m_layout_Layout_Words m_layout_Layout_Live) (⟨133, 0⟩ : Cx) (at_ (bodyOf Try.f36) [1, 1, 1, 1, 1, 1, 1, 0, 1, 0, 0, 1, 0, 0, 1, 0, 1, 0, 0]) (mkEnv [(1, .ptr 0 0), (3, .ptr 1 0), (4, .row 2), (8, vi (slots)), (9, vi (q)), (11, vi (i_))]) [.cells 28 (e_layout_Layout l2), .cells 23 [vi (c), vi (c2), vi (c3), vi (c4), vi (c5), vi (c6), vi (c7), vi (c8), vi (c9), vi (c10), vi (c11)], .row 0 (w2 : List (Int)) Bool.false] (contK (cfg_law02_named m_layout_Layout_Config m_layout_Layout_Chunks m_layout_Layout_Table m_layout_Layout_Kind m_layout_Layout_Count m_layout_Layout_Bits m_layout_Layout_Next m_layout_Layout_Prev m_layout_Layout_Head m_layout_Layout_Bin m_layout_Layout_Cache m_layout_Layout_User m_layout_Layout_Words m_layout_Layout_Live) (⟨133, 0⟩ : Cx) (at_ (bodyOf Try.f36) [1, 1, 1, 1, 1, 1, 1, 0, 1, 0, 0]) [1, 0, 0, 1, 0, 1, 0] (roundK (cfg_law02_named m_layout_Layout_Config m_layout_Layout_Chunks m_layout_Layout_Table m_layout_Layout_Kind m_layout_Layout_Count m_layout_Layout_Bits m_layout_Layout_Next m_layout_Layout_Prev m_layout_Layout_Head m_layout_Layout_Bin m_layout_Layout_Cache m_layout_Layout_User m_layout_Layout_Words m_layout_Layout_Live) (⟨133, 0⟩ : Cx) (at_ (bodyOf Try.f36) [1, 1, 1, 1, 1, 1, 1, 0, 1, 0, 0]) (contK (cfg_law02_named m_layout_Layout_Config m_layout_Layout_Chunks m_layout_Layout_Table m_layout_Layout_Kind m_layout_Layout_Count m_layout_Layout_Bits m_layout_Layout_Next m_layout_Layout_Prev m_layout_Layout_Head m_layout_Layout_Bin m_layout_Layout_Cache m_layout_Layout_User m_layout_Layout_Words m_layout_Layout_Live) (⟨133, 0⟩ : Cx) (bodyOf Try.f36) [1, 1, 1, 1, 1, 1, 1, 0, 1, 0] (retK (cfg_law02_named m_layout_Layout_Config m_layout_Layout_Chunks m_layout_Layout_Table m_layout_Layout_Kind m_layout_Layout_Count m_layout_Layout_Bits m_layout_Layout_Next m_layout_Layout_Prev m_layout_Layout_Head m_layout_Layout_Bin m_layout_Layout_Cache m_layout_Layout_User m_layout_Layout_Words m_layout_Layout_Live) Try.f36 0 K)) J1)) := by
  refine loopK_So (fun (s_ : Int × (List Int)) => (mkEnv [(1, .ptr 0 0), (3, .ptr 1 0), (4, .row 2), (8, vi (slots)), (9, vi (q)), (11, vi ((s_.1)))])) (fun (s_ : Int × (List Int)) => [.cells 28 (e_layout_Layout l2), .cells 23 [vi (c), vi (c2), vi (c3), vi (c4), vi (c5), vi (c6), vi (c7), vi (c8), vi (c9), vi (c10), vi (c11)], .row 0 ((s_.2) : List (Int)) Bool.false]) (sumK (fun (s_ : Int × Int × (List Int)) => J1 (mkEnv [(1, .ptr 0 0), (3, .ptr 1 0), (4, .row 2), (8, vi ((s_.1))), (9, vi ((s_.2.1)))]) [.cells 28 (e_layout_Layout l2), .cells 23 [vi (c), vi (c2), vi (c3), vi (c4), vi (c5), vi (c6), vi (c7), vi (c8), vi (c9), vi (c10), vi (c11)], .row 0 ((s_.2.2) : List (Int)) Bool.false]) (fun (x : (List Int)) => K (.row 0) [.row 0 (x) false])) ?_ (i_, w2)
  intro s_ J2 h
  clear i_
  clear w2
  obtain ⟨i_, w2⟩ := s_
  refine Eq.mpr (nf_law02_named_7 m_layout_Layout_Config m_layout_Layout_Chunks m_layout_Layout_Table m_layout_Layout_Kind m_layout_Layout_Count m_layout_Layout_Bits m_layout_Layout_Next m_layout_Layout_Prev m_layout_Layout_Head m_layout_Layout_Bin m_layout_Layout_Cache m_layout_Layout_User m_layout_Layout_Words m_layout_Layout_Live l2 slots q c c2 c3 c4 c5 c6 c7 c8 c9 c10 c11 w i_ w2 K J1 J2) ?_
  have h : So (sb_law02_named_7 (l2) (slots) (q) (c2) (c9) (c10) i_ w2) _ := h
  unfold sb_law02_named_7 at h
  revert h
  exact br_So (bind_So fun y0 => req_So (fun h => h)) (mapK_So (lpok_law02_named_8 l2 slots q c c2 c3 c4 c5 c6 c7 c8 c9 c10 c11 w (0) (w2) K J1))

theorem lpok_law02_named_5 (l2 : T_layout_Layout) (slots : Int) (q : Int) (c : Int) (c2 : Int) (c3 : Int) (c4 : Int) (c5 : Int) (c6 : Int) (c7 : Int) (c8 : Int) (c9 : Int) (c10 : Int) (c11 : Int) (w : List Int) (f : Int) (w2 : List Int) (K : V → Heap → Prop) (J1 : Env → Heap → Prop) : So (lp_law02_named_5 (l2) (slots) (q) (c2) (c9) (c10) (f, w2)) (sumK (fun (s_ : Int × Int × (List Int)) => J1 (mkEnv [(1, .ptr 0 0), (3, .ptr 1 0), (4, .row 2), (8, vi ((s_.1))), (9, vi ((s_.2.1)))]) [.cells 28 (e_layout_Layout l2), .cells 23 [vi (c), vi (c2), vi (c3), vi (c4), vi (c5), vi (c6), vi (c7), vi (c8), vi (c9), vi (c10), vi (c11)], .row 0 ((s_.2.2) : List (Int)) Bool.false]) (fun (x : (List Int)) => K (.row 0) [.row 0 (x) false])) → Loop (cfg_law02_named m_layout_Layout_Config m_layout_Layout_Chunks m_layout_Layout_Table m_layout_Layout_Kind m_layout_Layout_Count m_layout_Layout_Bits m_layout_Layout_Next m_layout_Layout_Prev m_layout_Layout_Head m_layout_Layout_Bin m_layout_Layout_Cache m_layout_Layout_User m_layout_Layout_Words m_layout_Layout_Live) (⟨133, 0⟩ : Cx) (at_ (bodyOf Try.f36) [1, 1, 1, 1, 1, 1, 1, 0, 1, 0, 0, 1, 0, 0, 0, 1, 0, 0]) (mkEnv [(1, .ptr 0 0), (3, .ptr 1 0), (4, .row 2), (8, vi (slots)), (9, vi (q)), (10, vi (f))]) [.cells 28 (e_layout_Layout l2), .cells 23 [vi (c), vi (c2), vi (c3), vi (c4), vi (c5), vi (c6), vi (c7), vi (c8), vi (c9), vi (c10), vi (c11)], .row 0 (w2 : List (Int)) Bool.false] (contK (cfg_law02_named m_layout_Layout_Config m_layout_Layout_Chunks m_layout_Layout_Table m_layout_Layout_Kind m_layout_Layout_Count m_layout_Layout_Bits m_layout_Layout_Next m_layout_Layout_Prev m_layout_Layout_Head m_layout_Layout_Bin m_layout_Layout_Cache m_layout_Layout_User m_layout_Layout_Words m_layout_Layout_Live) (⟨133, 0⟩ : Cx) (at_ (bodyOf Try.f36) [1, 1, 1, 1, 1, 1, 1, 0, 1, 0, 0]) [1, 0, 0, 0, 1, 0] (roundK (cfg_law02_named m_layout_Layout_Config m_layout_Layout_Chunks m_layout_Layout_Table m_layout_Layout_Kind m_layout_Layout_Count m_layout_Layout_Bits m_layout_Layout_Next m_layout_Layout_Prev m_layout_Layout_Head m_layout_Layout_Bin m_layout_Layout_Cache m_layout_Layout_User m_layout_Layout_Words m_layout_Layout_Live) (⟨133, 0⟩ : Cx) (at_ (bodyOf Try.f36) [1, 1, 1, 1, 1, 1, 1, 0, 1, 0, 0]) (contK (cfg_law02_named m_layout_Layout_Config m_layout_Layout_Chunks m_layout_Layout_Table m_layout_Layout_Kind m_layout_Layout_Count m_layout_Layout_Bits m_layout_Layout_Next m_layout_Layout_Prev m_layout_Layout_Head m_layout_Layout_Bin m_layout_Layout_Cache m_layout_Layout_User m_layout_Layout_Words m_layout_Layout_Live) (⟨133, 0⟩ : Cx) (bodyOf Try.f36) [1, 1, 1, 1, 1, 1, 1, 0, 1, 0] (retK (cfg_law02_named m_layout_Layout_Config m_layout_Layout_Chunks m_layout_Layout_Table m_layout_Layout_Kind m_layout_Layout_Count m_layout_Layout_Bits m_layout_Layout_Next m_layout_Layout_Prev m_layout_Layout_Head m_layout_Layout_Bin m_layout_Layout_Cache m_layout_Layout_User m_layout_Layout_Words m_layout_Layout_Live) Try.f36 0 K)) J1)) := by
  refine loopK_So (fun (s_ : Int × (List Int)) => (mkEnv [(1, .ptr 0 0), (3, .ptr 1 0), (4, .row 2), (8, vi (slots)), (9, vi (q)), (10, vi ((s_.1)))])) (fun (s_ : Int × (List Int)) => [.cells 28 (e_layout_Layout l2), .cells 23 [vi (c), vi (c2), vi (c3), vi (c4), vi (c5), vi (c6), vi (c7), vi (c8), vi (c9), vi (c10), vi (c11)], .row 0 ((s_.2) : List (Int)) Bool.false]) (sumK (fun (s_ : Int × Int × (List Int)) => J1 (mkEnv [(1, .ptr 0 0), (3, .ptr 1 0), (4, .row 2), (8, vi ((s_.1))), (9, vi ((s_.2.1)))]) [.cells 28 (e_layout_Layout l2), .cells 23 [vi (c), vi (c2), vi (c3), vi (c4), vi (c5), vi (c6), vi (c7), vi (c8), vi (c9), vi (c10), vi (c11)], .row 0 ((s_.2.2) : List (Int)) Bool.false]) (fun (x : (List Int)) => K (.row 0) [.row 0 (x) false])) ?_ (f, w2)
  intro s_ J2 h
  clear f
  clear w2
  obtain ⟨f, w2⟩ := s_
  refine Eq.mpr (nf_law02_named_5 m_layout_Layout_Config m_layout_Layout_Chunks m_layout_Layout_Table m_layout_Layout_Kind m_layout_Layout_Count m_layout_Layout_Bits m_layout_Layout_Next m_layout_Layout_Prev m_layout_Layout_Head m_layout_Layout_Bin m_layout_Layout_Cache m_layout_Layout_User m_layout_Layout_Words m_layout_Layout_Live l2 slots q c c2 c3 c4 c5 c6 c7 c8 c9 c10 c11 w f w2 K J1 J2) ?_
  have h : So (sb_law02_named_5 (l2) (slots) (q) (c2) (c9) (c10) f w2) _ := h
  unfold sb_law02_named_5 at h
  revert h
  exact br_So (bind_So fun y0 => req_So (fun h => h)) (mapK_So (lpok_law02_named_7 l2 slots q c c2 c3 c4 c5 c6 c7 c8 c9 c10 c11 w (0) (w2) K J1))

theorem lpok_law02_named_6 (l2 : T_layout_Layout) (a : Int) (w : List Int) (K : V → Heap → Prop) : So (lp_law02_named_6 (l2) (a, w)) (fun (x : (List Int)) => K (.row 0) [.row 0 (x) false]) → Loop (cfg_law02_named m_layout_Layout_Config m_layout_Layout_Chunks m_layout_Layout_Table m_layout_Layout_Kind m_layout_Layout_Count m_layout_Layout_Bits m_layout_Layout_Next m_layout_Layout_Prev m_layout_Layout_Head m_layout_Layout_Bin m_layout_Layout_Cache m_layout_Layout_User m_layout_Layout_Words m_layout_Layout_Live) (⟨133, 0⟩ : Cx) (at_ (bodyOf Try.f36) [1, 1, 1, 1, 1, 1, 1, 1, 0, 1, 0, 0]) (mkEnv [(1, .ptr 0 0), (4, .row 1), (14, vi (a))]) [.cells 28 (e_layout_Layout l2), .row 0 (w : List (Int)) Bool.false] (contK (cfg_law02_named m_layout_Layout_Config m_layout_Layout_Chunks m_layout_Layout_Table m_layout_Layout_Kind m_layout_Layout_Count m_layout_Layout_Bits m_layout_Layout_Next m_layout_Layout_Prev m_layout_Layout_Head m_layout_Layout_Bin m_layout_Layout_Cache m_layout_Layout_User m_layout_Layout_Words m_layout_Layout_Live) (⟨133, 0⟩ : Cx) (bodyOf Try.f36) [1, 1, 1, 1, 1, 1, 1, 1, 0, 1, 0] (retK (cfg_law02_named m_layout_Layout_Config m_layout_Layout_Chunks m_layout_Layout_Table m_layout_Layout_Kind m_layout_Layout_Count m_layout_Layout_Bits m_layout_Layout_Next m_layout_Layout_Prev m_layout_Layout_Head m_layout_Layout_Bin m_layout_Layout_Cache m_layout_Layout_User m_layout_Layout_Words m_layout_Layout_Live) Try.f36 0 K)) := by
  refine loopK_So (fun (s_ : Int × (List Int)) => (mkEnv [(1, .ptr 0 0), (4, .row 1), (14, vi ((s_.1)))])) (fun (s_ : Int × (List Int)) => [.cells 28 (e_layout_Layout l2), .row 0 ((s_.2) : List (Int)) Bool.false]) (fun (x : (List Int)) => K (.row 0) [.row 0 (x) false]) ?_ (a, w)
  intro s_ J1 h
  clear a
  clear w
  obtain ⟨a, w⟩ := s_
  refine Eq.mpr (nf_law02_named_6 m_layout_Layout_Config m_layout_Layout_Chunks m_layout_Layout_Table m_layout_Layout_Kind m_layout_Layout_Count m_layout_Layout_Bits m_layout_Layout_Next m_layout_Layout_Prev m_layout_Layout_Head m_layout_Layout_Bin m_layout_Layout_Cache m_layout_Layout_User m_layout_Layout_Words m_layout_Layout_Live l2 a w K J1) ?_
  have h : So (sb_law02_named_6 (l2) a w) _ := h
  unfold sb_law02_named_6 at h
  revert h
  exact bind_So fun y0 => br_So (bind_So fun y1 => req_So (fun h => h)) (fun h => h)

theorem lpok_law02_named_4 (l2 : T_layout_Layout) (slots : Int) (q : Int) (c : Int) (c2 : Int) (c3 : Int) (c4 : Int) (c5 : Int) (c6 : Int) (c7 : Int) (c8 : Int) (c9 : Int) (c10 : Int) (c11 : Int) (w : List Int) (K : V → Heap → Prop) : So (lp_law02_named_4 (l2) (c2) (c9) (c10) (slots, q, w)) (fun (x : (List Int)) => K (.row 0) [.row 0 (x) false]) → Loop (cfg_law02_named m_layout_Layout_Config m_layout_Layout_Chunks m_layout_Layout_Table m_layout_Layout_Kind m_layout_Layout_Count m_layout_Layout_Bits m_layout_Layout_Next m_layout_Layout_Prev m_layout_Layout_Head m_layout_Layout_Bin m_layout_Layout_Cache m_layout_Layout_User m_layout_Layout_Words m_layout_Layout_Live) (⟨133, 0⟩ : Cx) (at_ (bodyOf Try.f36) [1, 1, 1, 1, 1, 1, 1, 0, 1, 0, 0]) (mkEnv [(1, .ptr 0 0), (3, .ptr 1 0), (4, .row 2), (8, vi (slots)), (9, vi (q))]) [.cells 28 (e_layout_Layout l2), .cells 23 [vi (c), vi (c2), vi (c3), vi (c4), vi (c5), vi (c6), vi (c7), vi (c8), vi (c9), vi (c10), vi (c11)], .row 0 (w : List (Int)) Bool.false] (contK (cfg_law02_named m_layout_Layout_Config m_layout_Layout_Chunks m_layout_Layout_Table m_layout_Layout_Kind m_layout_Layout_Count m_layout_Layout_Bits m_layout_Layout_Next m_layout_Layout_Prev m_layout_Layout_Head m_layout_Layout_Bin m_layout_Layout_Cache m_layout_Layout_User m_layout_Layout_Words m_layout_Layout_Live) (⟨133, 0⟩ : Cx) (bodyOf Try.f36) [1, 1, 1, 1, 1, 1, 1, 0, 1, 0] (retK (cfg_law02_named m_layout_Layout_Config m_layout_Layout_Chunks m_layout_Layout_Table m_layout_Layout_Kind m_layout_Layout_Count m_layout_Layout_Bits m_layout_Layout_Next m_layout_Layout_Prev m_layout_Layout_Head m_layout_Layout_Bin m_layout_Layout_Cache m_layout_Layout_User m_layout_Layout_Words m_layout_Layout_Live) Try.f36 0 K)) := by
  refine loopK_So (fun (s_ : Int × Int × (List Int)) => (mkEnv [(1, .ptr 0 0), (3, .ptr 1 0), (4, .row 2), (8, vi ((s_.1))), (9, vi ((s_.2.1)))])) (fun (s_ : Int × Int × (List Int)) => [.cells 28 (e_layout_Layout l2), .cells 23 [vi (c), vi (c2), vi (c3), vi (c4), vi (c5), vi (c6), vi (c7), vi (c8), vi (c9), vi (c10), vi (c11)], .row 0 ((s_.2.2) : List (Int)) Bool.false]) (fun (x : (List Int)) => K (.row 0) [.row 0 (x) false]) ?_ (slots, q, w)
  intro s_ J1 h
  clear slots
  clear q
  clear w
  obtain ⟨slots, q, w⟩ := s_
  refine Eq.mpr (nf_law02_named_4 m_layout_Layout_Config m_layout_Layout_Chunks m_layout_Layout_Table m_layout_Layout_Kind m_layout_Layout_Count m_layout_Layout_Bits m_layout_Layout_Next m_layout_Layout_Prev m_layout_Layout_Head m_layout_Layout_Bin m_layout_Layout_Cache m_layout_Layout_User m_layout_Layout_Words m_layout_Layout_Live l2 slots q c c2 c3 c4 c5 c6 c7 c8 c9 c10 c11 w K J1) ?_
  have h : So (sb_law02_named_4 (l2) (c2) (c9) (c10) slots q w) _ := h
  unfold sb_law02_named_4 at h
  revert h
  exact br_So (lpok_law02_named_5 l2 slots q c c2 c3 c4 c5 c6 c7 c8 c9 c10 c11 w (1) (w) K J1) (bind_So fun y0 => mapK_So (lpok_law02_named_6 l2 (y0) (w) K))

theorem lpok_law02_named_3 (l2 : T_layout_Layout) (p : Int) (c : Int) (c2 : Int) (c3 : Int) (c4 : Int) (c5 : Int) (c6 : Int) (c7 : Int) (c8 : Int) (c9 : Int) (c10 : Int) (c11 : Int) (w : List Int) (K : V → Heap → Prop) : So (lp_law02_named_3 (l2) (c2) (c3) (c9) (c10) (p, w)) (fun (x : (List Int)) => K (.row 0) [.row 0 (x) false]) → Loop (cfg_law02_named m_layout_Layout_Config m_layout_Layout_Chunks m_layout_Layout_Table m_layout_Layout_Kind m_layout_Layout_Count m_layout_Layout_Bits m_layout_Layout_Next m_layout_Layout_Prev m_layout_Layout_Head m_layout_Layout_Bin m_layout_Layout_Cache m_layout_Layout_User m_layout_Layout_Words m_layout_Layout_Live) (⟨133, 0⟩ : Cx) (at_ (bodyOf Try.f36) [1, 1, 1, 1, 1, 0, 1, 0, 0]) (mkEnv [(1, .ptr 0 0), (3, .ptr 1 0), (4, .row 2), (7, vi (p))]) [.cells 28 (e_layout_Layout l2), .cells 23 [vi (c), vi (c2), vi (c3), vi (c4), vi (c5), vi (c6), vi (c7), vi (c8), vi (c9), vi (c10), vi (c11)], .row 0 (w : List (Int)) Bool.false] (contK (cfg_law02_named m_layout_Layout_Config m_layout_Layout_Chunks m_layout_Layout_Table m_layout_Layout_Kind m_layout_Layout_Count m_layout_Layout_Bits m_layout_Layout_Next m_layout_Layout_Prev m_layout_Layout_Head m_layout_Layout_Bin m_layout_Layout_Cache m_layout_Layout_User m_layout_Layout_Words m_layout_Layout_Live) (⟨133, 0⟩ : Cx) (bodyOf Try.f36) [1, 1, 1, 1, 1, 0, 1, 0] (retK (cfg_law02_named m_layout_Layout_Config m_layout_Layout_Chunks m_layout_Layout_Table m_layout_Layout_Kind m_layout_Layout_Count m_layout_Layout_Bits m_layout_Layout_Next m_layout_Layout_Prev m_layout_Layout_Head m_layout_Layout_Bin m_layout_Layout_Cache m_layout_Layout_User m_layout_Layout_Words m_layout_Layout_Live) Try.f36 0 K)) := by
  refine loopK_So (fun (s_ : Int × (List Int)) => (mkEnv [(1, .ptr 0 0), (3, .ptr 1 0), (4, .row 2), (7, vi ((s_.1)))])) (fun (s_ : Int × (List Int)) => [.cells 28 (e_layout_Layout l2), .cells 23 [vi (c), vi (c2), vi (c3), vi (c4), vi (c5), vi (c6), vi (c7), vi (c8), vi (c9), vi (c10), vi (c11)], .row 0 ((s_.2) : List (Int)) Bool.false]) (fun (x : (List Int)) => K (.row 0) [.row 0 (x) false]) ?_ (p, w)
  intro s_ J1 h
  clear p
  clear w
  obtain ⟨p, w⟩ := s_
  refine Eq.mpr (nf_law02_named_3 m_layout_Layout_Config m_layout_Layout_Chunks m_layout_Layout_Table m_layout_Layout_Kind m_layout_Layout_Count m_layout_Layout_Bits m_layout_Layout_Next m_layout_Layout_Prev m_layout_Layout_Head m_layout_Layout_Bin m_layout_Layout_Cache m_layout_Layout_User m_layout_Layout_Words m_layout_Layout_Live l2 p c c2 c3 c4 c5 c6 c7 c8 c9 c10 c11 w K J1) ?_
  have h : So (sb_law02_named_3 (l2) (c2) (c3) (c9) (c10) p w) _ := h
  unfold sb_law02_named_3 at h
  revert h
  exact br_So (bind_So fun y0 => bind_So fun y1 => bind_So fun y2 => bind_So fun y3 => bind_So fun y4 => req_So (fun h => h)) (mapK_So (lpok_law02_named_4 l2 (32) (0) (c) (c2) (c3) (c4) (c5) (c6) (c7) (c8) (c9) (c10) (c11) (w) K))

theorem lpok_law02_named_2 (l2 : T_layout_Layout) (i_ : Int) (c : Int) (c2 : Int) (c3 : Int) (c4 : Int) (c5 : Int) (c6 : Int) (c7 : Int) (c8 : Int) (c9 : Int) (c10 : Int) (c11 : Int) (w : List Int) (K : V → Heap → Prop) : So (lp_law02_named_2 (l2) (c2) (c3) (c9) (c10) (i_, w)) (fun (x : (List Int)) => K (.row 0) [.row 0 (x) false]) → Loop (cfg_law02_named m_layout_Layout_Config m_layout_Layout_Chunks m_layout_Layout_Table m_layout_Layout_Kind m_layout_Layout_Count m_layout_Layout_Bits m_layout_Layout_Next m_layout_Layout_Prev m_layout_Layout_Head m_layout_Layout_Bin m_layout_Layout_Cache m_layout_Layout_User m_layout_Layout_Words m_layout_Layout_Live) (⟨133, 0⟩ : Cx) (at_ (bodyOf Try.f36) [1, 1, 1, 1, 0, 1, 0, 0]) (mkEnv [(1, .ptr 0 0), (3, .ptr 1 0), (4, .row 2), (6, vi (i_))]) [.cells 28 (e_layout_Layout l2), .cells 23 [vi (c), vi (c2), vi (c3), vi (c4), vi (c5), vi (c6), vi (c7), vi (c8), vi (c9), vi (c10), vi (c11)], .row 0 (w : List (Int)) Bool.false] (contK (cfg_law02_named m_layout_Layout_Config m_layout_Layout_Chunks m_layout_Layout_Table m_layout_Layout_Kind m_layout_Layout_Count m_layout_Layout_Bits m_layout_Layout_Next m_layout_Layout_Prev m_layout_Layout_Head m_layout_Layout_Bin m_layout_Layout_Cache m_layout_Layout_User m_layout_Layout_Words m_layout_Layout_Live) (⟨133, 0⟩ : Cx) (bodyOf Try.f36) [1, 1, 1, 1, 0, 1, 0] (retK (cfg_law02_named m_layout_Layout_Config m_layout_Layout_Chunks m_layout_Layout_Table m_layout_Layout_Kind m_layout_Layout_Count m_layout_Layout_Bits m_layout_Layout_Next m_layout_Layout_Prev m_layout_Layout_Head m_layout_Layout_Bin m_layout_Layout_Cache m_layout_Layout_User m_layout_Layout_Words m_layout_Layout_Live) Try.f36 0 K)) := by
  refine loopK_So (fun (s_ : Int × (List Int)) => (mkEnv [(1, .ptr 0 0), (3, .ptr 1 0), (4, .row 2), (6, vi ((s_.1)))])) (fun (s_ : Int × (List Int)) => [.cells 28 (e_layout_Layout l2), .cells 23 [vi (c), vi (c2), vi (c3), vi (c4), vi (c5), vi (c6), vi (c7), vi (c8), vi (c9), vi (c10), vi (c11)], .row 0 ((s_.2) : List (Int)) Bool.false]) (fun (x : (List Int)) => K (.row 0) [.row 0 (x) false]) ?_ (i_, w)
  intro s_ J1 h
  clear i_
  clear w
  obtain ⟨i_, w⟩ := s_
  refine Eq.mpr (nf_law02_named_2 m_layout_Layout_Config m_layout_Layout_Chunks m_layout_Layout_Table m_layout_Layout_Kind m_layout_Layout_Count m_layout_Layout_Bits m_layout_Layout_Next m_layout_Layout_Prev m_layout_Layout_Head m_layout_Layout_Bin m_layout_Layout_Cache m_layout_Layout_User m_layout_Layout_Words m_layout_Layout_Live l2 i_ c c2 c3 c4 c5 c6 c7 c8 c9 c10 c11 w K J1) ?_
  have h : So (sb_law02_named_2 (l2) (c2) (c3) (c9) (c10) i_ w) _ := h
  unfold sb_law02_named_2 at h
  revert h
  exact bind_So fun y0 => br_So (bind_So fun y1 => req_So (fun h => h)) (mapK_So (lpok_law02_named_3 l2 (0) (c) (c2) (c3) (c4) (c5) (c6) (c7) (c8) (c9) (c10) (c11) (w) K))

theorem lpok_law02_named_1 (l2 : T_layout_Layout) (i_ : Int) (c : Int) (c2 : Int) (c3 : Int) (c4 : Int) (c5 : Int) (c6 : Int) (c7 : Int) (c8 : Int) (c9 : Int) (c10 : Int) (c11 : Int) (w : List Int) (K : V → Heap → Prop) : So (lp_law02_named_1 (l2) (c2) (c3) (c4) (c9) (c10) (i_, w)) (fun (x : (List Int)) => K (.row 0) [.row 0 (x) false]) → Loop (cfg_law02_named m_layout_Layout_Config m_layout_Layout_Chunks m_layout_Layout_Table m_layout_Layout_Kind m_layout_Layout_Count m_layout_Layout_Bits m_layout_Layout_Next m_layout_Layout_Prev m_layout_Layout_Head m_layout_Layout_Bin m_layout_Layout_Cache m_layout_Layout_User m_layout_Layout_Words m_layout_Layout_Live) (⟨133, 0⟩ : Cx) (at_ (bodyOf Try.f36) [1, 1, 1, 0, 1, 0, 0]) (mkEnv [(1, .ptr 0 0), (3, .ptr 1 0), (4, .row 2), (5, vi (i_))]) [.cells 28 (e_layout_Layout l2), .cells 23 [vi (c), vi (c2), vi (c3), vi (c4), vi (c5), vi (c6), vi (c7), vi (c8), vi (c9), vi (c10), vi (c11)], .row 0 (w : List (Int)) Bool.false] (contK (cfg_law02_named m_layout_Layout_Config m_layout_Layout_Chunks m_layout_Layout_Table m_layout_Layout_Kind m_layout_Layout_Count m_layout_Layout_Bits m_layout_Layout_Next m_layout_Layout_Prev m_layout_Layout_Head m_layout_Layout_Bin m_layout_Layout_Cache m_layout_Layout_User m_layout_Layout_Words m_layout_Layout_Live) (⟨133, 0⟩ : Cx) (bodyOf Try.f36) [1, 1, 1, 0, 1, 0] (retK (cfg_law02_named m_layout_Layout_Config m_layout_Layout_Chunks m_layout_Layout_Table m_layout_Layout_Kind m_layout_Layout_Count m_layout_Layout_Bits m_layout_Layout_Next m_layout_Layout_Prev m_layout_Layout_Head m_layout_Layout_Bin m_layout_Layout_Cache m_layout_Layout_User m_layout_Layout_Words m_layout_Layout_Live) Try.f36 0 K)) := by
  refine loopK_So (fun (s_ : Int × (List Int)) => (mkEnv [(1, .ptr 0 0), (3, .ptr 1 0), (4, .row 2), (5, vi ((s_.1)))])) (fun (s_ : Int × (List Int)) => [.cells 28 (e_layout_Layout l2), .cells 23 [vi (c), vi (c2), vi (c3), vi (c4), vi (c5), vi (c6), vi (c7), vi (c8), vi (c9), vi (c10), vi (c11)], .row 0 ((s_.2) : List (Int)) Bool.false]) (fun (x : (List Int)) => K (.row 0) [.row 0 (x) false]) ?_ (i_, w)
  intro s_ J1 h
  clear i_
  clear w
  obtain ⟨i_, w⟩ := s_
  refine Eq.mpr (nf_law02_named_1 m_layout_Layout_Config m_layout_Layout_Chunks m_layout_Layout_Table m_layout_Layout_Kind m_layout_Layout_Count m_layout_Layout_Bits m_layout_Layout_Next m_layout_Layout_Prev m_layout_Layout_Head m_layout_Layout_Bin m_layout_Layout_Cache m_layout_Layout_User m_layout_Layout_Words m_layout_Layout_Live l2 i_ c c2 c3 c4 c5 c6 c7 c8 c9 c10 c11 w K J1) ?_
  have h : So (sb_law02_named_1 (l2) (c2) (c3) (c4) (c9) (c10) i_ w) _ := h
  unfold sb_law02_named_1 at h
  revert h
  exact br_So (req_So (fun h => h)) (mapK_So (lpok_law02_named_2 l2 (0) (c) (c2) (c3) (c4) (c5) (c6) (c7) (c8) (c9) (c10) (c11) (w) K))

theorem ok_law02_named : SpecOK Try.prog elTT 36 (sp_law02_named m_law02_named) := by
  refine spec_of_exF (cfg := (cfg_law02_named m_layout_Layout_Config m_layout_Layout_Chunks m_layout_Layout_Table m_layout_Layout_Kind m_layout_Layout_Count m_layout_Layout_Bits m_layout_Layout_Next m_layout_Layout_Prev m_layout_Layout_Head m_layout_Layout_Bin m_layout_Layout_Cache m_layout_Layout_User m_layout_Layout_Words m_layout_Layout_Live)) (cfg_ok rfl rfl rfl) (sig_cons ok_layout_Layout_Config (sig_cons ok_layout_Layout_Chunks (sig_cons ok_layout_Layout_Table (sig_cons ok_layout_Layout_Kind (sig_cons ok_layout_Layout_Count (sig_cons ok_layout_Layout_Bits (sig_cons ok_layout_Layout_Next (sig_cons ok_layout_Layout_Prev (sig_cons ok_layout_Layout_Head (sig_cons ok_layout_Layout_Bin (sig_cons ok_layout_Layout_Cache (sig_cons ok_layout_Layout_User (sig_cons ok_layout_Layout_Words (sig_cons ok_layout_Layout_Live sig_nil)))))))))))))) (fn := Try.f36) (by kernel_rfl) (by kernel_rfl) (by kernel_rfl) ?_
  intro args H K h
  change tr_law02_named m_law02_named args H K at h
  unfold tr_law02_named at h
  replace h := aC_el h
  obtain ⟨a0, _, rfl, h⟩ := h
  replace h := aN_el h
  obtain ⟨rfl, h⟩ := h
  replace h := aAgg_el h
  obtain ⟨c0, rfl, h⟩ := h
  replace h := d_layout_Layout_el h
  obtain ⟨l2, rfl, h⟩ := h
  replace h := aN_el h
  obtain ⟨rfl, h⟩ := h
  refine Eq.mpr (nf_law02_named m_layout_Layout_Config m_layout_Layout_Chunks m_layout_Layout_Table m_layout_Layout_Kind m_layout_Layout_Count m_layout_Layout_Bits m_layout_Layout_Next m_layout_Layout_Prev m_layout_Layout_Head m_layout_Layout_Bin m_layout_Layout_Cache m_layout_Layout_User m_layout_Layout_Words m_layout_Layout_Live l2 K) ?_
  unfold m_law02_named at h
  revert h
  exact bind_So fun y0 => lpok_law02_named_1 l2 (0) (T_api_Config.Workers y0) (T_api_Config.CPUs y0) (T_api_Config.Pages y0) (T_api_Config.Stripes y0) (T_api_Config.Tries y0) (T_api_Config.Wait y0) (T_api_Config.Clock y0) (T_api_Config.Private y0) (T_api_Config.Cache y0) (T_api_Config.Bin y0) (T_api_Config.Batch y0) ([]) K

theorem lpok_law02_LayoutApart_1 (c : T_api_Config) (words : Int) (i_ : Int) (w : List Bool) (w2 : List Int) (K : V → Heap → Prop) : So (lp_law02_LayoutApart_1 (words) (w2) (i_, w)) (fun (x : Bool) => K (vb (x)) []) → Loop (cfg_law02_LayoutApart m_law02_Some m_layout_Of m_layout_Layout_Words m_law02_named m_law02_lives) (⟨65, 0⟩ : Cx) (at_ (bodyOf Try.f5) [1, 1, 1, 1, 1, 1, 1, 1, 0, 1, 0, 0]) (mkEnv [(5, vi (words)), (6, .row 0), (7, .row 1), (8, vi (i_))]) [.row 1 (w : List (Bool)) Bool.false, .row 0 (w2 : List (Int)) Bool.false] (contK (cfg_law02_LayoutApart m_law02_Some m_layout_Of m_layout_Layout_Words m_law02_named m_law02_lives) (⟨65, 0⟩ : Cx) (bodyOf Try.f5) [1, 1, 1, 1, 1, 1, 1, 1, 0, 1, 0] (retK (cfg_law02_LayoutApart m_law02_Some m_layout_Of m_layout_Layout_Words m_law02_named m_law02_lives) Try.f5 0 K)) := by
  refine loopK_So (fun (s_ : Int × (List Bool)) => (mkEnv [(5, vi (words)), (6, .row 0), (7, .row 1), (8, vi ((s_.1)))])) (fun (s_ : Int × (List Bool)) => [.row 1 ((s_.2) : List (Bool)) Bool.false, .row 0 (w2 : List (Int)) Bool.false]) (fun (x : Bool) => K (vb (x)) []) ?_ (i_, w)
  intro s_ J1 h
  clear i_
  clear w
  obtain ⟨i_, w⟩ := s_
  refine Eq.mpr (nf_law02_LayoutApart_1 m_law02_Some m_layout_Of m_layout_Layout_Words m_law02_named m_law02_lives c words i_ w w2 K J1) ?_
  have h : So (sb_law02_LayoutApart_1 (words) (w2) i_ w) _ := h
  unfold sb_law02_LayoutApart_1 at h
  revert h
  exact br_So (req_So (req_So (br_So (fun h => h) (br_So (fun h => h) (req_So (req_So (br_So (fun h => h) (req_So (req_So (fun h => h)))))))))) (bind_So fun y0 => fun h => h)

theorem ok_law02_LayoutApart : SpecOK Try.prog elTT 5 (sp_law02_LayoutApart m_law02_LayoutApart) := by
  refine spec_of_exF (cfg := (cfg_law02_LayoutApart m_law02_Some m_layout_Of m_layout_Layout_Words m_law02_named m_law02_lives)) (cfg_ok rfl rfl rfl) (sig_cons ok_law02_Some (sig_cons ok_layout_Of (sig_cons ok_layout_Layout_Words (sig_cons ok_law02_named (sig_cons ok_law02_lives sig_nil))))) (fn := Try.f5) (by kernel_rfl) (by kernel_rfl) (by kernel_rfl) ?_
  intro args H K h
  change tr_law02_LayoutApart m_law02_LayoutApart args H K at h
  unfold tr_law02_LayoutApart at h
  replace h := aC_el h
  obtain ⟨a0, _, rfl, h⟩ := h
  replace h := aN_el h
  obtain ⟨rfl, h⟩ := h
  replace h := aAgg_el h
  obtain ⟨c0, rfl, h⟩ := h
  replace h := d_api_Config_el h
  obtain ⟨c, rfl, h⟩ := h
  replace h := aN_el h
  obtain ⟨rfl, h⟩ := h
  refine Eq.mpr (nf_law02_LayoutApart m_law02_Some m_layout_Of m_layout_Layout_Words m_law02_named m_law02_lives c K) ?_
  unfold m_law02_LayoutApart at h
  revert h
  exact bind_So fun y0 => bind_So fun y1 => bind_So fun y2 => br_So (fun h => h) (br_So (fun h => h) (br_So (fun h => h) (req_So (bind_So fun y3 => lpok_law02_LayoutApart_1 c (y2) (0) (List.replicate (Int.toNat y2) Bool.false) (y3) K))))

end Go.Rx
end

section
/- Loops as plain functions: how they end. -/
namespace Go.Rx
theorem loopO_ind {σ ρ : Type} {step : σ → Option (σ ⊕ ρ)} (I : σ → Prop) (μ : σ → Nat) (Q : ρ → Prop)
    (h : ∀ s, I s → (∃ s', step s = some (.inl s') ∧ I s' ∧ μ s' < μ s) ∨ (∃ r, step s = some (.inr r) ∧ Q r)) (s : σ) (hs : I s) : ∃ r, loopO step s = some r ∧ Q r := by
  have key : ∀ n s, I s → μ s ≤ n → ∃ r, loopO step s = some r ∧ Q r := by
    intro n
    induction n with
    | zero =>
      intro s hs hm
      rcases h s hs with ⟨s', h1, h2, h3⟩ | ⟨r, h1, h2⟩
      · omega
      · exact ⟨r, loopO_end h1, h2⟩
    | succ n ih =>
      intro s hs hm
      rcases h s hs with ⟨s', h1, h2, h3⟩ | ⟨r, h1, h2⟩
      · rw [loopO_go h1]; exact ih s' h2 (by omega)
      · exact ⟨r, loopO_end h1, h2⟩
  exact key _ s hs (Nat.le_refl _)

/-- A loop that tells a function of where it began. -/
theorem loopO_fun {σ ρ : Type} {step : σ → Option (σ ⊕ ρ)} (I : σ → Prop) (μ : σ → Nat) (f : σ → ρ)
    (h : ∀ s, I s → (∃ s', step s = some (.inl s') ∧ I s' ∧ μ s' < μ s ∧ f s' = f s) ∨ step s = some (.inr (f s))) (s : σ) (hs : I s) : loopO step s = some (f s) := by
  obtain ⟨r, h1, h2⟩ := loopO_ind (step := step) (fun t => I t ∧ f t = f s) μ (fun r => r = f s) (fun t ht => by
    rcases h t ht.1 with ⟨s', h1, h2, h3, h4⟩ | h1
    · exact .inl ⟨s', h1, ⟨h2, h4.trans ht.2⟩, h3⟩
    · exact .inr ⟨_, h1, ht.2⟩) s ⟨hs, rfl⟩
  rw [h1, h2]

theorem wrap_id' {x : Int} (h0 : -9223372036854775808 ≤ x) (h1 : x ≤ 9223372036854775807) : IntKind.wrap IntKind.i64 x = x := wrap_id h0 h1

/-! Lists without two of a kind. -/
structure Inv (P : Int → Prop) (w : List Int) : Prop where
  nd : w.Nodup
  all : ∀ x ∈ w, P x
theorem Inv.push {P P' : Int → Prop} {w : List Int} {e : Int} (h : Inv P w) (he : ¬ P e) (h1 : ∀ x, P x → P' x) (h2 : P' e) : Inv P' (w ++ [e]) := by
  refine ⟨List.nodup_append.2 ⟨h.nd, by simp, ?_⟩, fun x hx => ?_⟩
  · intro a ha b hb hab
    simp at hb
    subst hb; subst hab
    exact he (h.all _ ha)
  · rcases List.mem_append.1 hx with hx | hx
    · exact h1 x (h.all x hx)
    · simp at hx; subst hx; exact h2
theorem Inv.mono {P P' : Int → Prop} {w : List Int} (h : Inv P w) (h1 : ∀ x, P x → P' x) : Inv P' w := ⟨h.nd, fun x hx => h1 x (h.all x hx)⟩
theorem nodupN_len : ∀ {n : Nat} {l : List Nat}, l.Nodup → (∀ x ∈ l, x < n) → l.length ≤ n
  | 0, l, _, hb => by
    cases l with
    | nil => simp
    | cons x r => have := hb x (by simp); omega
  | n + 1, l, h, hb => by
    by_cases hn : n ∈ l
    · have h1 := h.erase n
      have h2 : ∀ x ∈ l.erase n, x < n := fun x hx => by
        have := (h.mem_erase_iff).1 hx
        have := hb x this.2
        omega
      have := nodupN_len h1 h2
      rw [List.length_erase_of_mem hn] at this
      omega
    · have := nodupN_len h (n := n) (fun x hx => by
        have := hb x hx
        have : x ≠ n := fun e => hn (e ▸ hx)
        omega)
      omega
theorem nodupI_len {N : Nat} {w : List Int} (h : w.Nodup) (hb : ∀ x ∈ w, 0 ≤ x ∧ x < (N : Int)) : w.length ≤ N := by
  have h1 : (w.map Int.toNat).Nodup := by
    refine List.pairwise_map.2 (List.Pairwise.imp_of_mem (fun {a b} ha hb' hab => ?_) h)
    have := hb a ha; have := hb b hb'; omega
  have h3 := nodupN_len h1 (n := N) (fun x hx => by
    obtain ⟨y, hy, rfl⟩ := List.mem_map.1 hx
    have := hb y hy
    omega)
  simpa using h3
theorem Inv.len {P : Int → Prop} {w : List Int} {N : Int} (h : Inv P w) (hP : ∀ x, P x → 0 ≤ x ∧ x < N) (hN : 0 ≤ N) : (w.length : Int) ≤ N := by
  have := nodupI_len (N := N.toNat) h.nd (fun x hx => by have := hP x (h.all x hx); omega)
  omega
end Go.Rx
end

section
/- LayoutApart, plainly. -/
namespace Go.Rx
open Go.Proofs

theorem wrap_u64' (x : Int) : IntKind.wrap IntKind.u64 x = x % 18446744073709551616 := rfl
theorem within_eq {n low high : Int} (h : 0 ≤ low ∧ low ≤ high ∧ high ≤ 1099511627776) : ∃ x, m_law02_within n low high = some x ∧ low ≤ x ∧ x ≤ high := by
  unfold m_law02_within
  have hu : ∀ x : Int, 0 ≤ x → x < 18446744073709551616 → IntKind.wrap IntKind.u64 x = x := fun x h1 h2 => by
    show IntKind.wrap .u64 x = x
    rw [wrap_u64']; omega
  have hn : ∀ x : Int, 0 ≤ IntKind.wrap IntKind.u64 x := fun x => by
    rw [wrap_u64']; exact Int.emod_nonneg _ (by decide)
  rw [wrap_id (x := high - low) (by omega) (by omega), wrap_id (x := high - low + 1) (by omega) (by omega), hu (high - low + 1) (by omega) (by omega)]
  have e : (!(high - low + 1 == 0)) = true := by simp; omega
  rw [e, cond_true]
  have h0 := hn n
  generalize IntKind.wrap IntKind.u64 n = m at *
  rw [Int.tmod_eq_emod_of_nonneg h0]
  have h1 := Int.emod_nonneg m (b := high - low + 1) (by omega)
  have h2 := Int.emod_lt_of_pos m (b := high - low + 1) (by omega)
  generalize m % (high - low + 1) = k at *
  refine ⟨_, rfl, ?_⟩
  rw [wrap_id (x := k) (by omega) (by omega), wrap_id (by omega) (by omega)]
  omega

theorem Some_eq (c : T_api_Config) : ∃ d, m_law02_Some c = some d ∧ RightC d := by
  unfold m_law02_Some
  obtain ⟨a0, e0, h0⟩ := within_eq (n := c.Workers) (low := 1) (high := 64) (by omega)
  obtain ⟨a1, e1, h1⟩ := within_eq (n := c.CPUs) (low := 1) (high := 8) (by omega)
  obtain ⟨a2, e2, h2⟩ := within_eq (n := c.Pages) (low := 1) (high := 256) (by omega)
  obtain ⟨a3, e3, h3⟩ := within_eq (n := c.Stripes) (low := 1) (high := 64) (by omega)
  obtain ⟨a4, e4, h4⟩ := within_eq (n := c.Tries) (low := 0) (high := 16) (by omega)
  obtain ⟨a5, e5, h5⟩ := within_eq (n := c.Wait) (low := 0) (high := 64) (by omega)
  obtain ⟨a6, e6, h6⟩ := within_eq (n := c.Clock) (low := 1) (high := 1099511627776) (by omega)
  obtain ⟨a7, e7, h7⟩ := within_eq (n := c.Private) (low := 1) (high := 8) (by omega)
  obtain ⟨a8, e8, h8⟩ := within_eq (n := c.Cache) (low := 0) (high := 8) (by omega)
  obtain ⟨a9, e9, h9⟩ := within_eq (n := c.Bin) (low := 0) (high := 16) (by omega)
  obtain ⟨a10, e10, h10⟩ := within_eq (n := c.Batch) (low := 1) (high := 8) (by omega)
  rw [e0, e1, e2, e3, e4, e5, e6, e7, e8, e9, e10]
  exact ⟨_, rfl, h0, h1, h2, h3, h4, h5, h6, h7, h8, h9, h10⟩

theorem lives02_eq : m_law02_lives = some true := by
  unfold m_law02_lives
  rw [Of_eq]
  have hR : RightC (T_api_Config.mk 1 1 1 1 0 0 9 1 0 0 1) := by decide
  have hL := layC_ok hR
  rw [if_pos hR]
  simp only [Option.bind_some, Place_eq hL, Table_eq hL, Kind_eq hL, Head_eq hL, Cache_eq hL, Bin_eq hL, User_eq, Words_eq]
  decide

end Go.Rx
end

section
/- LayoutApart: what is named is named once. -/
namespace Go.Rx
open Go.Proofs


/-- The last loop: user words, and the words of what lives there. -/
def P6 (L : T_layout_Layout) (a x : Int) : Prop := (3 ≤ x ∧ x < L.at_9 + (a - L.at_10)) ∨ (L.at_10 ≤ x ∧ x < a)
theorem named6 {L : T_layout_Layout} (h : LayOK L) (a : Int) (w : List Int) (ha : L.at_10 ≤ a ∧ a ≤ L.at_11) (hw : Inv (P6 L a) w) : ∃ r, lp_law02_named_6 L (a, w) = some r ∧ Inv (fun x => 3 ≤ x ∧ x < L.at_11) r := by
  have hb := h.big; have h11 := h.a11; have hp := h.pages
  have h93 : 3 ≤ L.at_9 := by
    have := h.a0; have := h.stripes; have := h.a1; have := h.a6; have := h.a7; have h3 := h.a8b; have h4 := h.bin; have := h.a9
    omega
  refine loopO_ind (I := fun s : Int × List Int => (L.at_10 ≤ s.1 ∧ s.1 ≤ L.at_11) ∧ Inv (P6 L s.1) s.2) (μ := fun s => (L.at_11 - s.1).toNat) _ ?_ _ ⟨ha, hw⟩
  rintro ⟨a, w⟩ ⟨ha, hw⟩
  simp only at ha hw
  have hl := hw.len (N := 50000) (fun x hx => by unfold P6 at hx; omega) (by omega)
  unfold sb_law02_named_6
  simp only [Words_eq, Option.bind_some]
  by_cases e : a < L.at_11
  · rw [decide_eq_true e, cond_true, Live_eq h, Option.bind_some, decide_eq_true (show w.length + 2 ≤ 1048576 by omega), cond_true, wrap_id (by omega) (by omega)]
    have hv : lLive L a = L.at_9 + a - L.at_10 := by unfold lLive; rw [if_pos (by omega)]
    rw [hv]
    refine .inl ⟨_, rfl, ⟨by omega, ?_⟩, by simp only; omega⟩
    have e1 : w ++ [a, L.at_9 + a - L.at_10] = (w ++ [a]) ++ [L.at_9 + a - L.at_10] := by simp
    simp only [e1]
    refine Inv.push (P := fun x => P6 L a x ∨ x = a) (Inv.push hw (by unfold P6; omega) (fun x hx => .inl hx) (.inr rfl)) ?_ (fun x hx => ?_) ?_
    · unfold P6; omega
    · simp only [P6] at hx ⊢; omega
    · simp only [P6]; omega
  · rw [decide_eq_false e]
    refine .inr ⟨_, rfl, hw.mono fun x hx => ?_⟩
    unfold P6 at hx; omega

/-- What caches have ahead of one. -/
def PC (L : T_layout_Layout) (q cpu x : Int) : Prop := ∃ q' c', 0 ≤ q' ∧ q' < 5 ∧ 0 ≤ c' ∧ c' < L.c_CPUs ∧ (q' < q ∨ q' = q ∧ c' < cpu) ∧ L.at_7 + (5 * c' + q') * (L.c_Cache + 1) ≤ x ∧ x < L.at_7 + (5 * c' + q' + 1) * (L.c_Cache + 1)
/-- What there is behind some classes' heads and bins. -/
def PH (L : T_layout_Layout) (hd bn x : Int) : Prop := (3 ≤ x ∧ x < L.at_6 + hd) ∨ (L.at_8 ≤ x ∧ x < L.at_8 + bn)

theorem rows_apart {k m C a b : Int} (hC : 1 ≤ C) (hkm : k ≠ m) (ha : k * C ≤ a ∧ a < (k + 1) * C) (hb : m * C ≤ b ∧ b < (m + 1) * C) : a ≠ b := by
  intro e
  subst e
  rcases Int.lt_or_gt_of_ne hkm with x | x
  · have : (k + 1) * C ≤ m * C := Int.mul_le_mul_of_nonneg_right (by omega) (by omega)
    omega
  · have : (m + 1) * C ≤ k * C := Int.mul_le_mul_of_nonneg_right (by omega) (by omega)
    omega
theorem cache_in {L : T_layout_Layout} (h : LayOK L) {k : Int} (hk : 0 ≤ k ∧ k + 1 ≤ 5 * L.c_CPUs) : 0 ≤ k * (L.c_Cache + 1) ∧ (k + 1) * (L.c_Cache + 1) ≤ L.at_8 - L.at_7 := by
  have h4 := h.cache; have h8 := h.a8
  refine ⟨Int.mul_nonneg hk.1 (by omega), ?_⟩
  have : (k + 1) * (L.c_Cache + 1) ≤ (5 * L.c_CPUs) * (L.c_Cache + 1) := Int.mul_le_mul_of_nonneg_right hk.2 (by omega)
  have e : L.c_CPUs * 5 = 5 * L.c_CPUs := Int.mul_comm _ _
  rw [e] at h8
  omega
theorem PC_in {L : T_layout_Layout} (h : LayOK L) {q cpu x : Int} (hx : PC L q cpu x) : L.at_7 ≤ x ∧ x < L.at_8 := by
  obtain ⟨q', c', h1, h2, h3, h4, _, h5, h6⟩ := hx
  have := cache_in h (k := 5 * c' + q') (by omega)
  omega

theorem lay_facts {L : T_layout_Layout} (h : LayOK L) : 4 ≤ L.at_0 ∧ L.at_0 < L.at_1 ∧ L.at_1 < L.at_6 ∧ L.at_7 = L.at_6 + 62 ∧ L.at_7 + 5 ≤ L.at_8 ∧ L.at_8 + 5 ≤ L.at_9 ∧ L.at_9 ≤ L.at_10 ∧ L.at_10 ≤ 20000 := by
  have hb := h.big; have := h.pages; have := h.a0; have := h.stripes; have := h.a1; have := h.a6; have := h.a7; have h3 := h.a8b; have h4 := h.bin; have := h.a9
  omega

def st4 (L : T_layout_Layout) (q : Int) (w : List Int) : Prop := Inv (fun x => PH L (64 - 2 * slotsI q) (q * (L.c_Bin + 1)) x ∨ PC L q 0 x) w

theorem slots_half {q : Int} (hq : 0 ≤ q ∧ q < 5) : (slotsI q).tdiv 2 = (if q = 4 then 1 else slotsI (q + 1)) := by
  have e : q = 0 ∨ q = 1 ∨ q = 2 ∨ q = 3 ∨ q = 4 := by omega
  rcases e with rfl | rfl | rfl | rfl | rfl <;> decide

/-- A cache's words. -/
theorem named9 {L : T_layout_Layout} (h : LayOK L) {hd bn q cpu : Int} (hq : 0 ≤ q ∧ q < 5) (hc : 0 ≤ cpu ∧ cpu < L.c_CPUs) (hd0 : 0 ≤ hd ∧ hd ≤ 62) (hbn : 0 ≤ bn ∧ bn ≤ L.at_9 - L.at_8) (w : List Int) (hw : Inv (fun x => PH L hd bn x ∨ PC L q cpu x) w) :
    ∃ w', lp_law02_named_9 L q L.c_Cache cpu (0, w) = some (.inl (cpu + 1, w')) ∧ Inv (fun x => PH L hd bn x ∨ PC L q (cpu + 1) x) w' := by
  obtain ⟨f1, f2, f3, f4, f5, f6, f7, f8⟩ := lay_facts h
  have h4 := h.cache; have hcp := h.cpus
  have hrow := cache_in h (k := 5 * cpu + q) (by omega)
  have hv : lCache L cpu q = L.at_7 + (5 * cpu + q) * (L.c_Cache + 1) := by unfold lCache; rw [if_pos ⟨hq, hc⟩]
  have hrow2 : (5 * cpu + q + 1) * (L.c_Cache + 1) = (5 * cpu + q) * (L.c_Cache + 1) + (L.c_Cache + 1) := by rw [Int.add_mul, Int.one_mul]
  refine Exists.elim (loopO_ind (step := fun s => sb_law02_named_9 L q L.c_Cache cpu s.1 s.2) (I := fun s : Int × List Int => (0 ≤ s.1 ∧ s.1 ≤ L.c_Cache + 1) ∧ Inv (fun x => (PH L hd bn x ∨ PC L q cpu x) ∨ (L.at_7 + (5 * cpu + q) * (L.c_Cache + 1) ≤ x ∧ x < L.at_7 + (5 * cpu + q) * (L.c_Cache + 1) + s.1)) s.2)
    (μ := fun s => (L.c_Cache + 1 - s.1).toNat) (fun r => ∃ w', r = .inl (cpu + 1, w') ∧ Inv (fun x => PH L hd bn x ∨ PC L q (cpu + 1) x) w') ?_ (0, w) ⟨by simp only; omega, hw.mono fun x hx => .inl hx⟩) (fun r ⟨h1, w', e, h2⟩ => by subst e; exact ⟨w', h1, h2⟩)
  rintro ⟨i, w⟩ ⟨hi, hw⟩
  simp only at hi hw
  have hl := hw.len (N := 50000) (fun x hx => by
    rcases hx with (hx | hx) | hx
    · unfold PH at hx; omega
    · have := PC_in h hx; omega
    · omega) (by omega)
  simp only [sb_law02_named_9]
  generalize hk : (5 * cpu + q) * (L.c_Cache + 1) = row at *
  by_cases e : i ≤ L.c_Cache
  · rw [decide_eq_true e, cond_true, Cache_eq h, Option.bind_some, decide_eq_true (show w.length + 1 ≤ 1048576 by omega), cond_true, hv, wrap_id (x := i + 1) (by omega) (by omega), wrap_id (by omega) (by omega)]
    refine .inl ⟨_, rfl, ⟨by omega, Inv.push hw ?_ (fun x hx => ?_) ?_⟩, by simp only; omega⟩
    · rintro ((hx | hx) | hx)
      · unfold PH at hx; omega
      · obtain ⟨q', c', g1, g2, g3, g4, g5, g6, g7⟩ := hx
        refine rows_apart (k := 5 * c' + q') (m := 5 * cpu + q) (C := L.c_Cache + 1) (a := row + i) (b := row + i) (by omega) (by omega) (by omega) (by omega) rfl
      · omega
    · rcases hx with hx | hx
      · exact .inl hx
      · exact .inr (by omega)
    · exact .inr (by omega)
  · rw [decide_eq_false e, cond_false, wrap_id (x := cpu + 1) (by omega) (by omega)]
    refine .inr ⟨_, rfl, w, rfl, hw.mono fun x hx => ?_⟩
    rcases hx with (hx | hx) | hx
    · exact .inl hx
    · obtain ⟨q', c', g1, g2, g3, g4, g5, g6, g7⟩ := hx
      exact .inr ⟨q', c', g1, g2, g3, g4, by omega, g6, g7⟩
    · exact .inr ⟨q, cpu, hq.1, hq.2, hc.1, hc.2, by omega, by omega, by omega⟩

/-- A class's caches. -/
theorem named8 {L : T_layout_Layout} (h : LayOK L) {hd bn q : Int} (hq : 0 ≤ q ∧ q < 5) (hd0 : 0 ≤ hd ∧ hd ≤ 62) (hbn : 0 ≤ bn ∧ bn ≤ L.at_9 - L.at_8) (slots : Int) (hs : 1 ≤ slots ∧ slots ≤ 32) (w : List Int) (hw : Inv (fun x => PH L hd bn x ∨ PC L q 0 x) w) :
    ∃ w', lp_law02_named_8 L slots q L.c_CPUs L.c_Cache (0, w) = some (.inl (slots.tdiv 2, q + 1, w')) ∧ Inv (fun x => PH L hd bn x ∨ PC L (q + 1) 0 x) w' := by
  have hcp := h.cpus
  refine Exists.elim (loopO_ind (step := fun s => sb_law02_named_8 L slots q L.c_CPUs L.c_Cache s.1 s.2) (I := fun s : Int × List Int => (0 ≤ s.1 ∧ s.1 ≤ L.c_CPUs) ∧ Inv (fun x => PH L hd bn x ∨ PC L q s.1 x) s.2)
    (μ := fun s => (L.c_CPUs - s.1).toNat) (fun r => ∃ w', r = .inl (slots.tdiv 2, q + 1, w') ∧ Inv (fun x => PH L hd bn x ∨ PC L (q + 1) 0 x) w') ?_ (0, w) ⟨by simp only; omega, hw⟩) (fun r ⟨h1, w', e, h2⟩ => by subst e; exact ⟨w', h1, h2⟩)
  rintro ⟨cpu, w⟩ ⟨hi, hw⟩
  simp only at hi hw
  simp only [sb_law02_named_8]
  by_cases e : cpu < L.c_CPUs
  · rw [decide_eq_true e, cond_true]
    obtain ⟨w', g1, g2⟩ := named9 h hq (by omega) hd0 hbn w hw
    exact .inl ⟨_, g1, ⟨by omega, g2⟩, by simp only; omega⟩
  · rw [decide_eq_false e, cond_false, wrap_id (x := q + 1) (by omega) (by omega), Int.tdiv_eq_ediv_of_nonneg (by omega), wrap_id (by omega) (by omega)]
    refine .inr ⟨_, rfl, w, rfl, hw.mono fun x hx => ?_⟩
    rcases hx with hx | hx
    · exact .inl hx
    · obtain ⟨q', c', g1, g2, g3, g4, g5, g6, g7⟩ := hx
      exact .inr ⟨q', c', g1, g2, g3, g4, by omega, g6, g7⟩

/-- A class's bin. -/
theorem named7 {L : T_layout_Layout} (h : LayOK L) {hd q : Int} (hq : 0 ≤ q ∧ q < 5) (hd0 : 0 ≤ hd ∧ hd ≤ 62) (slots : Int) (hs : 1 ≤ slots ∧ slots ≤ 32) (w : List Int) (hw : Inv (fun x => PH L hd (q * (L.c_Bin + 1)) x ∨ PC L q 0 x) w) :
    ∃ w', lp_law02_named_7 L slots q L.c_CPUs L.c_Cache L.c_Bin (0, w) = some (.inl (slots.tdiv 2, q + 1, w')) ∧ Inv (fun x => PH L hd ((q + 1) * (L.c_Bin + 1)) x ∨ PC L (q + 1) 0 x) w' := by
  obtain ⟨f1, f2, f3, f4, f5, f6, f7, f8⟩ := lay_facts h
  have hbi := h.bin; have h9 := h.a9
  have hm : (q + 1) * (L.c_Bin + 1) = q * (L.c_Bin + 1) + (L.c_Bin + 1) := by rw [Int.add_mul, Int.one_mul]
  have hm0 : 0 ≤ q * (L.c_Bin + 1) := Int.mul_nonneg hq.1 (by omega)
  have hm1 : (q + 1) * (L.c_Bin + 1) ≤ 5 * (L.c_Bin + 1) := Int.mul_le_mul_of_nonneg_right (by omega) (by omega)
  have hv : lBin L q = L.at_8 + q * (L.c_Bin + 1) := by unfold lBin; rw [if_pos hq]
  refine Exists.elim (loopO_ind (step := fun s => sb_law02_named_7 L slots q L.c_CPUs L.c_Cache L.c_Bin s.1 s.2) (I := fun s : Int × List Int => (0 ≤ s.1 ∧ s.1 ≤ L.c_Bin + 1) ∧ Inv (fun x => PH L hd (q * (L.c_Bin + 1) + s.1) x ∨ PC L q 0 x) s.2)
    (μ := fun s => (L.c_Bin + 1 - s.1).toNat) (fun r => ∃ w', r = .inl (slots.tdiv 2, q + 1, w') ∧ Inv (fun x => PH L hd ((q + 1) * (L.c_Bin + 1)) x ∨ PC L (q + 1) 0 x) w') ?_ (0, w) ⟨by simp only; omega, by simpa using hw⟩) (fun r ⟨h1, w', e, h2⟩ => by subst e; exact ⟨w', h1, h2⟩)
  rintro ⟨i, w⟩ ⟨hi, hw⟩
  simp only at hi hw
  have hl := hw.len (N := 50000) (fun x hx => by
    rcases hx with hx | hx
    · unfold PH at hx; omega
    · have := PC_in h hx; omega) (by omega)
  simp only [sb_law02_named_7]
  by_cases e : i ≤ L.c_Bin
  · rw [decide_eq_true e, cond_true, Bin_eq h, Option.bind_some, decide_eq_true (show w.length + 1 ≤ 1048576 by omega), cond_true, hv, wrap_id (x := i + 1) (by omega) (by omega), wrap_id (by omega) (by omega)]
    refine .inl ⟨_, rfl, ⟨by omega, Inv.push hw ?_ (fun x hx => ?_) ?_⟩, by simp only; omega⟩
    · rintro (hx | hx)
      · unfold PH at hx; omega
      · have := PC_in h hx; omega
    · rcases hx with hx | hx
      · exact .inl (by unfold PH at hx ⊢; omega)
      · exact .inr hx
    · exact .inl (by unfold PH; omega)
  · have ei : q * (L.c_Bin + 1) + i = (q + 1) * (L.c_Bin + 1) := by omega
    rw [ei] at hw
    rw [decide_eq_false e, cond_false]
    obtain ⟨w', g1, g2⟩ := named8 h hq hd0 (bn := (q + 1) * (L.c_Bin + 1)) (by omega) slots hs w hw
    rw [g1]
    exact .inr ⟨_, rfl, w', rfl, g2⟩

/-- A class's heads. -/
theorem named5 {L : T_layout_Layout} (h : LayOK L) {q : Int} (hq : 0 ≤ q ∧ q < 5) (w : List Int) (hw : Inv (fun x => PH L (64 - 2 * slotsI q) (q * (L.c_Bin + 1)) x ∨ PC L q 0 x) w) :
    ∃ w', lp_law02_named_5 L (slotsI q) q L.c_CPUs L.c_Cache L.c_Bin (1, w) = some (.inl ((slotsI q).tdiv 2, q + 1, w')) ∧ Inv (fun x => PH L (64 - slotsI q) ((q + 1) * (L.c_Bin + 1)) x ∨ PC L (q + 1) 0 x) w' := by
  obtain ⟨f1, f2, f3, f4, f5, f6, f7, f8⟩ := lay_facts h
  have hbi := h.bin; have h9 := h.a9
  have hm1 : q * (L.c_Bin + 1) ≤ 5 * (L.c_Bin + 1) := Int.mul_le_mul_of_nonneg_right (by omega) (by omega)
  have hm0 : 0 ≤ q * (L.c_Bin + 1) := Int.mul_nonneg hq.1 (by omega)
  have hs : 2 ≤ slotsI q ∧ slotsI q ≤ 32 := by
    have e : q = 0 ∨ q = 1 ∨ q = 2 ∨ q = 3 ∨ q = 4 := by omega
    rcases e with rfl | rfl | rfl | rfl | rfl <;> decide
  have hv : ∀ f, 1 ≤ f → f ≤ slotsI q → lHead L q f = L.at_6 + 64 - 2 * slotsI q + f - 1 := fun f g1 g2 => by unfold lHead; rw [if_pos ⟨hq, g1, g2⟩]
  have hh := fun f => Head_eq h q f
  generalize slotsI q = s at *
  refine Exists.elim (loopO_ind (step := fun t => sb_law02_named_5 L s q L.c_CPUs L.c_Cache L.c_Bin t.1 t.2) (I := fun t : Int × List Int => (1 ≤ t.1 ∧ t.1 ≤ s + 1) ∧ Inv (fun x => PH L (64 - 2 * s + (t.1 - 1)) (q * (L.c_Bin + 1)) x ∨ PC L q 0 x) t.2)
    (μ := fun t => (s + 1 - t.1).toNat) (fun r => ∃ w', r = .inl (s.tdiv 2, q + 1, w') ∧ Inv (fun x => PH L (64 - s) ((q + 1) * (L.c_Bin + 1)) x ∨ PC L (q + 1) 0 x) w') ?_ (1, w) ⟨by simp only; omega, by simpa using hw⟩) (fun r ⟨h1, w', e, h2⟩ => by subst e; exact ⟨w', h1, h2⟩)
  rintro ⟨i, w⟩ ⟨hi, hw⟩
  simp only at hi hw
  have hl := hw.len (N := 50000) (fun x hx => by
    rcases hx with hx | hx
    · unfold PH at hx; omega
    · have := PC_in h hx; omega) (by omega)
  simp only [sb_law02_named_5]
  by_cases e : i ≤ s
  · rw [decide_eq_true e, cond_true, hh, Option.bind_some, decide_eq_true (show w.length + 1 ≤ 1048576 by omega), cond_true, hv i (by omega) e, wrap_id (x := i + 1) (by omega) (by omega)]
    refine .inl ⟨_, rfl, ⟨by omega, Inv.push hw ?_ (fun x hx => ?_) ?_⟩, by simp only; omega⟩
    · rintro (hx | hx)
      · unfold PH at hx; omega
      · have := PC_in h hx; omega
    · rcases hx with hx | hx
      · exact .inl (by unfold PH at hx ⊢; omega)
      · exact .inr hx
    · exact .inl (by unfold PH; omega)
  · have ei : 64 - 2 * s + (i - 1) = 64 - s := by omega
    rw [ei] at hw
    rw [decide_eq_false e, cond_false]
    obtain ⟨w', g1, g2⟩ := named7 h hq (hd := 64 - s) (by omega) s (by omega) w hw
    rw [g1]
    exact .inr ⟨_, rfl, w', rfl, g2⟩

/-- All classes. -/
theorem named4 {L : T_layout_Layout} (h : LayOK L) (w : List Int) (hw : Inv (fun x => 3 ≤ x ∧ x < L.at_6) w) : ∃ r, lp_law02_named_4 L L.c_CPUs L.c_Cache L.c_Bin (32, 0, w) = some r ∧ Inv (fun x => 3 ≤ x ∧ x < L.at_11) r := by
  obtain ⟨f1, f2, f3, f4, f5, f6, f7, f8⟩ := lay_facts h
  have h9 := h.a9
  refine loopO_ind (I := fun s : Int × Int × List Int => (0 ≤ s.2.1 ∧ s.2.1 ≤ 5) ∧ (s.2.1 < 5 → s.1 = slotsI s.2.1) ∧ Inv (fun x => PH L (if s.2.1 = 5 then 62 else 64 - 2 * slotsI s.2.1) (s.2.1 * (L.c_Bin + 1)) x ∨ PC L s.2.1 0 x) s.2.2)
    (μ := fun s => (5 - s.2.1).toNat) _ ?_ _ ⟨by simp only; omega, by intro _; rfl, ?_⟩
  · rintro ⟨slots, q, w⟩ ⟨hq, hs, hw⟩
    simp only at hq hs hw
    simp only [sb_law02_named_4]
    by_cases e : q < 5
    · rw [decide_eq_true e, cond_true, hs e]
      rw [if_neg (by omega)] at hw
      obtain ⟨w', g1, g2⟩ := named5 h (q := q) (by omega) w hw
      refine .inl ⟨_, g1, ⟨by simp only; omega, fun hq5 => ?_, g2.mono fun x hx => ?_⟩, by simp only; omega⟩
      · simp only at hq5 ⊢
        rw [slots_half (by omega), if_neg (by omega)]
      · rcases hx with hx | hx
        · refine .inl ?_
          simp only
          have e2 : 64 - slotsI q = if q + 1 = 5 then 62 else 64 - 2 * slotsI (q + 1) := by
            have e : q = 0 ∨ q = 1 ∨ q = 2 ∨ q = 3 ∨ q = 4 := by omega
            rcases e with rfl | rfl | rfl | rfl | rfl <;> decide
          rw [← e2]
          exact hx
        · exact .inr hx
    · have e5 : q = 5 := by omega
      subst e5
      rw [decide_eq_false e, cond_false, User_eq, Option.bind_some]
      obtain ⟨r, g1, g2⟩ := named6 h L.at_10 w (by have := h.a11; have := h.pages; omega) (hw.mono fun x hx => by
        unfold P6
        rcases hx with hx | hx
        · unfold PH at hx; simp only [if_true] at hx; omega
        · have := PC_in h hx; omega)
      rw [g1]
      exact .inr ⟨r, rfl, g2⟩
  · refine hw.mono fun x hx => .inl ?_
    unfold PH
    have e : 64 - 2 * slotsI 0 = 0 := by decide
    simp only [e]
    omega

/-- Pages. -/
def P3 (L : T_layout_Layout) (p x : Int) : Prop := (3 ≤ x ∧ x < L.at_1 + p) ∨ (L.at_2 ≤ x ∧ x < L.at_2 + p) ∨ (L.at_3 ≤ x ∧ x < L.at_3 + p) ∨ (L.at_4 ≤ x ∧ x < L.at_4 + p) ∨ (L.at_5 ≤ x ∧ x < L.at_5 + p)
theorem named3 {L : T_layout_Layout} (h : LayOK L) (w : List Int) (hw : Inv (fun x => 3 ≤ x ∧ x < L.at_1) w) : ∃ r, lp_law02_named_3 L L.c_CPUs L.c_Pages L.c_Cache L.c_Bin (0, w) = some r ∧ Inv (fun x => 3 ≤ x ∧ x < L.at_11) r := by
  obtain ⟨f1, f2, f3, f4, f5, f6, f7, f8⟩ := lay_facts h
  have hp := h.pages; have h2 := h.a2; have h3 := h.a3; have h4 := h.a4; have h5 := h.a5; have h6 := h.a6
  refine loopO_ind (I := fun s : Int × List Int => (0 ≤ s.1 ∧ s.1 ≤ L.c_Pages) ∧ Inv (P3 L s.1) s.2) (μ := fun s => (L.c_Pages - s.1).toNat) _ ?_ _ ⟨by simp only; omega, hw.mono fun x hx => by unfold P3; simp only; omega⟩
  rintro ⟨p, w⟩ ⟨hi, hw⟩
  simp only at hi hw
  have hl := hw.len (N := 50000) (fun x hx => by unfold P3 at hx; omega) (by omega)
  simp only [sb_law02_named_3]
  by_cases e : p < L.c_Pages
  · have hv : ∀ a, lPg L a p = a + p := fun a => by unfold lPg; rw [if_pos ⟨hi.1, e⟩]
    rw [decide_eq_true e, cond_true, Kind_eq h, Count_eq h, Bits_eq h, Next_eq h, Prev_eq h]
    simp only [Option.bind_some, hv]
    rw [decide_eq_true (show w.length + 5 ≤ 1048576 by omega), cond_true, wrap_id (x := p + 1) (by omega) (by omega)]
    refine .inl ⟨_, rfl, ⟨by omega, ?_⟩, by simp only; omega⟩
    have e1 : w ++ [L.at_1 + p, L.at_2 + p, L.at_3 + p, L.at_4 + p, L.at_5 + p] = ((((w ++ [L.at_1 + p]) ++ [L.at_2 + p]) ++ [L.at_3 + p]) ++ [L.at_4 + p]) ++ [L.at_5 + p] := by simp
    simp only [e1]
    refine Inv.push (P := fun x => (((P3 L p x ∨ x = L.at_1 + p) ∨ x = L.at_2 + p) ∨ x = L.at_3 + p) ∨ x = L.at_4 + p) (Inv.push (P := fun x => ((P3 L p x ∨ x = L.at_1 + p) ∨ x = L.at_2 + p) ∨ x = L.at_3 + p) (Inv.push (P := fun x => (P3 L p x ∨ x = L.at_1 + p) ∨ x = L.at_2 + p)
      (Inv.push (P := fun x => P3 L p x ∨ x = L.at_1 + p) (Inv.push hw ?_ (fun x hx => .inl hx) (.inr rfl)) ?_ (fun x hx => .inl hx) (.inr rfl)) ?_ (fun x hx => .inl hx) (.inr rfl)) ?_ (fun x hx => .inl hx) (.inr rfl)) ?_ (fun x hx => ?_) ?_
    all_goals unfold P3 at *; omega
  · have ep : p = L.c_Pages := by omega
    subst ep
    rw [decide_eq_false e, cond_false]
    obtain ⟨r, g1, g2⟩ := named4 h w (hw.mono fun x hx => by unfold P3 at hx; omega)
    rw [g1]
    exact .inr ⟨r, rfl, g2⟩

/-- Chunks. -/
theorem named2 {L : T_layout_Layout} (h : LayOK L) (w : List Int) (hw : Inv (fun x => 3 ≤ x ∧ x < L.at_0) w) : ∃ r, lp_law02_named_2 L L.c_CPUs L.c_Pages L.c_Cache L.c_Bin (0, w) = some r ∧ Inv (fun x => 3 ≤ x ∧ x < L.at_11) r := by
  obtain ⟨f1, f2, f3, f4, f5, f6, f7, f8⟩ := lay_facts h
  have hp := h.pages; have h1 := h.a1
  refine loopO_ind (I := fun s : Int × List Int => (0 ≤ s.1 ∧ s.1 ≤ (L.c_Pages + 3) / 4) ∧ Inv (fun x => 3 ≤ x ∧ x < L.at_0 + s.1) s.2) (μ := fun s => ((L.c_Pages + 3) / 4 - s.1).toNat) _ ?_ _ ⟨by simp only; omega, hw.mono fun x hx => by simp only; omega⟩
  rintro ⟨p, w⟩ ⟨hi, hw⟩
  simp only at hi hw
  have hl := hw.len (N := 50000) (fun x hx => by omega) (by omega)
  simp only [sb_law02_named_2, Chunks_eq h, Option.bind_some]
  by_cases e : p < (L.c_Pages + 3) / 4
  · have hv : lTab L p = L.at_0 + p := by unfold lTab; rw [if_pos ⟨hi.1, e⟩]
    rw [decide_eq_true e, cond_true, Table_eq h, Option.bind_some, decide_eq_true (show w.length + 1 ≤ 1048576 by omega), cond_true, wrap_id (x := p + 1) (by omega) (by omega), hv]
    exact .inl ⟨_, rfl, ⟨by omega, Inv.push hw (by omega) (fun x hx => by simp only; omega) (by simp only; omega)⟩, by simp only; omega⟩
  · rw [decide_eq_false e, cond_false]
    obtain ⟨r, g1, g2⟩ := named3 h w (hw.mono fun x hx => by omega)
    rw [g1]
    exact .inr ⟨r, rfl, g2⟩

theorem named_eq {L : T_layout_Layout} (h : LayOK L) : ∃ r, m_law02_named L = some r ∧ Inv (fun x => 3 ≤ x ∧ x < L.at_11) r := by
  obtain ⟨f1, f2, f3, f4, f5, f6, f7, f8⟩ := lay_facts h
  have hs := h.stripes; have h0 := h.a0
  unfold m_law02_named
  rw [Config_eq, Option.bind_some]
  refine loopO_ind (I := fun s : Int × List Int => (0 ≤ s.1 ∧ s.1 ≤ L.c_Stripes) ∧ Inv (fun x => 3 ≤ x ∧ x < 3 + s.1) s.2) (μ := fun s => (L.c_Stripes - s.1).toNat) _ ?_ _ ⟨by simp only; omega, ⟨by simp, by simp⟩⟩
  rintro ⟨p, w⟩ ⟨hi, hw⟩
  simp only at hi hw
  have hl := hw.len (N := 50000) (fun x hx => by omega) (by omega)
  show (∃ s', sb_law02_named_1 L L.c_CPUs L.c_Pages L.c_Stripes L.c_Cache L.c_Bin p w = some (.inl s') ∧ _) ∨ ∃ r, sb_law02_named_1 L L.c_CPUs L.c_Pages L.c_Stripes L.c_Cache L.c_Bin p w = some (.inr r) ∧ _
  simp only [sb_law02_named_1]
  by_cases e : p < L.c_Stripes
  · rw [decide_eq_true e, cond_true, decide_eq_true (show w.length + 1 ≤ 1048576 by omega), cond_true, wrap_id (x := p + 1) (by omega) (by omega), wrap_id (x := 3 + p) (by omega) (by omega)]
    exact .inl ⟨_, rfl, ⟨by omega, Inv.push hw (by omega) (fun x hx => by simp only; omega) (by simp only; omega)⟩, by simp only; omega⟩
  · rw [decide_eq_false e, cond_false]
    obtain ⟨r, g1, g2⟩ := named2 h w (hw.mono fun x hx => by omega)
    rw [g1]
    exact .inr ⟨r, rfl, g2⟩
end Go.Rx
end

section
/- From a function's contract to the row of its law: how arguments read, and that they read so behind the call. -/
namespace Go.Rx
open Go.ChangeShapes Go.WideShapes Go.ChangeAt Go.RowKit

/-- The kinds of a law's arguments: a slice that is read, a value. -/
inductive AK where
  | row (tg : Nat)
  | el (tg : Nat)

/-- An element's numbers fit their kinds. -/
def elWf (tg : Nat) (e : El tg) : Prop := ∀ k n, Value.int k n ∈ elEnc tg e → (Lit.int k n).wf = true

/-- A value of an element's kind. -/
def elV : (tg : Nat) → El tg → V
  | 0, (n : Int) => vi n
  | 1, (b : Bool) => vb b
  | t, e => .agg ((elEnc t e).map .ext)

def ArgsOf : List AK → Nat → List V → Heap → Prop
  | [], _, ags, H => ags = [] ∧ H = []
  | .row tg :: ks, n, ags, H => ∃ (l : List (El tg)) (ags' : List V) (H' : Heap), ags = .row n :: ags' ∧ H = .row tg l true :: H' ∧ (∀ e ∈ l, elWf tg e) ∧ l.length ≤ maxLen ∧ ArgsOf ks (n + 1) ags' H'
  | .el tg :: ks, n, ags, H => ∃ (e : El tg) (ags' : List V), ags = elV tg e :: ags' ∧ elWf tg e ∧ ArgsOf ks n ags' H

/-- A law: whatever comes in, true. -/
def lawS (ks : List AK) : Spec where
  tr := fun args H K => ArgsOf ks 0 args H ∧ ∀ H', K (vb true) H'

section
variable {P : Program} {elT : ET}

/-- What a program must tell of an element's type. -/
structure ElOK (P : Program) (elT : ET) (tg : Nat) : Prop where
  cells : P.cellsOf (elT tg) = elM tg
  reads : ∀ {H : Type} (enc : TypeId × Value → H) (W : World) (base : Nat) (sp : Nat → Bool) (held : Bool) (fuel : Nat) (cs : List Value) (x : DataW H × List MemPlace),
    DataW.trod enc P W base sp held fuel (elT tg) cs = some x → ∃ e : El tg, cs = elEnc tg e ∧ elWf tg e
  value : ∀ (W : World) (r : Reach) (b : Nat) (v : Value) (e : El tg), Value.okWide P W r b (elT tg) v → v.cells.toList = elEnc tg e → ∀ ρ, (elV tg e).den ρ = some v

variable {H : Type} {enc : TypeId × Value → H} {W : World} {sp : Nat → Bool} {held : Bool}

theorem open_row {tg : Nat} (ok : ElOK P elT tg) {t : TypeId} (ht : P.underlying t = some (.slice (elT tg))) {r : Reach} {b0 : Nat} {v : Value} {d : DataW H} {ps : List MemPlace}
    (hval : Value.okWide P W r b0 t v) (hd : DataW.Trod enc P W 0 sp held t v d ps) :
    ∃ (l : List (El tg)) (F : List Nat), (∀ n ∈ F, n < W.heap.size) ∧ (∀ e ∈ l, elWf tg e) ∧ l.length ≤ maxLen ∧ (∃ a cap, v = .slice a l.length cap) ∧ ∀ ρ, (Blk.row tg l true).holds elT ρ W v F := by
  obtain ⟨a, len, cap, rfl⟩ := okWide_slice ht hval
  obtain ⟨fuel, hf⟩ := hd
  rcases Deep.open_slice ht hf with ⟨h, _⟩ | ⟨ad, len', cap', m, n, D, Pl, h, _, hl, hm, hmm, _, hx⟩
  · simp [Value.cells] at h
    obtain ⟨rfl, rfl, rfl⟩ := h
    exact ⟨[], [], by simp, by simp, Nat.zero_le _, ⟨none, 0, rfl⟩, fun ρ => ⟨none, 0, rfl, Nat.le_refl _, Nat.zero_le _, fun _ => rfl, fun j x hj => by simp [flat] at hj⟩⟩
  · simp [Value.cells] at h
    obtain ⟨rfl, rfl, rfl⟩ := h
    have hlm : len ≤ m := by rw [hmm]; split <;> omega
    have key : ∀ i, i < len → ∃ e : El tg, W.cells? 0 (ad.add (i * elM tg)) (elM tg) = some (elEnc tg e) ∧ elWf tg e := by
      intro i hi
      obtain ⟨cs', h1, h2⟩ := hx i (by omega)
      rw [ok.cells] at h1
      obtain ⟨e, he, hw⟩ := ok.reads enc W 0 sp held n cs' _ h2
      exact ⟨e, by rw [h1, he], hw⟩
    haveI : Inhabited (El tg) := ⟨elD tg⟩
    obtain ⟨E, hE⟩ := Deep.choose_lt key
    refine ⟨(List.range len).map E, if ad.block < W.heap.size then [ad.block] else [], ?_, ?_, by simp; omega, ⟨some ad, cap, by simp⟩, fun ρ => ⟨some ad, cap, by simp, by simpa using hl, hm, (fun h => by cases h), fun j x hj => ?_⟩⟩
    · intro n hn
      split at hn
      · rename_i hb; simp at hn; omega
      · simp at hn
    · intro e he
      obtain ⟨i, hi, rfl⟩ := List.mem_map.1 he
      exact (hE i (by simpa using hi)).2
    · have hjl : j < len * elM tg := by
        have := (List.getElem?_eq_some_iff.1 hj).1
        rw [flat_len] at this; simpa using this
      have hM : 0 < elM tg := by
        rcases Nat.eq_zero_or_pos (elM tg) with h | h
        · rw [h] at hjl; simp at hjl
        · exact h
      have hk : j / elM tg < len := (Nat.div_lt_iff_lt_mul hM).2 hjl
      have hr : j % elM tg < elM tg := Nat.mod_lt _ hM
      have hje : j = j / elM tg * elM tg + j % elM tg := by rw [Nat.mul_comm]; exact (Nat.div_add_mod _ _).symm
      rw [hje, flat_get tg _ _ (by simpa using hk) _ hr] at hj
      have hg : ((List.range len).map E).getD (j / elM tg) (elD tg) = E (j / elM tg) := by simp [List.getD, hk]
      rw [hg] at hj
      obtain ⟨_, _, hc⟩ := World.cells?_some (hE _ hk).1
      have := hc _ hr
      rw [hj, Deep.add_add, ← hje] at this
      refine ⟨ad, rfl, ?_, this⟩
      have hb : (ad.add j).block = ad.block := block_add ad j
      have hlt : ad.block < W.heap.size := by
        rcases Nat.lt_or_ge ad.block W.heap.size with h | h
        · exact h
        · rw [← hb] at h
          simp [World.cell?, Array.getElem?_eq_none h] at this
      simp [hlt]

/-- What each argument's type must be. -/
def AKOK (P : Program) (elT : ET) : AK → TypeId → Prop
  | .row tg, t => P.underlying t = some (.slice (elT tg)) ∧ ElOK P elT tg
  | .el tg, t => t = elT tg ∧ ElOK P elT tg

def AKsOK (P : Program) (elT : ET) : List AK → List TypeId → Prop
  | [], [] => True
  | k :: ks, t :: ts => AKOK P elT k t ∧ AKsOK P elT ks ts
  | _, _ => False

theorem open_args : ∀ (ks : List AK) (ts : List TypeId) (vs : List Value) (ds : List (DataW H)) (ps : List MemPlace) (r : Reach) (b0 : Nat), AKsOK P elT ks ts →
    (∀ (j : Nat) t v, ts[j]? = some t → vs[j]? = some v → Value.okWide P W r b0 t v) → DataW.TrodAll enc P W 0 sp held ts vs ds ps → ∀ (ρ : List Value) (F : Nat → List Nat) (H0 : Heap), Sat elT ρ F H0 W → (∀ b ∈ H0, b.writable = false) →
    ∃ (ags : List V) (H1 : Heap) (ρ' : List Value) (F' : Nat → List Nat), ArgsOf ks ρ.length ags H1 ∧ denL ρ' ags = some vs ∧ Sat elT ρ' F' (H0 ++ H1) W ∧ (∀ b ∈ H0 ++ H1, b.writable = false) ∧ Le ρ ρ'
  | [], ts, vs, ds, ps, r, b0, hk, _, hd, ρ, F, H0, hs, hw => by
    cases ts with
    | cons t ts => exact hk.elim
    | nil =>
      obtain ⟨rfl, rfl, rfl⟩ := trodAll_nil hd
      exact ⟨[], [], ρ, F, ⟨rfl, rfl⟩, rfl, by simpa using hs, by simpa using hw, Le.refl ρ⟩
  | k :: ks, ts, vs, ds, ps, r, b0, hk, hval, hd, ρ, F, H0, hs, hw => by
    cases ts with
    | nil => exact hk.elim
    | cons t ts =>
      obtain ⟨hk1, hk2⟩ := hk
      obtain ⟨v, vs', d, ds', p, q, rfl, rfl, rfl, h1, h2⟩ := trodAll_cons hd
      have hv := hval 0 t v rfl rfl
      have hval' : ∀ (j : Nat) t v, ts[j]? = some t → vs'[j]? = some v → Value.okWide P W r b0 t v := fun j t v a b => hval (j + 1) t v (by simpa using a) (by simpa using b)
      cases k with
      | row tg =>
        obtain ⟨ht, ok⟩ := hk1
        obtain ⟨l, G, hG, hwf, hml, ⟨a, cap, hv2⟩, hh⟩ := open_row ok ht hv h1
        have hlen := hs.len
        have hs1 : Sat elT (ρ ++ [v]) (fset F H0.length G) (H0 ++ [.row tg l true]) W := by
          refine ⟨by simp [hlen], ?_, ?_, ?_⟩
          · intro i b x hb hx
            rcases push_get hb with ⟨hi, hb⟩ | ⟨rfl, rfl⟩
            · have hx' : ρ[i]? = some x := by rw [List.getElem?_append_left (by omega)] at hx; exact hx
              have e : fset F H0.length G i = F i := by unfold fset; rw [if_neg (by omega)]
              rw [e]
              exact Blk.holds_le (by intro i x h; exact List.getElem?_append_left (List.getElem?_eq_some_iff.1 h).1 ▸ h) (fun _ _ => rfl) b (hs.each i b x hb hx')
            · have hx' : x = v := by
                rw [List.getElem?_append_right (by omega)] at hx
                rw [show H0.length - ρ.length = 0 by omega] at hx
                simpa using hx.symm
              subst hx'
              have e : fset F H0.length G H0.length = G := by simp [fset]
              rw [e]
              exact hh _
          · intro i b hb n hn
            rcases push_get hb with ⟨hi, hb⟩ | ⟨rfl, rfl⟩
            · have e : fset F H0.length G i = F i := by unfold fset; rw [if_neg (by omega)]
              rw [e] at hn
              exact hs.lt i b hb n hn
            · have e : fset F H0.length G H0.length = G := by simp [fset]
              rw [e] at hn
              exact hG n hn
          · intro i j bi bj hbi hbj hij hwi
            exfalso
            have hm := List.mem_of_getElem? hbi
            rcases List.mem_append.1 hm with hm | hm
            · rw [hw bi hm] at hwi; cases hwi
            · simp at hm; subst hm; cases hwi
        have hw1 : ∀ b ∈ H0 ++ [Blk.row tg l true], b.writable = false := by
          intro b hb
          rcases List.mem_append.1 hb with hb | hb
          · exact hw b hb
          · simp at hb; subst hb; rfl
        obtain ⟨ags, H1, ρ', F', g1, g2, g3, g4, g5⟩ := open_args ks ts vs' ds' q r b0 hk2 hval' h2 _ _ _ hs1 hw1
        have hρ : ρ'[ρ.length]? = some v := g5 _ _ (by simp)
        refine ⟨.row ρ.length :: ags, .row tg l true :: H1, ρ', F', ⟨l, ags, H1, rfl, rfl, hwf, hml, by simpa using g1⟩, ?_, by simpa using g3, by simpa using g4, ?_⟩
        · have e : (V.row ρ.length).den ρ' = some v := by subst hv2; simp only [V.den, hρ]
          simp only [denL, e, g2]
        · intro i x hx
          exact g5 i x (by rw [List.getElem?_append_left (List.getElem?_eq_some_iff.1 hx).1]; exact hx)
      | el tg =>
        obtain ⟨rfl, ok⟩ := hk1
        obtain ⟨fuel, hf⟩ := h1
        obtain ⟨e, he, hwf⟩ := ok.reads enc W 0 sp held fuel _ _ hf
        obtain ⟨ags, H1, ρ', F', g1, g2, g3, g4, g5⟩ := open_args ks ts vs' ds' q r b0 hk2 hval' h2 ρ F H0 hs hw
        refine ⟨elV tg e :: ags, H1, ρ', F', ⟨e, ags, rfl, hwf, g1⟩, ?_, g3, g4, g5⟩
        simp only [denL, ok.value W r b0 v e hv he ρ', g2]

theorem trodAll_stays (hl : laidOutB P = true) {W' : World} {sp' : Nat → Bool} : ∀ {ts : List TypeId} {vs : List Value} {ds : List (DataW H)} {ps : List MemPlace}, ts.all (fun t => P.readableRec t && decide (t < P.types.size)) = true →
    DataW.TrodAll enc P W 0 (fun _ => true) true ts vs ds ps → (∀ x ∈ ps, W.sameAt W' x) → (∀ x ∈ ps, sp' x.block = true) → DataW.TrodAll enc P W' 0 sp' true ts vs ds ps
  | [], vs, ds, ps, _, h, _, _ => by
    obtain ⟨rfl, rfl, rfl⟩ := trodAll_nil h
    rfl
  | t :: ts, vs, ds, ps, hr, h, h1, h2 => by
    obtain ⟨v, vs', d, ds', p, q, rfl, rfl, rfl, g1, g2⟩ := trodAll_cons h
    simp only [List.all_cons, Bool.and_eq_true, decide_eq_true_eq] at hr
    exact ⟨p, q, WideElems.Trod_stays hl hr.1.1 hr.1.2 g1 (fun x hx => h1 x (by simp [hx])) (fun x hx => h2 x (by simp [hx])),
      trodAll_stays hl hr.2 g2 (fun x hx => h1 x (by simp [hx])) (fun x hx => h2 x (by simp [hx])), rfl⟩

/-- A call that reads alone, and its post. -/
theorem post_law {f : Func} {s : ChangeSpec} {apart fresh handsOn : Bool} {tb : TypeId} (hl : laidOutB P = true) (htb : P.underlying tb = some .bool) (hres : f.resultTypes = #[tb]) (hall : f.params.toList.all (fun t => P.readableRec t && decide (t < P.types.size)) = true)
    (hsv : s.vars = []) (hsp : ∀ ds : List (DataW H), ds.length = f.params.toList.length → s.fn H ds = { results := [.lit (.bool true)], args := ds })
    {W W' : World} {args : Array Value} {ds gs : List (DataW H)} {before : List MemPlace} (hW : DataW.Whole enc P f.params.toList s.vars apart W args.toList ds gs before) (hb : Below W.heap.size W W') :
    s.post enc P f apart fresh handsOn false W args (.bool true) W' := by
  have hlt : ∀ p ∈ before, p.block < W.heap.size := fun p hp => hW.lt p hp
  have hW' := hW
  obtain ⟨p, q, hA, hV, rfl, hfz, hnd⟩ := hW
  rw [hsv] at hV
  obtain ⟨rfl, rfl⟩ := trodVars_none hV
  have hlen : ∀ (ts : List TypeId) (vs : List Value) (ds : List (DataW H)) (ps : List MemPlace), DataW.TrodAll enc P W 0 (fun _ => true) true ts vs ds ps → ds.length = ts.length := by
    intro ts
    induction ts with
    | nil => intro vs ds ps h; obtain ⟨rfl, rfl, rfl⟩ := trodAll_nil h; rfl
    | cons t ts ih =>
      intro vs ds ps h
      obtain ⟨v, vs', d, ds', p, q, rfl, rfl, rfl, g1, g2⟩ := trodAll_cons h
      simp [ih _ _ _ g2]
  have hfn : s.fn H (ds ++ []) = { results := [.lit (.bool true)], args := ds } := by rw [List.append_nil]; exact hsp ds (hlen _ _ _ _ hA)
  refine ⟨ds, [], p ++ [], [], p, [], hW', ?_, ?_, ?_, hb.frame _, fun h => by cases h⟩
  · rw [hfn, hres]
    exact trodAll_mk1 (shut_bool htb true)
  · rw [hfn]
    exact trodAll_stays hl hall hA (fun x hx => hb.same (hlt x (by simpa using hx))) (fun x hx => by simpa using hlt x (by simpa using hx))
  · rw [hfn, hsv]
    rfl

/-- The law's contract is the row's. -/
theorem law_calls {f : Func} {s : ChangeSpec} {apart fresh handsOn : Bool} {tb : TypeId} {g : FuncId} {ks : List AK} (hspec : SpecOK P elT g (lawS ks)) (hk : AKsOK P elT ks f.params.toList)
    (hl : laidOutB P = true) (htb : P.underlying tb = some .bool) (hres : f.resultTypes = #[tb]) (hall : f.params.toList.all (fun t => P.readableRec t && decide (t < P.types.size)) = true)
    (hsv : s.vars = []) (hsp : ∀ ds : List (DataW H), ds.length = f.params.toList.length → s.fn H ds = { results := [.lit (.bool true)], args := ds })
    {W : World} {r : Reach} {base : Nat} {args : Array Value} {ds gs : List (DataW H)} {before : List MemPlace} (hval : ∀ (j : Nat) t v, f.params[j]? = some t → args[j]? = some v → Value.okWide P W r base t v)
    (hW : DataW.Whole enc P f.params.toList s.vars apart W args.toList ds gs before) :
    Calls P g args W fun e W' => ∃ v, e = .returned v ∧ s.post enc P f apart fresh handsOn false W args v W' := by
  have hW' := hW
  obtain ⟨p, q, hA, _⟩ := hW
  have h0 : Sat elT [] (fun _ => []) [] W := ⟨rfl, fun i b x hb => by simp at hb, fun i b hb => by simp at hb, fun i j bi bj hb => by simp at hb⟩
  obtain ⟨ags, H1, ρ, F, g1, g2, g3, g4, _⟩ := open_args ks f.params.toList args.toList ds p r base hk (fun j t v a b => hval j t v (by simpa using a) (by simpa using b)) hA [] (fun _ => []) [] h0 (by simp)
  have hc := hspec.2 ags H1 (fun v _ => v = vb true) ⟨g1, fun _ => rfl⟩ ρ F W args.toList g2 (by simpa using g3)
  rw [Array.toArray_toList] at hc
  refine hc.mono fun e W' h => ?_
  obtain ⟨v, x, ρ', F', H', rfl, rfl, hr, _, _, hfr⟩ := h
  have hx : x = .bool true := den_ext hr
  subst hx
  have hnw : ∀ (i : Nat) (b : Blk), H1[i]? = some b → b.writable = true → False := fun i b hb hw => by
    have := g4 b (by simpa using List.mem_of_getElem? hb)
    rw [this] at hw; cases hw
  have hb : Below W.heap.size W W' := ⟨hfr.os, hfr.tape, hfr.output, hfr.size, fun n hn => hfr.block n hn (fun i b hb hw => (hnw i b hb hw).elim)⟩
  exact ⟨_, rfl, post_law hl htb hres hall hsv hsp hW' hb⟩

/-! The cells of a type without pointers: numbers and truth values. -/
end

def flatFs (P : Program) (rec : TypeId → Option (List Bool)) : List Field → Nat → Option (List Bool)
  | [], _ => some []
  | f :: fs, o => match rec f.type with
    | none => none
    | some a => bif Nat.beq f.offset o && Nat.beq (P.cellsOf f.type) a.length then match flatFs P rec fs (o + a.length) with
      | some b => some (a ++ b)
      | none => none
      else none

/-- 'true': an int's cell; 'false': a bool's. -/
def flatK (P : Program) : Nat → TypeId → Option (List Bool)
  | 0, _ => none
  | n + 1, t => match P.underlying t with
    | some .bool => some [false]
    | some (.int .i64) => some [true]
    | some (.struct fs) => match flatFs P (flatK P n) fs.toList 0 with
      | some ks => bif Nat.beq (P.cellsOf t) ks.length then some ks else none
      | none => none
    | _ => none

def goodCell (b : Bool) (v : Option Value) : Prop := match b with
  | true => ∃ n, v = some (.int .i64 n) ∧ (Lit.int .i64 n).wf = true
  | false => ∃ c, v = some (.bool c)

section
variable {P : Program} {elT : ET} {H : Type} {enc : TypeId × Value → H} {W : World} {sp : Nat → Bool} {held : Bool}

theorem flatFs_good {rec : TypeId → Option (List Bool)} {base : Nat} {cs : List Value} (hrec : ∀ t ks fuel cs (x : DataW H × List MemPlace), rec t = some ks → DataW.trod enc P W base sp held fuel t cs = some x → cs.length = ks.length ∧ ∀ (i : Nat) (b : Bool), ks[i]? = some b → goodCell b cs[i]?) {n : Nat} :
    ∀ (fl : List Field) (o : Nat) (ks : List Bool), (∀ f ∈ fl, ∃ y, DataW.trod enc P W base sp held n f.type ((cs.drop f.offset).take (P.cellsOf f.type)) = some y) → flatFs P rec fl o = some ks → ∀ (i : Nat) (b : Bool), ks[i]? = some b → goodCell b cs[o + i]?
  | [], o, ks, _, h, i, b, hb => by simp only [flatFs, Option.some.injEq] at h; subst h; simp at hb
  | f :: fl, o, ks, hall, h, i, b, hb => by
    simp only [flatFs] at h
    split at h
    · cases h
    · rename_i a ha
      cases hc : (Nat.beq f.offset o && Nat.beq (P.cellsOf f.type) a.length) with
      | false => rw [hc] at h; cases h
      | true =>
        rw [hc] at h
        simp only [cond_true] at h
        simp only [Bool.and_eq_true] at hc
        have e1 := Nat.eq_of_beq_eq_true hc.1
        have e2 := Nat.eq_of_beq_eq_true hc.2
        split at h
        · rename_i b' hb'
          injection h with h
          subst h
          rcases Nat.lt_or_ge i a.length with hi | hi
          · rw [List.getElem?_append_left hi] at hb
            obtain ⟨y, hy⟩ := hall f (by simp)
            have hg := (hrec f.type a n _ y ha hy).2 i b hb
            rw [e1, e2, List.getElem?_take, if_pos hi, List.getElem?_drop] at hg
            exact hg
          · rw [List.getElem?_append_right hi] at hb
            have := flatFs_good hrec fl (o + a.length) b' (fun f hf => hall f (by simp [hf])) hb' (i - a.length) b hb
            rw [show o + a.length + (i - a.length) = o + i by omega] at this
            exact this
        · cases h

theorem flatK_good {base : Nat} : ∀ (n : Nat) (t : TypeId) (ks : List Bool) (fuel : Nat) (cs : List Value) (x : DataW H × List MemPlace), flatK P n t = some ks → DataW.trod enc P W base sp held fuel t cs = some x →
    cs.length = ks.length ∧ ∀ (i : Nat) (b : Bool), ks[i]? = some b → goodCell b cs[i]?
  | 0, t, ks, fuel, cs, x, h, _ => by cases h
  | n + 1, t, ks, fuel, cs, x, h, hx => by
    simp only [flatK] at h
    split at h
    · rename_i ht
      injection h with h; subst h
      obtain ⟨b, rfl, _⟩ := DataW.trod_bool ht hx
      refine ⟨rfl, fun i b' hb => ?_⟩
      cases i with
      | zero => simp at hb; subst hb; exact ⟨b, rfl⟩
      | succ i => simp at hb
    · rename_i ht
      injection h with h; subst h
      obtain ⟨m, rfl, _, hw⟩ := DataW.trod_int ht hx
      refine ⟨rfl, fun i b' hb => ?_⟩
      cases i with
      | zero => simp at hb; subst hb; exact ⟨m, rfl, hw⟩
      | succ i => simp at hb
    · rename_i fs ht
      split at h
      · rename_i ks' hks
        cases hc : Nat.beq (P.cellsOf t) ks'.length with
        | false => rw [hc] at h; cases h
        | true =>
          rw [hc] at h
          injection h with h; subst h
          obtain ⟨xs, m, _, _, hlen, hxs, hall⟩ := DataW.trod_struct ht hx
          refine ⟨by rw [hlen, Nat.eq_of_beq_eq_true hc], fun i b hb => ?_⟩
          have := flatFs_good (enc := enc) (W := W) (sp := sp) (held := held) (base := base) (cs := cs) (n := m) (fun t ks fuel cs x a b => flatK_good n t ks fuel cs x a b) fs.toList 0 ks' (fun f hf => by
            obtain ⟨k, hk⟩ := List.getElem?_of_mem hf
            rw [Array.getElem?_toList] at hk
            have h1 := hall k f hk
            have hi : k < fs.size := (Array.getElem?_eq_some_iff.1 hk).1
            rw [List.getElem?_eq_getElem (by omega)] at h1
            exact ⟨_, h1⟩) hks i b hb
          rwa [Nat.zero_add] at this
      · cases h
    · cases h

theorem elOK_int (ht : P.underlying (elT 0) = some (.int .i64)) (hc : P.cellsOf (elT 0) = 1) : ElOK P elT 0 := by
  refine ⟨hc, fun enc W base sp held fuel cs x h => ?_, fun W r b v e hv hcs ρ => ?_⟩
  · obtain ⟨n, rfl, _, hw⟩ := DataW.trod_int ht h
    refine ⟨n, rfl, fun k m hm => ?_⟩
    simp [elEnc, i64] at hm
    obtain ⟨rfl, rfl⟩ := hm
    exact hw
  · simp only [Value.okWide, ht, Cell.okWide] at hv
    have hcs' : v.cells.toList = [.int .i64 e] := hcs
    show some (Value.int .i64 e) = some v
    cases v <;> simp_all [Cell.ok, Value.cells]

theorem elOK_bool (ht : P.underlying (elT 1) = some .bool) (hc : P.cellsOf (elT 1) = 1) : ElOK P elT 1 := by
  refine ⟨hc, fun enc W base sp held fuel cs x h => ?_, fun W r b v e hv hcs ρ => ?_⟩
  · obtain ⟨b, rfl, _⟩ := DataW.trod_bool ht h
    refine ⟨b, rfl, fun k m hm => ?_⟩
    simp [elEnc] at hm
  · obtain ⟨b', rfl⟩ := okWide_bool ht hv
    have hcs' : (Value.bool b').cells.toList = [.bool e] := hcs
    show some (Value.bool e) = some (Value.bool b')
    simp [Value.cells] at hcs'
    rw [hcs']

theorem struct_value {tg : Nat} {e : El tg} {fs : Array Field} {W : World} {r : Reach} {b : Nat} {v : Value} (ht : P.underlying (elT tg) = some (.struct fs)) (hv : Value.okWide P W r b (elT tg) v) (hcs : v.cells.toList = elEnc tg e) (ρ : List Value) :
    (V.agg ((elEnc tg e).map .ext)).den ρ = some v := by
  obtain ⟨cs, rfl, _⟩ := okWide_struct ht hv
  simp only [Value.cells] at hcs
  simp only [V.den, denL_ext]
  rw [← hcs]

end
end Go.Rx
end

section
/- Structs of ints, as a row reads them. -/
namespace Go.Rx
open Go.ChangeShapes Go.WideShapes

theorem elOK_ints {P : Program} {elT : ET} {fs : Array Field} {m : Nat} (ht : P.underlying (elT (m + 4)) = some (.struct fs)) (hc : P.cellsOf (elT (m + 4)) = m % 32 + 1)
    (hf : flatK P 6 (elT (m + 4)) = some (List.replicate (m % 32 + 1) true)) : ElOK P elT (m + 4) := by
  refine ⟨hc, fun enc W base sp held fuel cs x h => ?_, fun W r b v e hv hcs ρ => struct_value ht hv hcs ρ⟩
  obtain ⟨hlen, hg⟩ := flatK_good 6 (elT (m + 4)) _ fuel cs x hf h
  rw [List.length_replicate] at hlen
  have hI : ∀ i, i < m % 32 + 1 → ∃ n, cs[i]? = some (.int .i64 n) ∧ (Lit.int .i64 n).wf = true := fun i hi => hg i true (by rw [List.getElem?_replicate, if_pos hi])
  obtain ⟨N, hN⟩ := Deep.choose_lt hI
  have hget : ∀ i, i < m % 32 + 1 → ((List.range (m % 32 + 1)).map N).getD i 0 = N i := fun i hi => by simp [List.getD, hi]
  have hcs : cs = elEnc (m + 4) ((List.range (m % 32 + 1)).map N : List Int) := by
    show cs = (List.range (m % 32 + 1)).map fun i => i64 (((List.range (m % 32 + 1)).map N).getD i 0)
    apply List.ext_getElem?
    intro i
    rcases Nat.lt_or_ge i (m % 32 + 1) with hi | hi
    · rw [(hN i hi).1, List.getElem?_map, List.getElem?_range hi, Option.map_some, hget i hi]
    · rw [List.getElem?_eq_none (by omega), List.getElem?_eq_none (by simpa using hi)]
  refine ⟨_, hcs, fun k n hm => ?_⟩
  have hm' : Value.int k n ∈ cs := by rw [hcs]; exact hm
  obtain ⟨i, hi⟩ := List.getElem?_of_mem hm'
  have hil : i < m % 32 + 1 := by rw [← hlen]; exact (List.getElem?_eq_some_iff.1 hi).1
  obtain ⟨h1, h2⟩ := hN i hil
  rw [h1] at hi
  injection hi with hi
  injection hi with e1 e2
  subst e1; subst e2
  exact h2
end Go.Rx
end

section
/- LayoutApart: the law. -/
namespace Go.Rx
open Go.Proofs

theorem apart_loop {N : Int} (hN : 0 ≤ N ∧ N ≤ 1048576) (all : List Int) (h : Inv (fun x => 3 ≤ x ∧ x < N) all) : lp_law02_LayoutApart_1 N all (0, List.replicate N.toNat false) = some true := by
  have hl := h.len (N := N) (fun x hx => by omega) (by omega)
  obtain ⟨r, h1, rfl⟩ := loopO_ind (step := fun s => sb_law02_LayoutApart_1 N all s.1 s.2)
    (I := fun s : Int × List Bool => ∃ n : Nat, s.1 = n ∧ n ≤ all.length ∧ s.2.length = N.toNat ∧ ∀ a : Nat, s.2.getD a false = true → (a : Int) ∈ all.take n)
    (μ := fun s => all.length - s.1.toNat) (fun r => r = true) (by
      rintro ⟨i, w⟩ ⟨n, e, hn, hw, hs⟩
      simp only at e hw hs
      subst e
      simp only [sb_law02_LayoutApart_1]
      by_cases c : n < all.length
      · have hm : all[n] ∈ all := List.getElem_mem c
        have hx := h.all _ hm
        have hg : all.getD n 0 = all[n] := by simp [List.getD, c]
        have ho : offs (n : Int) 0 = (n : Int) := rfl
        rw [decide_eq_true (show (n : Int) < (all.length : Int) by omega), cond_true, inR_nat c, cond_true, ho, inR_nat c, cond_true, Int.toNat_natCast, hg]
        obtain ⟨k, hk⟩ : ∃ k : Nat, all[n] = (k : Int) := ⟨(all[n]).toNat, by omega⟩
        rw [hk] at hx ⊢
        have ho2 : offs (k : Int) 0 = (k : Int) := rfl
        have hin : inR (k : Int) w.length = true := inR_nat (by omega)
        rw [decide_eq_false (by omega), cond_false, decide_eq_false (by omega), cond_false, hin, cond_true, ho2, hin, cond_true, Int.toNat_natCast]
        have hf : w.getD k false = false := by
          cases hb : w.getD k false with
          | false => rfl
          | true =>
            have h1 := hs k hb
            obtain ⟨j, hj, he⟩ := List.mem_iff_getElem.1 h1
            simp only [List.length_take] at hj
            rw [List.getElem_take] at he
            exact (List.pairwise_iff_getElem.1 h.nd j n (by omega) c (by omega) (he.trans hk.symm)).elim
        rw [hf, cond_false, cond_true, cond_true, wrap_succ (by omega)]
        refine .inl ⟨_, rfl, ⟨n + 1, rfl, c, by simpa using hw, fun a ha => ?_⟩, by simp only; omega⟩
        rw [List.take_succ_eq_append_getElem c, List.mem_append]
        by_cases ea : a = k
        · subst ea; exact .inr (by simp [hk])
        · refine .inl (hs a ?_)
          simp only [List.getD, List.getElem?_set_ne (fun e => ea e.symm)] at ha ⊢
          exact ha
      · rw [decide_eq_false (by omega), cond_false, lives02_eq]
        exact .inr ⟨true, rfl, rfl⟩) (0, List.replicate N.toNat false) ⟨0, rfl, by omega, by simp, fun a ha => by
          simp [List.getD, List.getElem?_replicate] at ha
          split at ha <;> simp at ha⟩
  exact h1

theorem LayoutApart_main (c : T_api_Config) : m_law02_LayoutApart c = some true := by
  unfold m_law02_LayoutApart
  obtain ⟨d, hd, hR⟩ := Some_eq c
  rw [hd, Option.bind_some]
  have hp := hR.pages
  have h1 := Int.emod_nonneg d.Pages (b := 20) (by omega)
  have h2 := Int.emod_lt_of_pos d.Pages (b := 20) (by omega)
  rw [Int.tmod_eq_emod_of_nonneg (by omega), wrap_id (by omega) (by omega)]
  generalize d.Pages % 20 = k at *
  have hR' : RightC ⟨d.Workers, d.CPUs, 1 + k, d.Stripes, d.Tries, d.Wait, d.Clock, d.Private, d.Cache, d.Bin, d.Batch⟩ :=
    ⟨hR.workers, hR.cpus, by simp only; omega, hR.stripes, hR.tries, hR.wait, hR.clock, hR.private_, hR.cache, hR.bin, hR.batch⟩
  rw [Of_eq, if_pos hR']
  have hL := layC_ok hR'
  generalize layC _ = L at *
  simp only [Option.bind_some, Words_eq]
  have hb := hL.big; have h11 := hL.a11; have hpg := hL.pages
  obtain ⟨r, g1, g2⟩ := named_eq hL
  rw [g1]
  simp only [bne_self_eq_false, cond_false, Option.bind_some]
  rw [decide_eq_false (by omega), cond_false, decide_eq_false (by omega), cond_false, decide_eq_true (by omega), cond_true]
  exact apart_loop (by omega) r g2
end Go.Rx
end

section
/- The law 'LayoutApart', out of its plain form. -/
namespace Go.Rx
open Go.Proofs

theorem law_law02_LayoutApart : SpecOK Try.prog elTT 5 (lawS [.el 14]) := spec_mono (fun args H K h => by
  obtain ⟨ha, hk⟩ := h
  obtain ⟨e0, _, rfl, hw0, rfl, rfl⟩ := ha
  show So (m_law02_LayoutApart (T_api_Config.mk (List.getD (e0 : List Int) 0 0) (List.getD (e0 : List Int) 1 0) (List.getD (e0 : List Int) 2 0) (List.getD (e0 : List Int) 3 0) (List.getD (e0 : List Int) 4 0) (List.getD (e0 : List Int) 5 0) (List.getD (e0 : List Int) 6 0) (List.getD (e0 : List Int) 7 0) (List.getD (e0 : List Int) 8 0) (List.getD (e0 : List Int) 9 0) (List.getD (e0 : List Int) 10 0))) _
  exact So_eq (LayoutApart_main _) (hk _)) ok_law02_LayoutApart
end Go.Rx
end
