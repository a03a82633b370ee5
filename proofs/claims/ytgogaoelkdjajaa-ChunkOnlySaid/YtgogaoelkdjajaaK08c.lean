/- The row of 'ChunkOnly': whatever the input, the law returns true, and every argument reads behind the call as before. No condition. -/
import Derived.Test.YtgogaoelkdjajaaK08cC
import Derived.Test.YtgogaoelkdjajaaRows
namespace Go.Proofs.Ytgogaoelkdjajaa.Laws08
open Go.ChangeShapes Go.WideShapes Go.ChangeAt Go.RowKit Go.Rx

theorem own_chunkOnly_said : ownKnob Try.prog.godebug = none := by kernel_rfl
theorem laid_chunkOnly_said : laidOutB Try.prog = true := by kernel_rfl
theorem tbool_chunkOnly_said : Try.prog.underlying 4 = some .bool := by kernel_rfl
noncomputable def fs14 : Array Field := match Try.prog.underlying (elTT 14) with | some (.struct fs) => fs | _ => #[]
theorem el14_ok : ElOK Try.prog elTT 14 := elOK_ints (m := 10) (fs := fs14) (by kernel_rfl) (by kernel_rfl) (by kernel_rfl)
noncomputable def fs6 : Array Field := match Try.prog.underlying (elTT 6) with | some (.struct fs) => fs | _ => #[]
theorem el6_ok : ElOK Try.prog elTT 6 := elOK_ints (m := 2) (fs := fs6) (by kernel_rfl) (by kernel_rfl) (by kernel_rfl)

set_option maxRecDepth 100000 in
theorem chunkOnly_said_lifted (os : Os) (started : os.Started) (H : Type) (enc : TypeId × Value → H) :
    ReturnsInHanded {} Try.checked os 5 .any (Rows.chunkOnlySpec.pre6 enc Try.prog Try.f5 Rows.chunkOnlyRow.domain false) (Rows.chunkOnlySpec.post enc Try.prog Try.f5 false true false false) := by
  refine returnsInHanded_of_change (C := Try.checked) own_chunkOnly_said started (by kernel_rfl) (by kernel_rfl)
    (ChangeSpec.witness6 (enc := enc) (C := Try.checked) false ⟨#[], #[.agg #[.int .i64 0, .int .i64 0, .int .i64 0, .int .i64 0, .int .i64 0, .int .i64 0, .int .i64 0, .int .i64 0, .int .i64 0, .int .i64 0, .int .i64 0], .agg #[.int .i64 0, .int .i64 0, .int .i64 0]], []⟩ 8 (by kernel_rfl) (by kernel_rfl) (by kernel_rfl) (by kernel_rfl)) ?_
  intro W base args ds gs before hval hW _ _
  exact law_calls (elT := elTT) (f := Try.f5) (ks := [.el 14, .el 6]) law_law08_ChunkOnly (show AKsOK Try.prog elTT [.el 14, .el 6] [23, 41] from ⟨⟨rfl, el14_ok⟩, ⟨rfl, el6_ok⟩, trivial⟩) laid_chunkOnly_said tbool_chunkOnly_said (by kernel_rfl) (by kernel_rfl) rfl (fun ds h => by
    match ds, h with
    | [_, _], _ => rfl) hval hW

/-- 'ChunkOnly': whatever the input, the law returns true, and every argument reads behind the call as before. No condition. -/
theorem chunkOnly_said : Rows.ChunkOnlySaid :=
  OpenClaim.holds_of_wide 5 Try.f5 rfl rfl rfl rfl rfl rfl rfl ⟨rfl, rfl, rfl, rfl, rfl⟩ rfl rfl rfl rfl rfl (by kernel_rfl) (by kernel_rfl) (by kernel_rfl)
    (of_decide_eq_true (by kernel_rfl)) (by unfold Func.isWrapper; first | (rw [if_pos (by decide +kernel)]; kernel_rfl) | (rw [if_neg (by decide +kernel)]; exact ⟨rfl, rfl⟩))
    (fun os started H enc _ => chunkOnly_said_lifted os started H enc)

#print axioms chunkOnly_said
end Go.Proofs.Ytgogaoelkdjajaa.Laws08
