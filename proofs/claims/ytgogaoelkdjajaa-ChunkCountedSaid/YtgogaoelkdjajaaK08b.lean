/- The row of 'ChunkCounted': whatever the input, the law returns true, and every argument reads behind the call as before. No condition. -/
import Derived.Test.YtgogaoelkdjajaaK08bD
import Derived.Test.YtgogaoelkdjajaaRows
namespace Go.Proofs.Ytgogaoelkdjajaa.Laws08
open Go.ChangeShapes Go.WideShapes Go.ChangeAt Go.RowKit Go.Rx

theorem own_chunkCounted_said : ownKnob Try.prog.godebug = none := by kernel_rfl
theorem laid_chunkCounted_said : laidOutB Try.prog = true := by kernel_rfl
theorem tbool_chunkCounted_said : Try.prog.underlying 4 = some .bool := by kernel_rfl
noncomputable def fs14 : Array Field := match Try.prog.underlying (elTT 14) with | some (.struct fs) => fs | _ => #[]
theorem el14_ok : ElOK Try.prog elTT 14 := elOK_ints (m := 10) (fs := fs14) (by kernel_rfl) (by kernel_rfl) (by kernel_rfl)
noncomputable def fs6 : Array Field := match Try.prog.underlying (elTT 6) with | some (.struct fs) => fs | _ => #[]
theorem el6_ok : ElOK Try.prog elTT 6 := elOK_ints (m := 2) (fs := fs6) (by kernel_rfl) (by kernel_rfl) (by kernel_rfl)
theorem el_int_ok : ElOK Try.prog elTT 0 := elOK_int (by kernel_rfl) (by kernel_rfl)

set_option maxRecDepth 100000 in
theorem chunkCounted_said_lifted (os : Os) (started : os.Started) (H : Type) (enc : TypeId × Value → H) :
    ReturnsInHanded {} Try.checked os 4 .any (Rows.chunkCountedSpec.pre6 enc Try.prog Try.f4 Rows.chunkCountedRow.domain false) (Rows.chunkCountedSpec.post enc Try.prog Try.f4 false true false false) := by
  refine returnsInHanded_of_change (C := Try.checked) own_chunkCounted_said started (by kernel_rfl) (by kernel_rfl)
    (ChangeSpec.witness6 (enc := enc) (C := Try.checked) false ⟨#[], #[.agg #[.int .i64 0, .int .i64 0, .int .i64 0, .int .i64 0, .int .i64 0, .int .i64 0, .int .i64 0, .int .i64 0, .int .i64 0, .int .i64 0, .int .i64 0], .slice none 0 0, .int .i64 0, .int .i64 0], []⟩ 8 (by kernel_rfl) (by kernel_rfl) (by kernel_rfl) (by kernel_rfl)) ?_
  intro W base args ds gs before hval hW _ _
  exact law_calls (elT := elTT) (f := Try.f4) (ks := [.el 14, .row 6, .el 0, .el 0]) law_law08_ChunkCounted (show AKsOK Try.prog elTT [.el 14, .row 6, .el 0, .el 0] [23, 24, 3, 3] from ⟨⟨rfl, el14_ok⟩, ⟨by kernel_rfl, el6_ok⟩, ⟨rfl, el_int_ok⟩, ⟨rfl, el_int_ok⟩, trivial⟩) laid_chunkCounted_said tbool_chunkCounted_said (by kernel_rfl) (by kernel_rfl) rfl (fun ds h => by
    match ds, h with
    | [_, _, _, _], _ => rfl) hval hW

/-- 'ChunkCounted': whatever the input, the law returns true, and every argument reads behind the call as before. No condition. -/
theorem chunkCounted_said : Rows.ChunkCountedSaid :=
  OpenClaim.holds_of_wide 4 Try.f4 rfl rfl rfl rfl rfl rfl rfl ⟨rfl, rfl, rfl, rfl, rfl⟩ rfl rfl rfl rfl rfl (by kernel_rfl) (by kernel_rfl) (by kernel_rfl)
    (of_decide_eq_true (by kernel_rfl)) (by unfold Func.isWrapper; first | (rw [if_pos (by decide +kernel)]; kernel_rfl) | (rw [if_neg (by decide +kernel)]; exact ⟨rfl, rfl⟩))
    (fun os started H enc _ => chunkCounted_said_lifted os started H enc)

#print axioms chunkCounted_said
end Go.Proofs.Ytgogaoelkdjajaa.Laws08
