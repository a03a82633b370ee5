/- The row of 'ChunkParts': whatever the input, the law returns true, and every argument reads behind the call as before. No condition. -/
import Derived.Test.YtpgapdmmcanffaaR08pE
import Derived.Test.YtpgapdmmcanffaaRows
namespace Go.Proofs.Ytpgapdmmcanffaa.Laws08
open Go.ChangeShapes Go.WideShapes Go.ChangeAt Go.RowKit Go.Rx

theorem own_parts_said : ownKnob Try.prog.godebug = none := by kernel_rfl
theorem laid_parts_said : laidOutB Try.prog = true := by kernel_rfl
theorem tbool_parts_said : Try.prog.underlying 4 = some .bool := by kernel_rfl

noncomputable def confFs_parts_said : Array Field := match Try.prog.underlying 23 with | some (.struct fs) => fs | _ => #[]
theorem conf_ok_parts_said : ElOK Try.prog elTT 14 := elOK_ints (m := 10) (fs := confFs_parts_said) (by kernel_rfl) (by kernel_rfl) (by kernel_rfl)
theorem el_conf_parts_said : AKOK Try.prog elTT (.el 14) 23 := ⟨rfl, conf_ok_parts_said⟩

theorem el_int_parts_said : AKOK Try.prog elTT (.el 0) 3 := ⟨rfl, elOK_int (by kernel_rfl) (by kernel_rfl)⟩

set_option maxRecDepth 100000 in
theorem parts_said_lifted (os : Os) (started : os.Started) (H : Type) (enc : TypeId × Value → H) :
    ReturnsInHanded {} Try.checked os 10 .any (Rows.chunkPartsSpec.pre6 enc Try.prog Try.f10 Rows.chunkPartsRow.domain false) (Rows.chunkPartsSpec.post enc Try.prog Try.f10 false true false false) := by
  refine returnsInHanded_of_change (C := Try.checked) own_parts_said started (by kernel_rfl) (by kernel_rfl)
    (ChangeSpec.witness6 (enc := enc) (C := Try.checked) false ⟨#[], #[.agg #[.int .i64 0, .int .i64 0, .int .i64 0, .int .i64 0, .int .i64 0, .int .i64 0, .int .i64 0, .int .i64 0, .int .i64 0, .int .i64 0, .int .i64 0], .int .i64 0, .int .i64 0], []⟩ 8 (by kernel_rfl) (by kernel_rfl) (by kernel_rfl) (by kernel_rfl)) ?_
  intro W base args ds gs before hval hW _ _
  exact law_calls (elT := elTT) (f := Try.f10) (ks := [.el 14, .el 0, .el 0]) parts_law (show AKsOK Try.prog elTT [.el 14, .el 0, .el 0] [23, 3, 3] from ⟨el_conf_parts_said, el_int_parts_said, el_int_parts_said, trivial⟩) laid_parts_said tbool_parts_said (by kernel_rfl) (by kernel_rfl) rfl (fun ds h => by
    match ds, h with
    | [_, _, _], _ => rfl) hval hW

/-- 'ChunkParts': whatever the input, the law returns true, and every argument reads behind the call as before. No condition. -/
theorem parts_said : Rows.ChunkPartsSaid :=
  OpenClaim.holds_of_wide 10 Try.f10 rfl rfl rfl rfl rfl rfl rfl ⟨rfl, rfl, rfl, rfl, rfl⟩ rfl rfl rfl rfl rfl (by kernel_rfl) (by kernel_rfl) (by kernel_rfl)
    (of_decide_eq_true (by kernel_rfl)) (by unfold Func.isWrapper; first | (rw [if_pos (by decide +kernel)]; kernel_rfl) | (rw [if_neg (by decide +kernel)]; exact ⟨rfl, rfl⟩))
    (fun os started H enc _ => parts_said_lifted os started H enc)

#print axioms parts_said
end Go.Proofs.Ytpgapdmmcanffaa.Laws08
