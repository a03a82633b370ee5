/- The row of 'RoomClass': whatever the input, the law returns true, and every argument reads behind the call as before. No condition. -/
import Derived.Test.YtpgapdmmcanffaaD29h
import Derived.Test.YtpgapdmmcanffaaRows
namespace Go.Proofs.Ytpgapdmmcanffaa.Laws02
open Go.ChangeShapes Go.WideShapes Go.ChangeAt Go.RowKit Go.Rx

theorem own_class_said : ownKnob Try.prog.godebug = none := by kernel_rfl
theorem laid_class_said : laidOutB Try.prog = true := by kernel_rfl
theorem tbool_class_said : Try.prog.underlying 4 = some .bool := by kernel_rfl

noncomputable def confFs_class_said : Array Field := match Try.prog.underlying 23 with | some (.struct fs) => fs | _ => #[]
theorem conf_ok_class_said : ElOK Try.prog elTT 14 := elOK_ints (m := 10) (fs := confFs_class_said) (by kernel_rfl) (by kernel_rfl) (by kernel_rfl)
theorem el_conf_class_said : AKOK Try.prog elTT (.el 14) 23 := ⟨rfl, conf_ok_class_said⟩

noncomputable def statFs_class_said : Array Field := match Try.prog.underlying 49 with | some (.struct fs) => fs | _ => #[]
theorem stats_ok_class_said : ElOK Try.prog elTT 10 := elOK_ints (m := 6) (fs := statFs_class_said) (by kernel_rfl) (by kernel_rfl) (by kernel_rfl)
theorem el_stats_class_said : AKOK Try.prog elTT (.el 10) 49 := ⟨rfl, stats_ok_class_said⟩

theorem el_int_class_said : AKOK Try.prog elTT (.el 0) 3 := ⟨rfl, elOK_int (by kernel_rfl) (by kernel_rfl)⟩

set_option maxRecDepth 100000 in
theorem class_said_lifted (os : Os) (started : os.Started) (H : Type) (enc : TypeId × Value → H) :
    ReturnsInHanded {} Try.checked os 9 .any (Rows.roomClassSpec.pre6 enc Try.prog Try.f9 Rows.roomClassRow.domain false) (Rows.roomClassSpec.post enc Try.prog Try.f9 false true false false) := by
  refine returnsInHanded_of_change (C := Try.checked) own_class_said started (by kernel_rfl) (by kernel_rfl)
    (ChangeSpec.witness6 (enc := enc) (C := Try.checked) false ⟨#[], #[.agg #[.int .i64 0, .int .i64 0, .int .i64 0, .int .i64 0, .int .i64 0, .int .i64 0, .int .i64 0, .int .i64 0, .int .i64 0, .int .i64 0, .int .i64 0], .agg #[.int .i64 0, .int .i64 0, .int .i64 0, .int .i64 0, .int .i64 0, .int .i64 0, .int .i64 0], .int .i64 0, .int .i64 0], []⟩ 8 (by kernel_rfl) (by kernel_rfl) (by kernel_rfl) (by kernel_rfl)) ?_
  intro W base args ds gs before hval hW _ _
  exact law_calls (elT := elTT) (f := Try.f9) (ks := [.el 14, .el 10, .el 0, .el 0]) class_law (show AKsOK Try.prog elTT [.el 14, .el 10, .el 0, .el 0] [23, 49, 3, 3] from ⟨el_conf_class_said, el_stats_class_said, el_int_class_said, el_int_class_said, trivial⟩) laid_class_said tbool_class_said (by kernel_rfl) (by kernel_rfl) rfl (fun ds h => by
    match ds, h with
    | [_, _, _, _], _ => rfl) hval hW

/-- 'RoomClass': whatever the input, the law returns true, and every argument reads behind the call as before. No condition. -/
theorem class_said : Rows.RoomClassSaid :=
  OpenClaim.holds_of_wide 9 Try.f9 rfl rfl rfl rfl rfl rfl rfl ⟨rfl, rfl, rfl, rfl, rfl⟩ rfl rfl rfl rfl rfl (by kernel_rfl) (by kernel_rfl) (by kernel_rfl)
    (of_decide_eq_true (by kernel_rfl)) (by unfold Func.isWrapper; first | (rw [if_pos (by decide +kernel)]; kernel_rfl) | (rw [if_neg (by decide +kernel)]; exact ⟨rfl, rfl⟩))
    (fun os started H enc _ => class_said_lifted os started H enc)

#print axioms class_said
end Go.Proofs.Ytpgapdmmcanffaa.Laws02
