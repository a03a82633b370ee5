/- The row of 'RoomNumbers': whatever the input, the law returns true, and every argument reads behind the call as before. No condition. -/
import Derived.Test.YtpgapdmmcanffaaD29h
import Derived.Test.YtpgapdmmcanffaaRows
namespace Go.Proofs.Ytpgapdmmcanffaa.Laws02
open Go.ChangeShapes Go.WideShapes Go.ChangeAt Go.RowKit Go.Rx

theorem own_numbers_said : ownKnob Try.prog.godebug = none := by kernel_rfl
theorem laid_numbers_said : laidOutB Try.prog = true := by kernel_rfl
theorem tbool_numbers_said : Try.prog.underlying 4 = some .bool := by kernel_rfl

noncomputable def confFs_numbers_said : Array Field := match Try.prog.underlying 23 with | some (.struct fs) => fs | _ => #[]
theorem conf_ok_numbers_said : ElOK Try.prog elTT 14 := elOK_ints (m := 10) (fs := confFs_numbers_said) (by kernel_rfl) (by kernel_rfl) (by kernel_rfl)
theorem el_conf_numbers_said : AKOK Try.prog elTT (.el 14) 23 := ⟨rfl, conf_ok_numbers_said⟩

noncomputable def statFs_numbers_said : Array Field := match Try.prog.underlying 49 with | some (.struct fs) => fs | _ => #[]
theorem stats_ok_numbers_said : ElOK Try.prog elTT 10 := elOK_ints (m := 6) (fs := statFs_numbers_said) (by kernel_rfl) (by kernel_rfl) (by kernel_rfl)
theorem el_stats_numbers_said : AKOK Try.prog elTT (.el 10) 49 := ⟨rfl, stats_ok_numbers_said⟩

theorem el_int_numbers_said : AKOK Try.prog elTT (.el 0) 3 := ⟨rfl, elOK_int (by kernel_rfl) (by kernel_rfl)⟩

set_option maxRecDepth 100000 in
theorem numbers_said_lifted (os : Os) (started : os.Started) (H : Type) (enc : TypeId × Value → H) :
    ReturnsInHanded {} Try.checked os 8 .any (Rows.roomNumbersSpec.pre6 enc Try.prog Try.f8 Rows.roomNumbersRow.domain false) (Rows.roomNumbersSpec.post enc Try.prog Try.f8 false true false false) := by
  refine returnsInHanded_of_change (C := Try.checked) own_numbers_said started (by kernel_rfl) (by kernel_rfl)
    (ChangeSpec.witness6 (enc := enc) (C := Try.checked) false ⟨#[], #[.agg #[.int .i64 0, .int .i64 0, .int .i64 0, .int .i64 0, .int .i64 0, .int .i64 0, .int .i64 0, .int .i64 0, .int .i64 0, .int .i64 0, .int .i64 0], .agg #[.int .i64 0, .int .i64 0, .int .i64 0, .int .i64 0, .int .i64 0, .int .i64 0, .int .i64 0], .int .i64 0, .int .i64 0], []⟩ 8 (by kernel_rfl) (by kernel_rfl) (by kernel_rfl) (by kernel_rfl)) ?_
  intro W base args ds gs before hval hW _ _
  exact law_calls (elT := elTT) (f := Try.f8) (ks := [.el 14, .el 10, .el 0, .el 0]) numbers_law (show AKsOK Try.prog elTT [.el 14, .el 10, .el 0, .el 0] [23, 49, 3, 3] from ⟨el_conf_numbers_said, el_stats_numbers_said, el_int_numbers_said, el_int_numbers_said, trivial⟩) laid_numbers_said tbool_numbers_said (by kernel_rfl) (by kernel_rfl) rfl (fun ds h => by
    match ds, h with
    | [_, _, _, _], _ => rfl) hval hW

/-- 'RoomNumbers': whatever the input, the law returns true, and every argument reads behind the call as before. No condition. -/
theorem numbers_said : Rows.RoomNumbersSaid :=
  OpenClaim.holds_of_wide 8 Try.f8 rfl rfl rfl rfl rfl rfl rfl ⟨rfl, rfl, rfl, rfl, rfl⟩ rfl rfl rfl rfl rfl (by kernel_rfl) (by kernel_rfl) (by kernel_rfl)
    (of_decide_eq_true (by kernel_rfl)) (by unfold Func.isWrapper; first | (rw [if_pos (by decide +kernel)]; kernel_rfl) | (rw [if_neg (by decide +kernel)]; exact ⟨rfl, rfl⟩))
    (fun os started H enc _ => numbers_said_lifted os started H enc)

#print axioms numbers_said
end Go.Proofs.Ytpgapdmmcanffaa.Laws02
