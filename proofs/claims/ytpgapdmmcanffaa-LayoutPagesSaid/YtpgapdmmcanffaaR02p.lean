/- The row of 'LayoutPages': whatever the input, the law returns true, and every argument reads behind the call as before. No condition. -/
import Derived.Test.YtpgapdmmcanffaaD02n
import Derived.Test.YtpgapdmmcanffaaRows
namespace Go.Proofs.Ytpgapdmmcanffaa.Laws02
open Go.ChangeShapes Go.WideShapes Go.ChangeAt Go.RowKit Go.Rx

theorem own_pages_said : ownKnob Try.prog.godebug = none := by kernel_rfl
theorem laid_pages_said : laidOutB Try.prog = true := by kernel_rfl
theorem tbool_pages_said : Try.prog.underlying 4 = some .bool := by kernel_rfl

noncomputable def confFs_pages_said : Array Field := match Try.prog.underlying 23 with | some (.struct fs) => fs | _ => #[]
theorem conf_ok_pages_said : ElOK Try.prog elTT 14 := elOK_ints (m := 10) (fs := confFs_pages_said) (by kernel_rfl) (by kernel_rfl) (by kernel_rfl)
theorem el_conf_pages_said : AKOK Try.prog elTT (.el 14) 23 := ⟨rfl, conf_ok_pages_said⟩

theorem el_int_pages_said : AKOK Try.prog elTT (.el 0) 3 := ⟨rfl, elOK_int (by kernel_rfl) (by kernel_rfl)⟩

set_option maxRecDepth 100000 in
theorem pages_said_lifted (os : Os) (started : os.Started) (H : Type) (enc : TypeId × Value → H) :
    ReturnsInHanded {} Try.checked os 4 .any (Rows.layoutPagesSpec.pre6 enc Try.prog Try.f4 Rows.layoutPagesRow.domain false) (Rows.layoutPagesSpec.post enc Try.prog Try.f4 false true false false) := by
  refine returnsInHanded_of_change (C := Try.checked) own_pages_said started (by kernel_rfl) (by kernel_rfl)
    (ChangeSpec.witness6 (enc := enc) (C := Try.checked) false ⟨#[], #[.agg #[.int .i64 0, .int .i64 0, .int .i64 0, .int .i64 0, .int .i64 0, .int .i64 0, .int .i64 0, .int .i64 0, .int .i64 0, .int .i64 0, .int .i64 0], .int .i64 0, .int .i64 0, .int .i64 0], []⟩ 8 (by kernel_rfl) (by kernel_rfl) (by kernel_rfl) (by kernel_rfl)) ?_
  intro W base args ds gs before hval hW _ _
  exact law_calls (elT := elTT) (f := Try.f4) (ks := [.el 14, .el 0, .el 0, .el 0]) pages_law (show AKsOK Try.prog elTT [.el 14, .el 0, .el 0, .el 0] [23, 3, 3, 3] from ⟨el_conf_pages_said, el_int_pages_said, el_int_pages_said, el_int_pages_said, trivial⟩) laid_pages_said tbool_pages_said (by kernel_rfl) (by kernel_rfl) rfl (fun ds h => by
    match ds, h with
    | [_, _, _, _], _ => rfl) hval hW

/-- 'LayoutPages': whatever the input, the law returns true, and every argument reads behind the call as before. No condition. -/
theorem pages_said : Rows.LayoutPagesSaid :=
  OpenClaim.holds_of_wide 4 Try.f4 rfl rfl rfl rfl rfl rfl rfl ⟨rfl, rfl, rfl, rfl, rfl⟩ rfl rfl rfl rfl rfl (by kernel_rfl) (by kernel_rfl) (by kernel_rfl)
    (of_decide_eq_true (by kernel_rfl)) (by unfold Func.isWrapper; first | (rw [if_pos (by decide +kernel)]; kernel_rfl) | (rw [if_neg (by decide +kernel)]; exact ⟨rfl, rfl⟩))
    (fun os started H enc _ => pages_said_lifted os started H enc)

#print axioms pages_said
end Go.Proofs.Ytpgapdmmcanffaa.Laws02
