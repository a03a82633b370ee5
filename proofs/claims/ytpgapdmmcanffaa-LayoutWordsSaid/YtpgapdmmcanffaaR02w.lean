/- The row of 'LayoutWords': whatever the input, the law returns true, and every argument reads behind the call as before. No condition. -/
import Derived.Test.YtpgapdmmcanffaaD02n
import Derived.Test.YtpgapdmmcanffaaRows
namespace Go.Proofs.Ytpgapdmmcanffaa.Laws02
open Go.ChangeShapes Go.WideShapes Go.ChangeAt Go.RowKit Go.Rx

theorem own_words_said : ownKnob Try.prog.godebug = none := by kernel_rfl
theorem laid_words_said : laidOutB Try.prog = true := by kernel_rfl
theorem tbool_words_said : Try.prog.underlying 4 = some .bool := by kernel_rfl

noncomputable def confFs_words_said : Array Field := match Try.prog.underlying 23 with | some (.struct fs) => fs | _ => #[]
theorem conf_ok_words_said : ElOK Try.prog elTT 14 := elOK_ints (m := 10) (fs := confFs_words_said) (by kernel_rfl) (by kernel_rfl) (by kernel_rfl)
theorem el_conf_words_said : AKOK Try.prog elTT (.el 14) 23 := ⟨rfl, conf_ok_words_said⟩

theorem el_int_words_said : AKOK Try.prog elTT (.el 0) 3 := ⟨rfl, elOK_int (by kernel_rfl) (by kernel_rfl)⟩

set_option maxRecDepth 100000 in
theorem words_said_lifted (os : Os) (started : os.Started) (H : Type) (enc : TypeId × Value → H) :
    ReturnsInHanded {} Try.checked os 7 .any (Rows.layoutWordsSpec.pre6 enc Try.prog Try.f7 Rows.layoutWordsRow.domain false) (Rows.layoutWordsSpec.post enc Try.prog Try.f7 false true false false) := by
  refine returnsInHanded_of_change (C := Try.checked) own_words_said started (by kernel_rfl) (by kernel_rfl)
    (ChangeSpec.witness6 (enc := enc) (C := Try.checked) false ⟨#[], #[.agg #[.int .i64 0, .int .i64 0, .int .i64 0, .int .i64 0, .int .i64 0, .int .i64 0, .int .i64 0, .int .i64 0, .int .i64 0, .int .i64 0, .int .i64 0], .int .i64 0, .int .i64 0, .int .i64 0], []⟩ 8 (by kernel_rfl) (by kernel_rfl) (by kernel_rfl) (by kernel_rfl)) ?_
  intro W base args ds gs before hval hW _ _
  exact law_calls (elT := elTT) (f := Try.f7) (ks := [.el 14, .el 0, .el 0, .el 0]) words_law (show AKsOK Try.prog elTT [.el 14, .el 0, .el 0, .el 0] [23, 3, 3, 3] from ⟨el_conf_words_said, el_int_words_said, el_int_words_said, el_int_words_said, trivial⟩) laid_words_said tbool_words_said (by kernel_rfl) (by kernel_rfl) rfl (fun ds h => by
    match ds, h with
    | [_, _, _, _], _ => rfl) hval hW

/-- 'LayoutWords': whatever the input, the law returns true, and every argument reads behind the call as before. No condition. -/
theorem words_said : Rows.LayoutWordsSaid :=
  OpenClaim.holds_of_wide 7 Try.f7 rfl rfl rfl rfl rfl rfl rfl ⟨rfl, rfl, rfl, rfl, rfl⟩ rfl rfl rfl rfl rfl (by kernel_rfl) (by kernel_rfl) (by kernel_rfl)
    (of_decide_eq_true (by kernel_rfl)) (by unfold Func.isWrapper; first | (rw [if_pos (by decide +kernel)]; kernel_rfl) | (rw [if_neg (by decide +kernel)]; exact ⟨rfl, rfl⟩))
    (fun os started H enc _ => words_said_lifted os started H enc)

#print axioms words_said
end Go.Proofs.Ytpgapdmmcanffaa.Laws02
