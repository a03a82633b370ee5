/- The row of 'LayoutChecks': whatever the input, the law returns true, and every argument reads behind the call as before. No condition. -/
import Derived.Test.YtpgapdmmcanffaaD02f
import Derived.Test.YtpgapdmmcanffaaRows
namespace Go.Proofs.Ytpgapdmmcanffaa.Laws02
open Go.ChangeShapes Go.WideShapes Go.ChangeAt Go.RowKit Go.Rx

theorem own : ownKnob Try.prog.godebug = none := by kernel_rfl
theorem laid : laidOutB Try.prog = true := by kernel_rfl
theorem tbool : Try.prog.underlying 4 = some .bool := by kernel_rfl

noncomputable def confFs : Array Field := match Try.prog.underlying 23 with | some (.struct fs) => fs | _ => #[]
theorem conf_ok : ElOK Try.prog elTT 14 := elOK_ints (m := 10) (fs := confFs) (by kernel_rfl) (by kernel_rfl) (by kernel_rfl)
theorem el_conf : AKOK Try.prog elTT (.el 14) 23 := ⟨rfl, conf_ok⟩

set_option maxRecDepth 100000 in
theorem checks_lifted (os : Os) (started : os.Started) (H : Type) (enc : TypeId × Value → H) :
    ReturnsInHanded {} Try.checked os 3 .any (Rows.layoutChecksSpec.pre6 enc Try.prog Try.f3 Rows.layoutChecksRow.domain false) (Rows.layoutChecksSpec.post enc Try.prog Try.f3 false true false false) := by
  refine returnsInHanded_of_change (C := Try.checked) own started (by kernel_rfl) (by kernel_rfl)
    (ChangeSpec.witness6 (enc := enc) (C := Try.checked) false ⟨#[], #[.agg #[.int .i64 0, .int .i64 0, .int .i64 0, .int .i64 0, .int .i64 0, .int .i64 0, .int .i64 0, .int .i64 0, .int .i64 0, .int .i64 0, .int .i64 0]], []⟩ 8 (by kernel_rfl) (by kernel_rfl) (by kernel_rfl) (by kernel_rfl)) ?_
  intro W base args ds gs before hval hW _ _
  exact law_calls (elT := elTT) (f := Try.f3) (ks := [.el 14]) checks_law (show AKsOK Try.prog elTT [.el 14] [23] from ⟨el_conf, trivial⟩) laid tbool (by kernel_rfl) (by kernel_rfl) rfl (fun ds h => by
    match ds, h with
    | [_], _ => rfl) hval hW

/-- 'LayoutChecks': whatever the input, the law returns true, and every argument reads behind the call as before. No condition. -/
theorem checks_said : Rows.LayoutChecksSaid :=
  OpenClaim.holds_of_wide 3 Try.f3 rfl rfl rfl rfl rfl rfl rfl ⟨rfl, rfl, rfl, rfl, rfl⟩ rfl rfl rfl rfl rfl (by kernel_rfl) (by kernel_rfl) (by kernel_rfl)
    (of_decide_eq_true (by kernel_rfl)) (by unfold Func.isWrapper; first | (rw [if_pos (by decide +kernel)]; kernel_rfl) | (rw [if_neg (by decide +kernel)]; exact ⟨rfl, rfl⟩))
    (fun os started H enc _ => checks_lifted os started H enc)

#print axioms checks_said
end Go.Proofs.Ytpgapdmmcanffaa.Laws02
