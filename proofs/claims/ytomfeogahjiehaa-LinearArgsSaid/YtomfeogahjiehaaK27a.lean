/- The row of 'LinearArgs': whatever the input, the law returns true, and every argument reads behind the call as before. No condition. -/
import Derived.Test.YtomfeogahjiehaaK27aE
import Derived.Test.YtomfeogahjiehaaRows
namespace Go.Proofs.Ytomfeogahjiehaa.Laws27
open Go.ChangeShapes Go.WideShapes Go.ChangeAt Go.RowKit Go.Rx

theorem own_linearArgs_said : ownKnob Try.prog.godebug = none := by kernel_rfl
theorem laid_linearArgs_said : laidOutB Try.prog = true := by kernel_rfl
theorem tbool_linearArgs_said : Try.prog.underlying 4 = some .bool := by kernel_rfl
noncomputable def fs14 : Array Field := match Try.prog.underlying (elTT 14) with | some (.struct fs) => fs | _ => #[]
theorem el14_ok : ElOK Try.prog elTT 14 := elOK_ints (m := 10) (fs := fs14) (by kernel_rfl) (by kernel_rfl) (by kernel_rfl)
noncomputable def evFs3 : Array Field := match Try.prog.underlying (elTT 3) with | some (.struct fs) => fs | _ => #[]
theorem el3_ok : ElOK Try.prog elTT 3 := elOK_ev (fs := evFs3) (by kernel_rfl) (by kernel_rfl) (by kernel_rfl)

set_option maxRecDepth 100000 in
theorem linearArgs_said_lifted (os : Os) (started : os.Started) (H : Type) (enc : TypeId × Value → H) :
    ReturnsInHanded {} Try.checked os 7 .any (Rows.linearArgsSpec.pre6 enc Try.prog Try.f7 Rows.linearArgsRow.domain false) (Rows.linearArgsSpec.post enc Try.prog Try.f7 false true false false) := by
  refine returnsInHanded_of_change (C := Try.checked) own_linearArgs_said started (by kernel_rfl) (by kernel_rfl)
    (ChangeSpec.witness6 (enc := enc) (C := Try.checked) false ⟨#[], #[.agg #[.int .i64 0, .int .i64 0, .int .i64 0, .int .i64 0, .int .i64 0, .int .i64 0, .int .i64 0, .int .i64 0, .int .i64 0, .int .i64 0, .int .i64 0], .slice none 0 0], []⟩ 8 (by kernel_rfl) (by kernel_rfl) (by kernel_rfl) (by kernel_rfl)) ?_
  intro W base args ds gs before hval hW _ _
  exact yg1 (elT := elTT) (f := Try.f7) (ks := [.el 14, .row 3]) yiq (show AKsOK Try.prog elTT [.el 14, .row 3] [23, 73] from ⟨⟨rfl, el14_ok⟩, ⟨by kernel_rfl, el3_ok⟩, trivial⟩) laid_linearArgs_said tbool_linearArgs_said (by kernel_rfl) (by kernel_rfl) rfl (fun ds h => by
    match ds, h with
    | [_, _], _ => rfl) hval hW

/-- 'LinearArgs': whatever the input, the law returns true, and every argument reads behind the call as before. No condition. -/
theorem linearArgs_said : Rows.LinearArgsSaid :=
  OpenClaim.holds_of_wide 7 Try.f7 rfl rfl rfl rfl rfl rfl rfl ⟨rfl, rfl, rfl, rfl, rfl⟩ rfl rfl rfl rfl rfl (by kernel_rfl) (by kernel_rfl) (by kernel_rfl)
    (of_decide_eq_true (by kernel_rfl)) (by unfold Func.isWrapper; first | (rw [if_pos (by decide +kernel)]; kernel_rfl) | (rw [if_neg (by decide +kernel)]; exact ⟨rfl, rfl⟩))
    (fun os started H enc _ => linearArgs_said_lifted os started H enc)

#print axioms linearArgs_said
end Go.Proofs.Ytomfeogahjiehaa.Laws27
