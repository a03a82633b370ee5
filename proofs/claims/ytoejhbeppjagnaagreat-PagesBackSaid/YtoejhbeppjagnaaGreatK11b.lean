/- The row of 'PagesBack': whatever the input, the law returns true, and every argument reads behind the call as before. No condition. -/
import Derived.Test.YtoejhbeppjagnaaGreatK11bF
import Derived.Test.YtoejhbeppjagnaaGreatRows
namespace Go.Proofs.YtoejhbeppjagnaaGreat.Laws11
open Go.ChangeShapes Go.WideShapes Go.ChangeAt Go.RowKit Go.Rx

theorem own_pagesBack_said : ownKnob Tryz.prog.godebug = none := by kernel_rfl
theorem laid_pagesBack_said : laidOutB Tryz.prog = true := by kernel_rfl
theorem tbool_pagesBack_said : Tryz.prog.underlying 4 = some .bool := by kernel_rfl
noncomputable def fs14 : Array Field := match Tryz.prog.underlying (elTT 14) with | some (.struct fs) => fs | _ => #[]
theorem el14_ok : ElOK Tryz.prog elTT 14 := elOK_ints (m := 10) (fs := fs14) (by kernel_rfl) (by kernel_rfl) (by kernel_rfl)
noncomputable def fs6 : Array Field := match Tryz.prog.underlying (elTT 6) with | some (.struct fs) => fs | _ => #[]
theorem el6_ok : ElOK Tryz.prog elTT 6 := elOK_ints (m := 2) (fs := fs6) (by kernel_rfl) (by kernel_rfl) (by kernel_rfl)
theorem el_int_ok : ElOK Tryz.prog elTT 0 := elOK_int (by kernel_rfl) (by kernel_rfl)

set_option maxRecDepth 100000 in
theorem pagesBack_said_lifted (os : Os) (started : os.Started) (H : Type) (enc : TypeId × Value → H) :
    ReturnsInHanded {} Tryz.checked os 5 .any (Rows.pagesBackSpec.pre6 enc Tryz.prog Tryz.f5 Rows.pagesBackRow.domain false) (Rows.pagesBackSpec.post enc Tryz.prog Tryz.f5 false true false false) := by
  refine returnsInHanded_of_change (C := Tryz.checked) own_pagesBack_said started (by kernel_rfl) (by kernel_rfl)
    (ChangeSpec.witness6 (enc := enc) (C := Tryz.checked) false ⟨#[], #[.agg #[.int .i64 0, .int .i64 0, .int .i64 0, .int .i64 0, .int .i64 0, .int .i64 0, .int .i64 0, .int .i64 0, .int .i64 0, .int .i64 0, .int .i64 0], .slice none 0 0, .int .i64 0], []⟩ 8 (by kernel_rfl) (by kernel_rfl) (by kernel_rfl) (by kernel_rfl)) ?_
  intro W base args ds gs before hval hW _ _
  exact yj7 (elT := elTT) (f := Tryz.f5) (ks := [.el 14, .row 6, .el 0]) yhp (show AKsOK Tryz.prog elTT [.el 14, .row 6, .el 0] [23, 24, 3] from ⟨⟨rfl, el14_ok⟩, ⟨by kernel_rfl, el6_ok⟩, ⟨rfl, el_int_ok⟩, trivial⟩) laid_pagesBack_said tbool_pagesBack_said (by kernel_rfl) (by kernel_rfl) rfl (fun ds h => by
    match ds, h with
    | [_, _, _], _ => rfl) hval hW

/-- 'PagesBack': whatever the input, the law returns true, and every argument reads behind the call as before. No condition. -/
theorem pagesBack_said : Rows.PagesBackSaid :=
  OpenClaim.holds_of_wide 5 Tryz.f5 rfl rfl rfl rfl rfl rfl rfl ⟨rfl, rfl, rfl, rfl, rfl⟩ rfl rfl rfl rfl rfl (by kernel_rfl) (by kernel_rfl) (by kernel_rfl)
    (of_decide_eq_true (by kernel_rfl)) (by unfold Func.isWrapper; first | (rw [if_pos (by decide +kernel)]; kernel_rfl) | (rw [if_neg (by decide +kernel)]; exact ⟨rfl, rfl⟩))
    (fun os started H enc _ => pagesBack_said_lifted os started H enc)

#print axioms pagesBack_said
end Go.Proofs.YtoejhbeppjagnaaGreat.Laws11
