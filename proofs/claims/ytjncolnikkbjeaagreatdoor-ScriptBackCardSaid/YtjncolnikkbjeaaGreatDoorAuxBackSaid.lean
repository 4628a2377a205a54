/- ScriptBack: the row's statement. Conditions: the row's own. -/
import Derived.Test.YtjncolnikkbjeaaGreatDoorAuxBackRow
import Derived.JoinedOf
namespace Go.Proofs.YtjncolnikkbjeaaGreatDoor
open Go Pri

theorem back_said : Rows.ScriptBackSaid :=
  OpenClaim.holds_of_wide 4 Tryz.f4 rfl rfl rfl rfl rfl rfl rfl ⟨rfl, rfl, rfl, rfl, rfl⟩ rfl rfl rfl rfl rfl (by kernel_rfl) Tryz.func4 (by kernel_rfl)
    (of_decide_eq_true (by kernel_rfl)) (by unfold Func.isWrapper; first | (rw [if_pos (by decide +kernel)]; kernel_rfl) | (rw [if_neg (by decide +kernel)]; exact ⟨rfl, rfl⟩))
    (fun os started H enc _ => back_lifted os started H enc)

end Go.Proofs.YtjncolnikkbjeaaGreatDoor
