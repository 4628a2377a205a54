/- The law's 'awake', a closed call, found once and for all. Conditions: none. -/
import Derived.Test.YtoldofonadhpnaaGreatDoorAuxAdd
namespace Go.Proofs.YtoldofonadhpnaaGreatDoor
open Go Pri
noncomputable def orcBoth : Inv := orElse orcAdd orcGet
theorem orcBoth_sound : InvS Tryz.prog orcBoth := orcAdd_sound.orElse orcGet_sound
set_option maxRecDepth 1000000 in
theorem orcAwake_sound : InvS Tryz.prog orcAwake :=
  closed_of mix fok orcBoth_sound glsz glplain (by kernel_rfl) (by kernel_rfl) (n := 5000) (by kernel_rfl)
noncomputable def orc : Inv := orElse orcAwake orcBoth
theorem orc_sound : InvS Tryz.prog orc := orcAwake_sound.orElse orcBoth_sound
end Go.Proofs.YtoldofonadhpnaaGreatDoor
