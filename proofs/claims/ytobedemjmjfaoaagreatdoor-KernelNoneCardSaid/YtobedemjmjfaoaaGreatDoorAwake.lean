/- The law's 'awake', a closed call, found once and for all. Conditions: none. -/
import Derived.Test.YtobedemjmjfaoaaGreatDoorFacts
namespace Go.Proofs.YtobedemjmjfaoaaGreatDoor
open Go Pri
theorem orcAwake_sound : InvS Tryz.prog orcAwake :=
  closed_of mix fok orcGet_sound glsz glplain (by kernel_rfl) (by kernel_rfl) (n := 5000) (by kernel_rfl)
noncomputable def orc : Inv := orElse orcAwake orcGet
theorem orc_sound : InvS Tryz.prog orc := orcAwake_sound.orElse orcGet_sound
end Go.Proofs.YtobedemjmjfaoaaGreatDoor
