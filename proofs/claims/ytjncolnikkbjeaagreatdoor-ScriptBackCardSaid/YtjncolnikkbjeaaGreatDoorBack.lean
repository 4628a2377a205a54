/- ScriptBack: events that are put are got back, and bytes that are taken are put so: for every row of events and every bytes the law returns true. Conditions: the row's own (its tables as the program's text lays them). -/
import Derived.Test.YtjncolnikkbjeaaGreatDoorCards
import Derived.Test.YtjncolnikkbjeaaGreatDoorTie
import Derived.Test.YtjncolnikkbjeaaGreatDoorAuxBackSaid
import Derived.SevenTiedAt
namespace Go.Proofs.YtjncolnikkbjeaaGreatDoor
open Go Pri

theorem back_card_holds : Rows.ScriptBackCardSaid :=
  Claim7.holds_tied_plain_at .later [] [.data, .data, .data] true (true, "1c353b818b59d28e52f43ca7fe9f0519eaaf1b2668d49e20a06b86a90e46f4ea") true
    back_said (fun _ h => by cases h) (by kernel_rfl) (fun _ h => by cases h) scriptBack_row_tie rfl ⟨rfl, rfl⟩ (by kernel_rfl) rfl
    (fun f fn hf hfn => by
      obtain rfl : f = 4 := Option.some.inj ((show Tryz.prog.funcNamed "priory/priorylaw27.ScriptBack" = some 4 by kernel_rfl).symm.trans hf) |>.symm
      obtain rfl : fn = Tryz.f4 := (Option.some.inj (Tryz.func4.symm.trans hfn)).symm
      exact ⟨by kernel_rfl, fun j t ht => by
        rw [Tryz.params4] at ht
        have hm : t ∈ [22, 9] := by simpa using Array.mem_of_getElem? ht
        have hall : ([22, 9].all fun u => !Tryz.prog.wantsStandIn u) = true := by kernel_rfl
        exact (show Tryz.prog.wantsStandIn t = false by simpa using List.all_eq_true.1 hall t hm)⟩)
    (by kernel_rfl)
#print axioms back_card_holds
end Go.Proofs.YtjncolnikkbjeaaGreatDoor
