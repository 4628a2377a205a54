/- ScriptJoined: the bytes of events one behind the other are the bytes of the first ones, and those of the others behind them: for every two rows of events the law returns true. Conditions: the row's own (its tables as the program's text lays them). -/
import Derived.Test.YtjncolnikkbjeaaGreatDoorCards
import Derived.Test.YtjncolnikkbjeaaGreatDoorTie
import Derived.Test.YtjncolnikkbjeaaGreatDoorAuxJoinSaid
import Derived.SevenTiedAt
namespace Go.Proofs.YtjncolnikkbjeaaGreatDoor
open Go Pri

theorem joined_card_holds : Rows.ScriptJoinedCardSaid :=
  Claim7.holds_tied_plain_at .later [] [.data, .data, .data] true (true, "1c353b818b59d28e52f43ca7fe9f0519eaaf1b2668d49e20a06b86a90e46f4ea") true
    joined_said (fun _ h => by cases h) (by kernel_rfl) (fun _ h => by cases h) scriptJoined_row_tie rfl ⟨rfl, rfl⟩ (by kernel_rfl) rfl
    (fun f fn hf hfn => by
      obtain rfl : f = 5 := Option.some.inj ((show Tryz.prog.funcNamed "priory/priorylaw27.ScriptJoined" = some 5 by kernel_rfl).symm.trans hf) |>.symm
      obtain rfl : fn = Tryz.f5 := (Option.some.inj (Tryz.func5.symm.trans hfn)).symm
      exact ⟨by kernel_rfl, fun j t ht => by
        rw [Tryz.params5] at ht
        have hm : t ∈ [22, 22] := by simpa using Array.mem_of_getElem? ht
        have hall : ([22, 22].all fun u => !Tryz.prog.wantsStandIn u) = true := by kernel_rfl
        exact (show Tryz.prog.wantsStandIn t = false by simpa using List.all_eq_true.1 hall t hm)⟩)
    (by kernel_rfl)
#print axioms joined_card_holds
end Go.Proofs.YtjncolnikkbjeaaGreatDoor
