/- PartNone: a partition that is not there, or that nobody made, answers ErrNil alone and no partition is made without its parts: for every event and every configuration the law returns true. Conditions: the row's own (its one table as the program's text lays it). -/
import Derived.Test.YtoldofonadhpnaaGreatDoorCards
import Derived.Test.YtoldofonadhpnaaGreatDoorTie
import Derived.Test.YtoldofonadhpnaaGreatDoorAuxSaid
import Derived.SevenTiedAt
namespace Go.Proofs.YtoldofonadhpnaaGreatDoor
open Go Pri

theorem card_holds : Rows.PartNoneCardSaid :=
  Claim7.holds_tied_plain_at .later [] [.data] true (true, "e8e281cc0d65768b5b74d907bbf029f465d60d0d3aca966631102c3c8da3fcc6") true
    said (fun _ h => by cases h) (by kernel_rfl) (fun _ h => by cases h) partNone_row_tie rfl ⟨rfl, rfl⟩ (by kernel_rfl) rfl
    (fun f fn hf hfn => by
      obtain rfl : f = 3 := Option.some.inj ((show Tryz.prog.funcNamed "priory/priorylaw22.PartNone" = some 3 by kernel_rfl).symm.trans hf) |>.symm
      obtain rfl : fn = Tryz.f3 := (Option.some.inj (Tryz.func3.symm.trans hfn)).symm
      exact ⟨by kernel_rfl, fun j t ht => by
        rw [Tryz.params3] at ht
        have hm : t ∈ [25, 30] := by simpa using Array.mem_of_getElem? ht
        have hall : ([25, 30].all fun u => !Tryz.prog.wantsStandIn u) = true := by kernel_rfl
        exact (show Tryz.prog.wantsStandIn t = false by simpa using List.all_eq_true.1 hall t hm)⟩)
    (by kernel_rfl)
#print axioms card_holds
end Go.Proofs.YtoldofonadhpnaaGreatDoor
