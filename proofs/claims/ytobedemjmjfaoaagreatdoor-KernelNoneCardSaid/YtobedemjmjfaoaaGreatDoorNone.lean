/- KernelNone: a kernel that is not there, or that nobody made, is seen as ErrNil alone, and tells nothing: for every event and every two numbers the law returns true. Conditions: the row's own (its one table as the program's text lays it). -/
import Derived.Test.YtobedemjmjfaoaaGreatDoorCards
import Derived.Test.YtobedemjmjfaoaaGreatDoorTie
import Derived.Test.YtobedemjmjfaoaaGreatDoorAuxSaid
import Derived.SevenTiedAt
namespace Go.Proofs.YtobedemjmjfaoaaGreatDoor
open Go Pri

theorem card_holds : Rows.KernelNoneCardSaid :=
  Claim7.holds_tied_plain_at .later [] [.data] true (true, "bcf50f684628c90327c2fff2bb453593b2a1ef3609aea6f1d8a3d3aedce498e8") true
    said (fun _ h => by cases h) (by kernel_rfl) (fun _ h => by cases h) kernelNone_row_tie rfl ⟨rfl, rfl⟩ (by kernel_rfl) rfl
    (fun f fn hf hfn => by
      obtain rfl : f = 3 := Option.some.inj ((show Tryz.prog.funcNamed "priory/priorylaw24.KernelNone" = some 3 by kernel_rfl).symm.trans hf) |>.symm
      obtain rfl : fn = Tryz.f3 := (Option.some.inj (Tryz.func3.symm.trans hfn)).symm
      exact ⟨by kernel_rfl, fun j t ht => by
        rw [Tryz.params3] at ht
        have hm : t ∈ [25, 3, 3] := by simpa using Array.mem_of_getElem? ht
        have hall : ([25, 3, 3].all fun u => !Tryz.prog.wantsStandIn u) = true := by kernel_rfl
        exact (show Tryz.prog.wantsStandIn t = false by simpa using List.all_eq_true.1 hall t hm)⟩)
    (by kernel_rfl)
#print axioms card_holds
end Go.Proofs.YtobedemjmjfaoaaGreatDoor
