/- The law's 'awake', a closed call, found once and for all. Conditions: none. -/
import Derived.Test.YtjncolnikkbjeaaGreatDoorAuxOct
namespace Go.Proofs.YtjncolnikkbjeaaGreatDoor
open Go Pri
set_option maxRecDepth 1000000 in
theorem orcAwake_sound : InvS Tryz.prog orcAwake :=
  closed_of mix fok orcGet_sound glsz glplain (by kernel_rfl) (by kernel_rfl) (n := 5000) (by kernel_rfl)
noncomputable def orc : Inv := orElse orcAwake (orElse orcOct orcGet)
theorem orc_sound : InvS Tryz.prog orc := orcAwake_sound.orElse (orcOct_sound.orElse orcGet_sound)
theorem octet_spec {H : Hp} {m : Nat} (hm : m < 4294967296) (hn : 4 ≤ H.nx) : ∃ v h' pn', (Cl Tryz.prog orc none false (.fn (.func 19) #[]) #[.int .u32 (.ofNat m), .int .i64 (.ofNat 4)] H (.ret v) h' pn' ∧ H.nx ≤ h'.nx) ∧ (v = .tuple #[str (oct4 m), .int .i64 0] ∧ h' = H) :=
  ⟨_, _, _, ⟨Cl.hit ((orElse_right (by kernel_rfl)).trans (orElse_left (octet_hit hm hn))), Nat.le_refl _⟩, rfl, rfl⟩
end Go.Proofs.YtjncolnikkbjeaaGreatDoor
