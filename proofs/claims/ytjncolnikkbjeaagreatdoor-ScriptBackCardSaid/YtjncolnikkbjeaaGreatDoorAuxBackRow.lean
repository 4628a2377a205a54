/- ScriptBack: the row's law, lifted: for every row of events and every bytes the call returns true. Conditions: the row's own. -/
import Derived.Test.YtjncolnikkbjeaaGreatDoorAuxBack
import Derived.Lib.SmallJoins
namespace Go.Proofs.YtjncolnikkbjeaaGreatDoor
open Go Go.ChangeShapes Go.WideShapes Go.RowKit Go.Joins Pri

set_option maxRecDepth 100000 in
/-- A row of events among the arguments. -/
theorem ev_arg2 {H : Type} {enc : TypeId × Value → H} {W : World} {spare : Nat → Bool} {held : Bool} {b0 : Nat} {v : Value} {d : DataW H} {ps : List MemPlace} (h0 : ∃ ob, W.heap[0]? = some ob)
    (hok : Value.okWide Tryz.prog W .any b0 22 v) (h : DataW.Trod enc Tryz.prog W 0 spare held 22 v d ps) :
    ∃ (x : AObj × Pl) (l : List E3), (x.2.ro = true ∧ wrB (some x.1) = false ∧ ∃ ob, W.heap[x.2.blk]? = some ob ∧ ∀ ρ, OR Tryz.prog ρ x.1 x.2 ob) ∧ (∀ y ∈ l, y.2.2 < 4294967296) ∧
      ∀ i, ∃ s, (∀ ρ : Rho, ρ i = some x.2 → VR ρ s v) ∧ ∀ hp : Hp, i < hp.nx → hp.get i = some x.1 → SlR hp s (2 + 1) (l.map evC) :=
  slice_arg3 Tryz.underlying22 Tryz.underlying40 (by kernel_rfl) rfl rfl rfl (by kernel_rfl) (by kernel_rfl) (by kernel_rfl) Tryz.underlying3 Tryz.underlying3 Tryz.underlying33 h0 hok h

set_option maxRecDepth 100000 in
theorem back_lifted (os : Os) (started : os.Started) (H : Type) (enc : TypeId × Value → H) :
    ReturnsInHanded {} Tryz.checked os 4 .any (fun w args => (Rows.scriptBackSpec.pre enc Tryz.prog Tryz.f4 [] false w args ∧ laidMetH Tryz.prog laidList w) ∧ sizedMet enc Tryz.prog Tryz.f4 (OpenSpec.ofChange Rows.scriptBackSpec) false w args)
      (Rows.scriptBackSpec.post enc Tryz.prog Tryz.f4 false true false false) := by
  refine law_wrap (C := Tryz.checked) (X := fun w _ => laidMetH Tryz.prog laidList w) (fun _ _ _ hh h => h.of_heap hh) own started (by kernel_rfl) Tryz.func4
    (law_witness (enc := enc) (C := Tryz.checked) (os := os) (X := fun w _ => laidMetH Tryz.prog laidList w) (World.laidAll Tryz.prog os laidList) #[.slice none 0 0, .string .empty] 8 (World.laidAll_os _ _ _) (World.shaped_of_ZipB (by kernel_rfl) (by kernel_rfl)) (by kernel_rfl) (by kernel_rfl) (by kernel_rfl)
      (by rw [MakeChecks.laidMetH_plain _ _ _ (by kernel_rfl)]; exact laidMet_laidAll _ (by kernel_rfl) (by kernel_rfl))) ?_
  intro W base args ds gs before hval0 hW _ hL hsh
  have hval : ∀ (j : Nat) t v, Tryz.f4.params[j]? = some t → args[j]? = some v → Value.okWide Tryz.prog W .any base t v := hval0
  have hW' := hW
  obtain ⟨p, q, hA0, hV, rfl, _, _⟩ := hW'
  have hA : DataW.TrodAll enc Tryz.prog W 0 (fun _ => true) true Tryz.f4.params.toList args.toList ds p := hA0
  rw [Tryz.params4] at hA hval
  obtain ⟨v0, v1, d0, d1, q0, q1, rfl, rfl, rfl, h0, h1⟩ := trodAll_two hA
  have hI0 := ini_ok hL hsh
  have hz0 : ∃ ob, W.heap[0]? = some ob := by
    obtain ⟨ob, h, _⟩ := hI0.obj _ (show (glI gl)[0] ∈ glI gl from List.getElem_mem _)
    exact ⟨ob, h⟩
  obtain ⟨x1, l, k1, m1, w1⟩ := ev_arg2 hz0 (hval 0 22 v0 rfl rfl) h0
  obtain ⟨sb, rfl, _⟩ := str_arg Tryz.underlying9 (hval 1 9 v1 rfl rfl)
  obtain ⟨s1, u1, w1⟩ := w1 4
  have hI := hI0.more2 [x1] (by
    intro x hx
    obtain rfl : x = x1 := by simpa using hx
    exact k1)
  have hnx : (Ini.hp (glI gl ++ [x1])).nx = 5 := (Ini.hp_nx _).trans rfl
  have hg : ∀ i, (Ini.hp (glI gl ++ [x1])).get i = ((glI gl ++ [x1])[i]?).map (·.1) := fun i => Ini.hp_get _ i
  have hstr : Value.string sb = str sb.data.toList := rfl
  obtain ⟨body, hb⟩ := Option.isSome_iff_exists.mp (show Tryz.f4.body.isSome = true by kernel_rfl)
  have ht : thereB (Ini.hp (glI gl ++ [x1])) 0 gl = true := by kernel_rfl
  obtain ⟨n, v, H', pn', hev, _, rfl⟩ := wpF_callF (args := #[s1, str sb.data.toList]) fnAt4 (back (w1 (Ini.hp (glI gl ++ [x1])) (by omega) (hg 4)) m1 (by omega) ht)
  exact law_true mix fok laidOut mapsOk slicesOk orc_sound fnAt4 hb (by rw [Tryz.params4]; exact fun t ht => of_decide_eq_true (List.all_eq_true.mp (show ([22, 9].all fun t => decide (t < Tryz.prog.types.size)) = true by kernel_rfl) t ht)) rfl
    (by cases gs with
      | nil => rfl
      | cons g r => exact absurd hV (by intro h; cases h)) (show Tryz.f4.resultTypes = #[4] by kernel_rfl) Tryz.underlying4 hW hI (.cons (u1 _ rfl) (.cons (.string _) .nil)) hev

end Go.Proofs.YtjncolnikkbjeaaGreatDoor
