/- ScriptJoined: the row's law, lifted: for every two rows of events the call returns true. Conditions: the row's own. -/
import Derived.Test.YtjncolnikkbjeaaGreatDoorAuxJoin
import Derived.Lib.SmallJoins
namespace Go.Proofs.YtjncolnikkbjeaaGreatDoor
open Go Go.ChangeShapes Go.WideShapes Go.RowKit Go.Joins Pri

set_option maxRecDepth 100000 in
/-- A row of events among the arguments. -/
theorem ev_arg {H : Type} {enc : TypeId × Value → H} {W : World} {spare : Nat → Bool} {held : Bool} {b0 : Nat} {v : Value} {d : DataW H} {ps : List MemPlace} (h0 : ∃ ob, W.heap[0]? = some ob)
    (hok : Value.okWide Tryz.prog W .any b0 22 v) (h : DataW.Trod enc Tryz.prog W 0 spare held 22 v d ps) :
    ∃ (x : AObj × Pl) (l : List E3), (x.2.ro = true ∧ wrB (some x.1) = false ∧ ∃ ob, W.heap[x.2.blk]? = some ob ∧ ∀ ρ, OR Tryz.prog ρ x.1 x.2 ob) ∧ (∀ y ∈ l, y.2.2 < 4294967296) ∧
      ∀ i, ∃ s, (∀ ρ : Rho, ρ i = some x.2 → VR ρ s v) ∧ ∀ hp : Hp, i < hp.nx → hp.get i = some x.1 → SlR hp s (2 + 1) (l.map evC) :=
  slice_arg3 Tryz.underlying22 Tryz.underlying40 (by kernel_rfl) rfl rfl rfl (by kernel_rfl) (by kernel_rfl) (by kernel_rfl) Tryz.underlying3 Tryz.underlying3 Tryz.underlying33 h0 hok h

set_option maxRecDepth 100000 in
theorem joined_lifted (os : Os) (started : os.Started) (H : Type) (enc : TypeId × Value → H) :
    ReturnsInHanded {} Tryz.checked os 5 .any (fun w args => (Rows.scriptJoinedSpec.pre enc Tryz.prog Tryz.f5 [] false w args ∧ laidMetH Tryz.prog laidList w) ∧ sizedMet enc Tryz.prog Tryz.f5 (OpenSpec.ofChange Rows.scriptJoinedSpec) false w args)
      (Rows.scriptJoinedSpec.post enc Tryz.prog Tryz.f5 false true false false) := by
  refine law_wrap (C := Tryz.checked) (X := fun w _ => laidMetH Tryz.prog laidList w) (fun _ _ _ hh h => h.of_heap hh) own started (by kernel_rfl) Tryz.func5
    (law_witness (enc := enc) (C := Tryz.checked) (os := os) (X := fun w _ => laidMetH Tryz.prog laidList w) (World.laidAll Tryz.prog os laidList) #[.slice none 0 0, .slice none 0 0] 8 (World.laidAll_os _ _ _) (World.shaped_of_ZipB (by kernel_rfl) (by kernel_rfl)) (by kernel_rfl) (by kernel_rfl) (by kernel_rfl)
      (by rw [MakeChecks.laidMetH_plain _ _ _ (by kernel_rfl)]; exact laidMet_laidAll _ (by kernel_rfl) (by kernel_rfl))) ?_
  intro W base args ds gs before hval0 hW _ hL hsh
  have hval : ∀ (j : Nat) t v, Tryz.f5.params[j]? = some t → args[j]? = some v → Value.okWide Tryz.prog W .any base t v := hval0
  have hW' := hW
  obtain ⟨p, q, hA0, hV, rfl, _, _⟩ := hW'
  have hA : DataW.TrodAll enc Tryz.prog W 0 (fun _ => true) true Tryz.f5.params.toList args.toList ds p := hA0
  rw [Tryz.params5] at hA hval
  obtain ⟨v0, v1, d0, d1, q0, q1, rfl, rfl, rfl, h0, h1⟩ := trodAll_two hA
  have hI0 := ini_ok hL hsh
  have hz0 : ∃ ob, W.heap[0]? = some ob := by
    obtain ⟨ob, h, _⟩ := hI0.obj _ (show (glI gl)[0] ∈ glI gl from List.getElem_mem _)
    exact ⟨ob, h⟩
  obtain ⟨x1, l, k1, m1, w1⟩ := ev_arg hz0 (hval 0 22 v0 rfl rfl) h0
  obtain ⟨x2, m, k2, m2, w2⟩ := ev_arg hz0 (hval 1 22 v1 rfl rfl) h1
  obtain ⟨s1, u1, w1⟩ := w1 4
  obtain ⟨s2, u2, w2⟩ := w2 5
  have hI := hI0.more2 [x1, x2] (by
    intro x hx
    have hx : x = x1 ∨ x = x2 := by simpa using hx
    rcases hx with rfl | rfl
    · exact k1
    · exact k2)
  have hnx : (Ini.hp (glI gl ++ [x1, x2])).nx = 6 := (Ini.hp_nx _).trans rfl
  have hg : ∀ i, (Ini.hp (glI gl ++ [x1, x2])).get i = ((glI gl ++ [x1, x2])[i]?).map (·.1) := fun i => Ini.hp_get _ i
  obtain ⟨body, hb⟩ := Option.isSome_iff_exists.mp (show Tryz.f5.body.isSome = true by kernel_rfl)
  have ht : thereB (Ini.hp (glI gl ++ [x1, x2])) 0 gl = true := by kernel_rfl
  obtain ⟨n, v, H', pn', hev, _, rfl⟩ := wpF_callF (args := #[s1, s2]) fnAt5 (joined (w1 (Ini.hp (glI gl ++ [x1, x2])) (by omega) (hg 4)) (w2 (Ini.hp (glI gl ++ [x1, x2])) (by omega) (hg 5)) m1 m2 (by omega) ht)
  exact law_true mix fok laidOut mapsOk slicesOk orc_sound fnAt5 hb (by rw [Tryz.params5]; exact fun t ht => of_decide_eq_true (List.all_eq_true.mp (show ([22, 22].all fun t => decide (t < Tryz.prog.types.size)) = true by kernel_rfl) t ht)) rfl
    (by cases gs with
      | nil => rfl
      | cons g r => exact absurd hV (by intro h; cases h)) (show Tryz.f5.resultTypes = #[4] by kernel_rfl) Tryz.underlying4 hW hI (.cons (u1 _ rfl) (.cons (u2 _ rfl) .nil)) hev

end Go.Proofs.YtjncolnikkbjeaaGreatDoor
