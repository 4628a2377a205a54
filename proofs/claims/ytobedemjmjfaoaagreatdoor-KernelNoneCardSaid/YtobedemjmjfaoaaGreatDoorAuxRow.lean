/- KernelNone: the row's law, lifted: for every event and every two numbers the call returns true. Conditions: the row's own. -/
import Derived.Test.YtobedemjmjfaoaaGreatDoorAuxRun
import Derived.Lib.SmallJoins
namespace Go.Proofs.YtobedemjmjfaoaaGreatDoor
open Go Go.ChangeShapes Go.WideShapes Go.RowKit Go.Joins Pri

theorem fnAt3 : fnAt Tryz.prog 3 = some Tryz.f3 := by kernel_rfl

set_option maxRecDepth 100000 in
theorem lifted (os : Os) (started : os.Started) (H : Type) (enc : TypeId × Value → H) :
    ReturnsInHanded {} Tryz.checked os 3 .any (fun w args => (Rows.kernelNoneSpec.pre enc Tryz.prog Tryz.f3 [] false w args ∧ laidMetH Tryz.prog laidList w) ∧ sizedMet enc Tryz.prog Tryz.f3 (OpenSpec.ofChange Rows.kernelNoneSpec) false w args)
      (Rows.kernelNoneSpec.post enc Tryz.prog Tryz.f3 false true false false) := by
  refine law_wrap (C := Tryz.checked) (X := fun w _ => laidMetH Tryz.prog laidList w) (fun _ _ _ hh h => h.of_heap hh) own started (by kernel_rfl) Tryz.func3
    (law_witness (enc := enc) (C := Tryz.checked) (os := os) (X := fun w _ => laidMetH Tryz.prog laidList w) (World.laidAll Tryz.prog os laidList) #[.agg #[.int .i64 0, .int .i64 0, .int .u32 0], .int .i64 0, .int .i64 0] 8 (World.laidAll_os _ _ _) (World.shaped_of_ZipB (by kernel_rfl) (by kernel_rfl)) (by kernel_rfl) (by kernel_rfl) (by kernel_rfl)
      (by rw [MakeChecks.laidMetH_plain _ _ _ (by kernel_rfl)]; exact laidMet_laidAll _ (by kernel_rfl) (by kernel_rfl))) ?_
  intro W base args ds gs before hval0 hW _ hL hsh
  have hval : ∀ (j : Nat) t v, Tryz.f3.params[j]? = some t → args[j]? = some v → Value.okWide Tryz.prog W .any base t v := hval0
  have hW' := hW
  obtain ⟨p, q, hA0, hV, rfl, _, _⟩ := hW'
  have hA : DataW.TrodAll enc Tryz.prog W 0 (fun _ => true) true Tryz.f3.params.toList args.toList ds p := hA0
  rw [Tryz.params3] at hA hval
  obtain ⟨v0, v1, v2, d0, d1, d2, q0, q1, q2, rfl, rfl, rfl, h0, h1, h2⟩ := trodAll_three hA
  obtain ⟨c0, c1, c2, y0, y1, y2, n0, rfl, rfl, _, k0, k1, k2⟩ := open_agg3 (hs := Tryz.underlying25) (by kernel_rfl) (by kernel_rfl) (hval 0 25 v0 rfl rfl) h0
  obtain ⟨x, hx, _, _⟩ := DataW.trod_int Tryz.underlying3 k0
  obtain ⟨y, hy, _, _⟩ := DataW.trod_int Tryz.underlying3 k1
  obtain ⟨z, hz, _, _⟩ := DataW.trod_int Tryz.underlying23 k2
  obtain rfl : c0 = .int .i64 x := by simpa using hx
  obtain rfl : c1 = .int .i64 y := by simpa using hy
  obtain rfl : c2 = .int .u32 z := by simpa using hz
  obtain ⟨a, rfl, rfl, rfl, _⟩ := open_int Tryz.underlying3 (hval 1 3 v1 rfl rfl) h1
  obtain ⟨b, rfl, rfl, rfl, _⟩ := open_int Tryz.underlying3 (hval 2 3 v2 rfl rfl) h2
  obtain ⟨body, hb⟩ := Option.isSome_iff_exists.mp (show Tryz.f3.body.isSome = true by kernel_rfl)
  obtain ⟨H', pn', hev⟩ := retB_eq (run x y z a b)
  exact law_true mix fok laidOut mapsOk slicesOk orc_sound fnAt3 hb (by rw [Tryz.params3]; exact fun t ht => of_decide_eq_true (List.all_eq_true.mp (show ([25, 3, 3].all fun t => decide (t < Tryz.prog.types.size)) = true by kernel_rfl) t ht)) rfl
    (by cases gs with
      | nil => rfl
      | cons g r => exact absurd hV (by intro h; cases h)) (show Tryz.f3.resultTypes = #[4] by kernel_rfl) Tryz.underlying4 hW (ini_ok hL hsh) (.cons (.agg (.cons (.int _ _) (.cons (.int _ _) (.cons (.int _ _) .nil)))) (.cons (.int _ _) (.cons (.int _ _) .nil))) hev

end Go.Proofs.YtobedemjmjfaoaaGreatDoor
