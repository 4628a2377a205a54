/- PartNone: the row's law, lifted: for every event and every configuration the call returns true. Conditions: the row's own. -/
import Derived.Test.YtoldofonadhpnaaGreatDoorAuxRun
import Derived.Lib.SmallJoins
namespace Go.Proofs.YtoldofonadhpnaaGreatDoor
open Go Go.ChangeShapes Go.WideShapes Go.RowKit Go.Joins Pri

theorem cells30 : Tryz.prog.cellTypes Tryz.prog.depth 30 = some [26, 27, 28] := by kernel_rfl
set_option maxRecDepth 100000 in
theorem conf_cells {W : World} {base : Nat} {v : Value} (h : Value.okWide Tryz.prog W .any base 30 v) :
    ∃ a b c, v = .agg #[a, b, c] ∧ Cell.okWide Tryz.prog W .any base 26 a ∧ Cell.okWide Tryz.prog W .any base 27 b ∧ Cell.okWide Tryz.prog W .any base 28 c := by
  obtain ⟨cs, rfl, hsz, hall⟩ := okWide_cells Tryz.underlying30 cells30 h
  have hsz : cs.size = 3 := hsz.trans (by kernel_rfl)
  obtain ⟨a, b, c, rfl⟩ := array3 hsz
  obtain ⟨u0, h0, k0⟩ := hall 0 a rfl
  obtain ⟨u1, h1, k1⟩ := hall 1 b rfl
  obtain ⟨u2, h2, k2⟩ := hall 2 c rfl
  obtain rfl : 26 = u0 := Option.some.inj h0
  obtain rfl : 27 = u1 := Option.some.inj h1
  obtain rfl : 28 = u2 := Option.some.inj h2
  exact ⟨a, b, c, rfl, k0, k1, k2⟩

set_option maxRecDepth 100000 in
theorem lifted (os : Os) (started : os.Started) (H : Type) (enc : TypeId × Value → H) :
    ReturnsInHanded {} Tryz.checked os 3 .any (fun w args => (Rows.partNoneSpec.pre enc Tryz.prog Tryz.f3 [] false w args ∧ laidMetH Tryz.prog laidList w) ∧ sizedMet enc Tryz.prog Tryz.f3 (OpenSpec.ofChange Rows.partNoneSpec) false w args)
      (Rows.partNoneSpec.post enc Tryz.prog Tryz.f3 false true false false) := by
  refine law_wrap (C := Tryz.checked) (X := fun w _ => laidMetH Tryz.prog laidList w) (fun _ _ _ hh h => h.of_heap hh) own started (by kernel_rfl) Tryz.func3
    (law_witness (enc := enc) (C := Tryz.checked) (os := os) (X := fun w _ => laidMetH Tryz.prog laidList w) (World.laidAll Tryz.prog os laidList) #[.agg #[.int .i64 0, .int .i64 0, .int .u32 0], .agg #[.slice none 0 0, .slice none 0 0, .slice none 0 0]] 8 (World.laidAll_os _ _ _) (World.shaped_of_ZipB (by kernel_rfl) (by kernel_rfl)) (by kernel_rfl) (by kernel_rfl) (by kernel_rfl)
      (by rw [MakeChecks.laidMetH_plain _ _ _ (by kernel_rfl)]; exact laidMet_laidAll _ (by kernel_rfl) (by kernel_rfl))) ?_
  intro W base args ds gs before hval0 hW _ hL hsh
  have hval : ∀ (j : Nat) t v, Tryz.f3.params[j]? = some t → args[j]? = some v → Value.okWide Tryz.prog W .any base t v := hval0
  have hW' := hW
  obtain ⟨p, q, hA0, hV, rfl, _, _⟩ := hW'
  have hA : DataW.TrodAll enc Tryz.prog W 0 (fun _ => true) true Tryz.f3.params.toList args.toList ds p := hA0
  rw [Tryz.params3] at hA hval
  obtain ⟨v0, v1, d0, d1, q0, q1, rfl, rfl, rfl, h0, h1⟩ := trodAll_two hA
  obtain ⟨c0, c1, c2, y0, y1, y2, n0, rfl, rfl, _, k0, k1, k2⟩ := open_agg3 (hs := Tryz.underlying25) (by kernel_rfl) (by kernel_rfl) (hval 0 25 v0 rfl rfl) h0
  obtain ⟨x, hx, _, _⟩ := DataW.trod_int Tryz.underlying3 k0
  obtain ⟨y, hy, _, _⟩ := DataW.trod_int Tryz.underlying3 k1
  obtain ⟨z, hz, _, _⟩ := DataW.trod_int Tryz.underlying23 k2
  obtain rfl : c0 = .int .i64 x := by simpa using hx
  obtain rfl : c1 = .int .i64 y := by simpa using hy
  obtain rfl : c2 = .int .u32 z := by simpa using hz
  obtain ⟨s1, s2, s3, rfl, e1, e2, e3⟩ := conf_cells (hval 1 30 v1 rfl rfl)
  have hI0 := ini_ok hL hsh
  have hz0 : ∃ ob, W.heap[0]? = some ob := by
    obtain ⟨ob, h, _⟩ := hI0.obj _ (show (glI gl)[0] ∈ glI gl from List.getElem_mem _)
    exact ⟨ob, h⟩
  obtain ⟨p1, r1, b1, w1⟩ := slice_arg Tryz.underlying26 hz0 e1
  obtain ⟨p2, r2, b2, w2⟩ := slice_arg Tryz.underlying27 hz0 e2
  obtain ⟨p3, r3, b3, w3⟩ := slice_arg Tryz.underlying28 hz0 e3
  obtain ⟨o1, n1, c1, w1⟩ := w1 1
  obtain ⟨o2, n2, c2, w2⟩ := w2 2
  obtain ⟨o3, n3, c3, w3⟩ := w3 3
  have hI := hI0.more [p1, p2, p3] (by
    intro p hp
    have hp : p = p1 ∨ p = p2 ∨ p = p3 := by simpa using hp
    rcases hp with rfl | rfl | rfl
    · exact ⟨r1, b1⟩
    · exact ⟨r2, b2⟩
    · exact ⟨r3, b3⟩)
  obtain ⟨body, hb⟩ := Option.isSome_iff_exists.mp (show Tryz.f3.body.isSome = true by kernel_rfl)
  obtain ⟨n, v, H', pn', hev, _, rfl⟩ := run x y z o1 o2 o3 n1 n2 n3 c1 c2 c3
  exact law_true mix fok laidOut mapsOk slicesOk orc_sound fnAt3 hb (by rw [Tryz.params3]; exact fun t ht => of_decide_eq_true (List.all_eq_true.mp (show ([25, 30].all fun t => decide (t < Tryz.prog.types.size)) = true by kernel_rfl) t ht)) rfl
    (by cases gs with
      | nil => rfl
      | cons g r => exact absurd hV (by intro h; cases h)) (show Tryz.f3.resultTypes = #[4] by kernel_rfl) Tryz.underlying4 hW hI (.cons (.agg (.cons (.int _ _) (.cons (.int _ _) (.cons (.int _ _) .nil)))) (.cons (.agg (.cons (w1 _ rfl) (.cons (w2 _ rfl) (.cons (w3 _ rfl) .nil)))) .nil)) hev

end Go.Proofs.YtoldofonadhpnaaGreatDoor
