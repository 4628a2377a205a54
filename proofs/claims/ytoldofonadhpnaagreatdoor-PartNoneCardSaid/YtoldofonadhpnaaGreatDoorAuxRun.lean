/- PartNone: the evaluator's run at every event and every configuration. Conditions: none. -/
import Derived.Test.YtoldofonadhpnaaGreatDoorAuxLong
namespace Go.Proofs.YtoldofonadhpnaaGreatDoor
open Go Pri
theorem fnAt3 : fnAt Tryz.prog 3 = some Tryz.f3 := by kernel_rfl
theorem agg30 : aggOf Tryz.prog 30 = some true := by kernel_rfl
theorem sz30 : szOf Tryz.prog 30 = some (2 + 1) := by kernel_rfl
noncomputable def endB (s : Fs) : Bool := tmIs s 4 (.bool true) && s.df.isEmpty
theorem endB_end {s : Fs} (h : endB s = true) : endF Tryz.prog Tryz.f3 (fun v _ => v = .bool true) .ret s := by
  unfold endB at h
  simp only [Bool.and_eq_true] at h
  have h1 := tmIs_eq h.1
  refine ⟨List.isEmpty_iff.mp h.2, [.bool true], ?_, rfl⟩
  have hr : Tryz.f3.results.toList = [.tmp 4] := by kernel_rfl
  rw [hr]
  simp only [resA, h1, Option.map_some]
noncomputable def H0 : Hp := mkHp (gl ++ [.dead, .dead, .dead])
set_option maxRecDepth 1000000 in
theorem run (x y z : Int) (o1 o2 o3 : Option Addr) (n1 n2 n3 c1 c2 c3 : Nat) :
    ∃ n v h' pn', callF Tryz.prog (evO Tryz.prog orc n).1 (evO Tryz.prog orc n).2 none false 3 #[.agg #[.int .i64 x, .int .i64 y, .int .u32 z], .agg #[.slice o1 n1 c1, .slice o2 n2 c2, .slice o3 n3 c3]] H0 = some (.ret v, h', pn') ∧ H0.nx ≤ h'.nx ∧ v = .bool true := by
  have load3 : ∀ H : Hp, aload Tryz.prog (H.new (.row [.slice o1 n1 c1, .slice o2 n2 c2, .slice o3 n3 c3] 30 .exact)) 30 ⟨H.nx, 0, none⟩ = some (.agg #[.slice o1 n1 c1, .slice o2 n2 c2, .slice o3 n3 c3]) := fun H =>
    load_all agg30 sz30 (get_new_same _ _) rfl
  obtain ⟨body, hb⟩ := Option.isSome_iff_exists.mp (show Tryz.f3.body.isSome = true by kernel_rfl)
  refine xe_callF (R := fun v _ => v = .bool true) fnAt3 rfl (tm := (Tri.set (Tri.set Tri.leaf 0 (.agg #[.int .i64 x, .int .i64 y, .int .u32 z])) 1 (.agg #[.slice o1 n1 c1, .slice o2 n2 c2, .slice o3 n3 c3]))) rfl ?_
  refine xe_seq (xe_wp ?_)
  refine xw_region ?_
  refine xw_val (by simp only [aopOf, evalT, tput, tget_set, tget_leaf, Nat.reduceEqDiff, reduceIte, aBox, aNewRow, Value.cells]; rfl) ?_
  refine xw_val (by simp only [aopOf, evalT, tput, tget_set, tget_leaf, Nat.reduceEqDiff, reduceIte, aBox, aNewRow, Value.cells]; rfl) ?_
  refine xw_val (by simp only [aopOf, evalT, tput, tget_set, tget_leaf, Nat.reduceEqDiff, reduceIte, aMove]; rfl) ?_
  refine xw_nil ?_
  refine xw_next ?_
  refine xe_seq (xe_seq (xe_wp ?_))
  refine xw_region ?_
  refine xw_val (by simp only [aopOf, evalT, tput, tget_set, tget_leaf, Nat.reduceEqDiff, reduceIte, aLoad, opt1, load3]; rfl) ?_
  obtain ⟨b, hl⟩ := long_spec (H := (H0.new (.row [.int .i64 x, .int .i64 y, .int .u32 z] 25 .exact)).new (.row [.slice o1 n1 c1, .slice o2 n2 c2, .slice o3 n3 c3] 30 .exact)) o1 o2 o3 n1 n2 n3 c1 c2 c3
  refine xw_call (by simp only [aopOf, evalT, tput, tget_set, tget_leaf, Nat.reduceEqDiff, reduceIte, aCall, mapOps, aMove, load3]; rfl) hl ?_
  rintro v hq hn ⟨rfl, hh⟩
  obtain rfl := hh.symm
  refine xw_nil ?_
  refine xw_next ?_
  cases b with
  | true =>
    refine xe_evalr endB 100 (by kernel_rfl) ?_
    exact fun s' h => endB_end h
  | false =>
    refine xe_wp (xw_else (by simp [tput, tget_set]) (xw_skip ?_))
    refine xw_next ?_
    refine xe_evalr endB 5000 (by kernel_rfl) ?_
    exact fun s' h => endB_end h
end Go.Proofs.YtoldofonadhpnaaGreatDoor
