/- The law's 'long', and the law's walk: what it does at every event and every configuration. Conditions: none. -/
import Derived.Test.YtoldofonadhpnaaGreatDoorAwake
namespace Go.Proofs.YtoldofonadhpnaaGreatDoor
open Go Pri
theorem fnAt4 : fnAt Tryz.prog 4 = some Tryz.f4 := by kernel_rfl
theorem field30_0 (l : Nat) : afieldAddr Tryz.prog 30 (.pointer (some ⟨l, 0, none⟩)) 0 = some (.pointer (some ⟨l, 0, none⟩)) := by kernel_rfl
theorem field30_1 (l : Nat) : afieldAddr Tryz.prog 30 (.pointer (some ⟨l, 0, none⟩)) 1 = some (.pointer (some ⟨l, 1, none⟩)) := by kernel_rfl
theorem field30_2 (l : Nat) : afieldAddr Tryz.prog 30 (.pointer (some ⟨l, 0, none⟩)) 2 = some (.pointer (some ⟨l, 2, none⟩)) := by kernel_rfl
theorem agg26 : aggOf Tryz.prog 26 = some false := by kernel_rfl
theorem agg27 : aggOf Tryz.prog 27 = some false := by kernel_rfl
theorem agg28 : aggOf Tryz.prog 28 = some false := by kernel_rfl
theorem sz26 : szOf Tryz.prog 26 = some 1 := by kernel_rfl
theorem sz27 : szOf Tryz.prog 27 = some 1 := by kernel_rfl
theorem sz28 : szOf Tryz.prog 28 = some 1 := by kernel_rfl
theorem long_spec {H : Hp} (o1 o2 o3 : Option Addr) (n1 n2 n3 c1 c2 c3 : Nat) :
    ∃ b, ∃ v h' pn', (Cl Tryz.prog orc none false (.fn (.func 4) #[]) #[.agg #[.slice o1 n1 c1, .slice o2 n2 c2, .slice o3 n3 c3], .slice none 0 0] H (.ret v) h' pn' ∧ H.nx ≤ h'.nx) ∧
      (v = .bool b ∧ h' = H.new (.row [.slice o1 n1 c1, .slice o2 n2 c2, .slice o3 n3 c3] 30 .exact)) := by
  have l1 : aload Tryz.prog (H.new (.row [.slice o1 n1 c1, .slice o2 n2 c2, .slice o3 n3 c3] 30 .exact)) 26 ⟨H.nx, 0, none⟩ = some (.slice o1 n1 c1) := load_cell agg26 sz26 (get_new_same _ _) rfl
  have l2 : aload Tryz.prog (H.new (.row [.slice o1 n1 c1, .slice o2 n2 c2, .slice o3 n3 c3] 30 .exact)) 27 ⟨H.nx, 1, none⟩ = some (.slice o2 n2 c2) := load_cell agg27 sz27 (get_new_same _ _) rfl
  have l3 : aload Tryz.prog (H.new (.row [.slice o1 n1 c1, .slice o2 n2 c2, .slice o3 n3 c3] 30 .exact)) 28 ⟨H.nx, 2, none⟩ = some (.slice o3 n3 c3) := load_cell agg28 sz28 (get_new_same _ _) rfl
  cases e1 : decide ((100 : Int) < Int.ofNat n1) with
  | true =>
    refine ⟨true, ?_⟩
    refine wpF_Cl (by kernel_rfl) fnAt4 ?_
    refine xw_fun rfl (tm := (Tri.set (Tri.set Tri.leaf 0 (.agg #[.slice o1 n1 c1, .slice o2 n2 c2, .slice o3 n3 c3])) 1 (.slice none 0 0))) rfl ?_
    -- region 0
    repeat with_reducible refine xw_seq ?_
    refine xw_region ?_
    refine xw_val (by simp only [aopOf, evalT, tget_set, tget_leaf, Nat.reduceEqDiff, reduceIte, aBox, aNewRow, Value.cells]; rfl) ?_  -- 0: t2 := box priory/api.Config#30 t0
    refine xw_val (by simp only [aopOf, evalT, aMove]; rfl) ?_  -- 1: t4 := assign false
    refine xw_nil ?_
    repeat first | with_reducible refine xw_next ?_ | with_reducible refine xw_pass ?_ | with_reducible refine xw_passr ?_ | with_reducible refine xw_bnorm ?_ | with_reducible refine xw_bret ?_ | with_reducible refine xw_hit ?_ | with_reducible refine xw_past rfl ?_
    -- region 1
    repeat with_reducible refine xw_seq ?_
    refine xw_region ?_
    refine xw_val (by simp only [aopOf, evalT, tput, tget_set, tget_leaf, Nat.reduceEqDiff, reduceIte, aFieldAddr, opt1, field30_0]; rfl) ?_  -- 0: t6 := fieldAddr priory/api.Config#30 t2 .0
    refine xw_val (by simp only [aopOf, evalT, tput, tget_set, tget_leaf, Nat.reduceEqDiff, reduceIte, aLoad, opt1, l1]; rfl) ?_  -- 1: t7 := load []59#26 [t6]
    refine xw_val (by simp only [aopOf, evalT, tput, tget_set, tget_leaf, Nat.reduceEqDiff, reduceIte, aCall, mapOps, abuiltin, bLen]; rfl) ?_  -- 2: t8 := call builtin len (t7) types [[]59#26]
    refine xw_val (by simp only [aopOf, evalT, tput, tget_set, tget_leaf, Nat.reduceEqDiff, reduceIte, aBin, opt1, e1, bi_gtr]; rfl) ?_  -- 3: t9 := binOp gtr Go.IntKind.i64#3 t8 100:i64
    refine xw_val (by simp only [aopOf, evalT, tput, tget_set, tget_leaf, Nat.reduceEqDiff, reduceIte, aMove]; rfl) ?_  -- 4: t10 := move t9
    refine xg_off (d0 := 10) (t' := true) rfl (by simp only [tput, tget_set, tget_leaf, Nat.reduceEqDiff, reduceIte] <;> rfl) rfl ?_  -- 5: fieldAddr priory/api.Config#30 t2 .1 IF 4=false
    refine xg_off (d0 := 10) (t' := true) rfl (by simp only [tput, tget_set, tget_leaf, Nat.reduceEqDiff, reduceIte] <;> rfl) rfl ?_  -- 6: load []113#27 [t11] IF 4=false
    refine xg_off (d0 := 10) (t' := true) rfl (by simp only [tput, tget_set, tget_leaf, Nat.reduceEqDiff, reduceIte] <;> rfl) rfl ?_  -- 7: call builtin len (t12) types [[]113#27] IF 4=false
    refine xg_off (d0 := 10) (t' := true) rfl (by simp only [tput, tget_set, tget_leaf, Nat.reduceEqDiff, reduceIte] <;> rfl) rfl ?_  -- 8: binOp gtr Go.IntKind.i64#3 t13 100:i64 IF 4=false
    refine xw_val (by simp only [aopOf, evalT, tput, tget_set, tget_leaf, Nat.reduceEqDiff, reduceIte, aPick, aPick]; rfl) ?_  -- 9: t15 := pick t10 ? true : t14
    refine xw_val (by simp only [aopOf, evalT, tput, tget_set, tget_leaf, Nat.reduceEqDiff, reduceIte, aMove]; rfl) ?_  -- 10: t16 := move t15
    refine xg_off (d0 := 16) (t' := true) rfl (by simp only [tput, tget_set, tget_leaf, Nat.reduceEqDiff, reduceIte] <;> rfl) rfl ?_  -- 11: fieldAddr priory/api.Config#30 t2 .2 IF 10=false
    refine xg_off (d0 := 16) (t' := true) rfl (by simp only [tput, tget_set, tget_leaf, Nat.reduceEqDiff, reduceIte] <;> rfl) rfl ?_  -- 12: load []104#28 [t17] IF 10=false
    refine xg_off (d0 := 16) (t' := true) rfl (by simp only [tput, tget_set, tget_leaf, Nat.reduceEqDiff, reduceIte] <;> rfl) rfl ?_  -- 13: call builtin len (t18) types [[]104#28] IF 10=false
    refine xg_off (d0 := 16) (t' := true) rfl (by simp only [tput, tget_set, tget_leaf, Nat.reduceEqDiff, reduceIte] <;> rfl) rfl ?_  -- 14: binOp gtr Go.IntKind.i64#3 t19 100:i64 IF 10=false
    refine xw_val (by simp only [aopOf, evalT, tput, tget_set, tget_leaf, Nat.reduceEqDiff, reduceIte, aPick, aPick]; rfl) ?_  -- 15: t21 := pick t16 ? true : t20
    refine xw_val (by simp only [aopOf, evalT, tput, tget_set, tget_leaf, Nat.reduceEqDiff, reduceIte, aMove]; rfl) ?_  -- 16: t22 := move t21
    refine xg_off (d0 := 22) (t' := true) rfl (by simp only [tput, tget_set, tget_leaf, Nat.reduceEqDiff, reduceIte] <;> rfl) rfl ?_  -- 17: move t1 IF 16=false
    refine xg_off (d0 := 22) (t' := true) rfl (by simp only [tput, tget_set, tget_leaf, Nat.reduceEqDiff, reduceIte] <;> rfl) rfl ?_  -- 18: call builtin len (t23) types [[]64#61] IF 16=false
    refine xg_off (d0 := 22) (t' := true) rfl (by simp only [tput, tget_set, tget_leaf, Nat.reduceEqDiff, reduceIte] <;> rfl) rfl ?_  -- 19: binOp gtr Go.IntKind.i64#3 t24 80:i64 IF 16=false
    refine xw_val (by simp only [aopOf, evalT, tput, tget_set, tget_leaf, Nat.reduceEqDiff, reduceIte, aPick, aPick]; rfl) ?_  -- 20: t26 := pick t22 ? true : t25
    refine xw_nil ?_
    repeat first | with_reducible refine xw_next ?_ | with_reducible refine xw_pass ?_ | with_reducible refine xw_passr ?_ | with_reducible refine xw_bnorm ?_ | with_reducible refine xw_bret ?_ | with_reducible refine xw_hit ?_ | with_reducible refine xw_past rfl ?_
    repeat with_reducible refine xw_seq ?_
    refine xw_then (by simp [tput, tget_set]) ?_  -- IF t26
    -- region 2
    repeat with_reducible refine xw_seq ?_
    refine xw_region ?_
    refine xw_val (by simp only [aopOf, evalT, aMove]; rfl) ?_  -- 0: t4 := assign true
    refine xw_nil ?_
    repeat first | with_reducible refine xw_next ?_ | with_reducible refine xw_pass ?_ | with_reducible refine xw_passr ?_ | with_reducible refine xw_bnorm ?_ | with_reducible refine xw_bret ?_ | with_reducible refine xw_hit ?_ | with_reducible refine xw_past rfl ?_
    repeat with_reducible refine xw_seq ?_
    refine xw_ret ?_
    repeat first | with_reducible refine xw_next ?_ | with_reducible refine xw_pass ?_ | with_reducible refine xw_passr ?_ | with_reducible refine xw_bnorm ?_ | with_reducible refine xw_bret ?_ | with_reducible refine xw_hit ?_ | with_reducible refine xw_past rfl ?_
    refine xw_end (by simp only [tput]; rfl) ?_
    exact ⟨rfl, rfl⟩
  | false =>
    cases e2 : decide ((100 : Int) < Int.ofNat n2) with
    | true =>
      refine ⟨true, ?_⟩
      refine wpF_Cl (by kernel_rfl) fnAt4 ?_
      refine xw_fun rfl (tm := (Tri.set (Tri.set Tri.leaf 0 (.agg #[.slice o1 n1 c1, .slice o2 n2 c2, .slice o3 n3 c3])) 1 (.slice none 0 0))) rfl ?_
      -- region 0
      repeat with_reducible refine xw_seq ?_
      refine xw_region ?_
      refine xw_val (by simp only [aopOf, evalT, tget_set, tget_leaf, Nat.reduceEqDiff, reduceIte, aBox, aNewRow, Value.cells]; rfl) ?_  -- 0: t2 := box priory/api.Config#30 t0
      refine xw_val (by simp only [aopOf, evalT, aMove]; rfl) ?_  -- 1: t4 := assign false
      refine xw_nil ?_
      repeat first | with_reducible refine xw_next ?_ | with_reducible refine xw_pass ?_ | with_reducible refine xw_passr ?_ | with_reducible refine xw_bnorm ?_ | with_reducible refine xw_bret ?_ | with_reducible refine xw_hit ?_ | with_reducible refine xw_past rfl ?_
      -- region 1
      repeat with_reducible refine xw_seq ?_
      refine xw_region ?_
      refine xw_val (by simp only [aopOf, evalT, tput, tget_set, tget_leaf, Nat.reduceEqDiff, reduceIte, aFieldAddr, opt1, field30_0]; rfl) ?_  -- 0: t6 := fieldAddr priory/api.Config#30 t2 .0
      refine xw_val (by simp only [aopOf, evalT, tput, tget_set, tget_leaf, Nat.reduceEqDiff, reduceIte, aLoad, opt1, l1]; rfl) ?_  -- 1: t7 := load []59#26 [t6]
      refine xw_val (by simp only [aopOf, evalT, tput, tget_set, tget_leaf, Nat.reduceEqDiff, reduceIte, aCall, mapOps, abuiltin, bLen]; rfl) ?_  -- 2: t8 := call builtin len (t7) types [[]59#26]
      refine xw_val (by simp only [aopOf, evalT, tput, tget_set, tget_leaf, Nat.reduceEqDiff, reduceIte, aBin, opt1, e1, bi_gtr]; rfl) ?_  -- 3: t9 := binOp gtr Go.IntKind.i64#3 t8 100:i64
      refine xw_val (by simp only [aopOf, evalT, tput, tget_set, tget_leaf, Nat.reduceEqDiff, reduceIte, aMove]; rfl) ?_  -- 4: t10 := move t9
      refine xg_val (d0 := 10) rfl (by simp only [tput, tget_set, tget_leaf, Nat.reduceEqDiff, reduceIte] <;> rfl) (by simp only [aopOf, evalT, tput, tget_set, tget_leaf, Nat.reduceEqDiff, reduceIte, aFieldAddr, opt1, field30_1]; rfl) ?_  -- 5: fieldAddr priory/api.Config#30 t2 .1 IF 4=false
      refine xg_val (d0 := 10) rfl (by simp only [tput, tget_set, tget_leaf, Nat.reduceEqDiff, reduceIte] <;> rfl) (by simp only [aopOf, evalT, tput, tget_set, tget_leaf, Nat.reduceEqDiff, reduceIte, aLoad, opt1, l2]; rfl) ?_  -- 6: load []113#27 [t11] IF 4=false
      refine xg_val (d0 := 10) rfl (by simp only [tput, tget_set, tget_leaf, Nat.reduceEqDiff, reduceIte] <;> rfl) (by simp only [aopOf, evalT, tput, tget_set, tget_leaf, Nat.reduceEqDiff, reduceIte, aCall, mapOps, abuiltin, bLen]; rfl) ?_  -- 7: call builtin len (t12) types [[]113#27] IF 4=false
      refine xg_val (d0 := 10) rfl (by simp only [tput, tget_set, tget_leaf, Nat.reduceEqDiff, reduceIte] <;> rfl) (by simp only [aopOf, evalT, tput, tget_set, tget_leaf, Nat.reduceEqDiff, reduceIte, aBin, opt1, e2, bi_gtr]; rfl) ?_  -- 8: binOp gtr Go.IntKind.i64#3 t13 100:i64 IF 4=false
      refine xw_val (by simp only [aopOf, evalT, tput, tget_set, tget_leaf, Nat.reduceEqDiff, reduceIte, aPick, aPick]; rfl) ?_  -- 9: t15 := pick t10 ? true : t14
      refine xw_val (by simp only [aopOf, evalT, tput, tget_set, tget_leaf, Nat.reduceEqDiff, reduceIte, aMove]; rfl) ?_  -- 10: t16 := move t15
      refine xg_off (d0 := 16) (t' := true) rfl (by simp only [tput, tget_set, tget_leaf, Nat.reduceEqDiff, reduceIte] <;> rfl) rfl ?_  -- 11: fieldAddr priory/api.Config#30 t2 .2 IF 10=false
      refine xg_off (d0 := 16) (t' := true) rfl (by simp only [tput, tget_set, tget_leaf, Nat.reduceEqDiff, reduceIte] <;> rfl) rfl ?_  -- 12: load []104#28 [t17] IF 10=false
      refine xg_off (d0 := 16) (t' := true) rfl (by simp only [tput, tget_set, tget_leaf, Nat.reduceEqDiff, reduceIte] <;> rfl) rfl ?_  -- 13: call builtin len (t18) types [[]104#28] IF 10=false
      refine xg_off (d0 := 16) (t' := true) rfl (by simp only [tput, tget_set, tget_leaf, Nat.reduceEqDiff, reduceIte] <;> rfl) rfl ?_  -- 14: binOp gtr Go.IntKind.i64#3 t19 100:i64 IF 10=false
      refine xw_val (by simp only [aopOf, evalT, tput, tget_set, tget_leaf, Nat.reduceEqDiff, reduceIte, aPick, aPick]; rfl) ?_  -- 15: t21 := pick t16 ? true : t20
      refine xw_val (by simp only [aopOf, evalT, tput, tget_set, tget_leaf, Nat.reduceEqDiff, reduceIte, aMove]; rfl) ?_  -- 16: t22 := move t21
      refine xg_off (d0 := 22) (t' := true) rfl (by simp only [tput, tget_set, tget_leaf, Nat.reduceEqDiff, reduceIte] <;> rfl) rfl ?_  -- 17: move t1 IF 16=false
      refine xg_off (d0 := 22) (t' := true) rfl (by simp only [tput, tget_set, tget_leaf, Nat.reduceEqDiff, reduceIte] <;> rfl) rfl ?_  -- 18: call builtin len (t23) types [[]64#61] IF 16=false
      refine xg_off (d0 := 22) (t' := true) rfl (by simp only [tput, tget_set, tget_leaf, Nat.reduceEqDiff, reduceIte] <;> rfl) rfl ?_  -- 19: binOp gtr Go.IntKind.i64#3 t24 80:i64 IF 16=false
      refine xw_val (by simp only [aopOf, evalT, tput, tget_set, tget_leaf, Nat.reduceEqDiff, reduceIte, aPick, aPick]; rfl) ?_  -- 20: t26 := pick t22 ? true : t25
      refine xw_nil ?_
      repeat first | with_reducible refine xw_next ?_ | with_reducible refine xw_pass ?_ | with_reducible refine xw_passr ?_ | with_reducible refine xw_bnorm ?_ | with_reducible refine xw_bret ?_ | with_reducible refine xw_hit ?_ | with_reducible refine xw_past rfl ?_
      repeat with_reducible refine xw_seq ?_
      refine xw_then (by simp [tput, tget_set]) ?_  -- IF t26
      -- region 2
      repeat with_reducible refine xw_seq ?_
      refine xw_region ?_
      refine xw_val (by simp only [aopOf, evalT, aMove]; rfl) ?_  -- 0: t4 := assign true
      refine xw_nil ?_
      repeat first | with_reducible refine xw_next ?_ | with_reducible refine xw_pass ?_ | with_reducible refine xw_passr ?_ | with_reducible refine xw_bnorm ?_ | with_reducible refine xw_bret ?_ | with_reducible refine xw_hit ?_ | with_reducible refine xw_past rfl ?_
      repeat with_reducible refine xw_seq ?_
      refine xw_ret ?_
      repeat first | with_reducible refine xw_next ?_ | with_reducible refine xw_pass ?_ | with_reducible refine xw_passr ?_ | with_reducible refine xw_bnorm ?_ | with_reducible refine xw_bret ?_ | with_reducible refine xw_hit ?_ | with_reducible refine xw_past rfl ?_
      refine xw_end (by simp only [tput]; rfl) ?_
      exact ⟨rfl, rfl⟩
    | false =>
      cases e3 : decide ((100 : Int) < Int.ofNat n3) with
      | true =>
        refine ⟨true, ?_⟩
        refine wpF_Cl (by kernel_rfl) fnAt4 ?_
        refine xw_fun rfl (tm := (Tri.set (Tri.set Tri.leaf 0 (.agg #[.slice o1 n1 c1, .slice o2 n2 c2, .slice o3 n3 c3])) 1 (.slice none 0 0))) rfl ?_
        -- region 0
        repeat with_reducible refine xw_seq ?_
        refine xw_region ?_
        refine xw_val (by simp only [aopOf, evalT, tget_set, tget_leaf, Nat.reduceEqDiff, reduceIte, aBox, aNewRow, Value.cells]; rfl) ?_  -- 0: t2 := box priory/api.Config#30 t0
        refine xw_val (by simp only [aopOf, evalT, aMove]; rfl) ?_  -- 1: t4 := assign false
        refine xw_nil ?_
        repeat first | with_reducible refine xw_next ?_ | with_reducible refine xw_pass ?_ | with_reducible refine xw_passr ?_ | with_reducible refine xw_bnorm ?_ | with_reducible refine xw_bret ?_ | with_reducible refine xw_hit ?_ | with_reducible refine xw_past rfl ?_
        -- region 1
        repeat with_reducible refine xw_seq ?_
        refine xw_region ?_
        refine xw_val (by simp only [aopOf, evalT, tput, tget_set, tget_leaf, Nat.reduceEqDiff, reduceIte, aFieldAddr, opt1, field30_0]; rfl) ?_  -- 0: t6 := fieldAddr priory/api.Config#30 t2 .0
        refine xw_val (by simp only [aopOf, evalT, tput, tget_set, tget_leaf, Nat.reduceEqDiff, reduceIte, aLoad, opt1, l1]; rfl) ?_  -- 1: t7 := load []59#26 [t6]
        refine xw_val (by simp only [aopOf, evalT, tput, tget_set, tget_leaf, Nat.reduceEqDiff, reduceIte, aCall, mapOps, abuiltin, bLen]; rfl) ?_  -- 2: t8 := call builtin len (t7) types [[]59#26]
        refine xw_val (by simp only [aopOf, evalT, tput, tget_set, tget_leaf, Nat.reduceEqDiff, reduceIte, aBin, opt1, e1, bi_gtr]; rfl) ?_  -- 3: t9 := binOp gtr Go.IntKind.i64#3 t8 100:i64
        refine xw_val (by simp only [aopOf, evalT, tput, tget_set, tget_leaf, Nat.reduceEqDiff, reduceIte, aMove]; rfl) ?_  -- 4: t10 := move t9
        refine xg_val (d0 := 10) rfl (by simp only [tput, tget_set, tget_leaf, Nat.reduceEqDiff, reduceIte] <;> rfl) (by simp only [aopOf, evalT, tput, tget_set, tget_leaf, Nat.reduceEqDiff, reduceIte, aFieldAddr, opt1, field30_1]; rfl) ?_  -- 5: fieldAddr priory/api.Config#30 t2 .1 IF 4=false
        refine xg_val (d0 := 10) rfl (by simp only [tput, tget_set, tget_leaf, Nat.reduceEqDiff, reduceIte] <;> rfl) (by simp only [aopOf, evalT, tput, tget_set, tget_leaf, Nat.reduceEqDiff, reduceIte, aLoad, opt1, l2]; rfl) ?_  -- 6: load []113#27 [t11] IF 4=false
        refine xg_val (d0 := 10) rfl (by simp only [tput, tget_set, tget_leaf, Nat.reduceEqDiff, reduceIte] <;> rfl) (by simp only [aopOf, evalT, tput, tget_set, tget_leaf, Nat.reduceEqDiff, reduceIte, aCall, mapOps, abuiltin, bLen]; rfl) ?_  -- 7: call builtin len (t12) types [[]113#27] IF 4=false
        refine xg_val (d0 := 10) rfl (by simp only [tput, tget_set, tget_leaf, Nat.reduceEqDiff, reduceIte] <;> rfl) (by simp only [aopOf, evalT, tput, tget_set, tget_leaf, Nat.reduceEqDiff, reduceIte, aBin, opt1, e2, bi_gtr]; rfl) ?_  -- 8: binOp gtr Go.IntKind.i64#3 t13 100:i64 IF 4=false
        refine xw_val (by simp only [aopOf, evalT, tput, tget_set, tget_leaf, Nat.reduceEqDiff, reduceIte, aPick, aPick]; rfl) ?_  -- 9: t15 := pick t10 ? true : t14
        refine xw_val (by simp only [aopOf, evalT, tput, tget_set, tget_leaf, Nat.reduceEqDiff, reduceIte, aMove]; rfl) ?_  -- 10: t16 := move t15
        refine xg_val (d0 := 16) rfl (by simp only [tput, tget_set, tget_leaf, Nat.reduceEqDiff, reduceIte] <;> rfl) (by simp only [aopOf, evalT, tput, tget_set, tget_leaf, Nat.reduceEqDiff, reduceIte, aFieldAddr, opt1, field30_2]; rfl) ?_  -- 11: fieldAddr priory/api.Config#30 t2 .2 IF 10=false
        refine xg_val (d0 := 16) rfl (by simp only [tput, tget_set, tget_leaf, Nat.reduceEqDiff, reduceIte] <;> rfl) (by simp only [aopOf, evalT, tput, tget_set, tget_leaf, Nat.reduceEqDiff, reduceIte, aLoad, opt1, l3]; rfl) ?_  -- 12: load []104#28 [t17] IF 10=false
        refine xg_val (d0 := 16) rfl (by simp only [tput, tget_set, tget_leaf, Nat.reduceEqDiff, reduceIte] <;> rfl) (by simp only [aopOf, evalT, tput, tget_set, tget_leaf, Nat.reduceEqDiff, reduceIte, aCall, mapOps, abuiltin, bLen]; rfl) ?_  -- 13: call builtin len (t18) types [[]104#28] IF 10=false
        refine xg_val (d0 := 16) rfl (by simp only [tput, tget_set, tget_leaf, Nat.reduceEqDiff, reduceIte] <;> rfl) (by simp only [aopOf, evalT, tput, tget_set, tget_leaf, Nat.reduceEqDiff, reduceIte, aBin, opt1, e3, bi_gtr]; rfl) ?_  -- 14: binOp gtr Go.IntKind.i64#3 t19 100:i64 IF 10=false
        refine xw_val (by simp only [aopOf, evalT, tput, tget_set, tget_leaf, Nat.reduceEqDiff, reduceIte, aPick, aPick]; rfl) ?_  -- 15: t21 := pick t16 ? true : t20
        refine xw_val (by simp only [aopOf, evalT, tput, tget_set, tget_leaf, Nat.reduceEqDiff, reduceIte, aMove]; rfl) ?_  -- 16: t22 := move t21
        refine xg_off (d0 := 22) (t' := true) rfl (by simp only [tput, tget_set, tget_leaf, Nat.reduceEqDiff, reduceIte] <;> rfl) rfl ?_  -- 17: move t1 IF 16=false
        refine xg_off (d0 := 22) (t' := true) rfl (by simp only [tput, tget_set, tget_leaf, Nat.reduceEqDiff, reduceIte] <;> rfl) rfl ?_  -- 18: call builtin len (t23) types [[]64#61] IF 16=false
        refine xg_off (d0 := 22) (t' := true) rfl (by simp only [tput, tget_set, tget_leaf, Nat.reduceEqDiff, reduceIte] <;> rfl) rfl ?_  -- 19: binOp gtr Go.IntKind.i64#3 t24 80:i64 IF 16=false
        refine xw_val (by simp only [aopOf, evalT, tput, tget_set, tget_leaf, Nat.reduceEqDiff, reduceIte, aPick, aPick]; rfl) ?_  -- 20: t26 := pick t22 ? true : t25
        refine xw_nil ?_
        repeat first | with_reducible refine xw_next ?_ | with_reducible refine xw_pass ?_ | with_reducible refine xw_passr ?_ | with_reducible refine xw_bnorm ?_ | with_reducible refine xw_bret ?_ | with_reducible refine xw_hit ?_ | with_reducible refine xw_past rfl ?_
        repeat with_reducible refine xw_seq ?_
        refine xw_then (by simp [tput, tget_set]) ?_  -- IF t26
        -- region 2
        repeat with_reducible refine xw_seq ?_
        refine xw_region ?_
        refine xw_val (by simp only [aopOf, evalT, aMove]; rfl) ?_  -- 0: t4 := assign true
        refine xw_nil ?_
        repeat first | with_reducible refine xw_next ?_ | with_reducible refine xw_pass ?_ | with_reducible refine xw_passr ?_ | with_reducible refine xw_bnorm ?_ | with_reducible refine xw_bret ?_ | with_reducible refine xw_hit ?_ | with_reducible refine xw_past rfl ?_
        repeat with_reducible refine xw_seq ?_
        refine xw_ret ?_
        repeat first | with_reducible refine xw_next ?_ | with_reducible refine xw_pass ?_ | with_reducible refine xw_passr ?_ | with_reducible refine xw_bnorm ?_ | with_reducible refine xw_bret ?_ | with_reducible refine xw_hit ?_ | with_reducible refine xw_past rfl ?_
        refine xw_end (by simp only [tput]; rfl) ?_
        exact ⟨rfl, rfl⟩
      | false =>
        refine ⟨false, ?_⟩
        refine wpF_Cl (by kernel_rfl) fnAt4 ?_
        refine xw_fun rfl (tm := (Tri.set (Tri.set Tri.leaf 0 (.agg #[.slice o1 n1 c1, .slice o2 n2 c2, .slice o3 n3 c3])) 1 (.slice none 0 0))) rfl ?_
        -- region 0
        repeat with_reducible refine xw_seq ?_
        refine xw_region ?_
        refine xw_val (by simp only [aopOf, evalT, tget_set, tget_leaf, Nat.reduceEqDiff, reduceIte, aBox, aNewRow, Value.cells]; rfl) ?_  -- 0: t2 := box priory/api.Config#30 t0
        refine xw_val (by simp only [aopOf, evalT, aMove]; rfl) ?_  -- 1: t4 := assign false
        refine xw_nil ?_
        repeat first | with_reducible refine xw_next ?_ | with_reducible refine xw_pass ?_ | with_reducible refine xw_passr ?_ | with_reducible refine xw_bnorm ?_ | with_reducible refine xw_bret ?_ | with_reducible refine xw_hit ?_ | with_reducible refine xw_past rfl ?_
        -- region 1
        repeat with_reducible refine xw_seq ?_
        refine xw_region ?_
        refine xw_val (by simp only [aopOf, evalT, tput, tget_set, tget_leaf, Nat.reduceEqDiff, reduceIte, aFieldAddr, opt1, field30_0]; rfl) ?_  -- 0: t6 := fieldAddr priory/api.Config#30 t2 .0
        refine xw_val (by simp only [aopOf, evalT, tput, tget_set, tget_leaf, Nat.reduceEqDiff, reduceIte, aLoad, opt1, l1]; rfl) ?_  -- 1: t7 := load []59#26 [t6]
        refine xw_val (by simp only [aopOf, evalT, tput, tget_set, tget_leaf, Nat.reduceEqDiff, reduceIte, aCall, mapOps, abuiltin, bLen]; rfl) ?_  -- 2: t8 := call builtin len (t7) types [[]59#26]
        refine xw_val (by simp only [aopOf, evalT, tput, tget_set, tget_leaf, Nat.reduceEqDiff, reduceIte, aBin, opt1, e1, bi_gtr]; rfl) ?_  -- 3: t9 := binOp gtr Go.IntKind.i64#3 t8 100:i64
        refine xw_val (by simp only [aopOf, evalT, tput, tget_set, tget_leaf, Nat.reduceEqDiff, reduceIte, aMove]; rfl) ?_  -- 4: t10 := move t9
        refine xg_val (d0 := 10) rfl (by simp only [tput, tget_set, tget_leaf, Nat.reduceEqDiff, reduceIte] <;> rfl) (by simp only [aopOf, evalT, tput, tget_set, tget_leaf, Nat.reduceEqDiff, reduceIte, aFieldAddr, opt1, field30_1]; rfl) ?_  -- 5: fieldAddr priory/api.Config#30 t2 .1 IF 4=false
        refine xg_val (d0 := 10) rfl (by simp only [tput, tget_set, tget_leaf, Nat.reduceEqDiff, reduceIte] <;> rfl) (by simp only [aopOf, evalT, tput, tget_set, tget_leaf, Nat.reduceEqDiff, reduceIte, aLoad, opt1, l2]; rfl) ?_  -- 6: load []113#27 [t11] IF 4=false
        refine xg_val (d0 := 10) rfl (by simp only [tput, tget_set, tget_leaf, Nat.reduceEqDiff, reduceIte] <;> rfl) (by simp only [aopOf, evalT, tput, tget_set, tget_leaf, Nat.reduceEqDiff, reduceIte, aCall, mapOps, abuiltin, bLen]; rfl) ?_  -- 7: call builtin len (t12) types [[]113#27] IF 4=false
        refine xg_val (d0 := 10) rfl (by simp only [tput, tget_set, tget_leaf, Nat.reduceEqDiff, reduceIte] <;> rfl) (by simp only [aopOf, evalT, tput, tget_set, tget_leaf, Nat.reduceEqDiff, reduceIte, aBin, opt1, e2, bi_gtr]; rfl) ?_  -- 8: binOp gtr Go.IntKind.i64#3 t13 100:i64 IF 4=false
        refine xw_val (by simp only [aopOf, evalT, tput, tget_set, tget_leaf, Nat.reduceEqDiff, reduceIte, aPick, aPick]; rfl) ?_  -- 9: t15 := pick t10 ? true : t14
        refine xw_val (by simp only [aopOf, evalT, tput, tget_set, tget_leaf, Nat.reduceEqDiff, reduceIte, aMove]; rfl) ?_  -- 10: t16 := move t15
        refine xg_val (d0 := 16) rfl (by simp only [tput, tget_set, tget_leaf, Nat.reduceEqDiff, reduceIte] <;> rfl) (by simp only [aopOf, evalT, tput, tget_set, tget_leaf, Nat.reduceEqDiff, reduceIte, aFieldAddr, opt1, field30_2]; rfl) ?_  -- 11: fieldAddr priory/api.Config#30 t2 .2 IF 10=false
        refine xg_val (d0 := 16) rfl (by simp only [tput, tget_set, tget_leaf, Nat.reduceEqDiff, reduceIte] <;> rfl) (by simp only [aopOf, evalT, tput, tget_set, tget_leaf, Nat.reduceEqDiff, reduceIte, aLoad, opt1, l3]; rfl) ?_  -- 12: load []104#28 [t17] IF 10=false
        refine xg_val (d0 := 16) rfl (by simp only [tput, tget_set, tget_leaf, Nat.reduceEqDiff, reduceIte] <;> rfl) (by simp only [aopOf, evalT, tput, tget_set, tget_leaf, Nat.reduceEqDiff, reduceIte, aCall, mapOps, abuiltin, bLen]; rfl) ?_  -- 13: call builtin len (t18) types [[]104#28] IF 10=false
        refine xg_val (d0 := 16) rfl (by simp only [tput, tget_set, tget_leaf, Nat.reduceEqDiff, reduceIte] <;> rfl) (by simp only [aopOf, evalT, tput, tget_set, tget_leaf, Nat.reduceEqDiff, reduceIte, aBin, opt1, e3, bi_gtr]; rfl) ?_  -- 14: binOp gtr Go.IntKind.i64#3 t19 100:i64 IF 10=false
        refine xw_val (by simp only [aopOf, evalT, tput, tget_set, tget_leaf, Nat.reduceEqDiff, reduceIte, aPick, aPick]; rfl) ?_  -- 15: t21 := pick t16 ? true : t20
        refine xw_val (by simp only [aopOf, evalT, tput, tget_set, tget_leaf, Nat.reduceEqDiff, reduceIte, aMove]; rfl) ?_  -- 16: t22 := move t21
        refine xg_val (d0 := 22) rfl (by simp only [tput, tget_set, tget_leaf, Nat.reduceEqDiff, reduceIte] <;> rfl) (by simp only [aopOf, evalT, tput, tget_set, tget_leaf, Nat.reduceEqDiff, reduceIte, aMove]; rfl) ?_  -- 17: move t1 IF 16=false
        refine xg_val (d0 := 22) rfl (by simp only [tput, tget_set, tget_leaf, Nat.reduceEqDiff, reduceIte] <;> rfl) (by simp only [aopOf, evalT, tput, tget_set, tget_leaf, Nat.reduceEqDiff, reduceIte, aCall, mapOps, abuiltin, bLen]; rfl) ?_  -- 18: call builtin len (t23) types [[]64#61] IF 16=false
        refine xg_val (d0 := 22) rfl (by simp only [tput, tget_set, tget_leaf, Nat.reduceEqDiff, reduceIte] <;> rfl) (by simp only [aopOf, evalT, tput, tget_set, tget_leaf, Nat.reduceEqDiff, reduceIte, aBin, opt1, bi_gtr]; rfl) ?_  -- 19: binOp gtr Go.IntKind.i64#3 t24 80:i64 IF 16=false
        refine xw_val (by simp only [aopOf, evalT, tput, tget_set, tget_leaf, Nat.reduceEqDiff, reduceIte, aPick, aPick]; rfl) ?_  -- 20: t26 := pick t22 ? true : t25
        refine xw_nil ?_
        repeat first | with_reducible refine xw_next ?_ | with_reducible refine xw_pass ?_ | with_reducible refine xw_passr ?_ | with_reducible refine xw_bnorm ?_ | with_reducible refine xw_bret ?_ | with_reducible refine xw_hit ?_ | with_reducible refine xw_past rfl ?_
        repeat with_reducible refine xw_seq ?_
        refine xw_else (by simp [tput, tget_set]) ?_  -- IF t26
        refine xw_skip ?_
        repeat first | with_reducible refine xw_next ?_ | with_reducible refine xw_pass ?_ | with_reducible refine xw_passr ?_ | with_reducible refine xw_bnorm ?_ | with_reducible refine xw_bret ?_ | with_reducible refine xw_hit ?_ | with_reducible refine xw_past rfl ?_
        -- region 3
        repeat with_reducible refine xw_seq ?_
        refine xw_region ?_
        refine xw_val (by simp only [aopOf, evalT, aMove]; rfl) ?_  -- 0: t5 := assign 0:i64
        refine xw_nil ?_
        repeat first | with_reducible refine xw_next ?_ | with_reducible refine xw_pass ?_ | with_reducible refine xw_passr ?_ | with_reducible refine xw_bnorm ?_ | with_reducible refine xw_bret ?_ | with_reducible refine xw_hit ?_ | with_reducible refine xw_past rfl ?_
        repeat with_reducible refine xw_seq ?_
        refine xw_block ?_  -- block 0
        repeat with_reducible refine xw_seq ?_
        refine xw_unroll ?_  -- LOOP
        -- region 4
        repeat with_reducible refine xw_seq ?_
        refine xw_region ?_
        refine xw_val (by simp only [aopOf, evalT, tput, tget_set, tget_leaf, Nat.reduceEqDiff, reduceIte, aMove]; rfl) ?_  -- 0: t27 := move t5
        refine xw_val (by simp only [aopOf, evalT, tput, tget_set, tget_leaf, Nat.reduceEqDiff, reduceIte, aMove]; rfl) ?_  -- 1: t28 := move t1
        refine xw_val (by simp only [aopOf, evalT, tput, tget_set, tget_leaf, Nat.reduceEqDiff, reduceIte, aCall, mapOps, abuiltin, bLen]; rfl) ?_  -- 2: t29 := call builtin len (t28) types [[]64#61]
        refine xw_val (by simp only [aopOf, evalT, tput, tget_set, tget_leaf, Nat.reduceEqDiff, reduceIte, aBin, opt1, bi_lss]; rfl) ?_  -- 3: t30 := binOp lss Go.IntKind.i64#3 t27 t29
        refine xw_nil ?_
        repeat first | with_reducible refine xw_next ?_ | with_reducible refine xw_pass ?_ | with_reducible refine xw_passr ?_ | with_reducible refine xw_bnorm ?_ | with_reducible refine xw_bret ?_ | with_reducible refine xw_hit ?_ | with_reducible refine xw_past rfl ?_
        repeat with_reducible refine xw_seq ?_
        refine xw_else (by simp [tput, tget_set]) ?_  -- IF t30
        refine xw_exit ?_
        repeat first | with_reducible refine xw_next ?_ | with_reducible refine xw_pass ?_ | with_reducible refine xw_passr ?_ | with_reducible refine xw_bnorm ?_ | with_reducible refine xw_bret ?_ | with_reducible refine xw_hit ?_ | with_reducible refine xw_past rfl ?_
        -- region 8
        repeat with_reducible refine xw_seq ?_
        refine xw_region ?_
        refine xw_val (by simp only [aopOf, evalT, aMove]; rfl) ?_  -- 0: t4 := assign false
        refine xw_nil ?_
        repeat first | with_reducible refine xw_next ?_ | with_reducible refine xw_pass ?_ | with_reducible refine xw_passr ?_ | with_reducible refine xw_bnorm ?_ | with_reducible refine xw_bret ?_ | with_reducible refine xw_hit ?_ | with_reducible refine xw_past rfl ?_
        repeat with_reducible refine xw_seq ?_
        refine xw_ret ?_
        repeat first | with_reducible refine xw_next ?_ | with_reducible refine xw_pass ?_ | with_reducible refine xw_passr ?_ | with_reducible refine xw_bnorm ?_ | with_reducible refine xw_bret ?_ | with_reducible refine xw_hit ?_ | with_reducible refine xw_past rfl ?_
        refine xw_end (by simp only [tput]; rfl) ?_
        exact ⟨rfl, rfl⟩
end Go.Proofs.YtoldofonadhpnaaGreatDoor
