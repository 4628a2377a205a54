/- The reader of bytes: what its calls answer. Conditions: none. -/
import Derived.Test.YtjncolnikkbjeaaGreatDoorLaw
import Derived.Test.YtjncolnikkbjeaaGreatDoorAuxJoin
namespace Go.Proofs.YtjncolnikkbjeaaGreatDoor
open Go Pri
theorem fnAt33 : fnAt Tryz.prog 33 = some Tryz.f33 := by kernel_rfl
theorem fnAt24 : fnAt Tryz.prog 24 = some Tryz.f24 := by kernel_rfl
theorem fnAt34 : fnAt Tryz.prog 34 = some Tryz.f34 := by kernel_rfl
theorem fnAt25 : fnAt Tryz.prog 25 = some Tryz.f25 := by kernel_rfl
theorem fnAt23 : fnAt Tryz.prog 23 = some Tryz.f23 := by kernel_rfl
theorem und54 : und Tryz.prog 54 = some (.pointer 73) := by kernel_rfl
theorem agg4 : aggOf Tryz.prog 4 = some false := by kernel_rfl
theorem sz4 : szOf Tryz.prog 4 = some 1 := by kernel_rfl
theorem agg9 : aggOf Tryz.prog 9 = some false := by kernel_rfl
theorem sz9 : szOf Tryz.prog 9 = some 1 := by kernel_rfl
theorem sz9' : szOf Tryz.prog 9 = some (0 + 1) := by kernel_rfl
theorem agg5 : aggOf Tryz.prog 5 = some false := by kernel_rfl
theorem field73_0 (l : Nat) : afieldAddr Tryz.prog 73 (.pointer (some ⟨l, 0, none⟩)) 0 = some (.pointer (some ⟨l, 0, none⟩)) := by kernel_rfl
theorem field73_1 (l : Nat) : afieldAddr Tryz.prog 73 (.pointer (some ⟨l, 0, none⟩)) 1 = some (.pointer (some ⟨l, 1, none⟩)) := by kernel_rfl
theorem build73 (bs : List UInt8) : abuild Tryz.prog 73 [(0, str bs), (1, .bool true)] = some (.agg #[str bs, .bool true]) := by kernel_rfl
/-- A reader that has these bytes left. -/
def Rdr (h : Hp) (r : Nat) (bs : List UInt8) : Prop := h.get r = some (.row [str bs, .bool true] 73 .exact)
theorem Fine_spec {H : Hp} {r : Nat} {bs : List UInt8} (hr : Rdr H r bs) : ∃ v h' pn', (Cl Tryz.prog orc none false (.fn (.func 33) #[]) #[.pointer (some ⟨r, 0, none⟩)] H (.ret v) h' pn' ∧ H.nx ≤ h'.nx) ∧ (v = .bool true ∧ h' = H) := by
  refine wpF_Cl (by kernel_rfl) fnAt33 ?_
  refine xw_fun rfl (tm := (Tri.set Tri.leaf 0 (.pointer (some ⟨r, 0, none⟩)))) rfl ?_
  have q1 : ∀ c, abin Tryz.prog H .neq 54 c (.pointer (some ⟨r, 0, none⟩)) (.pointer none) = some (.bool true) := fun c => bp_neq_some und54
  have l1 : aload Tryz.prog H 4 ⟨r, 1, none⟩ = some (.bool true) := load_cell agg4 sz4 hr rfl
  -- region 0
  repeat with_reducible refine xw_seq ?_
  refine xw_region ?_
  refine xw_val (by simp only [aopOf, evalT, aMove]; rfl) ?_  -- 0: t2 := assign false
  refine xw_nil ?_
  repeat first | with_reducible refine xw_next ?_ | with_reducible refine xw_pass ?_ | with_reducible refine xw_passr ?_ | with_reducible refine xw_bnorm ?_ | with_reducible refine xw_bret ?_ | with_reducible refine xw_hit ?_ | with_reducible refine xw_past rfl ?_
  -- region 1
  repeat with_reducible refine xw_seq ?_
  refine xw_region ?_
  refine xw_val (by simp only [aopOf, evalT, tput, tget_set, tget_leaf, Nat.reduceEqDiff, reduceIte, aMove]; rfl) ?_  -- 0: t3 := move t0
  refine xw_val (by simp only [aopOf, evalT, tput, tget_set, tget_leaf, Nat.reduceEqDiff, reduceIte, aBin, opt1, q1]; rfl) ?_  -- 1: t4 := binOp neq *73#54 t3 nilptr
  refine xw_val (by simp only [aopOf, evalT, tput, tget_set, tget_leaf, Nat.reduceEqDiff, reduceIte, aMove]; rfl) ?_  -- 2: t5 := move t4
  refine xg_val (d0 := 5) rfl (by simp only [tput, tget_set, tget_leaf, Nat.reduceEqDiff, reduceIte] <;> rfl) (by simp only [aopOf, evalT, tput, tget_set, tget_leaf, Nat.reduceEqDiff, reduceIte, aMove]; rfl) ?_  -- 3: move t0 IF 2=true
  refine xg_val (d0 := 5) rfl (by simp only [tput, tget_set, tget_leaf, Nat.reduceEqDiff, reduceIte] <;> rfl) (by simp only [aopOf, evalT, tput, tget_set, tget_leaf, Nat.reduceEqDiff, reduceIte, aNilCheck]; rfl) ?_  -- 4: nilCheck t6 IF 2=true
  refine xg_val (d0 := 5) rfl (by simp only [tput, tget_set, tget_leaf, Nat.reduceEqDiff, reduceIte] <;> rfl) (by simp only [aopOf, evalT, tput, tget_set, tget_leaf, Nat.reduceEqDiff, reduceIte, aFieldAddr, opt1, field73_1]; rfl) ?_  -- 5: fieldAddr priory/octet.Reader#73 t7 .1 IF 2=true
  refine xg_val (d0 := 5) rfl (by simp only [tput, tget_set, tget_leaf, Nat.reduceEqDiff, reduceIte] <;> rfl) (by simp only [aopOf, evalT, tput, tget_set, tget_leaf, Nat.reduceEqDiff, reduceIte, aLoad, opt1, l1]; rfl) ?_  -- 6: load bool#4 [t8] IF 2=true
  refine xw_val (by simp only [aopOf, evalT, tput, tget_set, tget_leaf, Nat.reduceEqDiff, reduceIte, aPick, aPick]; rfl) ?_  -- 7: t10 := pick t5 ? t9 : false
  refine xw_val (by simp only [aopOf, evalT, tput, tget_set, tget_leaf, Nat.reduceEqDiff, reduceIte, aMove]; rfl) ?_  -- 8: t2 := assign t10
  refine xw_nil ?_
  repeat first | with_reducible refine xw_next ?_ | with_reducible refine xw_pass ?_ | with_reducible refine xw_passr ?_ | with_reducible refine xw_bnorm ?_ | with_reducible refine xw_bret ?_ | with_reducible refine xw_hit ?_ | with_reducible refine xw_past rfl ?_
  repeat with_reducible refine xw_seq ?_
  refine xw_ret ?_
  repeat first | with_reducible refine xw_next ?_ | with_reducible refine xw_pass ?_ | with_reducible refine xw_passr ?_ | with_reducible refine xw_bnorm ?_ | with_reducible refine xw_bret ?_ | with_reducible refine xw_hit ?_ | with_reducible refine xw_past rfl ?_
  refine xw_end (by simp only [resA, tput, tget_set, Nat.reduceEqDiff, reduceIte, Tryz.results33]; rfl) ?_
  exact ⟨rfl, rfl⟩
theorem Left_spec {H : Hp} {r : Nat} {bs : List UInt8} (hr : Rdr H r bs) : ∃ v h' pn', (Cl Tryz.prog orc none false (.fn (.func 24) #[]) #[.pointer (some ⟨r, 0, none⟩)] H (.ret v) h' pn' ∧ H.nx ≤ h'.nx) ∧ (v = .int .i64 (.ofNat bs.length) ∧ h' = H) := by
  refine wpF_Cl (by kernel_rfl) fnAt24 ?_
  refine xw_fun rfl (tm := (Tri.set Tri.leaf 0 (.pointer (some ⟨r, 0, none⟩)))) rfl ?_
  have w1 := Fine_spec hr
  have l1 : aload Tryz.prog H 9 ⟨r, 0, none⟩ = some (str bs) := load_cell agg9 sz9 hr rfl
  have n1 : bLen Tryz.prog H #[9] [str bs] = some (.val (.int .i64 (.ofNat bs.length)), H) := len_str rfl und9 bs
  -- region 0
  repeat with_reducible refine xw_seq ?_
  refine xw_region ?_
  refine xw_val (by simp only [aopOf, evalT, aMove]; rfl) ?_  -- 0: t2 := assign 0:i64
  refine xw_nil ?_
  repeat first | with_reducible refine xw_next ?_ | with_reducible refine xw_pass ?_ | with_reducible refine xw_passr ?_ | with_reducible refine xw_bnorm ?_ | with_reducible refine xw_bret ?_ | with_reducible refine xw_hit ?_ | with_reducible refine xw_past rfl ?_
  -- region 1
  repeat with_reducible refine xw_seq ?_
  refine xw_region ?_
  refine xw_val (by simp only [aopOf, evalT, tput, tget_set, tget_leaf, Nat.reduceEqDiff, reduceIte, aMove]; rfl) ?_  -- 0: t3 := move t0
  refine xw_call (by simp only [aopOf, evalT, tput, tget_set, tget_leaf, Nat.reduceEqDiff, reduceIte, aCall, mapOps]; rfl) w1 ?_  -- 1: t4 := call F33:(*priory/octet.Reader).Fine (t3) types [*73#54]
  rintro v hq hn ⟨rfl, hh⟩
  obtain rfl := hh.symm
  refine xw_val (by simp only [aopOf, evalT, tput, tget_set, tget_leaf, Nat.reduceEqDiff, reduceIte, aUn, aunary, opt1, aunary, Bool.not_true]; rfl) ?_  -- 2: t5 := unOp not bool#4 t4
  refine xw_nil ?_
  repeat first | with_reducible refine xw_next ?_ | with_reducible refine xw_pass ?_ | with_reducible refine xw_passr ?_ | with_reducible refine xw_bnorm ?_ | with_reducible refine xw_bret ?_ | with_reducible refine xw_hit ?_ | with_reducible refine xw_past rfl ?_
  repeat with_reducible refine xw_seq ?_
  refine xw_else (by simp [tput, tget_set]) ?_  -- IF t5
  refine xw_skip ?_
  repeat first | with_reducible refine xw_next ?_ | with_reducible refine xw_pass ?_ | with_reducible refine xw_passr ?_ | with_reducible refine xw_bnorm ?_ | with_reducible refine xw_bret ?_ | with_reducible refine xw_hit ?_ | with_reducible refine xw_past rfl ?_
  -- region 3
  repeat with_reducible refine xw_seq ?_
  refine xw_region ?_
  refine xw_val (by simp only [aopOf, evalT, tput, tget_set, tget_leaf, Nat.reduceEqDiff, reduceIte, aMove]; rfl) ?_  -- 0: t6 := move t0
  refine xw_val (by simp only [aopOf, evalT, tput, tget_set, tget_leaf, Nat.reduceEqDiff, reduceIte, aNilCheck]; rfl) ?_  -- 1: t7 := nilCheck t6
  refine xw_val (by simp only [aopOf, evalT, tput, tget_set, tget_leaf, Nat.reduceEqDiff, reduceIte, aFieldAddr, opt1, field73_0]; rfl) ?_  -- 2: t8 := fieldAddr priory/octet.Reader#73 t7 .0
  refine xw_val (by simp only [aopOf, evalT, tput, tget_set, tget_leaf, Nat.reduceEqDiff, reduceIte, aLoad, opt1, l1]; rfl) ?_  -- 3: t9 := load string#9 [t8]
  refine xw_val (by simp only [aopOf, evalT, tput, tget_set, tget_leaf, Nat.reduceEqDiff, reduceIte, aCall, mapOps, n1, abuiltin]; rfl) ?_  -- 4: t10 := call builtin len (t9) types [string#9]
  refine xw_val (by simp only [aopOf, evalT, tput, tget_set, tget_leaf, Nat.reduceEqDiff, reduceIte, aMove]; rfl) ?_  -- 5: t2 := assign t10
  refine xw_nil ?_
  repeat first | with_reducible refine xw_next ?_ | with_reducible refine xw_pass ?_ | with_reducible refine xw_passr ?_ | with_reducible refine xw_bnorm ?_ | with_reducible refine xw_bret ?_ | with_reducible refine xw_hit ?_ | with_reducible refine xw_past rfl ?_
  repeat with_reducible refine xw_seq ?_
  refine xw_ret ?_
  repeat first | with_reducible refine xw_next ?_ | with_reducible refine xw_pass ?_ | with_reducible refine xw_passr ?_ | with_reducible refine xw_bnorm ?_ | with_reducible refine xw_bret ?_ | with_reducible refine xw_hit ?_ | with_reducible refine xw_past rfl ?_
  refine xw_end (by simp only [resA, tput, tget_set, Nat.reduceEqDiff, reduceIte, Tryz.results24]; rfl) ?_
  exact ⟨rfl, rfl⟩
theorem take_spec {H : Hp} {r : Nat} {bs : List UInt8} (hr : Rdr H r bs) {n : Nat} (hn : n ≤ bs.length) : ∃ v h' pn', (Cl Tryz.prog orc none false (.fn (.func 34) #[]) #[.pointer (some ⟨r, 0, none⟩), .int .i64 (.ofNat n)] H (.ret v) h' pn' ∧ H.nx ≤ h'.nx) ∧
    (v = str (bs.take n) ∧ h' = H.set r (.row [str (bs.drop n), .bool true] 73 .exact)) := by
  refine wpF_Cl (by kernel_rfl) fnAt34 ?_
  refine xw_fun rfl (tm := (Tri.set (Tri.set Tri.leaf 0 (.pointer (some ⟨r, 0, none⟩))) 1 (.int .i64 (.ofNat n)))) rfl ?_
  have w1 := Left_spec hr
  have l1 : aload Tryz.prog H 9 ⟨r, 0, none⟩ = some (str bs) := load_cell agg9 sz9 hr rfl
  have e1 : decide (Int.ofNat n < (0 : Int)) = false := decide_eq_false (by simp <;> omega)
  have e2 : decide (Int.ofNat bs.length < Int.ofNat n) = false := decide_eq_false (by simp <;> omega)
  have a1 : aslice Tryz.prog H 9 (str bs) none (some (.int .i64 (.ofNat n))) none = some (str (bs.take n)) := slice_hi und9 hn
  have a2 : aslice Tryz.prog H 9 (str bs) (some (.int .i64 (.ofNat n))) none none = some (str (bs.drop n)) := slice_lo und9 hn
  have s1 : astore Tryz.prog H 9 ⟨r, 0, none⟩ (str (bs.drop n)) = some (H.set r (.row [str (bs.drop n), .bool true] 73 .exact)) := by
    rw [store_cell sz9' rfl rfl hr rfl (by simp)]; rfl
  -- region 0
  repeat with_reducible refine xw_seq ?_
  refine xw_region ?_
  refine xw_val (by simp only [aopOf, evalT, aMove, evalT]; rfl) ?_  -- 0: t4 := assign ""
  refine xw_nil ?_
  repeat first | with_reducible refine xw_next ?_ | with_reducible refine xw_pass ?_ | with_reducible refine xw_passr ?_ | with_reducible refine xw_bnorm ?_ | with_reducible refine xw_bret ?_ | with_reducible refine xw_hit ?_ | with_reducible refine xw_past rfl ?_
  -- region 1
  repeat with_reducible refine xw_seq ?_
  refine xw_region ?_
  refine xw_val (by simp only [aopOf, evalT, tput, tget_set, tget_leaf, Nat.reduceEqDiff, reduceIte, aMove, evalT]; rfl) ?_  -- 0: t6 := move t1
  refine xw_val (by simp only [aopOf, evalT, tput, tget_set, tget_leaf, Nat.reduceEqDiff, reduceIte, aBin, opt1, e1, evalT, bi_lss]; rfl) ?_  -- 1: t7 := binOp lss Go.IntKind.i64#3 t6 0:i64
  refine xw_val (by simp only [aopOf, evalT, tput, tget_set, tget_leaf, Nat.reduceEqDiff, reduceIte, aMove, evalT]; rfl) ?_  -- 2: t8 := move t7
  refine xg_val (d0 := 8) rfl (by simp only [tput, tget_set, tget_leaf, Nat.reduceEqDiff, reduceIte] <;> rfl) (by simp only [aopOf, evalT, tput, tget_set, tget_leaf, Nat.reduceEqDiff, reduceIte, aMove, evalT]; rfl) ?_  -- 3: move t1 IF 2=false
  refine xg_val (d0 := 8) rfl (by simp only [tput, tget_set, tget_leaf, Nat.reduceEqDiff, reduceIte] <;> rfl) (by simp only [aopOf, evalT, tput, tget_set, tget_leaf, Nat.reduceEqDiff, reduceIte, aMove, evalT]; rfl) ?_  -- 4: move t0 IF 2=false
  refine xg_call (d0 := 8) rfl (by simp only [tput, tget_set, tget_leaf, Nat.reduceEqDiff, reduceIte] <;> rfl) (by simp only [aopOf, evalT, tput, tget_set, tget_leaf, Nat.reduceEqDiff, reduceIte, aCall, mapOps, evalT]; rfl) w1 ?_  -- 5: call F24:(*priory/octet.Reader).Left (t10) types [*73#54] IF 2=false
  rintro v hq hn ⟨rfl, hh⟩
  obtain rfl := hh.symm
  refine xg_val (d0 := 8) rfl (by simp only [tput, tget_set, tget_leaf, Nat.reduceEqDiff, reduceIte] <;> rfl) (by simp only [aopOf, evalT, tput, tget_set, tget_leaf, Nat.reduceEqDiff, reduceIte, aBin, opt1, e2, evalT, bi_gtr]; rfl) ?_  -- 6: binOp gtr Go.IntKind.i64#3 t9 t11 IF 2=false
  refine xw_val (by simp only [aopOf, evalT, tput, tget_set, tget_leaf, Nat.reduceEqDiff, reduceIte, aPick, evalT, aPick]; rfl) ?_  -- 7: t13 := pick t8 ? true : t12
  refine xw_nil ?_
  repeat first | with_reducible refine xw_next ?_ | with_reducible refine xw_pass ?_ | with_reducible refine xw_passr ?_ | with_reducible refine xw_bnorm ?_ | with_reducible refine xw_bret ?_ | with_reducible refine xw_hit ?_ | with_reducible refine xw_past rfl ?_
  repeat with_reducible refine xw_seq ?_
  refine xw_else (by simp [tput, tget_set]) ?_  -- IF t13
  refine xw_skip ?_
  repeat first | with_reducible refine xw_next ?_ | with_reducible refine xw_pass ?_ | with_reducible refine xw_passr ?_ | with_reducible refine xw_bnorm ?_ | with_reducible refine xw_bret ?_ | with_reducible refine xw_hit ?_ | with_reducible refine xw_past rfl ?_
  -- region 4
  repeat with_reducible refine xw_seq ?_
  refine xw_region ?_
  refine xw_val (by simp only [aopOf, evalT, tput, tget_set, tget_leaf, Nat.reduceEqDiff, reduceIte, aMove, evalT]; rfl) ?_  -- 0: t17 := move t0
  refine xw_val (by simp only [aopOf, evalT, tput, tget_set, tget_leaf, Nat.reduceEqDiff, reduceIte, aNilCheck, evalT]; rfl) ?_  -- 1: t18 := nilCheck t17
  refine xw_val (by simp only [aopOf, evalT, tput, tget_set, tget_leaf, Nat.reduceEqDiff, reduceIte, aFieldAddr, opt1, field73_0, evalT]; rfl) ?_  -- 2: t19 := fieldAddr priory/octet.Reader#73 t18 .0
  refine xw_val (by simp only [aopOf, evalT, tput, tget_set, tget_leaf, Nat.reduceEqDiff, reduceIte, aLoad, opt1, l1, evalT]; rfl) ?_  -- 3: t20 := load string#9 [t19]
  refine xw_val (by simp only [aopOf, evalT, tput, tget_set, tget_leaf, Nat.reduceEqDiff, reduceIte, aMove, evalT]; rfl) ?_  -- 4: t21 := move t1
  refine xw_val (by simp only [aopOf, evalT, tput, tget_set, tget_leaf, Nat.reduceEqDiff, reduceIte, aSlice, opt1, a1, Option.map_some, Option.map_none, evalT]; rfl) ?_  -- 5: t22 := slice string#9 t20 [none:(some t21):none]
  refine xw_val (by simp only [aopOf, evalT, tput, tget_set, tget_leaf, Nat.reduceEqDiff, reduceIte, aMove, evalT]; rfl) ?_  -- 6: t5 := assign t22
  refine xw_nil ?_
  repeat first | with_reducible refine xw_next ?_ | with_reducible refine xw_pass ?_ | with_reducible refine xw_passr ?_ | with_reducible refine xw_bnorm ?_ | with_reducible refine xw_bret ?_ | with_reducible refine xw_hit ?_ | with_reducible refine xw_past rfl ?_
  -- region 5
  repeat with_reducible refine xw_seq ?_
  refine xw_region ?_
  refine xw_val (by simp only [aopOf, evalT, tput, tget_set, tget_leaf, Nat.reduceEqDiff, reduceIte, aMove, evalT]; rfl) ?_  -- 0: t23 := move t0
  refine xw_val (by simp only [aopOf, evalT, tput, tget_set, tget_leaf, Nat.reduceEqDiff, reduceIte, aMove, evalT]; rfl) ?_  -- 1: t24 := move t0
  refine xw_val (by simp only [aopOf, evalT, tput, tget_set, tget_leaf, Nat.reduceEqDiff, reduceIte, aNilCheck, evalT]; rfl) ?_  -- 2: t25 := nilCheck t24
  refine xw_val (by simp only [aopOf, evalT, tput, tget_set, tget_leaf, Nat.reduceEqDiff, reduceIte, aFieldAddr, opt1, field73_0, evalT]; rfl) ?_  -- 3: t26 := fieldAddr priory/octet.Reader#73 t25 .0
  refine xw_val (by simp only [aopOf, evalT, tput, tget_set, tget_leaf, Nat.reduceEqDiff, reduceIte, aLoad, opt1, l1, evalT]; rfl) ?_  -- 4: t27 := load string#9 [t26]
  refine xw_val (by simp only [aopOf, evalT, tput, tget_set, tget_leaf, Nat.reduceEqDiff, reduceIte, aMove, evalT]; rfl) ?_  -- 5: t28 := move t1
  refine xw_val (by simp only [aopOf, evalT, tput, tget_set, tget_leaf, Nat.reduceEqDiff, reduceIte, aSlice, opt1, a2, Option.map_some, Option.map_none, evalT]; rfl) ?_  -- 6: t29 := slice string#9 t27 [(some t28):none:none]
  refine xw_val (by simp only [aopOf, evalT, tput, tget_set, tget_leaf, Nat.reduceEqDiff, reduceIte, aNilCheck, evalT]; rfl) ?_  -- 7: t30 := nilCheck t23
  refine xw_val (by simp only [aopOf, evalT, tput, tget_set, tget_leaf, Nat.reduceEqDiff, reduceIte, aFieldAddr, opt1, field73_0, evalT]; rfl) ?_  -- 8: t31 := fieldAddr priory/octet.Reader#73 t30 .0
  refine xw_put (by simp only [aopOf, evalT, tput, tget_set, tget_leaf, Nat.reduceEqDiff, reduceIte, aStore, opt3, s1, evalT]; rfl) ?_  -- 9: tNone := store string#9 [t31] := t29
  refine xw_nil ?_
  repeat first | with_reducible refine xw_next ?_ | with_reducible refine xw_pass ?_ | with_reducible refine xw_passr ?_ | with_reducible refine xw_bnorm ?_ | with_reducible refine xw_bret ?_ | with_reducible refine xw_hit ?_ | with_reducible refine xw_past rfl ?_
  -- region 6
  repeat with_reducible refine xw_seq ?_
  refine xw_region ?_
  refine xw_val (by simp only [aopOf, evalT, tput, tget_set, tget_leaf, Nat.reduceEqDiff, reduceIte, aMove, evalT]; rfl) ?_  -- 0: t32 := move t5
  refine xw_val (by simp only [aopOf, evalT, tput, tget_set, tget_leaf, Nat.reduceEqDiff, reduceIte, aMove, evalT]; rfl) ?_  -- 1: t4 := assign t32
  refine xw_nil ?_
  repeat first | with_reducible refine xw_next ?_ | with_reducible refine xw_pass ?_ | with_reducible refine xw_passr ?_ | with_reducible refine xw_bnorm ?_ | with_reducible refine xw_bret ?_ | with_reducible refine xw_hit ?_ | with_reducible refine xw_past rfl ?_
  repeat with_reducible refine xw_seq ?_
  refine xw_ret ?_
  repeat first | with_reducible refine xw_next ?_ | with_reducible refine xw_pass ?_ | with_reducible refine xw_passr ?_ | with_reducible refine xw_bnorm ?_ | with_reducible refine xw_bret ?_ | with_reducible refine xw_hit ?_ | with_reducible refine xw_past rfl ?_
  refine xw_end (by simp only [resA, tput, tget_set, Nat.reduceEqDiff, reduceIte, Tryz.results34]; rfl) ?_
  exact ⟨rfl, rfl⟩
theorem New_spec {H : Hp} {bs : List UInt8} : ∃ v h' pn', (Cl Tryz.prog orc none false (.fn (.func 23) #[]) #[str bs] H (.ret v) h' pn' ∧ H.nx ≤ h'.nx) ∧ (v = .pointer (some ⟨H.nx, 0, none⟩) ∧ h' = H.new (.row [str bs, .bool true] 73 .exact)) := by
  refine wpF_Cl (by kernel_rfl) fnAt23 ?_
  refine xw_fun rfl (tm := (Tri.set Tri.leaf 0 (str bs))) rfl ?_
  -- region 0
  repeat with_reducible refine xw_seq ?_
  refine xw_region ?_
  refine xw_val (by simp only [aopOf, evalT, aMove]; rfl) ?_  -- 0: t2 := assign nilptr
  refine xw_nil ?_
  repeat first | with_reducible refine xw_next ?_ | with_reducible refine xw_pass ?_ | with_reducible refine xw_passr ?_ | with_reducible refine xw_bnorm ?_ | with_reducible refine xw_bret ?_ | with_reducible refine xw_hit ?_ | with_reducible refine xw_past rfl ?_
  -- region 1
  repeat with_reducible refine xw_seq ?_
  refine xw_region ?_
  refine xw_val (by simp only [aopOf, evalT, tput, tget_set, tget_leaf, Nat.reduceEqDiff, reduceIte, aMove]; rfl) ?_  -- 0: t3 := move t0
  refine xw_val (by simp only [aopOf, evalT, tput, tget_set, tget_leaf, Nat.reduceEqDiff, reduceIte, aBuild, opt1, mapParts, build73]; rfl) ?_  -- 1: t4 := build priory/octet.Reader#73 [0:t3, 1:true]
  refine xw_val (by simp only [aopOf, evalT, tput, tget_set, tget_leaf, Nat.reduceEqDiff, reduceIte, aBox, aNewRow, Value.cells]; rfl) ?_  -- 2: t5 := box priory/octet.Reader#73 t4
  refine xw_val (by simp only [aopOf, evalT, tput, tget_set, tget_leaf, Nat.reduceEqDiff, reduceIte, aMove]; rfl) ?_  -- 3: t2 := assign t5
  refine xw_nil ?_
  repeat first | with_reducible refine xw_next ?_ | with_reducible refine xw_pass ?_ | with_reducible refine xw_passr ?_ | with_reducible refine xw_bnorm ?_ | with_reducible refine xw_bret ?_ | with_reducible refine xw_hit ?_ | with_reducible refine xw_past rfl ?_
  repeat with_reducible refine xw_seq ?_
  refine xw_ret ?_
  repeat first | with_reducible refine xw_next ?_ | with_reducible refine xw_pass ?_ | with_reducible refine xw_passr ?_ | with_reducible refine xw_bnorm ?_ | with_reducible refine xw_bret ?_ | with_reducible refine xw_hit ?_ | with_reducible refine xw_past rfl ?_
  refine xw_end (by simp only [resA, tput, tget_set, Nat.reduceEqDiff, reduceIte, Tryz.results23]; rfl) ?_
  exact ⟨rfl, rfl⟩

/-- A number of bytes, the greatest first. -/
def num (xs : List UInt8) : Nat := xs.foldl (fun a b => a * 256 + b.toNat) 0
theorem num_snoc {xs : List UInt8} {k : Nat} {b : UInt8} (hb : xs[k]? = some b) : num (xs.take (k + 1)) = num (xs.take k) * 256 + b.toNat := by
  rw [List.take_add_one, hb]
  simp [num]
theorem num_lt (xs : List UInt8) : ∀ k, num (xs.take k) < 256 ^ k
  | 0 => by simp [num]
  | k + 1 => by
    have ih := num_lt xs k
    cases hb : xs[k]? with
    | none =>
      rw [List.take_add_one, hb]
      simp only [Option.toList_none, List.append_nil]
      rw [Nat.pow_succ]; omega
    | some b =>
      rw [num_snoc hb, Nat.pow_succ]
      have := b.toNat_lt
      omega
theorem or_byte {h : Hp} {c : Bool} {a : Nat} {b : UInt8} (ha : a < 16777216) : abin Tryz.prog h .or 32 c (.int .u32 (.ofNat (a * 2 ^ 8))) (.int .u32 (.ofNat b.toNat)) = some (.int .u32 (.ofNat (a * 256 + b.toNat))) := by
  have hb := b.toNat_lt
  have h1 : Nat.blt (a * 2 ^ 8) (topOf .u32) = true := Nat.ble_eq_true_of_le (by show a * 2 ^ 8 + 1 ≤ 4294967296; omega)
  have h2 : Nat.blt b.toNat (topOf .u32) = true := Nat.ble_eq_true_of_le (by show b.toNat + 1 ≤ 4294967296; omega)
  have h3 : a * 2 ^ 8 ||| b.toNat = a * 256 + b.toNat := by
    rw [← Nat.shiftLeft_eq, ← Nat.shiftLeft_add_eq_or_of_lt (by omega : b.toNat < 2 ^ 8), Nat.shiftLeft_eq]
  simp only [abin, isShift, bsel_false, keq_self, bsel_true, arith, abits, h1, h2, Bool.and_self, bitsNat]
  show some (Value.int .u32 (.ofNat (a * 2 ^ 8 ||| b.toNat))) = _
  rw [h3]

theorem Num_spec {H : Hp} {r : Nat} {bs : List UInt8} (hr : Rdr H r bs) (hrn : r < H.nx) {w : Nat} (hw1 : 1 ≤ w) (hw4 : w ≤ 4) (hw : w ≤ bs.length) :
    ∃ v h' pn', (Cl Tryz.prog orc none false (.fn (.func 25) #[]) #[.pointer (some ⟨r, 0, none⟩), .int .i64 (.ofNat w)] H (.ret v) h' pn' ∧ H.nx ≤ h'.nx) ∧
      (v = .int .u32 (.ofNat (num (bs.take w))) ∧ Rdr h' r (bs.drop w) ∧ ∀ x, x < H.nx → x ≠ r → h'.get x = H.get x) := by
  refine wpF_Cl (by kernel_rfl) fnAt25 ?_
  refine xw_fun rfl (tm := (Tri.set (Tri.set Tri.leaf 0 (.pointer (some ⟨r, 0, none⟩))) 1 (.int .i64 (.ofNat w)))) rfl ?_
  have w1 := Fine_spec hr
  have w2 := take_spec hr hw
  have e1 : decide (Int.ofNat w < (1 : Int)) = false := decide_eq_false (by simp <;> omega)
  have e2 : decide ((4 : Int) < Int.ofNat w) = false := decide_eq_false (by simp <;> omega)
  have hlen : (bs.take w).length = w := by rw [List.length_take]; omega
  have c1 : aconvert Tryz.prog (H.set r (.row [str (bs.drop w), .bool true] 73 .exact)) 9 45 (str (bs.take w)) = some (.slice (some ⟨H.nx, 0, none⟩) w (unk + w), (H.set r (.row [str (bs.drop w), .bool true] 73 .exact)).new (.row (bcells (bs.take w)) 5 (.sish 1))) := by
    rw [cv_bytes und9 und45 und5 (by omega), hlen]; rfl
  -- region 0
  repeat with_reducible refine xw_seq ?_
  refine xw_region ?_
  refine xw_val (by simp only [aopOf, evalT, aMove]; rfl) ?_  -- 0: t4 := assign 0:u32
  refine xw_nil ?_
  repeat first | with_reducible refine xw_next ?_ | with_reducible refine xw_pass ?_ | with_reducible refine xw_passr ?_ | with_reducible refine xw_bnorm ?_ | with_reducible refine xw_bret ?_ | with_reducible refine xw_hit ?_ | with_reducible refine xw_past rfl ?_
  -- region 1
  repeat with_reducible refine xw_seq ?_
  refine xw_region ?_
  refine xw_val (by simp only [aopOf, evalT, tput, tget_set, tget_leaf, Nat.reduceEqDiff, reduceIte, aMove]; rfl) ?_  -- 0: t9 := move t0
  refine xw_call (by simp only [aopOf, evalT, tput, tget_set, tget_leaf, Nat.reduceEqDiff, reduceIte, aCall, mapOps]; rfl) w1 ?_  -- 1: t10 := call F33:(*priory/octet.Reader).Fine (t9) types [*73#54]
  rintro v hq hn ⟨rfl, hh⟩
  obtain rfl := hh.symm
  refine xw_val (by simp only [aopOf, evalT, tput, tget_set, tget_leaf, Nat.reduceEqDiff, reduceIte, aUn, aunary, opt1, aunary, Bool.not_true]; rfl) ?_  -- 2: t11 := unOp not bool#4 t10
  refine xw_nil ?_
  repeat first | with_reducible refine xw_next ?_ | with_reducible refine xw_pass ?_ | with_reducible refine xw_passr ?_ | with_reducible refine xw_bnorm ?_ | with_reducible refine xw_bret ?_ | with_reducible refine xw_hit ?_ | with_reducible refine xw_past rfl ?_
  repeat with_reducible refine xw_seq ?_
  refine xw_else (by simp [tput, tget_set]) ?_  -- IF t11
  refine xw_skip ?_
  repeat first | with_reducible refine xw_next ?_ | with_reducible refine xw_pass ?_ | with_reducible refine xw_passr ?_ | with_reducible refine xw_bnorm ?_ | with_reducible refine xw_bret ?_ | with_reducible refine xw_hit ?_ | with_reducible refine xw_past rfl ?_
  -- region 3
  repeat with_reducible refine xw_seq ?_
  refine xw_region ?_
  refine xw_val (by simp only [aopOf, evalT, tput, tget_set, tget_leaf, Nat.reduceEqDiff, reduceIte, aMove]; rfl) ?_  -- 0: t12 := move t1
  refine xw_val (by simp only [aopOf, evalT, tput, tget_set, tget_leaf, Nat.reduceEqDiff, reduceIte, aBin, opt1, e1, bi_lss]; rfl) ?_  -- 1: t13 := binOp lss Go.IntKind.i64#3 t12 1:i64
  refine xw_val (by simp only [aopOf, evalT, tput, tget_set, tget_leaf, Nat.reduceEqDiff, reduceIte, aMove]; rfl) ?_  -- 2: t14 := move t13
  refine xg_val (d0 := 14) rfl (by simp only [tput, tget_set, tget_leaf, Nat.reduceEqDiff, reduceIte] <;> rfl) (by simp only [aopOf, evalT, tput, tget_set, tget_leaf, Nat.reduceEqDiff, reduceIte, aMove]; rfl) ?_  -- 3: move t1 IF 2=false
  refine xg_val (d0 := 14) rfl (by simp only [tput, tget_set, tget_leaf, Nat.reduceEqDiff, reduceIte] <;> rfl) (by simp only [aopOf, evalT, tput, tget_set, tget_leaf, Nat.reduceEqDiff, reduceIte, aBin, opt1, e2, bi_gtr]; rfl) ?_  -- 4: binOp gtr Go.IntKind.i64#3 t15 4:i64 IF 2=false
  refine xw_val (by simp only [aopOf, evalT, tput, tget_set, tget_leaf, Nat.reduceEqDiff, reduceIte, aPick, aPick]; rfl) ?_  -- 5: t17 := pick t14 ? true : t16
  refine xw_nil ?_
  repeat first | with_reducible refine xw_next ?_ | with_reducible refine xw_pass ?_ | with_reducible refine xw_passr ?_ | with_reducible refine xw_bnorm ?_ | with_reducible refine xw_bret ?_ | with_reducible refine xw_hit ?_ | with_reducible refine xw_past rfl ?_
  repeat with_reducible refine xw_seq ?_
  refine xw_else (by simp [tput, tget_set]) ?_  -- IF t17
  refine xw_skip ?_
  repeat first | with_reducible refine xw_next ?_ | with_reducible refine xw_pass ?_ | with_reducible refine xw_passr ?_ | with_reducible refine xw_bnorm ?_ | with_reducible refine xw_bret ?_ | with_reducible refine xw_hit ?_ | with_reducible refine xw_past rfl ?_
  -- region 5
  repeat with_reducible refine xw_seq ?_
  refine xw_region ?_
  refine xw_val (by simp only [aopOf, evalT, tput, tget_set, tget_leaf, Nat.reduceEqDiff, reduceIte, aMove]; rfl) ?_  -- 0: t18 := move t0
  refine xw_val (by simp only [aopOf, evalT, tput, tget_set, tget_leaf, Nat.reduceEqDiff, reduceIte, aMkFunc, mapOps]; rfl) ?_  -- 1: t19 := makeFunc F34:(*priory/octet.Reader).take [t18] []
  refine xw_val (by simp only [aopOf, evalT, tput, tget_set, tget_leaf, Nat.reduceEqDiff, reduceIte, aMove]; rfl) ?_  -- 2: t5 := assign t19
  refine xw_nil ?_
  repeat first | with_reducible refine xw_next ?_ | with_reducible refine xw_pass ?_ | with_reducible refine xw_passr ?_ | with_reducible refine xw_bnorm ?_ | with_reducible refine xw_bret ?_ | with_reducible refine xw_hit ?_ | with_reducible refine xw_past rfl ?_
  -- region 6
  repeat with_reducible refine xw_seq ?_
  refine xw_region ?_
  refine xw_val (by simp only [aopOf, evalT, aMove]; rfl) ?_  -- 0: t6 := assign 0:u32
  refine xw_nil ?_
  repeat first | with_reducible refine xw_next ?_ | with_reducible refine xw_pass ?_ | with_reducible refine xw_passr ?_ | with_reducible refine xw_bnorm ?_ | with_reducible refine xw_bret ?_ | with_reducible refine xw_hit ?_ | with_reducible refine xw_past rfl ?_
  -- region 7
  repeat with_reducible refine xw_seq ?_
  refine xw_region ?_
  refine xw_val (by simp only [aopOf, evalT, tput, tget_set, tget_leaf, Nat.reduceEqDiff, reduceIte, aMove]; rfl) ?_  -- 0: t20 := move t5
  refine xw_val (by simp only [aopOf, evalT, tput, tget_set, tget_leaf, Nat.reduceEqDiff, reduceIte, aMove]; rfl) ?_  -- 1: t21 := move t1
  refine xw_call (by simp only [aopOf, evalT, tput, tget_set, tget_leaf, Nat.reduceEqDiff, reduceIte, aCall, mapOps]; rfl) w2 ?_  -- 2: t22 := call t20 (t21) types [Go.IntKind.i64#3]
  rintro v hq hn ⟨rfl, hh⟩
  obtain rfl := hh.symm
  refine xw_val (by simp only [aopOf, evalT, tput, tget_set, tget_leaf, Nat.reduceEqDiff, reduceIte, aConvert, opt2, c1]; rfl) ?_  -- 3: t23 := convert string#9 -> []5#45 t22
  refine xw_val (by simp only [aopOf, evalT, tput, tget_set, tget_leaf, Nat.reduceEqDiff, reduceIte, aCall, mapOps, abuiltin, bLen]; rfl) ?_  -- 4: t24 := call builtin len (t23) types [[]5#45]
  refine xw_val (by simp only [aopOf, evalT, aMove]; rfl) ?_  -- 5: t25 := move 0:i64
  refine xw_nil ?_
  repeat first | with_reducible refine xw_next ?_ | with_reducible refine xw_pass ?_ | with_reducible refine xw_passr ?_ | with_reducible refine xw_bnorm ?_ | with_reducible refine xw_bret ?_ | with_reducible refine xw_hit ?_ | with_reducible refine xw_past rfl ?_
  repeat with_reducible refine xw_seq ?_
  refine xw_block ?_
  have gB : ((H.set r (.row [str (bs.drop w), .bool true] 73 .exact)).new (.row (bcells (bs.take w)) 5 (.sish 1))).get H.nx = some (.row (bcells (bs.take w)) 5 (.sish 1)) := get_new_same (H.set r _) _
  refine xw_inv (fun n s => ∃ (k : Nat) (tm : Tri Value), s = ⟨tm, [], (H.set r (.row [str (bs.drop w), .bool true] 73 .exact)).new (.row (bcells (bs.take w)) 5 (.sish 1)), none⟩ ∧ k + n = w ∧ tget tm 23 = .slice (some ⟨H.nx, 0, none⟩) w (unk + w) ∧ tget tm 24 = .int .i64 (.ofNat w) ∧ tget tm 25 = .int .i64 (.ofNat k) ∧ tget tm 6 = .int .u32 (.ofNat (num ((bs.take w).take k)))) w
    ⟨0, _, rfl, by omega, by simp [tput, tget_set], by simp [tput, tget_set], by simp [tput, tget_set], by simp [tput, tget_set, num]⟩ ?_
  rintro n s ⟨k, tm, rfl, hk, e23, e24, e25, e6⟩
  by_cases hlt : k < w
  · have hc : (decide ((Int.ofNat k : Int) < Int.ofNat w)) = true := by simp; omega
    have hadd : IntKind.i64.wrap (Int.ofNat k + 1) = Int.ofNat (k + 1) := by rw [wrap_i64 (by simp; omega) (by simp; omega)]; rfl
    obtain ⟨b, hb⟩ : ∃ b, (bs.take w)[k]? = some b := ⟨_, List.getElem?_eq_getElem (by omega)⟩
    have hi : aindexAddr Tryz.prog 45 (.slice (some ⟨H.nx, 0, none⟩) w (unk + w)) (.int .i64 (.ofNat k)) = some (.pointer (some ⟨H.nx, 0 + k * 1, none⟩)) := idx_slice und45 sz5 hlt
    have l1 : aload Tryz.prog ((H.set r (.row [str (bs.drop w), .bool true] 73 .exact)).new (.row (bcells (bs.take w)) 5 (.sish 1))) 5 ⟨H.nx, 0 + k * 1, none⟩ = some (bcell b) := load_cell agg5 sz5 gB (by rw [Nat.zero_add, Nat.mul_one]; exact bcells_get hb)
    have hna : num ((bs.take w).take k) < 16777216 := by
      have h1 := num_lt (bs.take w) k
      have h2 : 256 ^ k ≤ 256 ^ 3 := Nat.pow_le_pow_right (by omega) (by omega)
      omega
    have s1 : ∀ h c, abin Tryz.prog h .shl 32 c (.int .u32 (.ofNat (num ((bs.take w).take k)))) (.int .u64 8) = some (.int .u32 (.ofNat (num ((bs.take w).take k) * 2 ^ 8))) := fun h c =>
      bi_shln (y := 8) (by decide) (by rw [wrap_u32 (by simp; omega) (by simp; omega)])
    have c2 : ∀ h, aconvert Tryz.prog h 5 32 (bcell b) = some (.int .u32 (.ofNat b.toNat), h) := fun h => by
      have := b.toNat_lt
      unfold bcell
      rw [cv_int ⟨_, und5⟩ und32, wrap_u32 (by simp) (by simp; omega)]
    have o1 : ∀ h c, abin Tryz.prog h .or 32 c (.int .u32 (.ofNat (num ((bs.take w).take k) * 2 ^ 8))) (.int .u32 (.ofNat b.toNat)) = some (.int .u32 (.ofNat (num ((bs.take w).take k) * 256 + b.toNat))) := fun h c => or_byte hna
    -- region 8
    repeat with_reducible refine xw_seq ?_
    refine xw_region ?_
    refine xw_val (by simp only [aopOf, evalT, aBin, opt1, hc, e24, e25, bi_lss]; rfl) ?_  -- 0: t26 := binOp lss Go.IntKind.i64#3 t25 t24
    refine xw_nil ?_
    repeat first | with_reducible refine xw_next ?_ | with_reducible refine xw_pass ?_ | with_reducible refine xw_passr ?_ | with_reducible refine xw_bnorm ?_ | with_reducible refine xw_bret ?_ | with_reducible refine xw_hit ?_ | with_reducible refine xw_past rfl ?_
    repeat with_reducible refine xw_seq ?_
    refine xw_then (by simp [tput, tget_set]) ?_  -- IF t26
    refine xw_skip ?_
    repeat first | with_reducible refine xw_next ?_ | with_reducible refine xw_pass ?_ | with_reducible refine xw_passr ?_ | with_reducible refine xw_bnorm ?_ | with_reducible refine xw_bret ?_ | with_reducible refine xw_hit ?_ | with_reducible refine xw_past rfl ?_
    repeat with_reducible refine xw_seq ?_
    refine xw_block ?_  -- block 1
    -- region 9
    repeat with_reducible refine xw_seq ?_
    refine xw_region ?_
    refine xw_val (by simp only [aopOf, evalT, tput, tget_set, Nat.reduceEqDiff, reduceIte, aIndexAddr, opt1, e23, e25, hi]; rfl) ?_  -- 0: t27 := indexAddr []5#45 t23 [t25]
    refine xw_val (by simp only [aopOf, evalT, tput, tget_set, Nat.reduceEqDiff, reduceIte, aLoad, opt1, l1]; rfl) ?_  -- 1: t28 := load Go.IntKind.u8#5 [t27]
    refine xw_val (by simp only [aopOf, evalT, tput, tget_set, Nat.reduceEqDiff, reduceIte, aMove]; rfl) ?_  -- 2: t8 := assign t28
    refine xw_nil ?_
    repeat first | with_reducible refine xw_next ?_ | with_reducible refine xw_pass ?_ | with_reducible refine xw_passr ?_ | with_reducible refine xw_bnorm ?_ | with_reducible refine xw_bret ?_ | with_reducible refine xw_hit ?_ | with_reducible refine xw_past rfl ?_
    -- region 10
    repeat with_reducible refine xw_seq ?_
    refine xw_region ?_
    refine xw_val (by simp only [aopOf, evalT, tput, tget_set, Nat.reduceEqDiff, reduceIte, aMove, e6]; rfl) ?_  -- 0: t29 := move t6
    refine xw_val (by simp only [aopOf, evalT, tput, tget_set, Nat.reduceEqDiff, reduceIte, aBin, opt1, s1]; rfl) ?_  -- 1: t30 := binOp shl Go.IntKind.u32#32 t29 8:u64
    refine xw_val (by simp only [aopOf, evalT, tput, tget_set, Nat.reduceEqDiff, reduceIte, aMove]; rfl) ?_  -- 2: t31 := move t8
    refine xw_val (by simp only [aopOf, evalT, tput, tget_set, Nat.reduceEqDiff, reduceIte, aConvert, opt2, c2]; rfl) ?_  -- 3: t32 := convert Go.IntKind.u8#5 -> Go.IntKind.u32#32 t31
    refine xw_val (by simp only [aopOf, evalT, tput, tget_set, Nat.reduceEqDiff, reduceIte, aBin, opt1, o1]; rfl) ?_  -- 4: t33 := binOp or Go.IntKind.u32#32 t30 t32
    refine xw_val (by simp only [aopOf, evalT, tput, tget_set, Nat.reduceEqDiff, reduceIte, aMove]; rfl) ?_  -- 5: t6 := assign t33
    refine xw_nil ?_
    repeat first | with_reducible refine xw_next ?_ | with_reducible refine xw_pass ?_ | with_reducible refine xw_passr ?_ | with_reducible refine xw_bnorm ?_ | with_reducible refine xw_bret ?_ | with_reducible refine xw_hit ?_ | with_reducible refine xw_past rfl ?_
    -- region 11
    repeat with_reducible refine xw_seq ?_
    refine xw_region ?_
    refine xw_val (by simp only [aopOf, evalT, tput, tget_set, Nat.reduceEqDiff, reduceIte, aBin, opt1, e25, hadd, bi_add]; rfl) ?_  -- 0: t34 := binOp add Go.IntKind.i64#3 t25 1:i64
    refine xw_val (by simp only [aopOf, evalT, tput, tget_set, Nat.reduceEqDiff, reduceIte, aMove]; rfl) ?_  -- 1: t25 := move t34
    refine xw_nil ?_
    repeat first | with_reducible refine xw_next ?_ | with_reducible refine xw_pass ?_ | with_reducible refine xw_passr ?_ | with_reducible refine xw_bnorm ?_ | with_reducible refine xw_bret ?_ | with_reducible refine xw_hit ?_ | with_reducible refine xw_past rfl ?_
    exact ⟨n - 1, by omega, k + 1, _, rfl, by omega, by simp [tput, tget_set, e23], by simp [tput, tget_set, e24], by simp [tput, tget_set], by simp [tput, tget_set, num_snoc hb]⟩
  · have hc : (decide ((Int.ofNat k : Int) < Int.ofNat w)) = false := by simp; omega
    have hkw : (bs.take w).take k = bs.take w := List.take_of_length_le (by omega)
    rw [hkw] at e6
    -- region 8
    repeat with_reducible refine xw_seq ?_
    refine xw_region ?_
    refine xw_val (by simp only [aopOf, evalT, aBin, opt1, hc, e24, e25, bi_lss]; rfl) ?_  -- 0: t26 := binOp lss Go.IntKind.i64#3 t25 t24
    refine xw_nil ?_
    repeat first | with_reducible refine xw_next ?_ | with_reducible refine xw_pass ?_ | with_reducible refine xw_passr ?_ | with_reducible refine xw_bnorm ?_ | with_reducible refine xw_bret ?_ | with_reducible refine xw_hit ?_ | with_reducible refine xw_past rfl ?_
    repeat with_reducible refine xw_seq ?_
    refine xw_else (by simp [tput, tget_set]) ?_  -- IF t26
    refine xw_exit ?_
    repeat first | with_reducible refine xw_next ?_ | with_reducible refine xw_pass ?_ | with_reducible refine xw_passr ?_ | with_reducible refine xw_bnorm ?_ | with_reducible refine xw_bret ?_ | with_reducible refine xw_hit ?_ | with_reducible refine xw_past rfl ?_
    -- region 12
    repeat with_reducible refine xw_seq ?_
    refine xw_region ?_
    refine xw_val (by simp only [aopOf, evalT, tput, tget_set, Nat.reduceEqDiff, reduceIte, aMove, e6]; rfl) ?_  -- 0: t35 := move t6
    refine xw_val (by simp only [aopOf, evalT, tput, tget_set, Nat.reduceEqDiff, reduceIte, aMove]; rfl) ?_  -- 1: t4 := assign t35
    refine xw_nil ?_
    repeat first | with_reducible refine xw_next ?_ | with_reducible refine xw_pass ?_ | with_reducible refine xw_passr ?_ | with_reducible refine xw_bnorm ?_ | with_reducible refine xw_bret ?_ | with_reducible refine xw_hit ?_ | with_reducible refine xw_past rfl ?_
    repeat with_reducible refine xw_seq ?_
    refine xw_ret ?_
    repeat first | with_reducible refine xw_next ?_ | with_reducible refine xw_pass ?_ | with_reducible refine xw_passr ?_ | with_reducible refine xw_bnorm ?_ | with_reducible refine xw_bret ?_ | with_reducible refine xw_hit ?_ | with_reducible refine xw_past rfl ?_
    refine xw_end (by simp only [resA, tput, tget_set, Nat.reduceEqDiff, reduceIte, Tryz.results25]; rfl) ?_
    refine ⟨rfl, ?_, fun x hx hxr => ?_⟩
    · unfold Rdr
      rw [Hp.get_new, if_neg (by simp; omega), get_set_same]
    · rw [Hp.get_new, if_neg (by simp; omega), get_set_other hxr]
end Go.Proofs.YtjncolnikkbjeaaGreatDoor
