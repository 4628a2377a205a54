/- ScriptBack: the law's walk, whatever the events and the bytes. Conditions: none. -/
import Derived.Test.YtjncolnikkbjeaaGreatDoorLaw
import Derived.Test.YtjncolnikkbjeaaGreatDoorAuxSame
namespace Go.Proofs.YtjncolnikkbjeaaGreatDoor
open Go Pri
theorem fnAt4 : fnAt Tryz.prog 4 = some Tryz.f4 := by kernel_rfl
theorem und4 : und Tryz.prog 4 = some .bool := by kernel_rfl
theorem len22 (h : Hp) (o : Option Addr) (n c : Nat) : bLen Tryz.prog h #[22] [.slice o n c] = some (.val (.int .i64 (.ofNat n)), h) := by kernel_rfl
theorem nil_slr (h : Hp) : SlR h (.slice none 0 0) (2 + 1) (([] : List E3).map evC) := ⟨none, 0, rfl, fun i x hx => by simp at hx⟩
set_option maxRecDepth 20000 in
set_option maxHeartbeats 4000000 in
theorem back {H : Hp} {s1 : Value} {l : List E3} {bs : List UInt8} (hs1 : SlR H s1 (2 + 1) (l.map evC)) (hm1 : ∀ x ∈ l, x.2.2 < 4294967296) (h4 : 4 ≤ H.nx) (ht : thereB H 0 gl = true) :
    wpF Tryz.prog orc 4 Tryz.f4 [s1, str bs] H (fun v _ => v = .bool true) := by
  obtain ⟨o1, c1, hsl1⟩ := hs1.len
  rw [List.length_map] at hsl1
  refine xw_fun rfl (tm := (Tri.set (Tri.set Tri.leaf 0 s1) 1 (str bs))) rfl ?_
  have wa := awake_spec h4 ht
  have n1 : ∀ h, bLen Tryz.prog h #[9] [str bs] = some (.val (.int .i64 (.ofNat bs.length)), h) := fun h => len_str rfl und9 bs
  cases a1 : decide ((300 : Int) < Int.ofNat l.length) with
  | true =>
    -- region 0
    repeat with_reducible refine xw_seq ?_
    refine xw_region ?_
    refine xw_val (by simp only [aopOf, evalT, aMove]; rfl) ?_  -- 0: t4 := assign false
    refine xw_nil ?_
    repeat first | with_reducible refine xw_next ?_ | with_reducible refine xw_pass ?_ | with_reducible refine xw_passr ?_ | with_reducible refine xw_bnorm ?_ | with_reducible refine xw_bret ?_ | with_reducible refine xw_hit ?_ | with_reducible refine xw_past rfl ?_
    -- region 1
    repeat with_reducible refine xw_seq ?_
    refine xw_region ?_
    refine xw_val (by simp only [aopOf, evalT, tput, tget_set, tget_leaf, Nat.reduceEqDiff, reduceIte, aMove, hsl1]; rfl) ?_  -- 0: t13 := move t0
    refine xw_val (by simp only [aopOf, evalT, tput, tget_set, tget_leaf, Nat.reduceEqDiff, reduceIte, aCall, mapOps, hsl1, len22, abuiltin]; rfl) ?_  -- 1: t14 := call builtin len (t13) types [[]40#22]
    refine xw_val (by simp only [aopOf, evalT, tput, tget_set, tget_leaf, Nat.reduceEqDiff, reduceIte, aBin, opt1, a1, hsl1, bi_gtr]; rfl) ?_  -- 2: t15 := binOp gtr Go.IntKind.i64#3 t14 300:i64
    refine xw_val (by simp only [aopOf, evalT, tput, tget_set, tget_leaf, Nat.reduceEqDiff, reduceIte, aMove, hsl1]; rfl) ?_  -- 3: t16 := move t15
    refine xg_off (d0 := 16) (t' := true) rfl (by simp only [tput, tget_set, tget_leaf, Nat.reduceEqDiff, reduceIte, hsl1] <;> rfl) rfl ?_  -- 4: move t1 IF 3=false
    refine xg_off (d0 := 16) (t' := true) rfl (by simp only [tput, tget_set, tget_leaf, Nat.reduceEqDiff, reduceIte, hsl1] <;> rfl) rfl ?_  -- 5: call builtin len (t17) types [string#9] IF 3=false
    refine xg_off (d0 := 16) (t' := true) rfl (by simp only [tput, tget_set, tget_leaf, Nat.reduceEqDiff, reduceIte, hsl1] <;> rfl) rfl ?_  -- 6: binOp gtr Go.IntKind.i64#3 t18 2000:i64 IF 3=false
    refine xw_val (by simp only [aopOf, evalT, tput, tget_set, tget_leaf, Nat.reduceEqDiff, reduceIte, aPick, hsl1, aPick]; rfl) ?_  -- 7: t20 := pick t16 ? true : t19
    refine xw_nil ?_
    repeat first | with_reducible refine xw_next ?_ | with_reducible refine xw_pass ?_ | with_reducible refine xw_passr ?_ | with_reducible refine xw_bnorm ?_ | with_reducible refine xw_bret ?_ | with_reducible refine xw_hit ?_ | with_reducible refine xw_past rfl ?_
    repeat with_reducible refine xw_seq ?_
    refine xw_then (by simp [tput, tget_set, hsl1]) ?_  -- IF t20
    -- region 2
    repeat with_reducible refine xw_seq ?_
    refine xw_region ?_
    refine xw_call (by simp only [aopOf, evalT, aCall, mapOps]; rfl) wa ?_  -- 0: t21 := call F7:priory/priorylaw27.awake () types []
    rintro v hq hn ⟨rfl, hh⟩
    obtain rfl := hh.symm
    refine xw_val (by simp only [aopOf, evalT, tput, tget_set, tget_leaf, Nat.reduceEqDiff, reduceIte, aMove, hsl1]; rfl) ?_  -- 1: t4 := assign t21
    refine xw_nil ?_
    repeat first | with_reducible refine xw_next ?_ | with_reducible refine xw_pass ?_ | with_reducible refine xw_passr ?_ | with_reducible refine xw_bnorm ?_ | with_reducible refine xw_bret ?_ | with_reducible refine xw_hit ?_ | with_reducible refine xw_past rfl ?_
    repeat with_reducible refine xw_seq ?_
    refine xw_ret ?_
    repeat first | with_reducible refine xw_next ?_ | with_reducible refine xw_pass ?_ | with_reducible refine xw_passr ?_ | with_reducible refine xw_bnorm ?_ | with_reducible refine xw_bret ?_ | with_reducible refine xw_hit ?_ | with_reducible refine xw_past rfl ?_
    refine xw_end (by simp only [resA, tput, tget_set, Nat.reduceEqDiff, reduceIte, Tryz.results4]; rfl) ?_
    exact rfl
  | false =>
  cases a2 : decide ((2000 : Int) < Int.ofNat bs.length) with
  | true =>
    -- region 0
    repeat with_reducible refine xw_seq ?_
    refine xw_region ?_
    refine xw_val (by simp only [aopOf, evalT, aMove]; rfl) ?_  -- 0: t4 := assign false
    refine xw_nil ?_
    repeat first | with_reducible refine xw_next ?_ | with_reducible refine xw_pass ?_ | with_reducible refine xw_passr ?_ | with_reducible refine xw_bnorm ?_ | with_reducible refine xw_bret ?_ | with_reducible refine xw_hit ?_ | with_reducible refine xw_past rfl ?_
    -- region 1
    repeat with_reducible refine xw_seq ?_
    refine xw_region ?_
    refine xw_val (by simp only [aopOf, evalT, tput, tget_set, tget_leaf, Nat.reduceEqDiff, reduceIte, aMove, hsl1]; rfl) ?_  -- 0: t13 := move t0
    refine xw_val (by simp only [aopOf, evalT, tput, tget_set, tget_leaf, Nat.reduceEqDiff, reduceIte, aCall, mapOps, hsl1, len22, abuiltin]; rfl) ?_  -- 1: t14 := call builtin len (t13) types [[]40#22]
    refine xw_val (by simp only [aopOf, evalT, tput, tget_set, tget_leaf, Nat.reduceEqDiff, reduceIte, aBin, opt1, a1, hsl1, bi_gtr]; rfl) ?_  -- 2: t15 := binOp gtr Go.IntKind.i64#3 t14 300:i64
    refine xw_val (by simp only [aopOf, evalT, tput, tget_set, tget_leaf, Nat.reduceEqDiff, reduceIte, aMove, hsl1]; rfl) ?_  -- 3: t16 := move t15
    refine xg_val (d0 := 16) rfl (by simp only [tput, tget_set, tget_leaf, Nat.reduceEqDiff, reduceIte, hsl1] <;> rfl) (by simp only [aopOf, evalT, tput, tget_set, tget_leaf, Nat.reduceEqDiff, reduceIte, aMove, hsl1]; rfl) ?_  -- 4: move t1 IF 3=false
    refine xg_val (d0 := 16) rfl (by simp only [tput, tget_set, tget_leaf, Nat.reduceEqDiff, reduceIte, hsl1] <;> rfl) (by simp only [aopOf, evalT, tput, tget_set, tget_leaf, Nat.reduceEqDiff, reduceIte, aCall, mapOps, hsl1, n1, abuiltin]; rfl) ?_  -- 5: call builtin len (t17) types [string#9] IF 3=false
    refine xg_val (d0 := 16) rfl (by simp only [tput, tget_set, tget_leaf, Nat.reduceEqDiff, reduceIte, hsl1] <;> rfl) (by simp only [aopOf, evalT, tput, tget_set, tget_leaf, Nat.reduceEqDiff, reduceIte, aBin, opt1, a2, hsl1, bi_gtr]; rfl) ?_  -- 6: binOp gtr Go.IntKind.i64#3 t18 2000:i64 IF 3=false
    refine xw_val (by simp only [aopOf, evalT, tput, tget_set, tget_leaf, Nat.reduceEqDiff, reduceIte, aPick, hsl1, aPick]; rfl) ?_  -- 7: t20 := pick t16 ? true : t19
    refine xw_nil ?_
    repeat first | with_reducible refine xw_next ?_ | with_reducible refine xw_pass ?_ | with_reducible refine xw_passr ?_ | with_reducible refine xw_bnorm ?_ | with_reducible refine xw_bret ?_ | with_reducible refine xw_hit ?_ | with_reducible refine xw_past rfl ?_
    repeat with_reducible refine xw_seq ?_
    refine xw_then (by simp [tput, tget_set, hsl1]) ?_  -- IF t20
    -- region 2
    repeat with_reducible refine xw_seq ?_
    refine xw_region ?_
    refine xw_call (by simp only [aopOf, evalT, aCall, mapOps]; rfl) wa ?_  -- 0: t21 := call F7:priory/priorylaw27.awake () types []
    rintro v hq hn ⟨rfl, hh⟩
    obtain rfl := hh.symm
    refine xw_val (by simp only [aopOf, evalT, tput, tget_set, tget_leaf, Nat.reduceEqDiff, reduceIte, aMove, hsl1]; rfl) ?_  -- 1: t4 := assign t21
    refine xw_nil ?_
    repeat first | with_reducible refine xw_next ?_ | with_reducible refine xw_pass ?_ | with_reducible refine xw_passr ?_ | with_reducible refine xw_bnorm ?_ | with_reducible refine xw_bret ?_ | with_reducible refine xw_hit ?_ | with_reducible refine xw_past rfl ?_
    repeat with_reducible refine xw_seq ?_
    refine xw_ret ?_
    repeat first | with_reducible refine xw_next ?_ | with_reducible refine xw_pass ?_ | with_reducible refine xw_passr ?_ | with_reducible refine xw_bnorm ?_ | with_reducible refine xw_bret ?_ | with_reducible refine xw_hit ?_ | with_reducible refine xw_past rfl ?_
    refine xw_end (by simp only [resA, tput, tget_set, Nat.reduceEqDiff, reduceIte, Tryz.results4]; rfl) ?_
    exact rfl
  | false =>
  have a1' : l.length ≤ 300 := by
    have := of_decide_eq_false a1
    have : (Int.ofNat l.length : Int) = (l.length : Int) := rfl
    omega
  have a2' : bs.length ≤ 2000 := by
    have := of_decide_eq_false a2
    have : (Int.ofNat bs.length : Int) = (bs.length : Int) := rfl
    omega
  have i0 : decide ((0 : Int) = 0) = true := by decide
  have i2n : decide ((2 : Int) = 0) = false := by decide
  have i6n : decide ((6 : Int) = 0) = false := by decide
  have bt : (true == true) = true := rfl
  have bf : (false == false) = true := rfl
  have bb : ∀ h c x y, abin Tryz.prog h .eql 4 c (.bool x) (.bool y) = some (.bool (x == y)) := fun h c x y => bb_eql und4 x y
  have r1 : ∀ h c, abin Tryz.prog h .rem 3 c (.int .i64 (.ofNat bs.length)) (.int .i64 6) = some (.int .i64 (.ofNat (bs.length % 6))) := fun h c => bi_remn (b := 6) (by omega)
  -- region 0
  repeat with_reducible refine xw_seq ?_
  refine xw_region ?_
  refine xw_val (by simp only [aopOf, evalT, aMove]; rfl) ?_  -- 0: t4 := assign false
  refine xw_nil ?_
  repeat first | with_reducible refine xw_next ?_ | with_reducible refine xw_pass ?_ | with_reducible refine xw_passr ?_ | with_reducible refine xw_bnorm ?_ | with_reducible refine xw_bret ?_ | with_reducible refine xw_hit ?_ | with_reducible refine xw_past rfl ?_
  -- region 1
  repeat with_reducible refine xw_seq ?_
  refine xw_region ?_
  refine xw_val (by simp only [aopOf, evalT, tput, tget_set, tget_leaf, Nat.reduceEqDiff, reduceIte, aMove, hsl1]; rfl) ?_  -- 0: t13 := move t0
  refine xw_val (by simp only [aopOf, evalT, tput, tget_set, tget_leaf, Nat.reduceEqDiff, reduceIte, aCall, mapOps, hsl1, len22, abuiltin]; rfl) ?_  -- 1: t14 := call builtin len (t13) types [[]40#22]
  refine xw_val (by simp only [aopOf, evalT, tput, tget_set, tget_leaf, Nat.reduceEqDiff, reduceIte, aBin, opt1, a1, hsl1, bi_gtr]; rfl) ?_  -- 2: t15 := binOp gtr Go.IntKind.i64#3 t14 300:i64
  refine xw_val (by simp only [aopOf, evalT, tput, tget_set, tget_leaf, Nat.reduceEqDiff, reduceIte, aMove, hsl1]; rfl) ?_  -- 3: t16 := move t15
  refine xg_val (d0 := 16) rfl (by simp only [tput, tget_set, tget_leaf, Nat.reduceEqDiff, reduceIte, hsl1] <;> rfl) (by simp only [aopOf, evalT, tput, tget_set, tget_leaf, Nat.reduceEqDiff, reduceIte, aMove, hsl1]; rfl) ?_  -- 4: move t1 IF 3=false
  refine xg_val (d0 := 16) rfl (by simp only [tput, tget_set, tget_leaf, Nat.reduceEqDiff, reduceIte, hsl1] <;> rfl) (by simp only [aopOf, evalT, tput, tget_set, tget_leaf, Nat.reduceEqDiff, reduceIte, aCall, mapOps, hsl1, n1, abuiltin]; rfl) ?_  -- 5: call builtin len (t17) types [string#9] IF 3=false
  refine xg_val (d0 := 16) rfl (by simp only [tput, tget_set, tget_leaf, Nat.reduceEqDiff, reduceIte, hsl1] <;> rfl) (by simp only [aopOf, evalT, tput, tget_set, tget_leaf, Nat.reduceEqDiff, reduceIte, aBin, opt1, a2, hsl1, bi_gtr]; rfl) ?_  -- 6: binOp gtr Go.IntKind.i64#3 t18 2000:i64 IF 3=false
  refine xw_val (by simp only [aopOf, evalT, tput, tget_set, tget_leaf, Nat.reduceEqDiff, reduceIte, aPick, hsl1, aPick]; rfl) ?_  -- 7: t20 := pick t16 ? true : t19
  refine xw_nil ?_
  repeat first | with_reducible refine xw_next ?_ | with_reducible refine xw_pass ?_ | with_reducible refine xw_passr ?_ | with_reducible refine xw_bnorm ?_ | with_reducible refine xw_bret ?_ | with_reducible refine xw_hit ?_ | with_reducible refine xw_past rfl ?_
  repeat with_reducible refine xw_seq ?_
  refine xw_else (by simp [tput, tget_set, hsl1]) ?_  -- IF t20
  refine xw_skip ?_
  repeat first | with_reducible refine xw_next ?_ | with_reducible refine xw_pass ?_ | with_reducible refine xw_passr ?_ | with_reducible refine xw_bnorm ?_ | with_reducible refine xw_bret ?_ | with_reducible refine xw_hit ?_ | with_reducible refine xw_past rfl ?_
  have w1 := Put_spec hs1 hm1 (by omega) h4
  cases b1 : l.all okE with
  | false =>
    rw [putV_no b1] at w1
    -- region 3
    repeat with_reducible refine xw_seq ?_
    refine xw_region ?_
    refine xw_val (by simp only [aopOf, evalT, tput, tget_set, tget_leaf, Nat.reduceEqDiff, reduceIte, aMove]; rfl) ?_  -- 0: t23 := move t0
    refine xw_call (by simp only [aopOf, evalT, tput, tget_set, tget_leaf, Nat.reduceEqDiff, reduceIte, aCall, mapOps]; rfl) w1 ?_  -- 1: t24 := call F8:priory/script.Put (t23) types [[]40#22]
    rintro v1 h1 hn1 ⟨rfl, hk1⟩
    refine xw_val (by simp only [aopOf, evalT, tput, tget_set, tget_leaf, Nat.reduceEqDiff, reduceIte, aMove]; rfl) ?_  -- 2: t22 := move t24
    refine xw_val (by simp only [aopOf, evalT, tput, tget_set, tget_leaf, Nat.reduceEqDiff, reduceIte, aExtract, aextract, opt1]; rfl) ?_  -- 3: t25 := extract t22 0
    refine xw_val (by simp only [aopOf, evalT, tput, tget_set, tget_leaf, Nat.reduceEqDiff, reduceIte, aExtract, aextract, opt1]; rfl) ?_  -- 4: t26 := extract t22 1
    refine xw_val (by simp only [aopOf, evalT, tput, tget_set, tget_leaf, Nat.reduceEqDiff, reduceIte, aMove]; rfl) ?_  -- 5: t5 := assign t25
    refine xw_val (by simp only [aopOf, evalT, tput, tget_set, tget_leaf, Nat.reduceEqDiff, reduceIte, aMove]; rfl) ?_  -- 6: t6 := assign t26
    refine xw_nil ?_
    repeat first | with_reducible refine xw_next ?_ | with_reducible refine xw_pass ?_ | with_reducible refine xw_passr ?_ | with_reducible refine xw_bnorm ?_ | with_reducible refine xw_bret ?_ | with_reducible refine xw_hit ?_ | with_reducible refine xw_past rfl ?_
    have w2 := Get_ok (H := h1) (bs := []) (m := 0) rfl (by omega) (by omega)
    -- region 4
    repeat with_reducible refine xw_seq ?_
    refine xw_region ?_
    refine xw_val (by simp only [aopOf, evalT, tput, tget_set, tget_leaf, Nat.reduceEqDiff, reduceIte, aMove]; rfl) ?_  -- 0: t28 := move t5
    refine xw_call (by simp only [aopOf, evalT, tput, tget_set, tget_leaf, Nat.reduceEqDiff, reduceIte, aCall, mapOps]; rfl) w2 ?_  -- 1: t29 := call F10:priory/script.Get (t28) types [string#9]
    rintro v2 h2 hn2 ⟨sl2, ob2, rfl, hg2, hob2, hk2⟩
    refine xw_val (by simp only [aopOf, evalT, tput, tget_set, tget_leaf, Nat.reduceEqDiff, reduceIte, aMove]; rfl) ?_  -- 2: t27 := move t29
    refine xw_val (by simp only [aopOf, evalT, tput, tget_set, tget_leaf, Nat.reduceEqDiff, reduceIte, aExtract, aextract, opt1]; rfl) ?_  -- 3: t30 := extract t27 0
    refine xw_val (by simp only [aopOf, evalT, tput, tget_set, tget_leaf, Nat.reduceEqDiff, reduceIte, aExtract, aextract, opt1]; rfl) ?_  -- 4: t31 := extract t27 1
    refine xw_val (by simp only [aopOf, evalT, tput, tget_set, tget_leaf, Nat.reduceEqDiff, reduceIte, aMove]; rfl) ?_  -- 5: t7 := assign t30
    refine xw_val (by simp only [aopOf, evalT, tput, tget_set, tget_leaf, Nat.reduceEqDiff, reduceIte, aMove]; rfl) ?_  -- 6: t8 := assign t31
    refine xw_nil ?_
    repeat first | with_reducible refine xw_next ?_ | with_reducible refine xw_pass ?_ | with_reducible refine xw_passr ?_ | with_reducible refine xw_bnorm ?_ | with_reducible refine xw_bret ?_ | with_reducible refine xw_hit ?_ | with_reducible refine xw_past rfl ?_
    have hkk : Keeps H h2 := hk1.trans hn1 hk2
    -- region 5
    repeat with_reducible refine xw_seq ?_
    refine xw_region ?_
    refine xw_val (by simp only [aopOf, evalT, tput, tget_set, tget_leaf, Nat.reduceEqDiff, reduceIte, aMove]; rfl) ?_  -- 0: t32 := move t6
    refine xw_val (by simp only [aopOf, evalT, tput, tget_set, tget_leaf, Nat.reduceEqDiff, reduceIte, aBin, opt1, i2n, bi_eql]; rfl) ?_  -- 1: t33 := binOp eql priory/api.Errno#24 t32 0:i64
    refine xw_val (by simp only [aopOf, evalT, tput, tget_set, tget_leaf, Nat.reduceEqDiff, reduceIte, aMove]; rfl) ?_  -- 2: t34 := move t33
    refine xg_off (d0 := 34) (t' := false) rfl (by simp only [tput, tget_set, tget_leaf, Nat.reduceEqDiff, reduceIte] <;> rfl) rfl ?_  -- 3: move t8 IF 2=true
    refine xg_off (d0 := 34) (t' := false) rfl (by simp only [tput, tget_set, tget_leaf, Nat.reduceEqDiff, reduceIte] <;> rfl) rfl ?_  -- 4: binOp neq priory/api.Errno#24 t35 0:i64 IF 2=true
    refine xg_off (d0 := 34) (t' := false) rfl (by simp only [tput, tget_set, tget_leaf, Nat.reduceEqDiff, reduceIte] <;> rfl) rfl ?_  -- 5: move t36 IF 2=true
    refine xg_undef (d0 := 37) rfl (by simp only [tput, tget_set, tget_leaf, Nat.reduceEqDiff, reduceIte] <;> rfl) ?_  -- 6: move t0 IF 5=false
    refine xg_undef (d0 := 37) rfl (by simp only [tput, tget_set, tget_leaf, Nat.reduceEqDiff, reduceIte] <;> rfl) ?_  -- 7: move t7 IF 5=false
    refine xg_undef (d0 := 37) rfl (by simp only [tput, tget_set, tget_leaf, Nat.reduceEqDiff, reduceIte] <;> rfl) ?_  -- 8: call F12:priory/prioryref27.SameEvents (t38, t39) types [[]40#22, []40#22] IF 5=false
    refine xg_undef (d0 := 37) rfl (by simp only [tput, tget_set, tget_leaf, Nat.reduceEqDiff, reduceIte] <;> rfl) ?_  -- 9: unOp not bool#4 t40 IF 5=false
    refine xg_off (d0 := 34) (t' := false) rfl (by simp only [tput, tget_set, tget_leaf, Nat.reduceEqDiff, reduceIte] <;> rfl) rfl ?_  -- 10: pick t37 ? true : t41 IF 2=true
    refine xg_off (d0 := 34) (t' := false) rfl (by simp only [tput, tget_set, tget_leaf, Nat.reduceEqDiff, reduceIte] <;> rfl) rfl ?_  -- 11: move t42 IF 2=true
    refine xg_undef (d0 := 43) rfl (by simp only [tput, tget_set, tget_leaf, Nat.reduceEqDiff, reduceIte] <;> rfl) ?_  -- 12: move t5 IF 11=false
    refine xg_undef (d0 := 43) rfl (by simp only [tput, tget_set, tget_leaf, Nat.reduceEqDiff, reduceIte] <;> rfl) ?_  -- 13: call builtin len (t44) types [string#9] IF 11=false
    refine xg_undef (d0 := 43) rfl (by simp only [tput, tget_set, tget_leaf, Nat.reduceEqDiff, reduceIte] <;> rfl) ?_  -- 14: move t0 IF 11=false
    refine xg_undef (d0 := 43) rfl (by simp only [tput, tget_set, tget_leaf, Nat.reduceEqDiff, reduceIte] <;> rfl) ?_  -- 15: call builtin len (t46) types [[]40#22] IF 11=false
    refine xg_undef (d0 := 43) rfl (by simp only [tput, tget_set, tget_leaf, Nat.reduceEqDiff, reduceIte] <;> rfl) ?_  -- 16: binOp mul Go.IntKind.i64#3 6:i64 t47 IF 11=false
    refine xg_undef (d0 := 43) rfl (by simp only [tput, tget_set, tget_leaf, Nat.reduceEqDiff, reduceIte] <;> rfl) ?_  -- 17: binOp neq Go.IntKind.i64#3 t45 t48 IF 11=false
    refine xg_off (d0 := 34) (t' := false) rfl (by simp only [tput, tget_set, tget_leaf, Nat.reduceEqDiff, reduceIte] <;> rfl) rfl ?_  -- 18: pick t43 ? true : t49 IF 2=true
    refine xw_val (by simp only [aopOf, evalT, tput, tget_set, tget_leaf, Nat.reduceEqDiff, reduceIte, aPick, aPick]; rfl) ?_  -- 19: t51 := pick t34 ? t50 : false
    refine xw_nil ?_
    repeat first | with_reducible refine xw_next ?_ | with_reducible refine xw_pass ?_ | with_reducible refine xw_passr ?_ | with_reducible refine xw_bnorm ?_ | with_reducible refine xw_bret ?_ | with_reducible refine xw_hit ?_ | with_reducible refine xw_past rfl ?_
    repeat with_reducible refine xw_seq ?_
    refine xw_else (by simp [tput, tget_set]) ?_  -- IF t51
    refine xw_skip ?_
    repeat first | with_reducible refine xw_next ?_ | with_reducible refine xw_pass ?_ | with_reducible refine xw_passr ?_ | with_reducible refine xw_bnorm ?_ | with_reducible refine xw_bret ?_ | with_reducible refine xw_hit ?_ | with_reducible refine xw_past rfl ?_
    by_cases h6 : bs.length % 6 = 0
    · have e3 : decide (Int.ofNat (bs.length % 6) = (0 : Int)) = true := decide_eq_true (by rw [h6]; rfl)
      have hm6 : bs.length = 6 * (bs.length / 6) := by omega
      have hdl := dec_length _ _ hm6
      have hdk := dec_ok _ _ hm6
      have w4 := Get_ok (H := h2) hm6 (by omega) (by omega)
      -- region 7
      repeat with_reducible refine xw_seq ?_
      refine xw_region ?_
      refine xw_val (by simp only [aopOf, evalT, tput, tget_set, tget_leaf, Nat.reduceEqDiff, reduceIte, aMove]; rfl) ?_  -- 0: t53 := move t1
      refine xw_call (by simp only [aopOf, evalT, tput, tget_set, tget_leaf, Nat.reduceEqDiff, reduceIte, aCall, mapOps]; rfl) w4 ?_  -- 1: t54 := call F10:priory/script.Get (t53) types [string#9]
      rintro v3 h3 hn3 ⟨sl3, ob3, rfl, hg3, hob3, hk3⟩
      refine xw_val (by simp only [aopOf, evalT, tput, tget_set, tget_leaf, Nat.reduceEqDiff, reduceIte, aMove]; rfl) ?_  -- 2: t52 := move t54
      refine xw_val (by simp only [aopOf, evalT, tput, tget_set, tget_leaf, Nat.reduceEqDiff, reduceIte, aExtract, aextract, opt1]; rfl) ?_  -- 3: t55 := extract t52 0
      refine xw_val (by simp only [aopOf, evalT, tput, tget_set, tget_leaf, Nat.reduceEqDiff, reduceIte, aExtract, aextract, opt1]; rfl) ?_  -- 4: t56 := extract t52 1
      refine xw_val (by simp only [aopOf, evalT, tput, tget_set, tget_leaf, Nat.reduceEqDiff, reduceIte, aMove]; rfl) ?_  -- 5: t9 := assign t55
      refine xw_val (by simp only [aopOf, evalT, tput, tget_set, tget_leaf, Nat.reduceEqDiff, reduceIte, aMove]; rfl) ?_  -- 6: t10 := assign t56
      refine xw_nil ?_
      repeat first | with_reducible refine xw_next ?_ | with_reducible refine xw_pass ?_ | with_reducible refine xw_passr ?_ | with_reducible refine xw_bnorm ?_ | with_reducible refine xw_bret ?_ | with_reducible refine xw_hit ?_ | with_reducible refine xw_past rfl ?_
      have w5 := Put_spec (hg3.slr (evs_size _)) hdk.2 (by omega) (by omega)
      rw [putV_ok hdk.1, enc_dec _ _ hm6] at w5
      -- region 8
      repeat with_reducible refine xw_seq ?_
      refine xw_region ?_
      refine xw_val (by simp only [aopOf, evalT, tput, tget_set, tget_leaf, Nat.reduceEqDiff, reduceIte, aMove]; rfl) ?_  -- 0: t58 := move t9
      refine xw_call (by simp only [aopOf, evalT, tput, tget_set, tget_leaf, Nat.reduceEqDiff, reduceIte, aCall, mapOps]; rfl) w5 ?_  -- 1: t59 := call F8:priory/script.Put (t58) types [[]40#22]
      rintro v4 h4x hn4 ⟨rfl, hk4⟩
      refine xw_val (by simp only [aopOf, evalT, tput, tget_set, tget_leaf, Nat.reduceEqDiff, reduceIte, aMove]; rfl) ?_  -- 2: t57 := move t59
      refine xw_val (by simp only [aopOf, evalT, tput, tget_set, tget_leaf, Nat.reduceEqDiff, reduceIte, aExtract, aextract, opt1]; rfl) ?_  -- 3: t60 := extract t57 0
      refine xw_val (by simp only [aopOf, evalT, tput, tget_set, tget_leaf, Nat.reduceEqDiff, reduceIte, aExtract, aextract, opt1]; rfl) ?_  -- 4: t61 := extract t57 1
      refine xw_val (by simp only [aopOf, evalT, tput, tget_set, tget_leaf, Nat.reduceEqDiff, reduceIte, aMove]; rfl) ?_  -- 5: t11 := assign t60
      refine xw_val (by simp only [aopOf, evalT, tput, tget_set, tget_leaf, Nat.reduceEqDiff, reduceIte, aMove]; rfl) ?_  -- 6: t12 := assign t61
      refine xw_nil ?_
      repeat first | with_reducible refine xw_next ?_ | with_reducible refine xw_pass ?_ | with_reducible refine xw_passr ?_ | with_reducible refine xw_bnorm ?_ | with_reducible refine xw_bret ?_ | with_reducible refine xw_hit ?_ | with_reducible refine xw_past rfl ?_
      have hkz : Keeps H h4x := fun y hy => (hk4 y (by omega)).trans ((hk3 y (by omega)).trans (hkk y hy))
      have wb := awake_spec (H := h4x) (by omega) (there_keep h4 hkz ht)
      -- region 9
      repeat with_reducible refine xw_seq ?_
      refine xw_region ?_
      refine xw_val (by simp only [aopOf, evalT, tput, tget_set, tget_leaf, Nat.reduceEqDiff, reduceIte, aMove]; rfl) ?_  -- 0: t62 := move t10
      refine xw_val (by simp only [aopOf, evalT, tput, tget_set, tget_leaf, Nat.reduceEqDiff, reduceIte, decide_true, aBin, opt1, bi_eql]; rfl) ?_  -- 1: t63 := binOp eql priory/api.Errno#24 t62 0:i64
      refine xw_val (by simp only [aopOf, evalT, tput, tget_set, tget_leaf, Nat.reduceEqDiff, reduceIte, aMove]; rfl) ?_  -- 2: t64 := move t1
      refine xw_val (by simp only [aopOf, evalT, tput, tget_set, tget_leaf, Nat.reduceEqDiff, reduceIte, aCall, mapOps, n1, abuiltin]; rfl) ?_  -- 3: t65 := call builtin len (t64) types [string#9]
      refine xw_val (by simp only [aopOf, evalT, tput, tget_set, tget_leaf, Nat.reduceEqDiff, reduceIte, aBin, opt1, r1]; rfl) ?_  -- 4: t66 := binOp rem Go.IntKind.i64#3 t65 6:i64
      refine xw_val (by simp only [aopOf, evalT, tput, tget_set, tget_leaf, Nat.reduceEqDiff, reduceIte, aBin, opt1, e3, bi_eql]; rfl) ?_  -- 5: t67 := binOp eql Go.IntKind.i64#3 t66 0:i64
      refine xw_val (by simp only [aopOf, evalT, tput, tget_set, tget_leaf, Nat.reduceEqDiff, reduceIte, aBin, opt1, bt, bb]; rfl) ?_  -- 6: t68 := binOp eql bool#4 t63 t67
      refine xw_val (by simp only [aopOf, evalT, tput, tget_set, tget_leaf, Nat.reduceEqDiff, reduceIte, aMove]; rfl) ?_  -- 7: t69 := move t68
      refine xg_val (d0 := 69) rfl (by simp only [tput, tget_set, tget_leaf, Nat.reduceEqDiff, reduceIte] <;> rfl) (by simp only [aopOf, evalT, tput, tget_set, tget_leaf, Nat.reduceEqDiff, reduceIte, aMove]; rfl) ?_  -- 8: move t10 IF 7=true
      refine xg_val (d0 := 69) rfl (by simp only [tput, tget_set, tget_leaf, Nat.reduceEqDiff, reduceIte] <;> rfl) (by simp only [aopOf, evalT, tput, tget_set, tget_leaf, Nat.reduceEqDiff, reduceIte, decide_true, aBin, opt1, Bool.not_true, bi_neq]; rfl) ?_  -- 9: binOp neq priory/api.Errno#24 t70 0:i64 IF 7=true
      refine xg_val (d0 := 69) rfl (by simp only [tput, tget_set, tget_leaf, Nat.reduceEqDiff, reduceIte] <;> rfl) (by simp only [aopOf, evalT, tput, tget_set, tget_leaf, Nat.reduceEqDiff, reduceIte, aMove]; rfl) ?_  -- 10: move t71 IF 7=true
      refine xg_val (d0 := 72) rfl (by simp only [tput, tget_set, tget_leaf, Nat.reduceEqDiff, reduceIte] <;> rfl) (by simp only [aopOf, evalT, tput, tget_set, tget_leaf, Nat.reduceEqDiff, reduceIte, aMove]; rfl) ?_  -- 11: move t12 IF 10=false
      refine xg_val (d0 := 72) rfl (by simp only [tput, tget_set, tget_leaf, Nat.reduceEqDiff, reduceIte] <;> rfl) (by simp only [aopOf, evalT, tput, tget_set, tget_leaf, Nat.reduceEqDiff, reduceIte, decide_true, aBin, opt1, bi_eql]; rfl) ?_  -- 12: binOp eql priory/api.Errno#24 t73 0:i64 IF 10=false
      refine xg_val (d0 := 72) rfl (by simp only [tput, tget_set, tget_leaf, Nat.reduceEqDiff, reduceIte] <;> rfl) (by simp only [aopOf, evalT, tput, tget_set, tget_leaf, Nat.reduceEqDiff, reduceIte, aMove]; rfl) ?_  -- 13: move t74 IF 10=false
      refine xg_val (d0 := 75) rfl (by simp only [tput, tget_set, tget_leaf, Nat.reduceEqDiff, reduceIte] <;> rfl) (by simp only [aopOf, evalT, tput, tget_set, tget_leaf, Nat.reduceEqDiff, reduceIte, aMove]; rfl) ?_  -- 14: move t11 IF 13=true
      refine xg_val (d0 := 75) rfl (by simp only [tput, tget_set, tget_leaf, Nat.reduceEqDiff, reduceIte] <;> rfl) (by simp only [aopOf, evalT, tput, tget_set, tget_leaf, Nat.reduceEqDiff, reduceIte, aMove]; rfl) ?_  -- 15: move t1 IF 13=true
      refine xg_val (d0 := 75) rfl (by simp only [tput, tget_set, tget_leaf, Nat.reduceEqDiff, reduceIte] <;> rfl) (by simp only [aopOf, evalT, tput, tget_set, tget_leaf, Nat.reduceEqDiff, reduceIte, aBin, opt1, str_eql]; rfl) ?_  -- 16: binOp eql string#9 t76 t77 IF 13=true
      refine xg_val (d0 := 72) rfl (by simp only [tput, tget_set, tget_leaf, Nat.reduceEqDiff, reduceIte] <;> rfl) (by simp only [aopOf, evalT, tput, tget_set, tget_leaf, Nat.reduceEqDiff, reduceIte, aPick, aPick]; rfl) ?_  -- 17: pick t75 ? t78 : false IF 10=false
      refine xg_val (d0 := 69) rfl (by simp only [tput, tget_set, tget_leaf, Nat.reduceEqDiff, reduceIte] <;> rfl) (by simp only [aopOf, evalT, tput, tget_set, tget_leaf, Nat.reduceEqDiff, reduceIte, aPick, aPick]; rfl) ?_  -- 18: pick t72 ? true : t79 IF 7=true
      refine xw_val (by simp only [aopOf, evalT, tput, tget_set, tget_leaf, Nat.reduceEqDiff, reduceIte, aPick, aPick]; rfl) ?_  -- 19: t81 := pick t69 ? t80 : false
      refine xw_val (by simp only [aopOf, evalT, tput, tget_set, tget_leaf, Nat.reduceEqDiff, reduceIte, aMove]; rfl) ?_  -- 20: t82 := move t81
      refine xg_call (d0 := 82) rfl (by simp only [tput, tget_set, tget_leaf, Nat.reduceEqDiff, reduceIte] <;> rfl) (by simp only [aopOf, evalT, aCall, mapOps]; rfl) wb ?_  -- 21: call F7:priory/priorylaw27.awake () types [] IF 20=true
      rintro v hq hn ⟨rfl, hh⟩
      obtain rfl := hh.symm
      refine xw_val (by simp only [aopOf, evalT, tput, tget_set, tget_leaf, Nat.reduceEqDiff, reduceIte, aPick, aPick]; rfl) ?_  -- 22: t84 := pick t82 ? t83 : false
      refine xw_val (by simp only [aopOf, evalT, tput, tget_set, tget_leaf, Nat.reduceEqDiff, reduceIte, aMove]; rfl) ?_  -- 23: t4 := assign t84
      refine xw_nil ?_
      repeat first | with_reducible refine xw_next ?_ | with_reducible refine xw_pass ?_ | with_reducible refine xw_passr ?_ | with_reducible refine xw_bnorm ?_ | with_reducible refine xw_bret ?_ | with_reducible refine xw_hit ?_ | with_reducible refine xw_past rfl ?_
      repeat with_reducible refine xw_seq ?_
      refine xw_ret ?_
      repeat first | with_reducible refine xw_next ?_ | with_reducible refine xw_pass ?_ | with_reducible refine xw_passr ?_ | with_reducible refine xw_bnorm ?_ | with_reducible refine xw_bret ?_ | with_reducible refine xw_hit ?_ | with_reducible refine xw_past rfl ?_
      refine xw_end (by simp only [resA, tput, tget_set, Nat.reduceEqDiff, reduceIte, Tryz.results4]; rfl) ?_
      exact rfl
    · have e3 : decide (Int.ofNat (bs.length % 6) = (0 : Int)) = false := decide_eq_false (by simp <;> omega)
      have w4 := Get_bad (H := h2) h6 (by omega)
      -- region 7
      repeat with_reducible refine xw_seq ?_
      refine xw_region ?_
      refine xw_val (by simp only [aopOf, evalT, tput, tget_set, tget_leaf, Nat.reduceEqDiff, reduceIte, aMove]; rfl) ?_  -- 0: t53 := move t1
      refine xw_call (by simp only [aopOf, evalT, tput, tget_set, tget_leaf, Nat.reduceEqDiff, reduceIte, aCall, mapOps]; rfl) w4 ?_  -- 1: t54 := call F10:priory/script.Get (t53) types [string#9]
      rintro v hq hn ⟨rfl, hh⟩
      obtain rfl := hh.symm
      refine xw_val (by simp only [aopOf, evalT, tput, tget_set, tget_leaf, Nat.reduceEqDiff, reduceIte, aMove]; rfl) ?_  -- 2: t52 := move t54
      refine xw_val (by simp only [aopOf, evalT, tput, tget_set, tget_leaf, Nat.reduceEqDiff, reduceIte, aExtract, aextract, opt1]; rfl) ?_  -- 3: t55 := extract t52 0
      refine xw_val (by simp only [aopOf, evalT, tput, tget_set, tget_leaf, Nat.reduceEqDiff, reduceIte, aExtract, aextract, opt1]; rfl) ?_  -- 4: t56 := extract t52 1
      refine xw_val (by simp only [aopOf, evalT, tput, tget_set, tget_leaf, Nat.reduceEqDiff, reduceIte, aMove]; rfl) ?_  -- 5: t9 := assign t55
      refine xw_val (by simp only [aopOf, evalT, tput, tget_set, tget_leaf, Nat.reduceEqDiff, reduceIte, aMove]; rfl) ?_  -- 6: t10 := assign t56
      refine xw_nil ?_
      repeat first | with_reducible refine xw_next ?_ | with_reducible refine xw_pass ?_ | with_reducible refine xw_passr ?_ | with_reducible refine xw_bnorm ?_ | with_reducible refine xw_bret ?_ | with_reducible refine xw_hit ?_ | with_reducible refine xw_past rfl ?_
      have w5 := Put_spec (nil_slr h2) (fun x hx => by simp at hx) (by simp) (by omega)
      rw [putV_ok rfl] at w5
      -- region 8
      repeat with_reducible refine xw_seq ?_
      refine xw_region ?_
      refine xw_val (by simp only [aopOf, evalT, tput, tget_set, tget_leaf, Nat.reduceEqDiff, reduceIte, aMove]; rfl) ?_  -- 0: t58 := move t9
      refine xw_call (by simp only [aopOf, evalT, tput, tget_set, tget_leaf, Nat.reduceEqDiff, reduceIte, aCall, mapOps]; rfl) w5 ?_  -- 1: t59 := call F8:priory/script.Put (t58) types [[]40#22]
      rintro v4 h4x hn4 ⟨rfl, hk4⟩
      refine xw_val (by simp only [aopOf, evalT, tput, tget_set, tget_leaf, Nat.reduceEqDiff, reduceIte, aMove]; rfl) ?_  -- 2: t57 := move t59
      refine xw_val (by simp only [aopOf, evalT, tput, tget_set, tget_leaf, Nat.reduceEqDiff, reduceIte, aExtract, aextract, opt1]; rfl) ?_  -- 3: t60 := extract t57 0
      refine xw_val (by simp only [aopOf, evalT, tput, tget_set, tget_leaf, Nat.reduceEqDiff, reduceIte, aExtract, aextract, opt1]; rfl) ?_  -- 4: t61 := extract t57 1
      refine xw_val (by simp only [aopOf, evalT, tput, tget_set, tget_leaf, Nat.reduceEqDiff, reduceIte, aMove]; rfl) ?_  -- 5: t11 := assign t60
      refine xw_val (by simp only [aopOf, evalT, tput, tget_set, tget_leaf, Nat.reduceEqDiff, reduceIte, aMove]; rfl) ?_  -- 6: t12 := assign t61
      refine xw_nil ?_
      repeat first | with_reducible refine xw_next ?_ | with_reducible refine xw_pass ?_ | with_reducible refine xw_passr ?_ | with_reducible refine xw_bnorm ?_ | with_reducible refine xw_bret ?_ | with_reducible refine xw_hit ?_ | with_reducible refine xw_past rfl ?_
      have hkz : Keeps H h4x := fun y hy => (hk4 y (by omega)).trans (hkk y hy)
      have wb := awake_spec (H := h4x) (by omega) (there_keep h4 hkz ht)
      -- region 9
      repeat with_reducible refine xw_seq ?_
      refine xw_region ?_
      refine xw_val (by simp only [aopOf, evalT, tput, tget_set, tget_leaf, Nat.reduceEqDiff, reduceIte, aMove]; rfl) ?_  -- 0: t62 := move t10
      refine xw_val (by simp only [aopOf, evalT, tput, tget_set, tget_leaf, Nat.reduceEqDiff, reduceIte, aBin, opt1, i6n, bi_eql]; rfl) ?_  -- 1: t63 := binOp eql priory/api.Errno#24 t62 0:i64
      refine xw_val (by simp only [aopOf, evalT, tput, tget_set, tget_leaf, Nat.reduceEqDiff, reduceIte, aMove]; rfl) ?_  -- 2: t64 := move t1
      refine xw_val (by simp only [aopOf, evalT, tput, tget_set, tget_leaf, Nat.reduceEqDiff, reduceIte, aCall, mapOps, n1, abuiltin]; rfl) ?_  -- 3: t65 := call builtin len (t64) types [string#9]
      refine xw_val (by simp only [aopOf, evalT, tput, tget_set, tget_leaf, Nat.reduceEqDiff, reduceIte, aBin, opt1, r1]; rfl) ?_  -- 4: t66 := binOp rem Go.IntKind.i64#3 t65 6:i64
      refine xw_val (by simp only [aopOf, evalT, tput, tget_set, tget_leaf, Nat.reduceEqDiff, reduceIte, aBin, opt1, e3, bi_eql]; rfl) ?_  -- 5: t67 := binOp eql Go.IntKind.i64#3 t66 0:i64
      refine xw_val (by simp only [aopOf, evalT, tput, tget_set, tget_leaf, Nat.reduceEqDiff, reduceIte, aBin, opt1, bf, bb]; rfl) ?_  -- 6: t68 := binOp eql bool#4 t63 t67
      refine xw_val (by simp only [aopOf, evalT, tput, tget_set, tget_leaf, Nat.reduceEqDiff, reduceIte, aMove]; rfl) ?_  -- 7: t69 := move t68
      refine xg_val (d0 := 69) rfl (by simp only [tput, tget_set, tget_leaf, Nat.reduceEqDiff, reduceIte] <;> rfl) (by simp only [aopOf, evalT, tput, tget_set, tget_leaf, Nat.reduceEqDiff, reduceIte, aMove]; rfl) ?_  -- 8: move t10 IF 7=true
      refine xg_val (d0 := 69) rfl (by simp only [tput, tget_set, tget_leaf, Nat.reduceEqDiff, reduceIte] <;> rfl) (by simp only [aopOf, evalT, tput, tget_set, tget_leaf, Nat.reduceEqDiff, reduceIte, aBin, opt1, i6n, Bool.not_false, bi_neq]; rfl) ?_  -- 9: binOp neq priory/api.Errno#24 t70 0:i64 IF 7=true
      refine xg_val (d0 := 69) rfl (by simp only [tput, tget_set, tget_leaf, Nat.reduceEqDiff, reduceIte] <;> rfl) (by simp only [aopOf, evalT, tput, tget_set, tget_leaf, Nat.reduceEqDiff, reduceIte, aMove]; rfl) ?_  -- 10: move t71 IF 7=true
      refine xg_off (d0 := 72) (t' := true) rfl (by simp only [tput, tget_set, tget_leaf, Nat.reduceEqDiff, reduceIte] <;> rfl) rfl ?_  -- 11: move t12 IF 10=false
      refine xg_off (d0 := 72) (t' := true) rfl (by simp only [tput, tget_set, tget_leaf, Nat.reduceEqDiff, reduceIte] <;> rfl) rfl ?_  -- 12: binOp eql priory/api.Errno#24 t73 0:i64 IF 10=false
      refine xg_off (d0 := 72) (t' := true) rfl (by simp only [tput, tget_set, tget_leaf, Nat.reduceEqDiff, reduceIte] <;> rfl) rfl ?_  -- 13: move t74 IF 10=false
      refine xg_undef (d0 := 75) rfl (by simp only [tput, tget_set, tget_leaf, Nat.reduceEqDiff, reduceIte] <;> rfl) ?_  -- 14: move t11 IF 13=true
      refine xg_undef (d0 := 75) rfl (by simp only [tput, tget_set, tget_leaf, Nat.reduceEqDiff, reduceIte] <;> rfl) ?_  -- 15: move t1 IF 13=true
      refine xg_undef (d0 := 75) rfl (by simp only [tput, tget_set, tget_leaf, Nat.reduceEqDiff, reduceIte] <;> rfl) ?_  -- 16: binOp eql string#9 t76 t77 IF 13=true
      refine xg_off (d0 := 72) (t' := true) rfl (by simp only [tput, tget_set, tget_leaf, Nat.reduceEqDiff, reduceIte] <;> rfl) rfl ?_  -- 17: pick t75 ? t78 : false IF 10=false
      refine xg_val (d0 := 69) rfl (by simp only [tput, tget_set, tget_leaf, Nat.reduceEqDiff, reduceIte] <;> rfl) (by simp only [aopOf, evalT, tput, tget_set, tget_leaf, Nat.reduceEqDiff, reduceIte, aPick, aPick]; rfl) ?_  -- 18: pick t72 ? true : t79 IF 7=true
      refine xw_val (by simp only [aopOf, evalT, tput, tget_set, tget_leaf, Nat.reduceEqDiff, reduceIte, aPick, aPick]; rfl) ?_  -- 19: t81 := pick t69 ? t80 : false
      refine xw_val (by simp only [aopOf, evalT, tput, tget_set, tget_leaf, Nat.reduceEqDiff, reduceIte, aMove]; rfl) ?_  -- 20: t82 := move t81
      refine xg_call (d0 := 82) rfl (by simp only [tput, tget_set, tget_leaf, Nat.reduceEqDiff, reduceIte] <;> rfl) (by simp only [aopOf, evalT, aCall, mapOps]; rfl) wb ?_  -- 21: call F7:priory/priorylaw27.awake () types [] IF 20=true
      rintro v hq hn ⟨rfl, hh⟩
      obtain rfl := hh.symm
      refine xw_val (by simp only [aopOf, evalT, tput, tget_set, tget_leaf, Nat.reduceEqDiff, reduceIte, aPick, aPick]; rfl) ?_  -- 22: t84 := pick t82 ? t83 : false
      refine xw_val (by simp only [aopOf, evalT, tput, tget_set, tget_leaf, Nat.reduceEqDiff, reduceIte, aMove]; rfl) ?_  -- 23: t4 := assign t84
      refine xw_nil ?_
      repeat first | with_reducible refine xw_next ?_ | with_reducible refine xw_pass ?_ | with_reducible refine xw_passr ?_ | with_reducible refine xw_bnorm ?_ | with_reducible refine xw_bret ?_ | with_reducible refine xw_hit ?_ | with_reducible refine xw_past rfl ?_
      repeat with_reducible refine xw_seq ?_
      refine xw_ret ?_
      repeat first | with_reducible refine xw_next ?_ | with_reducible refine xw_pass ?_ | with_reducible refine xw_passr ?_ | with_reducible refine xw_bnorm ?_ | with_reducible refine xw_bret ?_ | with_reducible refine xw_hit ?_ | with_reducible refine xw_past rfl ?_
      refine xw_end (by simp only [resA, tput, tget_set, Nat.reduceEqDiff, reduceIte, Tryz.results4]; rfl) ?_
      exact rfl
  | true =>
    rw [putV_ok b1] at w1
    -- region 3
    repeat with_reducible refine xw_seq ?_
    refine xw_region ?_
    refine xw_val (by simp only [aopOf, evalT, tput, tget_set, tget_leaf, Nat.reduceEqDiff, reduceIte, aMove]; rfl) ?_  -- 0: t23 := move t0
    refine xw_call (by simp only [aopOf, evalT, tput, tget_set, tget_leaf, Nat.reduceEqDiff, reduceIte, aCall, mapOps]; rfl) w1 ?_  -- 1: t24 := call F8:priory/script.Put (t23) types [[]40#22]
    rintro v1 h1 hn1 ⟨rfl, hk1⟩
    refine xw_val (by simp only [aopOf, evalT, tput, tget_set, tget_leaf, Nat.reduceEqDiff, reduceIte, aMove]; rfl) ?_  -- 2: t22 := move t24
    refine xw_val (by simp only [aopOf, evalT, tput, tget_set, tget_leaf, Nat.reduceEqDiff, reduceIte, aExtract, aextract, opt1]; rfl) ?_  -- 3: t25 := extract t22 0
    refine xw_val (by simp only [aopOf, evalT, tput, tget_set, tget_leaf, Nat.reduceEqDiff, reduceIte, aExtract, aextract, opt1]; rfl) ?_  -- 4: t26 := extract t22 1
    refine xw_val (by simp only [aopOf, evalT, tput, tget_set, tget_leaf, Nat.reduceEqDiff, reduceIte, aMove]; rfl) ?_  -- 5: t5 := assign t25
    refine xw_val (by simp only [aopOf, evalT, tput, tget_set, tget_leaf, Nat.reduceEqDiff, reduceIte, aMove]; rfl) ?_  -- 6: t6 := assign t26
    refine xw_nil ?_
    repeat first | with_reducible refine xw_next ?_ | with_reducible refine xw_pass ?_ | with_reducible refine xw_passr ?_ | with_reducible refine xw_bnorm ?_ | with_reducible refine xw_bret ?_ | with_reducible refine xw_hit ?_ | with_reducible refine xw_past rfl ?_
    have hel := enc_length l
    have w2 := Get_ok (H := h1) (bs := enc l) (m := l.length) (by omega) (by omega) (by omega)
    rw [dec_enc l b1 hm1] at w2
    -- region 4
    repeat with_reducible refine xw_seq ?_
    refine xw_region ?_
    refine xw_val (by simp only [aopOf, evalT, tput, tget_set, tget_leaf, Nat.reduceEqDiff, reduceIte, aMove]; rfl) ?_  -- 0: t28 := move t5
    refine xw_call (by simp only [aopOf, evalT, tput, tget_set, tget_leaf, Nat.reduceEqDiff, reduceIte, aCall, mapOps]; rfl) w2 ?_  -- 1: t29 := call F10:priory/script.Get (t28) types [string#9]
    rintro v2 h2 hn2 ⟨sl2, ob2, rfl, hg2, hob2, hk2⟩
    refine xw_val (by simp only [aopOf, evalT, tput, tget_set, tget_leaf, Nat.reduceEqDiff, reduceIte, aMove]; rfl) ?_  -- 2: t27 := move t29
    refine xw_val (by simp only [aopOf, evalT, tput, tget_set, tget_leaf, Nat.reduceEqDiff, reduceIte, aExtract, aextract, opt1]; rfl) ?_  -- 3: t30 := extract t27 0
    refine xw_val (by simp only [aopOf, evalT, tput, tget_set, tget_leaf, Nat.reduceEqDiff, reduceIte, aExtract, aextract, opt1]; rfl) ?_  -- 4: t31 := extract t27 1
    refine xw_val (by simp only [aopOf, evalT, tput, tget_set, tget_leaf, Nat.reduceEqDiff, reduceIte, aMove]; rfl) ?_  -- 5: t7 := assign t30
    refine xw_val (by simp only [aopOf, evalT, tput, tget_set, tget_leaf, Nat.reduceEqDiff, reduceIte, aMove]; rfl) ?_  -- 6: t8 := assign t31
    refine xw_nil ?_
    repeat first | with_reducible refine xw_next ?_ | with_reducible refine xw_pass ?_ | with_reducible refine xw_passr ?_ | with_reducible refine xw_bnorm ?_ | with_reducible refine xw_bret ?_ | with_reducible refine xw_hit ?_ | with_reducible refine xw_past rfl ?_
    have hkk : Keeps H h2 := hk1.trans hn1 hk2
    have w3 := Same_spec (hs1.keep (by omega) hkk) (hg2.slr (evs_size _)) (by omega)
    have n2 : ∀ h, bLen Tryz.prog h #[9] [str (enc l)] = some (.val (.int .i64 (.ofNat (enc l).length)), h) := fun h => len_str rfl und9 _
    have n3 : ∀ h, bLen Tryz.prog h #[22] [s1] = some (.val (.int .i64 (.ofNat l.length)), h) := fun h => by rw [hsl1]; exact len22 h _ _ _
    have wm : IntKind.i64.wrap (6 * Int.ofNat l.length) = Int.ofNat (enc l).length := by
      rw [wrap_i64 (by simp <;> omega) (by simp <;> omega), hel]
      simp; omega
    have em : decide (Int.ofNat (enc l).length = Int.ofNat (enc l).length) = true := decide_eq_true rfl
    -- region 5
    repeat with_reducible refine xw_seq ?_
    refine xw_region ?_
    refine xw_val (by simp only [aopOf, evalT, tput, tget_set, tget_leaf, Nat.reduceEqDiff, reduceIte, aMove]; rfl) ?_  -- 0: t32 := move t6
    refine xw_val (by simp only [aopOf, evalT, tput, tget_set, tget_leaf, Nat.reduceEqDiff, reduceIte, decide_true, aBin, opt1, bi_eql]; rfl) ?_  -- 1: t33 := binOp eql priory/api.Errno#24 t32 0:i64
    refine xw_val (by simp only [aopOf, evalT, tput, tget_set, tget_leaf, Nat.reduceEqDiff, reduceIte, aMove]; rfl) ?_  -- 2: t34 := move t33
    refine xg_val (d0 := 34) rfl (by simp only [tput, tget_set, tget_leaf, Nat.reduceEqDiff, reduceIte] <;> rfl) (by simp only [aopOf, evalT, tput, tget_set, tget_leaf, Nat.reduceEqDiff, reduceIte, aMove]; rfl) ?_  -- 3: move t8 IF 2=true
    refine xg_val (d0 := 34) rfl (by simp only [tput, tget_set, tget_leaf, Nat.reduceEqDiff, reduceIte] <;> rfl) (by simp only [aopOf, evalT, tput, tget_set, tget_leaf, Nat.reduceEqDiff, reduceIte, decide_true, aBin, opt1, Bool.not_true, bi_neq]; rfl) ?_  -- 4: binOp neq priory/api.Errno#24 t35 0:i64 IF 2=true
    refine xg_val (d0 := 34) rfl (by simp only [tput, tget_set, tget_leaf, Nat.reduceEqDiff, reduceIte] <;> rfl) (by simp only [aopOf, evalT, tput, tget_set, tget_leaf, Nat.reduceEqDiff, reduceIte, aMove]; rfl) ?_  -- 5: move t36 IF 2=true
    refine xg_val (d0 := 37) rfl (by simp only [tput, tget_set, tget_leaf, Nat.reduceEqDiff, reduceIte] <;> rfl) (by simp only [aopOf, evalT, tput, tget_set, tget_leaf, Nat.reduceEqDiff, reduceIte, aMove]; rfl) ?_  -- 6: move t0 IF 5=false
    refine xg_val (d0 := 37) rfl (by simp only [tput, tget_set, tget_leaf, Nat.reduceEqDiff, reduceIte] <;> rfl) (by simp only [aopOf, evalT, tput, tget_set, tget_leaf, Nat.reduceEqDiff, reduceIte, aMove]; rfl) ?_  -- 7: move t7 IF 5=false
    refine xg_call (d0 := 37) rfl (by simp only [tput, tget_set, tget_leaf, Nat.reduceEqDiff, reduceIte] <;> rfl) (by simp only [aopOf, evalT, tput, tget_set, tget_leaf, Nat.reduceEqDiff, reduceIte, aCall, mapOps]; rfl) w3 ?_  -- 8: call F12:priory/prioryref27.SameEvents (t38, t39) types [[]40#22, []40#22] IF 5=false
    rintro v hq hn ⟨rfl, hh⟩
    obtain rfl := hh.symm
    refine xg_val (d0 := 37) rfl (by simp only [tput, tget_set, tget_leaf, Nat.reduceEqDiff, reduceIte] <;> rfl) (by simp only [aopOf, evalT, tput, tget_set, tget_leaf, Nat.reduceEqDiff, reduceIte, aUn, aunary, opt1, aunary, Bool.not_true]; rfl) ?_  -- 9: unOp not bool#4 t40 IF 5=false
    refine xg_val (d0 := 34) rfl (by simp only [tput, tget_set, tget_leaf, Nat.reduceEqDiff, reduceIte] <;> rfl) (by simp only [aopOf, evalT, tput, tget_set, tget_leaf, Nat.reduceEqDiff, reduceIte, aPick, aPick]; rfl) ?_  -- 10: pick t37 ? true : t41 IF 2=true
    refine xg_val (d0 := 34) rfl (by simp only [tput, tget_set, tget_leaf, Nat.reduceEqDiff, reduceIte] <;> rfl) (by simp only [aopOf, evalT, tput, tget_set, tget_leaf, Nat.reduceEqDiff, reduceIte, aMove]; rfl) ?_  -- 11: move t42 IF 2=true
    refine xg_val (d0 := 43) rfl (by simp only [tput, tget_set, tget_leaf, Nat.reduceEqDiff, reduceIte] <;> rfl) (by simp only [aopOf, evalT, tput, tget_set, tget_leaf, Nat.reduceEqDiff, reduceIte, aMove]; rfl) ?_  -- 12: move t5 IF 11=false
    refine xg_val (d0 := 43) rfl (by simp only [tput, tget_set, tget_leaf, Nat.reduceEqDiff, reduceIte] <;> rfl) (by simp only [aopOf, evalT, tput, tget_set, tget_leaf, Nat.reduceEqDiff, reduceIte, aCall, mapOps, n2, abuiltin]; rfl) ?_  -- 13: call builtin len (t44) types [string#9] IF 11=false
    refine xg_val (d0 := 43) rfl (by simp only [tput, tget_set, tget_leaf, Nat.reduceEqDiff, reduceIte] <;> rfl) (by simp only [aopOf, evalT, tput, tget_set, tget_leaf, Nat.reduceEqDiff, reduceIte, aMove]; rfl) ?_  -- 14: move t0 IF 11=false
    refine xg_val (d0 := 43) rfl (by simp only [tput, tget_set, tget_leaf, Nat.reduceEqDiff, reduceIte] <;> rfl) (by simp only [aopOf, evalT, tput, tget_set, tget_leaf, Nat.reduceEqDiff, reduceIte, aCall, mapOps, n3, abuiltin]; rfl) ?_  -- 15: call builtin len (t46) types [[]40#22] IF 11=false
    refine xg_val (d0 := 43) rfl (by simp only [tput, tget_set, tget_leaf, Nat.reduceEqDiff, reduceIte] <;> rfl) (by simp only [aopOf, evalT, tput, tget_set, tget_leaf, Nat.reduceEqDiff, reduceIte, aBin, opt1, wm, bi_mul]; rfl) ?_  -- 16: binOp mul Go.IntKind.i64#3 6:i64 t47 IF 11=false
    refine xg_val (d0 := 43) rfl (by simp only [tput, tget_set, tget_leaf, Nat.reduceEqDiff, reduceIte] <;> rfl) (by simp only [aopOf, evalT, tput, tget_set, tget_leaf, Nat.reduceEqDiff, reduceIte, decide_true, aBin, opt1, Bool.not_true, bi_neq]; rfl) ?_  -- 17: binOp neq Go.IntKind.i64#3 t45 t48 IF 11=false
    refine xg_val (d0 := 34) rfl (by simp only [tput, tget_set, tget_leaf, Nat.reduceEqDiff, reduceIte] <;> rfl) (by simp only [aopOf, evalT, tput, tget_set, tget_leaf, Nat.reduceEqDiff, reduceIte, aPick, aPick]; rfl) ?_  -- 18: pick t43 ? true : t49 IF 2=true
    refine xw_val (by simp only [aopOf, evalT, tput, tget_set, tget_leaf, Nat.reduceEqDiff, reduceIte, aPick, aPick]; rfl) ?_  -- 19: t51 := pick t34 ? t50 : false
    refine xw_nil ?_
    repeat first | with_reducible refine xw_next ?_ | with_reducible refine xw_pass ?_ | with_reducible refine xw_passr ?_ | with_reducible refine xw_bnorm ?_ | with_reducible refine xw_bret ?_ | with_reducible refine xw_hit ?_ | with_reducible refine xw_past rfl ?_
    repeat with_reducible refine xw_seq ?_
    refine xw_else (by simp [tput, tget_set]) ?_  -- IF t51
    refine xw_skip ?_
    repeat first | with_reducible refine xw_next ?_ | with_reducible refine xw_pass ?_ | with_reducible refine xw_passr ?_ | with_reducible refine xw_bnorm ?_ | with_reducible refine xw_bret ?_ | with_reducible refine xw_hit ?_ | with_reducible refine xw_past rfl ?_
    by_cases h6 : bs.length % 6 = 0
    · have e3 : decide (Int.ofNat (bs.length % 6) = (0 : Int)) = true := decide_eq_true (by rw [h6]; rfl)
      have hm6 : bs.length = 6 * (bs.length / 6) := by omega
      have hdl := dec_length _ _ hm6
      have hdk := dec_ok _ _ hm6
      have w4 := Get_ok (H := h2) hm6 (by omega) (by omega)
      -- region 7
      repeat with_reducible refine xw_seq ?_
      refine xw_region ?_
      refine xw_val (by simp only [aopOf, evalT, tput, tget_set, tget_leaf, Nat.reduceEqDiff, reduceIte, aMove]; rfl) ?_  -- 0: t53 := move t1
      refine xw_call (by simp only [aopOf, evalT, tput, tget_set, tget_leaf, Nat.reduceEqDiff, reduceIte, aCall, mapOps]; rfl) w4 ?_  -- 1: t54 := call F10:priory/script.Get (t53) types [string#9]
      rintro v3 h3 hn3 ⟨sl3, ob3, rfl, hg3, hob3, hk3⟩
      refine xw_val (by simp only [aopOf, evalT, tput, tget_set, tget_leaf, Nat.reduceEqDiff, reduceIte, aMove]; rfl) ?_  -- 2: t52 := move t54
      refine xw_val (by simp only [aopOf, evalT, tput, tget_set, tget_leaf, Nat.reduceEqDiff, reduceIte, aExtract, aextract, opt1]; rfl) ?_  -- 3: t55 := extract t52 0
      refine xw_val (by simp only [aopOf, evalT, tput, tget_set, tget_leaf, Nat.reduceEqDiff, reduceIte, aExtract, aextract, opt1]; rfl) ?_  -- 4: t56 := extract t52 1
      refine xw_val (by simp only [aopOf, evalT, tput, tget_set, tget_leaf, Nat.reduceEqDiff, reduceIte, aMove]; rfl) ?_  -- 5: t9 := assign t55
      refine xw_val (by simp only [aopOf, evalT, tput, tget_set, tget_leaf, Nat.reduceEqDiff, reduceIte, aMove]; rfl) ?_  -- 6: t10 := assign t56
      refine xw_nil ?_
      repeat first | with_reducible refine xw_next ?_ | with_reducible refine xw_pass ?_ | with_reducible refine xw_passr ?_ | with_reducible refine xw_bnorm ?_ | with_reducible refine xw_bret ?_ | with_reducible refine xw_hit ?_ | with_reducible refine xw_past rfl ?_
      have w5 := Put_spec (hg3.slr (evs_size _)) hdk.2 (by omega) (by omega)
      rw [putV_ok hdk.1, enc_dec _ _ hm6] at w5
      -- region 8
      repeat with_reducible refine xw_seq ?_
      refine xw_region ?_
      refine xw_val (by simp only [aopOf, evalT, tput, tget_set, tget_leaf, Nat.reduceEqDiff, reduceIte, aMove]; rfl) ?_  -- 0: t58 := move t9
      refine xw_call (by simp only [aopOf, evalT, tput, tget_set, tget_leaf, Nat.reduceEqDiff, reduceIte, aCall, mapOps]; rfl) w5 ?_  -- 1: t59 := call F8:priory/script.Put (t58) types [[]40#22]
      rintro v4 h4x hn4 ⟨rfl, hk4⟩
      refine xw_val (by simp only [aopOf, evalT, tput, tget_set, tget_leaf, Nat.reduceEqDiff, reduceIte, aMove]; rfl) ?_  -- 2: t57 := move t59
      refine xw_val (by simp only [aopOf, evalT, tput, tget_set, tget_leaf, Nat.reduceEqDiff, reduceIte, aExtract, aextract, opt1]; rfl) ?_  -- 3: t60 := extract t57 0
      refine xw_val (by simp only [aopOf, evalT, tput, tget_set, tget_leaf, Nat.reduceEqDiff, reduceIte, aExtract, aextract, opt1]; rfl) ?_  -- 4: t61 := extract t57 1
      refine xw_val (by simp only [aopOf, evalT, tput, tget_set, tget_leaf, Nat.reduceEqDiff, reduceIte, aMove]; rfl) ?_  -- 5: t11 := assign t60
      refine xw_val (by simp only [aopOf, evalT, tput, tget_set, tget_leaf, Nat.reduceEqDiff, reduceIte, aMove]; rfl) ?_  -- 6: t12 := assign t61
      refine xw_nil ?_
      repeat first | with_reducible refine xw_next ?_ | with_reducible refine xw_pass ?_ | with_reducible refine xw_passr ?_ | with_reducible refine xw_bnorm ?_ | with_reducible refine xw_bret ?_ | with_reducible refine xw_hit ?_ | with_reducible refine xw_past rfl ?_
      have hkz : Keeps H h4x := fun y hy => (hk4 y (by omega)).trans ((hk3 y (by omega)).trans (hkk y hy))
      have wb := awake_spec (H := h4x) (by omega) (there_keep h4 hkz ht)
      -- region 9
      repeat with_reducible refine xw_seq ?_
      refine xw_region ?_
      refine xw_val (by simp only [aopOf, evalT, tput, tget_set, tget_leaf, Nat.reduceEqDiff, reduceIte, aMove]; rfl) ?_  -- 0: t62 := move t10
      refine xw_val (by simp only [aopOf, evalT, tput, tget_set, tget_leaf, Nat.reduceEqDiff, reduceIte, decide_true, aBin, opt1, bi_eql]; rfl) ?_  -- 1: t63 := binOp eql priory/api.Errno#24 t62 0:i64
      refine xw_val (by simp only [aopOf, evalT, tput, tget_set, tget_leaf, Nat.reduceEqDiff, reduceIte, aMove]; rfl) ?_  -- 2: t64 := move t1
      refine xw_val (by simp only [aopOf, evalT, tput, tget_set, tget_leaf, Nat.reduceEqDiff, reduceIte, aCall, mapOps, n1, abuiltin]; rfl) ?_  -- 3: t65 := call builtin len (t64) types [string#9]
      refine xw_val (by simp only [aopOf, evalT, tput, tget_set, tget_leaf, Nat.reduceEqDiff, reduceIte, aBin, opt1, r1]; rfl) ?_  -- 4: t66 := binOp rem Go.IntKind.i64#3 t65 6:i64
      refine xw_val (by simp only [aopOf, evalT, tput, tget_set, tget_leaf, Nat.reduceEqDiff, reduceIte, aBin, opt1, e3, bi_eql]; rfl) ?_  -- 5: t67 := binOp eql Go.IntKind.i64#3 t66 0:i64
      refine xw_val (by simp only [aopOf, evalT, tput, tget_set, tget_leaf, Nat.reduceEqDiff, reduceIte, aBin, opt1, bt, bb]; rfl) ?_  -- 6: t68 := binOp eql bool#4 t63 t67
      refine xw_val (by simp only [aopOf, evalT, tput, tget_set, tget_leaf, Nat.reduceEqDiff, reduceIte, aMove]; rfl) ?_  -- 7: t69 := move t68
      refine xg_val (d0 := 69) rfl (by simp only [tput, tget_set, tget_leaf, Nat.reduceEqDiff, reduceIte] <;> rfl) (by simp only [aopOf, evalT, tput, tget_set, tget_leaf, Nat.reduceEqDiff, reduceIte, aMove]; rfl) ?_  -- 8: move t10 IF 7=true
      refine xg_val (d0 := 69) rfl (by simp only [tput, tget_set, tget_leaf, Nat.reduceEqDiff, reduceIte] <;> rfl) (by simp only [aopOf, evalT, tput, tget_set, tget_leaf, Nat.reduceEqDiff, reduceIte, decide_true, aBin, opt1, Bool.not_true, bi_neq]; rfl) ?_  -- 9: binOp neq priory/api.Errno#24 t70 0:i64 IF 7=true
      refine xg_val (d0 := 69) rfl (by simp only [tput, tget_set, tget_leaf, Nat.reduceEqDiff, reduceIte] <;> rfl) (by simp only [aopOf, evalT, tput, tget_set, tget_leaf, Nat.reduceEqDiff, reduceIte, aMove]; rfl) ?_  -- 10: move t71 IF 7=true
      refine xg_val (d0 := 72) rfl (by simp only [tput, tget_set, tget_leaf, Nat.reduceEqDiff, reduceIte] <;> rfl) (by simp only [aopOf, evalT, tput, tget_set, tget_leaf, Nat.reduceEqDiff, reduceIte, aMove]; rfl) ?_  -- 11: move t12 IF 10=false
      refine xg_val (d0 := 72) rfl (by simp only [tput, tget_set, tget_leaf, Nat.reduceEqDiff, reduceIte] <;> rfl) (by simp only [aopOf, evalT, tput, tget_set, tget_leaf, Nat.reduceEqDiff, reduceIte, decide_true, aBin, opt1, bi_eql]; rfl) ?_  -- 12: binOp eql priory/api.Errno#24 t73 0:i64 IF 10=false
      refine xg_val (d0 := 72) rfl (by simp only [tput, tget_set, tget_leaf, Nat.reduceEqDiff, reduceIte] <;> rfl) (by simp only [aopOf, evalT, tput, tget_set, tget_leaf, Nat.reduceEqDiff, reduceIte, aMove]; rfl) ?_  -- 13: move t74 IF 10=false
      refine xg_val (d0 := 75) rfl (by simp only [tput, tget_set, tget_leaf, Nat.reduceEqDiff, reduceIte] <;> rfl) (by simp only [aopOf, evalT, tput, tget_set, tget_leaf, Nat.reduceEqDiff, reduceIte, aMove]; rfl) ?_  -- 14: move t11 IF 13=true
      refine xg_val (d0 := 75) rfl (by simp only [tput, tget_set, tget_leaf, Nat.reduceEqDiff, reduceIte] <;> rfl) (by simp only [aopOf, evalT, tput, tget_set, tget_leaf, Nat.reduceEqDiff, reduceIte, aMove]; rfl) ?_  -- 15: move t1 IF 13=true
      refine xg_val (d0 := 75) rfl (by simp only [tput, tget_set, tget_leaf, Nat.reduceEqDiff, reduceIte] <;> rfl) (by simp only [aopOf, evalT, tput, tget_set, tget_leaf, Nat.reduceEqDiff, reduceIte, aBin, opt1, str_eql]; rfl) ?_  -- 16: binOp eql string#9 t76 t77 IF 13=true
      refine xg_val (d0 := 72) rfl (by simp only [tput, tget_set, tget_leaf, Nat.reduceEqDiff, reduceIte] <;> rfl) (by simp only [aopOf, evalT, tput, tget_set, tget_leaf, Nat.reduceEqDiff, reduceIte, aPick, aPick]; rfl) ?_  -- 17: pick t75 ? t78 : false IF 10=false
      refine xg_val (d0 := 69) rfl (by simp only [tput, tget_set, tget_leaf, Nat.reduceEqDiff, reduceIte] <;> rfl) (by simp only [aopOf, evalT, tput, tget_set, tget_leaf, Nat.reduceEqDiff, reduceIte, aPick, aPick]; rfl) ?_  -- 18: pick t72 ? true : t79 IF 7=true
      refine xw_val (by simp only [aopOf, evalT, tput, tget_set, tget_leaf, Nat.reduceEqDiff, reduceIte, aPick, aPick]; rfl) ?_  -- 19: t81 := pick t69 ? t80 : false
      refine xw_val (by simp only [aopOf, evalT, tput, tget_set, tget_leaf, Nat.reduceEqDiff, reduceIte, aMove]; rfl) ?_  -- 20: t82 := move t81
      refine xg_call (d0 := 82) rfl (by simp only [tput, tget_set, tget_leaf, Nat.reduceEqDiff, reduceIte] <;> rfl) (by simp only [aopOf, evalT, aCall, mapOps]; rfl) wb ?_  -- 21: call F7:priory/priorylaw27.awake () types [] IF 20=true
      rintro v hq hn ⟨rfl, hh⟩
      obtain rfl := hh.symm
      refine xw_val (by simp only [aopOf, evalT, tput, tget_set, tget_leaf, Nat.reduceEqDiff, reduceIte, aPick, aPick]; rfl) ?_  -- 22: t84 := pick t82 ? t83 : false
      refine xw_val (by simp only [aopOf, evalT, tput, tget_set, tget_leaf, Nat.reduceEqDiff, reduceIte, aMove]; rfl) ?_  -- 23: t4 := assign t84
      refine xw_nil ?_
      repeat first | with_reducible refine xw_next ?_ | with_reducible refine xw_pass ?_ | with_reducible refine xw_passr ?_ | with_reducible refine xw_bnorm ?_ | with_reducible refine xw_bret ?_ | with_reducible refine xw_hit ?_ | with_reducible refine xw_past rfl ?_
      repeat with_reducible refine xw_seq ?_
      refine xw_ret ?_
      repeat first | with_reducible refine xw_next ?_ | with_reducible refine xw_pass ?_ | with_reducible refine xw_passr ?_ | with_reducible refine xw_bnorm ?_ | with_reducible refine xw_bret ?_ | with_reducible refine xw_hit ?_ | with_reducible refine xw_past rfl ?_
      refine xw_end (by simp only [resA, tput, tget_set, Nat.reduceEqDiff, reduceIte, Tryz.results4]; rfl) ?_
      exact rfl
    · have e3 : decide (Int.ofNat (bs.length % 6) = (0 : Int)) = false := decide_eq_false (by simp <;> omega)
      have w4 := Get_bad (H := h2) h6 (by omega)
      -- region 7
      repeat with_reducible refine xw_seq ?_
      refine xw_region ?_
      refine xw_val (by simp only [aopOf, evalT, tput, tget_set, tget_leaf, Nat.reduceEqDiff, reduceIte, aMove]; rfl) ?_  -- 0: t53 := move t1
      refine xw_call (by simp only [aopOf, evalT, tput, tget_set, tget_leaf, Nat.reduceEqDiff, reduceIte, aCall, mapOps]; rfl) w4 ?_  -- 1: t54 := call F10:priory/script.Get (t53) types [string#9]
      rintro v hq hn ⟨rfl, hh⟩
      obtain rfl := hh.symm
      refine xw_val (by simp only [aopOf, evalT, tput, tget_set, tget_leaf, Nat.reduceEqDiff, reduceIte, aMove]; rfl) ?_  -- 2: t52 := move t54
      refine xw_val (by simp only [aopOf, evalT, tput, tget_set, tget_leaf, Nat.reduceEqDiff, reduceIte, aExtract, aextract, opt1]; rfl) ?_  -- 3: t55 := extract t52 0
      refine xw_val (by simp only [aopOf, evalT, tput, tget_set, tget_leaf, Nat.reduceEqDiff, reduceIte, aExtract, aextract, opt1]; rfl) ?_  -- 4: t56 := extract t52 1
      refine xw_val (by simp only [aopOf, evalT, tput, tget_set, tget_leaf, Nat.reduceEqDiff, reduceIte, aMove]; rfl) ?_  -- 5: t9 := assign t55
      refine xw_val (by simp only [aopOf, evalT, tput, tget_set, tget_leaf, Nat.reduceEqDiff, reduceIte, aMove]; rfl) ?_  -- 6: t10 := assign t56
      refine xw_nil ?_
      repeat first | with_reducible refine xw_next ?_ | with_reducible refine xw_pass ?_ | with_reducible refine xw_passr ?_ | with_reducible refine xw_bnorm ?_ | with_reducible refine xw_bret ?_ | with_reducible refine xw_hit ?_ | with_reducible refine xw_past rfl ?_
      have w5 := Put_spec (nil_slr h2) (fun x hx => by simp at hx) (by simp) (by omega)
      rw [putV_ok rfl] at w5
      -- region 8
      repeat with_reducible refine xw_seq ?_
      refine xw_region ?_
      refine xw_val (by simp only [aopOf, evalT, tput, tget_set, tget_leaf, Nat.reduceEqDiff, reduceIte, aMove]; rfl) ?_  -- 0: t58 := move t9
      refine xw_call (by simp only [aopOf, evalT, tput, tget_set, tget_leaf, Nat.reduceEqDiff, reduceIte, aCall, mapOps]; rfl) w5 ?_  -- 1: t59 := call F8:priory/script.Put (t58) types [[]40#22]
      rintro v4 h4x hn4 ⟨rfl, hk4⟩
      refine xw_val (by simp only [aopOf, evalT, tput, tget_set, tget_leaf, Nat.reduceEqDiff, reduceIte, aMove]; rfl) ?_  -- 2: t57 := move t59
      refine xw_val (by simp only [aopOf, evalT, tput, tget_set, tget_leaf, Nat.reduceEqDiff, reduceIte, aExtract, aextract, opt1]; rfl) ?_  -- 3: t60 := extract t57 0
      refine xw_val (by simp only [aopOf, evalT, tput, tget_set, tget_leaf, Nat.reduceEqDiff, reduceIte, aExtract, aextract, opt1]; rfl) ?_  -- 4: t61 := extract t57 1
      refine xw_val (by simp only [aopOf, evalT, tput, tget_set, tget_leaf, Nat.reduceEqDiff, reduceIte, aMove]; rfl) ?_  -- 5: t11 := assign t60
      refine xw_val (by simp only [aopOf, evalT, tput, tget_set, tget_leaf, Nat.reduceEqDiff, reduceIte, aMove]; rfl) ?_  -- 6: t12 := assign t61
      refine xw_nil ?_
      repeat first | with_reducible refine xw_next ?_ | with_reducible refine xw_pass ?_ | with_reducible refine xw_passr ?_ | with_reducible refine xw_bnorm ?_ | with_reducible refine xw_bret ?_ | with_reducible refine xw_hit ?_ | with_reducible refine xw_past rfl ?_
      have hkz : Keeps H h4x := fun y hy => (hk4 y (by omega)).trans (hkk y hy)
      have wb := awake_spec (H := h4x) (by omega) (there_keep h4 hkz ht)
      -- region 9
      repeat with_reducible refine xw_seq ?_
      refine xw_region ?_
      refine xw_val (by simp only [aopOf, evalT, tput, tget_set, tget_leaf, Nat.reduceEqDiff, reduceIte, aMove]; rfl) ?_  -- 0: t62 := move t10
      refine xw_val (by simp only [aopOf, evalT, tput, tget_set, tget_leaf, Nat.reduceEqDiff, reduceIte, aBin, opt1, i6n, bi_eql]; rfl) ?_  -- 1: t63 := binOp eql priory/api.Errno#24 t62 0:i64
      refine xw_val (by simp only [aopOf, evalT, tput, tget_set, tget_leaf, Nat.reduceEqDiff, reduceIte, aMove]; rfl) ?_  -- 2: t64 := move t1
      refine xw_val (by simp only [aopOf, evalT, tput, tget_set, tget_leaf, Nat.reduceEqDiff, reduceIte, aCall, mapOps, n1, abuiltin]; rfl) ?_  -- 3: t65 := call builtin len (t64) types [string#9]
      refine xw_val (by simp only [aopOf, evalT, tput, tget_set, tget_leaf, Nat.reduceEqDiff, reduceIte, aBin, opt1, r1]; rfl) ?_  -- 4: t66 := binOp rem Go.IntKind.i64#3 t65 6:i64
      refine xw_val (by simp only [aopOf, evalT, tput, tget_set, tget_leaf, Nat.reduceEqDiff, reduceIte, aBin, opt1, e3, bi_eql]; rfl) ?_  -- 5: t67 := binOp eql Go.IntKind.i64#3 t66 0:i64
      refine xw_val (by simp only [aopOf, evalT, tput, tget_set, tget_leaf, Nat.reduceEqDiff, reduceIte, aBin, opt1, bf, bb]; rfl) ?_  -- 6: t68 := binOp eql bool#4 t63 t67
      refine xw_val (by simp only [aopOf, evalT, tput, tget_set, tget_leaf, Nat.reduceEqDiff, reduceIte, aMove]; rfl) ?_  -- 7: t69 := move t68
      refine xg_val (d0 := 69) rfl (by simp only [tput, tget_set, tget_leaf, Nat.reduceEqDiff, reduceIte] <;> rfl) (by simp only [aopOf, evalT, tput, tget_set, tget_leaf, Nat.reduceEqDiff, reduceIte, aMove]; rfl) ?_  -- 8: move t10 IF 7=true
      refine xg_val (d0 := 69) rfl (by simp only [tput, tget_set, tget_leaf, Nat.reduceEqDiff, reduceIte] <;> rfl) (by simp only [aopOf, evalT, tput, tget_set, tget_leaf, Nat.reduceEqDiff, reduceIte, aBin, opt1, i6n, Bool.not_false, bi_neq]; rfl) ?_  -- 9: binOp neq priory/api.Errno#24 t70 0:i64 IF 7=true
      refine xg_val (d0 := 69) rfl (by simp only [tput, tget_set, tget_leaf, Nat.reduceEqDiff, reduceIte] <;> rfl) (by simp only [aopOf, evalT, tput, tget_set, tget_leaf, Nat.reduceEqDiff, reduceIte, aMove]; rfl) ?_  -- 10: move t71 IF 7=true
      refine xg_off (d0 := 72) (t' := true) rfl (by simp only [tput, tget_set, tget_leaf, Nat.reduceEqDiff, reduceIte] <;> rfl) rfl ?_  -- 11: move t12 IF 10=false
      refine xg_off (d0 := 72) (t' := true) rfl (by simp only [tput, tget_set, tget_leaf, Nat.reduceEqDiff, reduceIte] <;> rfl) rfl ?_  -- 12: binOp eql priory/api.Errno#24 t73 0:i64 IF 10=false
      refine xg_off (d0 := 72) (t' := true) rfl (by simp only [tput, tget_set, tget_leaf, Nat.reduceEqDiff, reduceIte] <;> rfl) rfl ?_  -- 13: move t74 IF 10=false
      refine xg_undef (d0 := 75) rfl (by simp only [tput, tget_set, tget_leaf, Nat.reduceEqDiff, reduceIte] <;> rfl) ?_  -- 14: move t11 IF 13=true
      refine xg_undef (d0 := 75) rfl (by simp only [tput, tget_set, tget_leaf, Nat.reduceEqDiff, reduceIte] <;> rfl) ?_  -- 15: move t1 IF 13=true
      refine xg_undef (d0 := 75) rfl (by simp only [tput, tget_set, tget_leaf, Nat.reduceEqDiff, reduceIte] <;> rfl) ?_  -- 16: binOp eql string#9 t76 t77 IF 13=true
      refine xg_off (d0 := 72) (t' := true) rfl (by simp only [tput, tget_set, tget_leaf, Nat.reduceEqDiff, reduceIte] <;> rfl) rfl ?_  -- 17: pick t75 ? t78 : false IF 10=false
      refine xg_val (d0 := 69) rfl (by simp only [tput, tget_set, tget_leaf, Nat.reduceEqDiff, reduceIte] <;> rfl) (by simp only [aopOf, evalT, tput, tget_set, tget_leaf, Nat.reduceEqDiff, reduceIte, aPick, aPick]; rfl) ?_  -- 18: pick t72 ? true : t79 IF 7=true
      refine xw_val (by simp only [aopOf, evalT, tput, tget_set, tget_leaf, Nat.reduceEqDiff, reduceIte, aPick, aPick]; rfl) ?_  -- 19: t81 := pick t69 ? t80 : false
      refine xw_val (by simp only [aopOf, evalT, tput, tget_set, tget_leaf, Nat.reduceEqDiff, reduceIte, aMove]; rfl) ?_  -- 20: t82 := move t81
      refine xg_call (d0 := 82) rfl (by simp only [tput, tget_set, tget_leaf, Nat.reduceEqDiff, reduceIte] <;> rfl) (by simp only [aopOf, evalT, aCall, mapOps]; rfl) wb ?_  -- 21: call F7:priory/priorylaw27.awake () types [] IF 20=true
      rintro v hq hn ⟨rfl, hh⟩
      obtain rfl := hh.symm
      refine xw_val (by simp only [aopOf, evalT, tput, tget_set, tget_leaf, Nat.reduceEqDiff, reduceIte, aPick, aPick]; rfl) ?_  -- 22: t84 := pick t82 ? t83 : false
      refine xw_val (by simp only [aopOf, evalT, tput, tget_set, tget_leaf, Nat.reduceEqDiff, reduceIte, aMove]; rfl) ?_  -- 23: t4 := assign t84
      refine xw_nil ?_
      repeat first | with_reducible refine xw_next ?_ | with_reducible refine xw_pass ?_ | with_reducible refine xw_passr ?_ | with_reducible refine xw_bnorm ?_ | with_reducible refine xw_bret ?_ | with_reducible refine xw_hit ?_ | with_reducible refine xw_past rfl ?_
      repeat with_reducible refine xw_seq ?_
      refine xw_ret ?_
      repeat first | with_reducible refine xw_next ?_ | with_reducible refine xw_pass ?_ | with_reducible refine xw_passr ?_ | with_reducible refine xw_bnorm ?_ | with_reducible refine xw_bret ?_ | with_reducible refine xw_hit ?_ | with_reducible refine xw_past rfl ?_
      refine xw_end (by simp only [resA, tput, tget_set, Nat.reduceEqDiff, reduceIte, Tryz.results4]; rfl) ?_
      exact rfl
end Go.Proofs.YtjncolnikkbjeaaGreatDoor
