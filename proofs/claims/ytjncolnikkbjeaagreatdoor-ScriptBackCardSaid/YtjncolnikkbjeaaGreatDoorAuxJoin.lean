/- ScriptJoined: the law's walk, whatever the events. Conditions: none. -/
import Derived.Test.YtjncolnikkbjeaaGreatDoorLaw
import Derived.Test.YtjncolnikkbjeaaGreatDoorAuxPut
namespace Go.Proofs.YtjncolnikkbjeaaGreatDoor
open Go Pri
theorem fnAt5 : fnAt Tryz.prog 5 = some Tryz.f5 := by kernel_rfl
theorem ty40 : ∃ i, ty Tryz.prog 40 = some i ∧ i.size = 3 ∧ i.bytes = 24 := by
  have h1 : (ty Tryz.prog 40).map (fun i => (i.size, i.bytes)) = some (3, 24) := by kernel_rfl
  cases h : ty Tryz.prog 40 with
  | none => rw [h] at h1; cases h1
  | some i =>
    rw [h] at h1
    simp only [Option.map_some, Option.some.injEq, Prod.mk.injEq] at h1
    exact ⟨i, rfl, h1⟩
theorem awake_spec {H : Hp} (hn : 4 ≤ H.nx) (ht : thereB H 0 gl = true) : ∃ v h' pn', (Cl Tryz.prog orc none false (.fn (.func 7) #[]) #[] H (.ret v) h' pn' ∧ H.nx ≤ h'.nx) ∧ (v = .bool true ∧ h' = H) :=
  ⟨_, _, _, ⟨Cl.hit (orElse_left (closedOrc_hit (args := []) (by exact hn) ht rfl)), Nat.le_refl _⟩, rfl, rfl⟩
theorem there_keep {H h : Hp} (hn : 4 ≤ H.nx) (hk : Keeps H h) (ht : thereB H 0 gl = true) : thereB h 0 gl = true :=
  thereB_congr (fun j _ h2 => hk j (by have : gl.length = 4 := rfl; omega)) ht
theorem empty40 (h : Hp) : aBuildSlice2 h 40 0 3 (.agg #[.int .i64 0, .int .i64 0, .int .u32 0]) [] = some (.val (.slice (some ⟨h.nx, 0, none⟩) 0 0), h.new (.row [] 40 .exact)) := by kernel_rfl
theorem evs_size (l : List E3) : ∀ x ∈ l.map evC, x.length = 3 := fun x hx => by
  obtain ⟨y, _, rfl⟩ := List.mem_map.mp hx
  rfl
theorem evs_plain (l : List E3) : (l.map evC).flatten.all plainCellB = true := by
  induction l with
  | nil => rfl
  | cons x l ih =>
    rw [List.map_cons, List.flatten_cons, List.all_append, ih]
    rfl
theorem putV_no {l : List E3} (h : l.all okE = false) : putV l = .tuple #[str [], .int .i64 2] := by unfold putV; rw [h, bsel_false]
theorem sz40x : szOf Tryz.prog 40 = some 3 := by kernel_rfl
theorem eqe (h : Hp) (t : TypeId) (c : Bool) : abin Tryz.prog h .eql t c (str []) (.string ⟨#[]⟩) = some (.bool true) := str_eql []
theorem eqe2 (h : Hp) (t : TypeId) (c : Bool) : abin Tryz.prog h .eql t c (str []) (.string ByteArray.empty) = some (.bool true) := str_eql []
theorem enc_append (l m : List E3) : enc (l ++ m) = enc l ++ enc m := by simp [enc]
/-- Events put behind events. -/
theorem app40 {h : Hp} {s x : Value} {l m : List E3} {ob : Option Nat} (hg : Grw h 40 3 s (l.map evC) ob) (hx : SlR h x 3 (m.map evC)) (hb : l.length + m.length ≤ 100000) :
    ∃ s2 h2 ob2, aappend Tryz.prog h 22 s x = some (s2, h2) ∧ Grw h2 40 3 s2 ((l ++ m).map evC) ob2 ∧ h.nx ≤ h2.nx ∧ (∀ y, y < h.nx → ob ≠ some y → h2.get y = h.get y) ∧ (∀ B, ob2 = some B → ob = some B ∨ h.nx ≤ B) := by
  obtain ⟨i, h1, h2, h3⟩ := ty40
  have := Grw.app (l := l.map evC) (m := m.map evC) und22 h1 zero40 (by rw [h2]; rfl) (by omega) (by rw [h2]; exact hg) (by rw [h2]; exact evs_size _) (by rw [h2]; exact evs_size _) hx.srcLen (by rw [h2]; exact hx.cells (evs_size _)) (evs_plain _)
    (by rw [h3, List.length_map, List.length_map]; omega) (by rw [List.length_map, List.length_map]; omega)
  simpa only [h2, List.map_append] using this

theorem joined {H : Hp} {s1 s2 : Value} {l m : List E3} (hs1 : SlR H s1 (2 + 1) (l.map evC)) (hs2 : SlR H s2 (2 + 1) (m.map evC)) (hm1 : ∀ x ∈ l, x.2.2 < 4294967296) (hm2 : ∀ x ∈ m, x.2.2 < 4294967296) (h4 : 4 ≤ H.nx) (ht : thereB H 0 gl = true) :
    wpF Tryz.prog orc 5 Tryz.f5 [s1, s2] H (fun v _ => v = .bool true) := by
  obtain ⟨o1, c1, hsl1⟩ := hs1.len
  obtain ⟨o2, c2, hsl2⟩ := hs2.len
  rw [List.length_map] at hsl1 hsl2
  refine xw_fun rfl (tm := (Tri.set (Tri.set Tri.leaf 0 s1) 1 s2)) rfl ?_
  have wa := awake_spec h4 ht
  cases a1 : decide ((200 : Int) < Int.ofNat l.length) with
  | true =>
    -- region 0
    repeat with_reducible refine xw_seq ?_
    refine xw_region ?_
    refine xw_val (by simp only [aopOf, evalT, aMove]; rfl) ?_  -- 0: t4 := assign false
    refine xw_nil ?_
    repeat first | with_reducible refine xw_next ?_ | with_reducible refine xw_pass ?_ | with_reducible refine xw_passr ?_ | with_reducible refine xw_bnorm ?_ | with_reducible refine xw_bret ?_ | with_reducible refine xw_hit ?_ | with_reducible refine xw_past rfl ?_
    -- region 1
    repeat with_reducible refine xw_seq ?_
    refine xw_region ?_
    refine xw_val (by simp only [aopOf, evalT, tput, tget_set, tget_leaf, Nat.reduceEqDiff, reduceIte, aMove, hsl1, hsl2]; rfl) ?_  -- 0: t11 := move t0
    refine xw_val (by simp only [aopOf, evalT, tput, tget_set, tget_leaf, Nat.reduceEqDiff, reduceIte, aCall, mapOps, hsl1, hsl2, abuiltin, bLen]; rfl) ?_  -- 1: t12 := call builtin len (t11) types [[]40#22]
    refine xw_val (by simp only [aopOf, evalT, tput, tget_set, tget_leaf, Nat.reduceEqDiff, reduceIte, aBin, opt1, a1, hsl1, hsl2, bi_gtr]; rfl) ?_  -- 2: t13 := binOp gtr Go.IntKind.i64#3 t12 200:i64
    refine xw_val (by simp only [aopOf, evalT, tput, tget_set, tget_leaf, Nat.reduceEqDiff, reduceIte, aMove, hsl1, hsl2]; rfl) ?_  -- 3: t14 := move t13
    refine xg_off (d0 := 14) (t' := true) rfl (by simp only [tput, tget_set, tget_leaf, Nat.reduceEqDiff, reduceIte, hsl1, hsl2] <;> rfl) rfl ?_  -- 4: move t1 IF 3=false
    refine xg_off (d0 := 14) (t' := true) rfl (by simp only [tput, tget_set, tget_leaf, Nat.reduceEqDiff, reduceIte, hsl1, hsl2] <;> rfl) rfl ?_  -- 5: call builtin len (t15) types [[]40#22] IF 3=false
    refine xg_off (d0 := 14) (t' := true) rfl (by simp only [tput, tget_set, tget_leaf, Nat.reduceEqDiff, reduceIte, hsl1, hsl2] <;> rfl) rfl ?_  -- 6: binOp gtr Go.IntKind.i64#3 t16 200:i64 IF 3=false
    refine xw_val (by simp only [aopOf, evalT, tput, tget_set, tget_leaf, Nat.reduceEqDiff, reduceIte, aPick, hsl1, hsl2, aPick]; rfl) ?_  -- 7: t18 := pick t14 ? true : t17
    refine xw_nil ?_
    repeat first | with_reducible refine xw_next ?_ | with_reducible refine xw_pass ?_ | with_reducible refine xw_passr ?_ | with_reducible refine xw_bnorm ?_ | with_reducible refine xw_bret ?_ | with_reducible refine xw_hit ?_ | with_reducible refine xw_past rfl ?_
    repeat with_reducible refine xw_seq ?_
    refine xw_then (by simp [tput, tget_set, hsl1, hsl2]) ?_  -- IF t18
    -- region 2
    repeat with_reducible refine xw_seq ?_
    refine xw_region ?_
    refine xw_call (by simp only [aopOf, evalT, aCall, mapOps]; rfl) wa ?_  -- 0: t19 := call F7:priory/priorylaw27.awake () types []
    rintro v hq hn ⟨rfl, hh⟩
    obtain rfl := hh.symm
    refine xw_val (by simp only [aopOf, evalT, tput, tget_set, tget_leaf, Nat.reduceEqDiff, reduceIte, aMove, hsl1, hsl2]; rfl) ?_  -- 1: t4 := assign t19
    refine xw_nil ?_
    repeat first | with_reducible refine xw_next ?_ | with_reducible refine xw_pass ?_ | with_reducible refine xw_passr ?_ | with_reducible refine xw_bnorm ?_ | with_reducible refine xw_bret ?_ | with_reducible refine xw_hit ?_ | with_reducible refine xw_past rfl ?_
    repeat with_reducible refine xw_seq ?_
    refine xw_ret ?_
    repeat first | with_reducible refine xw_next ?_ | with_reducible refine xw_pass ?_ | with_reducible refine xw_passr ?_ | with_reducible refine xw_bnorm ?_ | with_reducible refine xw_bret ?_ | with_reducible refine xw_hit ?_ | with_reducible refine xw_past rfl ?_
    refine xw_end (by simp only [resA, tput, tget_set, Nat.reduceEqDiff, reduceIte, Tryz.results5]; rfl) ?_
    exact rfl
  | false =>
  cases a2 : decide ((200 : Int) < Int.ofNat m.length) with
  | true =>
    -- region 0
    repeat with_reducible refine xw_seq ?_
    refine xw_region ?_
    refine xw_val (by simp only [aopOf, evalT, aMove]; rfl) ?_  -- 0: t4 := assign false
    refine xw_nil ?_
    repeat first | with_reducible refine xw_next ?_ | with_reducible refine xw_pass ?_ | with_reducible refine xw_passr ?_ | with_reducible refine xw_bnorm ?_ | with_reducible refine xw_bret ?_ | with_reducible refine xw_hit ?_ | with_reducible refine xw_past rfl ?_
    -- region 1
    repeat with_reducible refine xw_seq ?_
    refine xw_region ?_
    refine xw_val (by simp only [aopOf, evalT, tput, tget_set, tget_leaf, Nat.reduceEqDiff, reduceIte, aMove, hsl1, hsl2]; rfl) ?_  -- 0: t11 := move t0
    refine xw_val (by simp only [aopOf, evalT, tput, tget_set, tget_leaf, Nat.reduceEqDiff, reduceIte, aCall, mapOps, hsl1, hsl2, abuiltin, bLen]; rfl) ?_  -- 1: t12 := call builtin len (t11) types [[]40#22]
    refine xw_val (by simp only [aopOf, evalT, tput, tget_set, tget_leaf, Nat.reduceEqDiff, reduceIte, aBin, opt1, a1, hsl1, hsl2, bi_gtr]; rfl) ?_  -- 2: t13 := binOp gtr Go.IntKind.i64#3 t12 200:i64
    refine xw_val (by simp only [aopOf, evalT, tput, tget_set, tget_leaf, Nat.reduceEqDiff, reduceIte, aMove, hsl1, hsl2]; rfl) ?_  -- 3: t14 := move t13
    refine xg_val (d0 := 14) rfl (by simp only [tput, tget_set, tget_leaf, Nat.reduceEqDiff, reduceIte, hsl1, hsl2] <;> rfl) (by simp only [aopOf, evalT, tput, tget_set, tget_leaf, Nat.reduceEqDiff, reduceIte, aMove, hsl1, hsl2]; rfl) ?_  -- 4: move t1 IF 3=false
    refine xg_val (d0 := 14) rfl (by simp only [tput, tget_set, tget_leaf, Nat.reduceEqDiff, reduceIte, hsl1, hsl2] <;> rfl) (by simp only [aopOf, evalT, tput, tget_set, tget_leaf, Nat.reduceEqDiff, reduceIte, aCall, mapOps, hsl1, hsl2, abuiltin, bLen]; rfl) ?_  -- 5: call builtin len (t15) types [[]40#22] IF 3=false
    refine xg_val (d0 := 14) rfl (by simp only [tput, tget_set, tget_leaf, Nat.reduceEqDiff, reduceIte, hsl1, hsl2] <;> rfl) (by simp only [aopOf, evalT, tput, tget_set, tget_leaf, Nat.reduceEqDiff, reduceIte, aBin, opt1, a2, hsl1, hsl2, bi_gtr]; rfl) ?_  -- 6: binOp gtr Go.IntKind.i64#3 t16 200:i64 IF 3=false
    refine xw_val (by simp only [aopOf, evalT, tput, tget_set, tget_leaf, Nat.reduceEqDiff, reduceIte, aPick, hsl1, hsl2, aPick]; rfl) ?_  -- 7: t18 := pick t14 ? true : t17
    refine xw_nil ?_
    repeat first | with_reducible refine xw_next ?_ | with_reducible refine xw_pass ?_ | with_reducible refine xw_passr ?_ | with_reducible refine xw_bnorm ?_ | with_reducible refine xw_bret ?_ | with_reducible refine xw_hit ?_ | with_reducible refine xw_past rfl ?_
    repeat with_reducible refine xw_seq ?_
    refine xw_then (by simp [tput, tget_set, hsl1, hsl2]) ?_  -- IF t18
    -- region 2
    repeat with_reducible refine xw_seq ?_
    refine xw_region ?_
    refine xw_call (by simp only [aopOf, evalT, aCall, mapOps]; rfl) wa ?_  -- 0: t19 := call F7:priory/priorylaw27.awake () types []
    rintro v hq hn ⟨rfl, hh⟩
    obtain rfl := hh.symm
    refine xw_val (by simp only [aopOf, evalT, tput, tget_set, tget_leaf, Nat.reduceEqDiff, reduceIte, aMove, hsl1, hsl2]; rfl) ?_  -- 1: t4 := assign t19
    refine xw_nil ?_
    repeat first | with_reducible refine xw_next ?_ | with_reducible refine xw_pass ?_ | with_reducible refine xw_passr ?_ | with_reducible refine xw_bnorm ?_ | with_reducible refine xw_bret ?_ | with_reducible refine xw_hit ?_ | with_reducible refine xw_past rfl ?_
    repeat with_reducible refine xw_seq ?_
    refine xw_ret ?_
    repeat first | with_reducible refine xw_next ?_ | with_reducible refine xw_pass ?_ | with_reducible refine xw_passr ?_ | with_reducible refine xw_bnorm ?_ | with_reducible refine xw_bret ?_ | with_reducible refine xw_hit ?_ | with_reducible refine xw_past rfl ?_
    refine xw_end (by simp only [resA, tput, tget_set, Nat.reduceEqDiff, reduceIte, Tryz.results5]; rfl) ?_
    exact rfl
  | false =>
  have a1' : l.length ≤ 200 := by
    have := of_decide_eq_false a1
    have : (Int.ofNat l.length : Int) = (l.length : Int) := rfl
    omega
  have a2' : m.length ≤ 200 := by
    have := of_decide_eq_false a2
    have : (Int.ofNat m.length : Int) = (m.length : Int) := rfl
    omega
  have hlm : ∀ x ∈ l ++ m, x.2.2 < 4294967296 := fun x hx => (List.mem_append.mp hx).elim (hm1 x) (hm2 x)
  -- region 0
  repeat with_reducible refine xw_seq ?_
  refine xw_region ?_
  refine xw_val (by simp only [aopOf, evalT, aMove]; rfl) ?_  -- 0: t4 := assign false
  refine xw_nil ?_
  repeat first | with_reducible refine xw_next ?_ | with_reducible refine xw_pass ?_ | with_reducible refine xw_passr ?_ | with_reducible refine xw_bnorm ?_ | with_reducible refine xw_bret ?_ | with_reducible refine xw_hit ?_ | with_reducible refine xw_past rfl ?_
  -- region 1
  repeat with_reducible refine xw_seq ?_
  refine xw_region ?_
  refine xw_val (by simp only [aopOf, evalT, tput, tget_set, tget_leaf, Nat.reduceEqDiff, reduceIte, aMove, hsl1, hsl2]; rfl) ?_  -- 0: t11 := move t0
  refine xw_val (by simp only [aopOf, evalT, tput, tget_set, tget_leaf, Nat.reduceEqDiff, reduceIte, aCall, mapOps, hsl1, hsl2, abuiltin, bLen]; rfl) ?_  -- 1: t12 := call builtin len (t11) types [[]40#22]
  refine xw_val (by simp only [aopOf, evalT, tput, tget_set, tget_leaf, Nat.reduceEqDiff, reduceIte, aBin, opt1, a1, hsl1, hsl2, bi_gtr]; rfl) ?_  -- 2: t13 := binOp gtr Go.IntKind.i64#3 t12 200:i64
  refine xw_val (by simp only [aopOf, evalT, tput, tget_set, tget_leaf, Nat.reduceEqDiff, reduceIte, aMove, hsl1, hsl2]; rfl) ?_  -- 3: t14 := move t13
  refine xg_val (d0 := 14) rfl (by simp only [tput, tget_set, tget_leaf, Nat.reduceEqDiff, reduceIte, hsl1, hsl2] <;> rfl) (by simp only [aopOf, evalT, tput, tget_set, tget_leaf, Nat.reduceEqDiff, reduceIte, aMove, hsl1, hsl2]; rfl) ?_  -- 4: move t1 IF 3=false
  refine xg_val (d0 := 14) rfl (by simp only [tput, tget_set, tget_leaf, Nat.reduceEqDiff, reduceIte, hsl1, hsl2] <;> rfl) (by simp only [aopOf, evalT, tput, tget_set, tget_leaf, Nat.reduceEqDiff, reduceIte, aCall, mapOps, hsl1, hsl2, abuiltin, bLen]; rfl) ?_  -- 5: call builtin len (t15) types [[]40#22] IF 3=false
  refine xg_val (d0 := 14) rfl (by simp only [tput, tget_set, tget_leaf, Nat.reduceEqDiff, reduceIte, hsl1, hsl2] <;> rfl) (by simp only [aopOf, evalT, tput, tget_set, tget_leaf, Nat.reduceEqDiff, reduceIte, aBin, opt1, a2, hsl1, hsl2, bi_gtr]; rfl) ?_  -- 6: binOp gtr Go.IntKind.i64#3 t16 200:i64 IF 3=false
  refine xw_val (by simp only [aopOf, evalT, tput, tget_set, tget_leaf, Nat.reduceEqDiff, reduceIte, aPick, hsl1, hsl2, aPick]; rfl) ?_  -- 7: t18 := pick t14 ? true : t17
  refine xw_nil ?_
  repeat first | with_reducible refine xw_next ?_ | with_reducible refine xw_pass ?_ | with_reducible refine xw_passr ?_ | with_reducible refine xw_bnorm ?_ | with_reducible refine xw_bret ?_ | with_reducible refine xw_hit ?_ | with_reducible refine xw_past rfl ?_
  repeat with_reducible refine xw_seq ?_
  refine xw_else (by simp [tput, tget_set, hsl1, hsl2]) ?_  -- IF t18
  refine xw_skip ?_
  repeat first | with_reducible refine xw_next ?_ | with_reducible refine xw_pass ?_ | with_reducible refine xw_passr ?_ | with_reducible refine xw_bnorm ?_ | with_reducible refine xw_bret ?_ | with_reducible refine xw_hit ?_ | with_reducible refine xw_past rfl ?_
  have w1 := Put_spec hs1 hm1 (by omega) h4
  have hsum : (enc l).length + (enc m).length ≤ 2 ^ 40 := by rw [enc_length, enc_length]; omega
  have i0 : decide ((0 : Int) = 0) = true := by decide
  have i2 : decide ((2 : Int) = 2) = true := by decide
  have i2n : decide ((2 : Int) = 0) = false := by decide
  cases b1 : l.all okE with
  | false =>
    have v3 : putV (l ++ m) = .tuple #[str [], .int .i64 2] := putV_no (by rw [List.all_append, b1, Bool.false_and])
    cases b2 : m.all okE with
    | false =>
      rw [putV_no b1] at w1
      -- region 3
      repeat with_reducible refine xw_seq ?_
      refine xw_region ?_
      refine xw_val (by simp only [aopOf, evalT, tput, tget_set, tget_leaf, Nat.reduceEqDiff, reduceIte, aMove]; rfl) ?_  -- 0: t21 := move t0
      refine xw_call (by simp only [aopOf, evalT, tput, tget_set, tget_leaf, Nat.reduceEqDiff, reduceIte, aCall, mapOps]; rfl) w1 ?_  -- 1: t22 := call F8:priory/script.Put (t21) types [[]40#22]
      rintro v1 h1 hn1 ⟨rfl, hk1⟩
      refine xw_val (by simp only [aopOf, evalT, tput, tget_set, tget_leaf, Nat.reduceEqDiff, reduceIte, aMove]; rfl) ?_  -- 2: t20 := move t22
      refine xw_val (by simp only [aopOf, evalT, tput, tget_set, tget_leaf, Nat.reduceEqDiff, reduceIte, aExtract, aextract, opt1]; rfl) ?_  -- 3: t23 := extract t20 0
      refine xw_val (by simp only [aopOf, evalT, tput, tget_set, tget_leaf, Nat.reduceEqDiff, reduceIte, aExtract, aextract, opt1]; rfl) ?_  -- 4: t24 := extract t20 1
      refine xw_val (by simp only [aopOf, evalT, tput, tget_set, tget_leaf, Nat.reduceEqDiff, reduceIte, aMove]; rfl) ?_  -- 5: t5 := assign t23
      refine xw_val (by simp only [aopOf, evalT, tput, tget_set, tget_leaf, Nat.reduceEqDiff, reduceIte, aMove]; rfl) ?_  -- 6: t6 := assign t24
      refine xw_nil ?_
      repeat first | with_reducible refine xw_next ?_ | with_reducible refine xw_pass ?_ | with_reducible refine xw_passr ?_ | with_reducible refine xw_bnorm ?_ | with_reducible refine xw_bret ?_ | with_reducible refine xw_hit ?_ | with_reducible refine xw_past rfl ?_
      have w2 := Put_spec (hs2.keep hn1 hk1) hm2 (by omega) (by omega)
      rw [putV_no b2] at w2
      -- region 4
      repeat with_reducible refine xw_seq ?_
      refine xw_region ?_
      refine xw_val (by simp only [aopOf, evalT, tput, tget_set, tget_leaf, Nat.reduceEqDiff, reduceIte, aMove]; rfl) ?_  -- 0: t26 := move t1
      refine xw_call (by simp only [aopOf, evalT, tput, tget_set, tget_leaf, Nat.reduceEqDiff, reduceIte, aCall, mapOps]; rfl) w2 ?_  -- 1: t27 := call F8:priory/script.Put (t26) types [[]40#22]
      rintro v2 h2 hn2 ⟨rfl, hk2⟩
      refine xw_val (by simp only [aopOf, evalT, tput, tget_set, tget_leaf, Nat.reduceEqDiff, reduceIte, aMove]; rfl) ?_  -- 2: t25 := move t27
      refine xw_val (by simp only [aopOf, evalT, tput, tget_set, tget_leaf, Nat.reduceEqDiff, reduceIte, aExtract, aextract, opt1]; rfl) ?_  -- 3: t28 := extract t25 0
      refine xw_val (by simp only [aopOf, evalT, tput, tget_set, tget_leaf, Nat.reduceEqDiff, reduceIte, aExtract, aextract, opt1]; rfl) ?_  -- 4: t29 := extract t25 1
      refine xw_val (by simp only [aopOf, evalT, tput, tget_set, tget_leaf, Nat.reduceEqDiff, reduceIte, aMove]; rfl) ?_  -- 5: t7 := assign t28
      refine xw_val (by simp only [aopOf, evalT, tput, tget_set, tget_leaf, Nat.reduceEqDiff, reduceIte, aMove]; rfl) ?_  -- 6: t8 := assign t29
      refine xw_nil ?_
      repeat first | with_reducible refine xw_next ?_ | with_reducible refine xw_pass ?_ | with_reducible refine xw_passr ?_ | with_reducible refine xw_bnorm ?_ | with_reducible refine xw_bret ?_ | with_reducible refine xw_hit ?_ | with_reducible refine xw_past rfl ?_
      have hk12 : Keeps H h2 := hk1.trans hn1 hk2
      have hnx2 : H.nx ≤ h2.nx := Nat.le_trans hn1 hn2
      have hk3 : Keeps H (h2.new (.row [] 40 .exact)) := fun y hy => by
        rw [Hp.get_new, if_neg (by omega)]
        exact hk12 y hy
      have hnx3 : H.nx ≤ (h2.new (.row [] 40 .exact)).nx := by simp; omega
      obtain ⟨s4, h4x, ob4, hap4, hg4, hn4, hk4, hob4⟩ := app40 (l := []) (m := l) (ob := none) (s := .slice (some ⟨h2.nx, 0, none⟩) 0 0) (.inl ⟨rfl, rfl, .inr ⟨_, _, _, rfl, get_new_same _ _⟩⟩) (hs1.keep hnx3 hk3) (by simp; omega)
      rw [List.nil_append] at hg4
      have hk4' : Keeps H h4x := fun y hy => (hk4 y (by omega) (by simp)).trans (hk3 y hy)
      obtain ⟨s5, h5x, ob5, hap5, hg5, hn5, hk5, hob5⟩ := app40 hg4 (hs2.keep (by omega) hk4') (by omega)
      have hk5' : Keeps H h5x := fun y hy => (hk5 y (by omega) (fun h => by
        rcases hob4 y h with h | h
        · cases h
        · omega)).trans (hk4' y hy)
      have hb4 := bAppend_of (ts := #[22, 22]) rfl rfl und22 hap4
      have hb5 := bAppend_of (ts := #[22, 22]) rfl rfl und22 hap5
      have w3 := Put_spec (hg5.slr (evs_size _)) hlm (by simp; omega) (by omega)
      rw [v3] at w3
      -- region 5
      repeat with_reducible refine xw_seq ?_
      refine xw_region ?_
      refine xw_val (by simp only [aopOf, aBuildSlice, mapParts, und22, sz40x, zero40, empty40]; rfl) ?_  -- 0: t31 := buildSlice []40#22 0 []
      refine xw_val (by simp only [aopOf, evalT, tput, tget_set, tget_leaf, Nat.reduceEqDiff, reduceIte, aMove]; rfl) ?_  -- 1: t32 := move t0
      refine xw_val (by simp only [aopOf, evalT, tput, tget_set, tget_leaf, Nat.reduceEqDiff, reduceIte, aCall, mapOps, hb4, abuiltin]; rfl) ?_  -- 2: t33 := call builtin append (t31, t32) types [[]40#22, []40#22]
      refine xw_val (by simp only [aopOf, evalT, tput, tget_set, tget_leaf, Nat.reduceEqDiff, reduceIte, aMove]; rfl) ?_  -- 3: t34 := move t1
      refine xw_val (by simp only [aopOf, evalT, tput, tget_set, tget_leaf, Nat.reduceEqDiff, reduceIte, aCall, mapOps, hb5, abuiltin]; rfl) ?_  -- 4: t35 := call builtin append (t33, t34) types [[]40#22, []40#22]
      refine xw_call (by simp only [aopOf, evalT, tput, tget_set, tget_leaf, Nat.reduceEqDiff, reduceIte, aCall, mapOps]; rfl) w3 ?_  -- 5: t36 := call F8:priory/script.Put (t35) types [[]40#22]
      rintro v3 h6 hn6 ⟨rfl, hk6⟩
      refine xw_val (by simp only [aopOf, evalT, tput, tget_set, tget_leaf, Nat.reduceEqDiff, reduceIte, aMove]; rfl) ?_  -- 6: t30 := move t36
      refine xw_val (by simp only [aopOf, evalT, tput, tget_set, tget_leaf, Nat.reduceEqDiff, reduceIte, aExtract, aextract, opt1]; rfl) ?_  -- 7: t37 := extract t30 0
      refine xw_val (by simp only [aopOf, evalT, tput, tget_set, tget_leaf, Nat.reduceEqDiff, reduceIte, aExtract, aextract, opt1]; rfl) ?_  -- 8: t38 := extract t30 1
      refine xw_val (by simp only [aopOf, evalT, tput, tget_set, tget_leaf, Nat.reduceEqDiff, reduceIte, aMove]; rfl) ?_  -- 9: t9 := assign t37
      refine xw_val (by simp only [aopOf, evalT, tput, tget_set, tget_leaf, Nat.reduceEqDiff, reduceIte, aMove]; rfl) ?_  -- 10: t10 := assign t38
      refine xw_nil ?_
      repeat first | with_reducible refine xw_next ?_ | with_reducible refine xw_pass ?_ | with_reducible refine xw_passr ?_ | with_reducible refine xw_bnorm ?_ | with_reducible refine xw_bret ?_ | with_reducible refine xw_hit ?_ | with_reducible refine xw_past rfl ?_
      have hk6' : Keeps H h6 := fun y hy => (hk6 y (by omega)).trans (hk5' y hy)
      have wb := awake_spec (H := h6) (by omega) (there_keep h4 hk6' ht)
      -- region 6
      repeat with_reducible refine xw_seq ?_
      refine xw_region ?_
      refine xw_val (by simp only [aopOf, evalT, tput, tget_set, tget_leaf, Nat.reduceEqDiff, reduceIte, aMove]; rfl) ?_  -- 0: t39 := move t6
      refine xw_val (by simp only [aopOf, evalT, tput, tget_set, tget_leaf, Nat.reduceEqDiff, reduceIte, aBin, opt1, i2n, bi_neq]; rfl) ?_  -- 1: t40 := binOp neq priory/api.Errno#24 t39 0:i64
      refine xw_val (by simp only [aopOf, evalT, tput, tget_set, tget_leaf, Nat.reduceEqDiff, reduceIte, aMove]; rfl) ?_  -- 2: t41 := move t40
      refine xg_off (d0 := 41) (t' := true) rfl (by simp only [tput, tget_set, tget_leaf, Nat.reduceEqDiff, reduceIte] <;> rfl) rfl ?_  -- 3: move t8 IF 2=false
      refine xg_off (d0 := 41) (t' := true) rfl (by simp only [tput, tget_set, tget_leaf, Nat.reduceEqDiff, reduceIte] <;> rfl) rfl ?_  -- 4: binOp neq priory/api.Errno#24 t42 0:i64 IF 2=false
      refine xw_val (by simp only [aopOf, evalT, tput, tget_set, tget_leaf, Nat.reduceEqDiff, reduceIte, aPick, aPick]; rfl) ?_  -- 5: t44 := pick t41 ? true : t43
      refine xw_nil ?_
      repeat first | with_reducible refine xw_next ?_ | with_reducible refine xw_pass ?_ | with_reducible refine xw_passr ?_ | with_reducible refine xw_bnorm ?_ | with_reducible refine xw_bret ?_ | with_reducible refine xw_hit ?_ | with_reducible refine xw_past rfl ?_
      repeat with_reducible refine xw_seq ?_
      refine xw_then (by simp [tput, tget_set]) ?_  -- IF t44
      -- region 7
      repeat with_reducible refine xw_seq ?_
      refine xw_region ?_
      refine xw_val (by simp only [aopOf, evalT, tput, tget_set, tget_leaf, Nat.reduceEqDiff, reduceIte, aMove]; rfl) ?_  -- 0: t45 := move t10
      refine xw_val (by simp only [aopOf, evalT, tput, tget_set, tget_leaf, Nat.reduceEqDiff, reduceIte, decide_true, aBin, opt1, bi_eql]; rfl) ?_  -- 1: t46 := binOp eql priory/api.Errno#24 t45 2:i64
      refine xw_val (by simp only [aopOf, evalT, tput, tget_set, tget_leaf, Nat.reduceEqDiff, reduceIte, aMove]; rfl) ?_  -- 2: t47 := move t46
      refine xg_val (d0 := 47) rfl (by simp only [tput, tget_set, tget_leaf, Nat.reduceEqDiff, reduceIte] <;> rfl) (by simp only [aopOf, evalT, tput, tget_set, tget_leaf, Nat.reduceEqDiff, reduceIte, aMove]; rfl) ?_  -- 3: move t9 IF 2=true
      refine xg_val (d0 := 47) rfl (by simp only [tput, tget_set, tget_leaf, Nat.reduceEqDiff, reduceIte] <;> rfl) (by simp only [aopOf, evalT, tput, tget_set, tget_leaf, Nat.reduceEqDiff, reduceIte, aBin, opt1, eqe]; rfl) ?_  -- 4: binOp eql string#9 t48 "" IF 2=true
      refine xw_val (by simp only [aopOf, evalT, tput, tget_set, tget_leaf, Nat.reduceEqDiff, reduceIte, aPick, aPick]; rfl) ?_  -- 5: t50 := pick t47 ? t49 : false
      refine xw_val (by simp only [aopOf, evalT, tput, tget_set, tget_leaf, Nat.reduceEqDiff, reduceIte, aMove]; rfl) ?_  -- 6: t51 := move t50
      refine xg_call (d0 := 51) rfl (by simp only [tput, tget_set, tget_leaf, Nat.reduceEqDiff, reduceIte] <;> rfl) (by simp only [aopOf, evalT, aCall, mapOps]; rfl) wb ?_  -- 7: call F7:priory/priorylaw27.awake () types [] IF 6=true
      rintro v hq hn ⟨rfl, hh⟩
      obtain rfl := hh.symm
      refine xw_val (by simp only [aopOf, evalT, tput, tget_set, tget_leaf, Nat.reduceEqDiff, reduceIte, aPick, aPick]; rfl) ?_  -- 8: t53 := pick t51 ? t52 : false
      refine xw_val (by simp only [aopOf, evalT, tput, tget_set, tget_leaf, Nat.reduceEqDiff, reduceIte, aMove]; rfl) ?_  -- 9: t4 := assign t53
      refine xw_nil ?_
      repeat first | with_reducible refine xw_next ?_ | with_reducible refine xw_pass ?_ | with_reducible refine xw_passr ?_ | with_reducible refine xw_bnorm ?_ | with_reducible refine xw_bret ?_ | with_reducible refine xw_hit ?_ | with_reducible refine xw_past rfl ?_
      repeat with_reducible refine xw_seq ?_
      refine xw_ret ?_
      repeat first | with_reducible refine xw_next ?_ | with_reducible refine xw_pass ?_ | with_reducible refine xw_passr ?_ | with_reducible refine xw_bnorm ?_ | with_reducible refine xw_bret ?_ | with_reducible refine xw_hit ?_ | with_reducible refine xw_past rfl ?_
      refine xw_end (by simp only [resA, tput, tget_set, Nat.reduceEqDiff, reduceIte, Tryz.results5]; rfl) ?_
      exact rfl
    | true =>
      rw [putV_no b1] at w1
      -- region 3
      repeat with_reducible refine xw_seq ?_
      refine xw_region ?_
      refine xw_val (by simp only [aopOf, evalT, tput, tget_set, tget_leaf, Nat.reduceEqDiff, reduceIte, aMove]; rfl) ?_  -- 0: t21 := move t0
      refine xw_call (by simp only [aopOf, evalT, tput, tget_set, tget_leaf, Nat.reduceEqDiff, reduceIte, aCall, mapOps]; rfl) w1 ?_  -- 1: t22 := call F8:priory/script.Put (t21) types [[]40#22]
      rintro v1 h1 hn1 ⟨rfl, hk1⟩
      refine xw_val (by simp only [aopOf, evalT, tput, tget_set, tget_leaf, Nat.reduceEqDiff, reduceIte, aMove]; rfl) ?_  -- 2: t20 := move t22
      refine xw_val (by simp only [aopOf, evalT, tput, tget_set, tget_leaf, Nat.reduceEqDiff, reduceIte, aExtract, aextract, opt1]; rfl) ?_  -- 3: t23 := extract t20 0
      refine xw_val (by simp only [aopOf, evalT, tput, tget_set, tget_leaf, Nat.reduceEqDiff, reduceIte, aExtract, aextract, opt1]; rfl) ?_  -- 4: t24 := extract t20 1
      refine xw_val (by simp only [aopOf, evalT, tput, tget_set, tget_leaf, Nat.reduceEqDiff, reduceIte, aMove]; rfl) ?_  -- 5: t5 := assign t23
      refine xw_val (by simp only [aopOf, evalT, tput, tget_set, tget_leaf, Nat.reduceEqDiff, reduceIte, aMove]; rfl) ?_  -- 6: t6 := assign t24
      refine xw_nil ?_
      repeat first | with_reducible refine xw_next ?_ | with_reducible refine xw_pass ?_ | with_reducible refine xw_passr ?_ | with_reducible refine xw_bnorm ?_ | with_reducible refine xw_bret ?_ | with_reducible refine xw_hit ?_ | with_reducible refine xw_past rfl ?_
      have w2 := Put_spec (hs2.keep hn1 hk1) hm2 (by omega) (by omega)
      rw [putV_ok b2] at w2
      -- region 4
      repeat with_reducible refine xw_seq ?_
      refine xw_region ?_
      refine xw_val (by simp only [aopOf, evalT, tput, tget_set, tget_leaf, Nat.reduceEqDiff, reduceIte, aMove]; rfl) ?_  -- 0: t26 := move t1
      refine xw_call (by simp only [aopOf, evalT, tput, tget_set, tget_leaf, Nat.reduceEqDiff, reduceIte, aCall, mapOps]; rfl) w2 ?_  -- 1: t27 := call F8:priory/script.Put (t26) types [[]40#22]
      rintro v2 h2 hn2 ⟨rfl, hk2⟩
      refine xw_val (by simp only [aopOf, evalT, tput, tget_set, tget_leaf, Nat.reduceEqDiff, reduceIte, aMove]; rfl) ?_  -- 2: t25 := move t27
      refine xw_val (by simp only [aopOf, evalT, tput, tget_set, tget_leaf, Nat.reduceEqDiff, reduceIte, aExtract, aextract, opt1]; rfl) ?_  -- 3: t28 := extract t25 0
      refine xw_val (by simp only [aopOf, evalT, tput, tget_set, tget_leaf, Nat.reduceEqDiff, reduceIte, aExtract, aextract, opt1]; rfl) ?_  -- 4: t29 := extract t25 1
      refine xw_val (by simp only [aopOf, evalT, tput, tget_set, tget_leaf, Nat.reduceEqDiff, reduceIte, aMove]; rfl) ?_  -- 5: t7 := assign t28
      refine xw_val (by simp only [aopOf, evalT, tput, tget_set, tget_leaf, Nat.reduceEqDiff, reduceIte, aMove]; rfl) ?_  -- 6: t8 := assign t29
      refine xw_nil ?_
      repeat first | with_reducible refine xw_next ?_ | with_reducible refine xw_pass ?_ | with_reducible refine xw_passr ?_ | with_reducible refine xw_bnorm ?_ | with_reducible refine xw_bret ?_ | with_reducible refine xw_hit ?_ | with_reducible refine xw_past rfl ?_
      have hk12 : Keeps H h2 := hk1.trans hn1 hk2
      have hnx2 : H.nx ≤ h2.nx := Nat.le_trans hn1 hn2
      have hk3 : Keeps H (h2.new (.row [] 40 .exact)) := fun y hy => by
        rw [Hp.get_new, if_neg (by omega)]
        exact hk12 y hy
      have hnx3 : H.nx ≤ (h2.new (.row [] 40 .exact)).nx := by simp; omega
      obtain ⟨s4, h4x, ob4, hap4, hg4, hn4, hk4, hob4⟩ := app40 (l := []) (m := l) (ob := none) (s := .slice (some ⟨h2.nx, 0, none⟩) 0 0) (.inl ⟨rfl, rfl, .inr ⟨_, _, _, rfl, get_new_same _ _⟩⟩) (hs1.keep hnx3 hk3) (by simp; omega)
      rw [List.nil_append] at hg4
      have hk4' : Keeps H h4x := fun y hy => (hk4 y (by omega) (by simp)).trans (hk3 y hy)
      obtain ⟨s5, h5x, ob5, hap5, hg5, hn5, hk5, hob5⟩ := app40 hg4 (hs2.keep (by omega) hk4') (by omega)
      have hk5' : Keeps H h5x := fun y hy => (hk5 y (by omega) (fun h => by
        rcases hob4 y h with h | h
        · cases h
        · omega)).trans (hk4' y hy)
      have hb4 := bAppend_of (ts := #[22, 22]) rfl rfl und22 hap4
      have hb5 := bAppend_of (ts := #[22, 22]) rfl rfl und22 hap5
      have w3 := Put_spec (hg5.slr (evs_size _)) hlm (by simp; omega) (by omega)
      rw [v3] at w3
      -- region 5
      repeat with_reducible refine xw_seq ?_
      refine xw_region ?_
      refine xw_val (by simp only [aopOf, aBuildSlice, mapParts, und22, sz40x, zero40, empty40]; rfl) ?_  -- 0: t31 := buildSlice []40#22 0 []
      refine xw_val (by simp only [aopOf, evalT, tput, tget_set, tget_leaf, Nat.reduceEqDiff, reduceIte, aMove]; rfl) ?_  -- 1: t32 := move t0
      refine xw_val (by simp only [aopOf, evalT, tput, tget_set, tget_leaf, Nat.reduceEqDiff, reduceIte, aCall, mapOps, hb4, abuiltin]; rfl) ?_  -- 2: t33 := call builtin append (t31, t32) types [[]40#22, []40#22]
      refine xw_val (by simp only [aopOf, evalT, tput, tget_set, tget_leaf, Nat.reduceEqDiff, reduceIte, aMove]; rfl) ?_  -- 3: t34 := move t1
      refine xw_val (by simp only [aopOf, evalT, tput, tget_set, tget_leaf, Nat.reduceEqDiff, reduceIte, aCall, mapOps, hb5, abuiltin]; rfl) ?_  -- 4: t35 := call builtin append (t33, t34) types [[]40#22, []40#22]
      refine xw_call (by simp only [aopOf, evalT, tput, tget_set, tget_leaf, Nat.reduceEqDiff, reduceIte, aCall, mapOps]; rfl) w3 ?_  -- 5: t36 := call F8:priory/script.Put (t35) types [[]40#22]
      rintro v3 h6 hn6 ⟨rfl, hk6⟩
      refine xw_val (by simp only [aopOf, evalT, tput, tget_set, tget_leaf, Nat.reduceEqDiff, reduceIte, aMove]; rfl) ?_  -- 6: t30 := move t36
      refine xw_val (by simp only [aopOf, evalT, tput, tget_set, tget_leaf, Nat.reduceEqDiff, reduceIte, aExtract, aextract, opt1]; rfl) ?_  -- 7: t37 := extract t30 0
      refine xw_val (by simp only [aopOf, evalT, tput, tget_set, tget_leaf, Nat.reduceEqDiff, reduceIte, aExtract, aextract, opt1]; rfl) ?_  -- 8: t38 := extract t30 1
      refine xw_val (by simp only [aopOf, evalT, tput, tget_set, tget_leaf, Nat.reduceEqDiff, reduceIte, aMove]; rfl) ?_  -- 9: t9 := assign t37
      refine xw_val (by simp only [aopOf, evalT, tput, tget_set, tget_leaf, Nat.reduceEqDiff, reduceIte, aMove]; rfl) ?_  -- 10: t10 := assign t38
      refine xw_nil ?_
      repeat first | with_reducible refine xw_next ?_ | with_reducible refine xw_pass ?_ | with_reducible refine xw_passr ?_ | with_reducible refine xw_bnorm ?_ | with_reducible refine xw_bret ?_ | with_reducible refine xw_hit ?_ | with_reducible refine xw_past rfl ?_
      have hk6' : Keeps H h6 := fun y hy => (hk6 y (by omega)).trans (hk5' y hy)
      have wb := awake_spec (H := h6) (by omega) (there_keep h4 hk6' ht)
      -- region 6
      repeat with_reducible refine xw_seq ?_
      refine xw_region ?_
      refine xw_val (by simp only [aopOf, evalT, tput, tget_set, tget_leaf, Nat.reduceEqDiff, reduceIte, aMove]; rfl) ?_  -- 0: t39 := move t6
      refine xw_val (by simp only [aopOf, evalT, tput, tget_set, tget_leaf, Nat.reduceEqDiff, reduceIte, aBin, opt1, i2n, bi_neq]; rfl) ?_  -- 1: t40 := binOp neq priory/api.Errno#24 t39 0:i64
      refine xw_val (by simp only [aopOf, evalT, tput, tget_set, tget_leaf, Nat.reduceEqDiff, reduceIte, aMove]; rfl) ?_  -- 2: t41 := move t40
      refine xg_off (d0 := 41) (t' := true) rfl (by simp only [tput, tget_set, tget_leaf, Nat.reduceEqDiff, reduceIte] <;> rfl) rfl ?_  -- 3: move t8 IF 2=false
      refine xg_off (d0 := 41) (t' := true) rfl (by simp only [tput, tget_set, tget_leaf, Nat.reduceEqDiff, reduceIte] <;> rfl) rfl ?_  -- 4: binOp neq priory/api.Errno#24 t42 0:i64 IF 2=false
      refine xw_val (by simp only [aopOf, evalT, tput, tget_set, tget_leaf, Nat.reduceEqDiff, reduceIte, aPick, aPick]; rfl) ?_  -- 5: t44 := pick t41 ? true : t43
      refine xw_nil ?_
      repeat first | with_reducible refine xw_next ?_ | with_reducible refine xw_pass ?_ | with_reducible refine xw_passr ?_ | with_reducible refine xw_bnorm ?_ | with_reducible refine xw_bret ?_ | with_reducible refine xw_hit ?_ | with_reducible refine xw_past rfl ?_
      repeat with_reducible refine xw_seq ?_
      refine xw_then (by simp [tput, tget_set]) ?_  -- IF t44
      -- region 7
      repeat with_reducible refine xw_seq ?_
      refine xw_region ?_
      refine xw_val (by simp only [aopOf, evalT, tput, tget_set, tget_leaf, Nat.reduceEqDiff, reduceIte, aMove]; rfl) ?_  -- 0: t45 := move t10
      refine xw_val (by simp only [aopOf, evalT, tput, tget_set, tget_leaf, Nat.reduceEqDiff, reduceIte, decide_true, aBin, opt1, bi_eql]; rfl) ?_  -- 1: t46 := binOp eql priory/api.Errno#24 t45 2:i64
      refine xw_val (by simp only [aopOf, evalT, tput, tget_set, tget_leaf, Nat.reduceEqDiff, reduceIte, aMove]; rfl) ?_  -- 2: t47 := move t46
      refine xg_val (d0 := 47) rfl (by simp only [tput, tget_set, tget_leaf, Nat.reduceEqDiff, reduceIte] <;> rfl) (by simp only [aopOf, evalT, tput, tget_set, tget_leaf, Nat.reduceEqDiff, reduceIte, aMove]; rfl) ?_  -- 3: move t9 IF 2=true
      refine xg_val (d0 := 47) rfl (by simp only [tput, tget_set, tget_leaf, Nat.reduceEqDiff, reduceIte] <;> rfl) (by simp only [aopOf, evalT, tput, tget_set, tget_leaf, Nat.reduceEqDiff, reduceIte, aBin, opt1, eqe]; rfl) ?_  -- 4: binOp eql string#9 t48 "" IF 2=true
      refine xw_val (by simp only [aopOf, evalT, tput, tget_set, tget_leaf, Nat.reduceEqDiff, reduceIte, aPick, aPick]; rfl) ?_  -- 5: t50 := pick t47 ? t49 : false
      refine xw_val (by simp only [aopOf, evalT, tput, tget_set, tget_leaf, Nat.reduceEqDiff, reduceIte, aMove]; rfl) ?_  -- 6: t51 := move t50
      refine xg_call (d0 := 51) rfl (by simp only [tput, tget_set, tget_leaf, Nat.reduceEqDiff, reduceIte] <;> rfl) (by simp only [aopOf, evalT, aCall, mapOps]; rfl) wb ?_  -- 7: call F7:priory/priorylaw27.awake () types [] IF 6=true
      rintro v hq hn ⟨rfl, hh⟩
      obtain rfl := hh.symm
      refine xw_val (by simp only [aopOf, evalT, tput, tget_set, tget_leaf, Nat.reduceEqDiff, reduceIte, aPick, aPick]; rfl) ?_  -- 8: t53 := pick t51 ? t52 : false
      refine xw_val (by simp only [aopOf, evalT, tput, tget_set, tget_leaf, Nat.reduceEqDiff, reduceIte, aMove]; rfl) ?_  -- 9: t4 := assign t53
      refine xw_nil ?_
      repeat first | with_reducible refine xw_next ?_ | with_reducible refine xw_pass ?_ | with_reducible refine xw_passr ?_ | with_reducible refine xw_bnorm ?_ | with_reducible refine xw_bret ?_ | with_reducible refine xw_hit ?_ | with_reducible refine xw_past rfl ?_
      repeat with_reducible refine xw_seq ?_
      refine xw_ret ?_
      repeat first | with_reducible refine xw_next ?_ | with_reducible refine xw_pass ?_ | with_reducible refine xw_passr ?_ | with_reducible refine xw_bnorm ?_ | with_reducible refine xw_bret ?_ | with_reducible refine xw_hit ?_ | with_reducible refine xw_past rfl ?_
      refine xw_end (by simp only [resA, tput, tget_set, Nat.reduceEqDiff, reduceIte, Tryz.results5]; rfl) ?_
      exact rfl
  | true =>
    cases b2 : m.all okE with
    | false =>
      have v3 : putV (l ++ m) = .tuple #[str [], .int .i64 2] := putV_no (by rw [List.all_append, b2, Bool.and_false])
      rw [putV_ok b1] at w1
      -- region 3
      repeat with_reducible refine xw_seq ?_
      refine xw_region ?_
      refine xw_val (by simp only [aopOf, evalT, tput, tget_set, tget_leaf, Nat.reduceEqDiff, reduceIte, aMove]; rfl) ?_  -- 0: t21 := move t0
      refine xw_call (by simp only [aopOf, evalT, tput, tget_set, tget_leaf, Nat.reduceEqDiff, reduceIte, aCall, mapOps]; rfl) w1 ?_  -- 1: t22 := call F8:priory/script.Put (t21) types [[]40#22]
      rintro v1 h1 hn1 ⟨rfl, hk1⟩
      refine xw_val (by simp only [aopOf, evalT, tput, tget_set, tget_leaf, Nat.reduceEqDiff, reduceIte, aMove]; rfl) ?_  -- 2: t20 := move t22
      refine xw_val (by simp only [aopOf, evalT, tput, tget_set, tget_leaf, Nat.reduceEqDiff, reduceIte, aExtract, aextract, opt1]; rfl) ?_  -- 3: t23 := extract t20 0
      refine xw_val (by simp only [aopOf, evalT, tput, tget_set, tget_leaf, Nat.reduceEqDiff, reduceIte, aExtract, aextract, opt1]; rfl) ?_  -- 4: t24 := extract t20 1
      refine xw_val (by simp only [aopOf, evalT, tput, tget_set, tget_leaf, Nat.reduceEqDiff, reduceIte, aMove]; rfl) ?_  -- 5: t5 := assign t23
      refine xw_val (by simp only [aopOf, evalT, tput, tget_set, tget_leaf, Nat.reduceEqDiff, reduceIte, aMove]; rfl) ?_  -- 6: t6 := assign t24
      refine xw_nil ?_
      repeat first | with_reducible refine xw_next ?_ | with_reducible refine xw_pass ?_ | with_reducible refine xw_passr ?_ | with_reducible refine xw_bnorm ?_ | with_reducible refine xw_bret ?_ | with_reducible refine xw_hit ?_ | with_reducible refine xw_past rfl ?_
      have w2 := Put_spec (hs2.keep hn1 hk1) hm2 (by omega) (by omega)
      rw [putV_no b2] at w2
      -- region 4
      repeat with_reducible refine xw_seq ?_
      refine xw_region ?_
      refine xw_val (by simp only [aopOf, evalT, tput, tget_set, tget_leaf, Nat.reduceEqDiff, reduceIte, aMove]; rfl) ?_  -- 0: t26 := move t1
      refine xw_call (by simp only [aopOf, evalT, tput, tget_set, tget_leaf, Nat.reduceEqDiff, reduceIte, aCall, mapOps]; rfl) w2 ?_  -- 1: t27 := call F8:priory/script.Put (t26) types [[]40#22]
      rintro v2 h2 hn2 ⟨rfl, hk2⟩
      refine xw_val (by simp only [aopOf, evalT, tput, tget_set, tget_leaf, Nat.reduceEqDiff, reduceIte, aMove]; rfl) ?_  -- 2: t25 := move t27
      refine xw_val (by simp only [aopOf, evalT, tput, tget_set, tget_leaf, Nat.reduceEqDiff, reduceIte, aExtract, aextract, opt1]; rfl) ?_  -- 3: t28 := extract t25 0
      refine xw_val (by simp only [aopOf, evalT, tput, tget_set, tget_leaf, Nat.reduceEqDiff, reduceIte, aExtract, aextract, opt1]; rfl) ?_  -- 4: t29 := extract t25 1
      refine xw_val (by simp only [aopOf, evalT, tput, tget_set, tget_leaf, Nat.reduceEqDiff, reduceIte, aMove]; rfl) ?_  -- 5: t7 := assign t28
      refine xw_val (by simp only [aopOf, evalT, tput, tget_set, tget_leaf, Nat.reduceEqDiff, reduceIte, aMove]; rfl) ?_  -- 6: t8 := assign t29
      refine xw_nil ?_
      repeat first | with_reducible refine xw_next ?_ | with_reducible refine xw_pass ?_ | with_reducible refine xw_passr ?_ | with_reducible refine xw_bnorm ?_ | with_reducible refine xw_bret ?_ | with_reducible refine xw_hit ?_ | with_reducible refine xw_past rfl ?_
      have hk12 : Keeps H h2 := hk1.trans hn1 hk2
      have hnx2 : H.nx ≤ h2.nx := Nat.le_trans hn1 hn2
      have hk3 : Keeps H (h2.new (.row [] 40 .exact)) := fun y hy => by
        rw [Hp.get_new, if_neg (by omega)]
        exact hk12 y hy
      have hnx3 : H.nx ≤ (h2.new (.row [] 40 .exact)).nx := by simp; omega
      obtain ⟨s4, h4x, ob4, hap4, hg4, hn4, hk4, hob4⟩ := app40 (l := []) (m := l) (ob := none) (s := .slice (some ⟨h2.nx, 0, none⟩) 0 0) (.inl ⟨rfl, rfl, .inr ⟨_, _, _, rfl, get_new_same _ _⟩⟩) (hs1.keep hnx3 hk3) (by simp; omega)
      rw [List.nil_append] at hg4
      have hk4' : Keeps H h4x := fun y hy => (hk4 y (by omega) (by simp)).trans (hk3 y hy)
      obtain ⟨s5, h5x, ob5, hap5, hg5, hn5, hk5, hob5⟩ := app40 hg4 (hs2.keep (by omega) hk4') (by omega)
      have hk5' : Keeps H h5x := fun y hy => (hk5 y (by omega) (fun h => by
        rcases hob4 y h with h | h
        · cases h
        · omega)).trans (hk4' y hy)
      have hb4 := bAppend_of (ts := #[22, 22]) rfl rfl und22 hap4
      have hb5 := bAppend_of (ts := #[22, 22]) rfl rfl und22 hap5
      have w3 := Put_spec (hg5.slr (evs_size _)) hlm (by simp; omega) (by omega)
      rw [v3] at w3
      -- region 5
      repeat with_reducible refine xw_seq ?_
      refine xw_region ?_
      refine xw_val (by simp only [aopOf, aBuildSlice, mapParts, und22, sz40x, zero40, empty40]; rfl) ?_  -- 0: t31 := buildSlice []40#22 0 []
      refine xw_val (by simp only [aopOf, evalT, tput, tget_set, tget_leaf, Nat.reduceEqDiff, reduceIte, aMove]; rfl) ?_  -- 1: t32 := move t0
      refine xw_val (by simp only [aopOf, evalT, tput, tget_set, tget_leaf, Nat.reduceEqDiff, reduceIte, aCall, mapOps, hb4, abuiltin]; rfl) ?_  -- 2: t33 := call builtin append (t31, t32) types [[]40#22, []40#22]
      refine xw_val (by simp only [aopOf, evalT, tput, tget_set, tget_leaf, Nat.reduceEqDiff, reduceIte, aMove]; rfl) ?_  -- 3: t34 := move t1
      refine xw_val (by simp only [aopOf, evalT, tput, tget_set, tget_leaf, Nat.reduceEqDiff, reduceIte, aCall, mapOps, hb5, abuiltin]; rfl) ?_  -- 4: t35 := call builtin append (t33, t34) types [[]40#22, []40#22]
      refine xw_call (by simp only [aopOf, evalT, tput, tget_set, tget_leaf, Nat.reduceEqDiff, reduceIte, aCall, mapOps]; rfl) w3 ?_  -- 5: t36 := call F8:priory/script.Put (t35) types [[]40#22]
      rintro v3 h6 hn6 ⟨rfl, hk6⟩
      refine xw_val (by simp only [aopOf, evalT, tput, tget_set, tget_leaf, Nat.reduceEqDiff, reduceIte, aMove]; rfl) ?_  -- 6: t30 := move t36
      refine xw_val (by simp only [aopOf, evalT, tput, tget_set, tget_leaf, Nat.reduceEqDiff, reduceIte, aExtract, aextract, opt1]; rfl) ?_  -- 7: t37 := extract t30 0
      refine xw_val (by simp only [aopOf, evalT, tput, tget_set, tget_leaf, Nat.reduceEqDiff, reduceIte, aExtract, aextract, opt1]; rfl) ?_  -- 8: t38 := extract t30 1
      refine xw_val (by simp only [aopOf, evalT, tput, tget_set, tget_leaf, Nat.reduceEqDiff, reduceIte, aMove]; rfl) ?_  -- 9: t9 := assign t37
      refine xw_val (by simp only [aopOf, evalT, tput, tget_set, tget_leaf, Nat.reduceEqDiff, reduceIte, aMove]; rfl) ?_  -- 10: t10 := assign t38
      refine xw_nil ?_
      repeat first | with_reducible refine xw_next ?_ | with_reducible refine xw_pass ?_ | with_reducible refine xw_passr ?_ | with_reducible refine xw_bnorm ?_ | with_reducible refine xw_bret ?_ | with_reducible refine xw_hit ?_ | with_reducible refine xw_past rfl ?_
      have hk6' : Keeps H h6 := fun y hy => (hk6 y (by omega)).trans (hk5' y hy)
      have wb := awake_spec (H := h6) (by omega) (there_keep h4 hk6' ht)
      -- region 6
      repeat with_reducible refine xw_seq ?_
      refine xw_region ?_
      refine xw_val (by simp only [aopOf, evalT, tput, tget_set, tget_leaf, Nat.reduceEqDiff, reduceIte, aMove]; rfl) ?_  -- 0: t39 := move t6
      refine xw_val (by simp only [aopOf, evalT, tput, tget_set, tget_leaf, Nat.reduceEqDiff, reduceIte, decide_true, aBin, opt1, bi_neq]; rfl) ?_  -- 1: t40 := binOp neq priory/api.Errno#24 t39 0:i64
      refine xw_val (by simp only [aopOf, evalT, tput, tget_set, tget_leaf, Nat.reduceEqDiff, reduceIte, aMove]; rfl) ?_  -- 2: t41 := move t40
      refine xg_val (d0 := 41) rfl (by simp only [tput, tget_set, tget_leaf, Nat.reduceEqDiff, reduceIte] <;> rfl) (by simp only [aopOf, evalT, tput, tget_set, tget_leaf, Nat.reduceEqDiff, reduceIte, aMove]; rfl) ?_  -- 3: move t8 IF 2=false
      refine xg_val (d0 := 41) rfl (by simp only [tput, tget_set, tget_leaf, Nat.reduceEqDiff, reduceIte] <;> rfl) (by simp only [aopOf, evalT, tput, tget_set, tget_leaf, Nat.reduceEqDiff, reduceIte, aBin, opt1, i2n, bi_neq]; rfl) ?_  -- 4: binOp neq priory/api.Errno#24 t42 0:i64 IF 2=false
      refine xw_val (by simp only [aopOf, evalT, tput, tget_set, tget_leaf, Nat.reduceEqDiff, reduceIte, aPick, aPick]; rfl) ?_  -- 5: t44 := pick t41 ? true : t43
      refine xw_nil ?_
      repeat first | with_reducible refine xw_next ?_ | with_reducible refine xw_pass ?_ | with_reducible refine xw_passr ?_ | with_reducible refine xw_bnorm ?_ | with_reducible refine xw_bret ?_ | with_reducible refine xw_hit ?_ | with_reducible refine xw_past rfl ?_
      repeat with_reducible refine xw_seq ?_
      refine xw_then (by simp [tput, tget_set]) ?_  -- IF t44
      -- region 7
      repeat with_reducible refine xw_seq ?_
      refine xw_region ?_
      refine xw_val (by simp only [aopOf, evalT, tput, tget_set, tget_leaf, Nat.reduceEqDiff, reduceIte, aMove]; rfl) ?_  -- 0: t45 := move t10
      refine xw_val (by simp only [aopOf, evalT, tput, tget_set, tget_leaf, Nat.reduceEqDiff, reduceIte, decide_true, aBin, opt1, bi_eql]; rfl) ?_  -- 1: t46 := binOp eql priory/api.Errno#24 t45 2:i64
      refine xw_val (by simp only [aopOf, evalT, tput, tget_set, tget_leaf, Nat.reduceEqDiff, reduceIte, aMove]; rfl) ?_  -- 2: t47 := move t46
      refine xg_val (d0 := 47) rfl (by simp only [tput, tget_set, tget_leaf, Nat.reduceEqDiff, reduceIte] <;> rfl) (by simp only [aopOf, evalT, tput, tget_set, tget_leaf, Nat.reduceEqDiff, reduceIte, aMove]; rfl) ?_  -- 3: move t9 IF 2=true
      refine xg_val (d0 := 47) rfl (by simp only [tput, tget_set, tget_leaf, Nat.reduceEqDiff, reduceIte] <;> rfl) (by simp only [aopOf, evalT, tput, tget_set, tget_leaf, Nat.reduceEqDiff, reduceIte, aBin, opt1, eqe]; rfl) ?_  -- 4: binOp eql string#9 t48 "" IF 2=true
      refine xw_val (by simp only [aopOf, evalT, tput, tget_set, tget_leaf, Nat.reduceEqDiff, reduceIte, aPick, aPick]; rfl) ?_  -- 5: t50 := pick t47 ? t49 : false
      refine xw_val (by simp only [aopOf, evalT, tput, tget_set, tget_leaf, Nat.reduceEqDiff, reduceIte, aMove]; rfl) ?_  -- 6: t51 := move t50
      refine xg_call (d0 := 51) rfl (by simp only [tput, tget_set, tget_leaf, Nat.reduceEqDiff, reduceIte] <;> rfl) (by simp only [aopOf, evalT, aCall, mapOps]; rfl) wb ?_  -- 7: call F7:priory/priorylaw27.awake () types [] IF 6=true
      rintro v hq hn ⟨rfl, hh⟩
      obtain rfl := hh.symm
      refine xw_val (by simp only [aopOf, evalT, tput, tget_set, tget_leaf, Nat.reduceEqDiff, reduceIte, aPick, aPick]; rfl) ?_  -- 8: t53 := pick t51 ? t52 : false
      refine xw_val (by simp only [aopOf, evalT, tput, tget_set, tget_leaf, Nat.reduceEqDiff, reduceIte, aMove]; rfl) ?_  -- 9: t4 := assign t53
      refine xw_nil ?_
      repeat first | with_reducible refine xw_next ?_ | with_reducible refine xw_pass ?_ | with_reducible refine xw_passr ?_ | with_reducible refine xw_bnorm ?_ | with_reducible refine xw_bret ?_ | with_reducible refine xw_hit ?_ | with_reducible refine xw_past rfl ?_
      repeat with_reducible refine xw_seq ?_
      refine xw_ret ?_
      repeat first | with_reducible refine xw_next ?_ | with_reducible refine xw_pass ?_ | with_reducible refine xw_passr ?_ | with_reducible refine xw_bnorm ?_ | with_reducible refine xw_bret ?_ | with_reducible refine xw_hit ?_ | with_reducible refine xw_past rfl ?_
      refine xw_end (by simp only [resA, tput, tget_set, Nat.reduceEqDiff, reduceIte, Tryz.results5]; rfl) ?_
      exact rfl
    | true =>
      have v3 : putV (l ++ m) = .tuple #[str (enc l ++ enc m), .int .i64 0] := by rw [putV_ok (by rw [List.all_append, b1, b2, Bool.and_self]), enc_append]
      rw [putV_ok b1] at w1
      -- region 3
      repeat with_reducible refine xw_seq ?_
      refine xw_region ?_
      refine xw_val (by simp only [aopOf, evalT, tput, tget_set, tget_leaf, Nat.reduceEqDiff, reduceIte, aMove]; rfl) ?_  -- 0: t21 := move t0
      refine xw_call (by simp only [aopOf, evalT, tput, tget_set, tget_leaf, Nat.reduceEqDiff, reduceIte, aCall, mapOps]; rfl) w1 ?_  -- 1: t22 := call F8:priory/script.Put (t21) types [[]40#22]
      rintro v1 h1 hn1 ⟨rfl, hk1⟩
      refine xw_val (by simp only [aopOf, evalT, tput, tget_set, tget_leaf, Nat.reduceEqDiff, reduceIte, aMove]; rfl) ?_  -- 2: t20 := move t22
      refine xw_val (by simp only [aopOf, evalT, tput, tget_set, tget_leaf, Nat.reduceEqDiff, reduceIte, aExtract, aextract, opt1]; rfl) ?_  -- 3: t23 := extract t20 0
      refine xw_val (by simp only [aopOf, evalT, tput, tget_set, tget_leaf, Nat.reduceEqDiff, reduceIte, aExtract, aextract, opt1]; rfl) ?_  -- 4: t24 := extract t20 1
      refine xw_val (by simp only [aopOf, evalT, tput, tget_set, tget_leaf, Nat.reduceEqDiff, reduceIte, aMove]; rfl) ?_  -- 5: t5 := assign t23
      refine xw_val (by simp only [aopOf, evalT, tput, tget_set, tget_leaf, Nat.reduceEqDiff, reduceIte, aMove]; rfl) ?_  -- 6: t6 := assign t24
      refine xw_nil ?_
      repeat first | with_reducible refine xw_next ?_ | with_reducible refine xw_pass ?_ | with_reducible refine xw_passr ?_ | with_reducible refine xw_bnorm ?_ | with_reducible refine xw_bret ?_ | with_reducible refine xw_hit ?_ | with_reducible refine xw_past rfl ?_
      have w2 := Put_spec (hs2.keep hn1 hk1) hm2 (by omega) (by omega)
      rw [putV_ok b2] at w2
      -- region 4
      repeat with_reducible refine xw_seq ?_
      refine xw_region ?_
      refine xw_val (by simp only [aopOf, evalT, tput, tget_set, tget_leaf, Nat.reduceEqDiff, reduceIte, aMove]; rfl) ?_  -- 0: t26 := move t1
      refine xw_call (by simp only [aopOf, evalT, tput, tget_set, tget_leaf, Nat.reduceEqDiff, reduceIte, aCall, mapOps]; rfl) w2 ?_  -- 1: t27 := call F8:priory/script.Put (t26) types [[]40#22]
      rintro v2 h2 hn2 ⟨rfl, hk2⟩
      refine xw_val (by simp only [aopOf, evalT, tput, tget_set, tget_leaf, Nat.reduceEqDiff, reduceIte, aMove]; rfl) ?_  -- 2: t25 := move t27
      refine xw_val (by simp only [aopOf, evalT, tput, tget_set, tget_leaf, Nat.reduceEqDiff, reduceIte, aExtract, aextract, opt1]; rfl) ?_  -- 3: t28 := extract t25 0
      refine xw_val (by simp only [aopOf, evalT, tput, tget_set, tget_leaf, Nat.reduceEqDiff, reduceIte, aExtract, aextract, opt1]; rfl) ?_  -- 4: t29 := extract t25 1
      refine xw_val (by simp only [aopOf, evalT, tput, tget_set, tget_leaf, Nat.reduceEqDiff, reduceIte, aMove]; rfl) ?_  -- 5: t7 := assign t28
      refine xw_val (by simp only [aopOf, evalT, tput, tget_set, tget_leaf, Nat.reduceEqDiff, reduceIte, aMove]; rfl) ?_  -- 6: t8 := assign t29
      refine xw_nil ?_
      repeat first | with_reducible refine xw_next ?_ | with_reducible refine xw_pass ?_ | with_reducible refine xw_passr ?_ | with_reducible refine xw_bnorm ?_ | with_reducible refine xw_bret ?_ | with_reducible refine xw_hit ?_ | with_reducible refine xw_past rfl ?_
      have hk12 : Keeps H h2 := hk1.trans hn1 hk2
      have hnx2 : H.nx ≤ h2.nx := Nat.le_trans hn1 hn2
      have hk3 : Keeps H (h2.new (.row [] 40 .exact)) := fun y hy => by
        rw [Hp.get_new, if_neg (by omega)]
        exact hk12 y hy
      have hnx3 : H.nx ≤ (h2.new (.row [] 40 .exact)).nx := by simp; omega
      obtain ⟨s4, h4x, ob4, hap4, hg4, hn4, hk4, hob4⟩ := app40 (l := []) (m := l) (ob := none) (s := .slice (some ⟨h2.nx, 0, none⟩) 0 0) (.inl ⟨rfl, rfl, .inr ⟨_, _, _, rfl, get_new_same _ _⟩⟩) (hs1.keep hnx3 hk3) (by simp; omega)
      rw [List.nil_append] at hg4
      have hk4' : Keeps H h4x := fun y hy => (hk4 y (by omega) (by simp)).trans (hk3 y hy)
      obtain ⟨s5, h5x, ob5, hap5, hg5, hn5, hk5, hob5⟩ := app40 hg4 (hs2.keep (by omega) hk4') (by omega)
      have hk5' : Keeps H h5x := fun y hy => (hk5 y (by omega) (fun h => by
        rcases hob4 y h with h | h
        · cases h
        · omega)).trans (hk4' y hy)
      have hb4 := bAppend_of (ts := #[22, 22]) rfl rfl und22 hap4
      have hb5 := bAppend_of (ts := #[22, 22]) rfl rfl und22 hap5
      have w3 := Put_spec (hg5.slr (evs_size _)) hlm (by simp; omega) (by omega)
      rw [v3] at w3
      -- region 5
      repeat with_reducible refine xw_seq ?_
      refine xw_region ?_
      refine xw_val (by simp only [aopOf, aBuildSlice, mapParts, und22, sz40x, zero40, empty40]; rfl) ?_  -- 0: t31 := buildSlice []40#22 0 []
      refine xw_val (by simp only [aopOf, evalT, tput, tget_set, tget_leaf, Nat.reduceEqDiff, reduceIte, aMove]; rfl) ?_  -- 1: t32 := move t0
      refine xw_val (by simp only [aopOf, evalT, tput, tget_set, tget_leaf, Nat.reduceEqDiff, reduceIte, aCall, mapOps, hb4, abuiltin]; rfl) ?_  -- 2: t33 := call builtin append (t31, t32) types [[]40#22, []40#22]
      refine xw_val (by simp only [aopOf, evalT, tput, tget_set, tget_leaf, Nat.reduceEqDiff, reduceIte, aMove]; rfl) ?_  -- 3: t34 := move t1
      refine xw_val (by simp only [aopOf, evalT, tput, tget_set, tget_leaf, Nat.reduceEqDiff, reduceIte, aCall, mapOps, hb5, abuiltin]; rfl) ?_  -- 4: t35 := call builtin append (t33, t34) types [[]40#22, []40#22]
      refine xw_call (by simp only [aopOf, evalT, tput, tget_set, tget_leaf, Nat.reduceEqDiff, reduceIte, aCall, mapOps]; rfl) w3 ?_  -- 5: t36 := call F8:priory/script.Put (t35) types [[]40#22]
      rintro v3 h6 hn6 ⟨rfl, hk6⟩
      refine xw_val (by simp only [aopOf, evalT, tput, tget_set, tget_leaf, Nat.reduceEqDiff, reduceIte, aMove]; rfl) ?_  -- 6: t30 := move t36
      refine xw_val (by simp only [aopOf, evalT, tput, tget_set, tget_leaf, Nat.reduceEqDiff, reduceIte, aExtract, aextract, opt1]; rfl) ?_  -- 7: t37 := extract t30 0
      refine xw_val (by simp only [aopOf, evalT, tput, tget_set, tget_leaf, Nat.reduceEqDiff, reduceIte, aExtract, aextract, opt1]; rfl) ?_  -- 8: t38 := extract t30 1
      refine xw_val (by simp only [aopOf, evalT, tput, tget_set, tget_leaf, Nat.reduceEqDiff, reduceIte, aMove]; rfl) ?_  -- 9: t9 := assign t37
      refine xw_val (by simp only [aopOf, evalT, tput, tget_set, tget_leaf, Nat.reduceEqDiff, reduceIte, aMove]; rfl) ?_  -- 10: t10 := assign t38
      refine xw_nil ?_
      repeat first | with_reducible refine xw_next ?_ | with_reducible refine xw_pass ?_ | with_reducible refine xw_passr ?_ | with_reducible refine xw_bnorm ?_ | with_reducible refine xw_bret ?_ | with_reducible refine xw_hit ?_ | with_reducible refine xw_past rfl ?_
      have hk6' : Keeps H h6 := fun y hy => (hk6 y (by omega)).trans (hk5' y hy)
      have wb := awake_spec (H := h6) (by omega) (there_keep h4 hk6' ht)
      -- region 6
      repeat with_reducible refine xw_seq ?_
      refine xw_region ?_
      refine xw_val (by simp only [aopOf, evalT, tput, tget_set, tget_leaf, Nat.reduceEqDiff, reduceIte, aMove]; rfl) ?_  -- 0: t39 := move t6
      refine xw_val (by simp only [aopOf, evalT, tput, tget_set, tget_leaf, Nat.reduceEqDiff, reduceIte, decide_true, aBin, opt1, bi_neq]; rfl) ?_  -- 1: t40 := binOp neq priory/api.Errno#24 t39 0:i64
      refine xw_val (by simp only [aopOf, evalT, tput, tget_set, tget_leaf, Nat.reduceEqDiff, reduceIte, aMove]; rfl) ?_  -- 2: t41 := move t40
      refine xg_val (d0 := 41) rfl (by simp only [tput, tget_set, tget_leaf, Nat.reduceEqDiff, reduceIte] <;> rfl) (by simp only [aopOf, evalT, tput, tget_set, tget_leaf, Nat.reduceEqDiff, reduceIte, aMove]; rfl) ?_  -- 3: move t8 IF 2=false
      refine xg_val (d0 := 41) rfl (by simp only [tput, tget_set, tget_leaf, Nat.reduceEqDiff, reduceIte] <;> rfl) (by simp only [aopOf, evalT, tput, tget_set, tget_leaf, Nat.reduceEqDiff, reduceIte, decide_true, aBin, opt1, bi_neq]; rfl) ?_  -- 4: binOp neq priory/api.Errno#24 t42 0:i64 IF 2=false
      refine xw_val (by simp only [aopOf, evalT, tput, tget_set, tget_leaf, Nat.reduceEqDiff, reduceIte, aPick, aPick]; rfl) ?_  -- 5: t44 := pick t41 ? true : t43
      refine xw_nil ?_
      repeat first | with_reducible refine xw_next ?_ | with_reducible refine xw_pass ?_ | with_reducible refine xw_passr ?_ | with_reducible refine xw_bnorm ?_ | with_reducible refine xw_bret ?_ | with_reducible refine xw_hit ?_ | with_reducible refine xw_past rfl ?_
      repeat with_reducible refine xw_seq ?_
      refine xw_else (by simp [tput, tget_set]) ?_  -- IF t44
      refine xw_skip ?_
      repeat first | with_reducible refine xw_next ?_ | with_reducible refine xw_pass ?_ | with_reducible refine xw_passr ?_ | with_reducible refine xw_bnorm ?_ | with_reducible refine xw_bret ?_ | with_reducible refine xw_hit ?_ | with_reducible refine xw_past rfl ?_
      -- region 8
      repeat with_reducible refine xw_seq ?_
      refine xw_region ?_
      refine xw_val (by simp only [aopOf, evalT, tput, tget_set, tget_leaf, Nat.reduceEqDiff, reduceIte, aMove]; rfl) ?_  -- 0: t54 := move t10
      refine xw_val (by simp only [aopOf, evalT, tput, tget_set, tget_leaf, Nat.reduceEqDiff, reduceIte, decide_true, aBin, opt1, bi_eql]; rfl) ?_  -- 1: t55 := binOp eql priory/api.Errno#24 t54 0:i64
      refine xw_val (by simp only [aopOf, evalT, tput, tget_set, tget_leaf, Nat.reduceEqDiff, reduceIte, aMove]; rfl) ?_  -- 2: t56 := move t55
      refine xg_val (d0 := 56) rfl (by simp only [tput, tget_set, tget_leaf, Nat.reduceEqDiff, reduceIte] <;> rfl) (by simp only [aopOf, evalT, tput, tget_set, tget_leaf, Nat.reduceEqDiff, reduceIte, aMove]; rfl) ?_  -- 3: move t9 IF 2=true
      refine xg_val (d0 := 56) rfl (by simp only [tput, tget_set, tget_leaf, Nat.reduceEqDiff, reduceIte] <;> rfl) (by simp only [aopOf, evalT, tput, tget_set, tget_leaf, Nat.reduceEqDiff, reduceIte, aMove]; rfl) ?_  -- 4: move t5 IF 2=true
      refine xg_val (d0 := 56) rfl (by simp only [tput, tget_set, tget_leaf, Nat.reduceEqDiff, reduceIte] <;> rfl) (by simp only [aopOf, evalT, tput, tget_set, tget_leaf, Nat.reduceEqDiff, reduceIte, aMove]; rfl) ?_  -- 5: move t7 IF 2=true
      refine xg_val (d0 := 56) rfl (by simp only [tput, tget_set, tget_leaf, Nat.reduceEqDiff, reduceIte] <;> rfl) (by simp only [aopOf, evalT, tput, tget_set, tget_leaf, Nat.reduceEqDiff, reduceIte, aBin, opt1, str_add hsum]; rfl) ?_  -- 6: binOp add string#9 t58 t59 IF 2=true
      refine xg_val (d0 := 56) rfl (by simp only [tput, tget_set, tget_leaf, Nat.reduceEqDiff, reduceIte] <;> rfl) (by simp only [aopOf, evalT, tput, tget_set, tget_leaf, Nat.reduceEqDiff, reduceIte, aBin, opt1, str_eql]; rfl) ?_  -- 7: binOp eql string#9 t57 t60 IF 2=true
      refine xw_val (by simp only [aopOf, evalT, tput, tget_set, tget_leaf, Nat.reduceEqDiff, reduceIte, aPick, aPick]; rfl) ?_  -- 8: t62 := pick t56 ? t61 : false
      refine xw_val (by simp only [aopOf, evalT, tput, tget_set, tget_leaf, Nat.reduceEqDiff, reduceIte, aMove]; rfl) ?_  -- 9: t63 := move t62
      refine xg_call (d0 := 63) rfl (by simp only [tput, tget_set, tget_leaf, Nat.reduceEqDiff, reduceIte] <;> rfl) (by simp only [aopOf, evalT, aCall, mapOps]; rfl) wb ?_  -- 10: call F7:priory/priorylaw27.awake () types [] IF 9=true
      rintro v hq hn ⟨rfl, hh⟩
      obtain rfl := hh.symm
      refine xw_val (by simp only [aopOf, evalT, tput, tget_set, tget_leaf, Nat.reduceEqDiff, reduceIte, aPick, aPick]; rfl) ?_  -- 11: t65 := pick t63 ? t64 : false
      refine xw_val (by simp only [aopOf, evalT, tput, tget_set, tget_leaf, Nat.reduceEqDiff, reduceIte, aMove]; rfl) ?_  -- 12: t4 := assign t65
      refine xw_nil ?_
      repeat first | with_reducible refine xw_next ?_ | with_reducible refine xw_pass ?_ | with_reducible refine xw_passr ?_ | with_reducible refine xw_bnorm ?_ | with_reducible refine xw_bret ?_ | with_reducible refine xw_hit ?_ | with_reducible refine xw_past rfl ?_
      repeat with_reducible refine xw_seq ?_
      refine xw_ret ?_
      repeat first | with_reducible refine xw_next ?_ | with_reducible refine xw_pass ?_ | with_reducible refine xw_passr ?_ | with_reducible refine xw_bnorm ?_ | with_reducible refine xw_bret ?_ | with_reducible refine xw_hit ?_ | with_reducible refine xw_past rfl ?_
      refine xw_end (by simp only [resA, tput, tget_set, Nat.reduceEqDiff, reduceIte, Tryz.results5]; rfl) ?_
      exact rfl
end Go.Proofs.YtjncolnikkbjeaaGreatDoor
