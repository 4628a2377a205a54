/- script.Put: what it answers, whatever the events. Conditions: none. -/
import Derived.Test.YtjncolnikkbjeaaGreatDoorLaw
import Derived.Test.YtjncolnikkbjeaaGreatDoorAuxByte
namespace Go.Proofs.YtjncolnikkbjeaaGreatDoor
open Go Pri
theorem fnAt8 : fnAt Tryz.prog 8 = some Tryz.f8 := by kernel_rfl
theorem und22 : und Tryz.prog 22 = some (.slice 40) := by kernel_rfl
theorem und3 : und Tryz.prog 3 = some (.int .i64) := by kernel_rfl
theorem sz40 : szOf Tryz.prog 40 = some (2 + 1) := by kernel_rfl
theorem agg40 : aggOf Tryz.prog 40 = some true := by kernel_rfl
theorem agg3 : aggOf Tryz.prog 3 = some false := by kernel_rfl
theorem sz3 : szOf Tryz.prog 3 = some 1 := by kernel_rfl
theorem agg33 : aggOf Tryz.prog 33 = some false := by kernel_rfl
theorem sz33 : szOf Tryz.prog 33 = some 1 := by kernel_rfl
theorem zero40 : zeroOf Tryz.prog 40 = some (.agg #[.int .i64 0, .int .i64 0, .int .u32 0]) := by kernel_rfl
theorem zero47 : zeroOf Tryz.prog 47 = some (.agg #[.pointer none, .slice none 0 0]) := by kernel_rfl
theorem field40_0 (l : Nat) : afieldAddr Tryz.prog 40 (.pointer (some ⟨l, 0, none⟩)) 0 = some (.pointer (some ⟨l, 0, none⟩)) := by kernel_rfl
theorem field40_1 (l : Nat) : afieldAddr Tryz.prog 40 (.pointer (some ⟨l, 0, none⟩)) 1 = some (.pointer (some ⟨l, 1, none⟩)) := by kernel_rfl
theorem field40_2 (l : Nat) : afieldAddr Tryz.prog 40 (.pointer (some ⟨l, 0, none⟩)) 2 = some (.pointer (some ⟨l, 2, none⟩)) := by kernel_rfl
/-- An event: what, which, and a word. -/
abbrev E3 := Int × Int × Nat
def evC (x : E3) : List Value := [.int .i64 x.1, .int .i64 x.2.1, .int .u32 (.ofNat x.2.2)]
def okE (x : E3) : Bool := !decide (x.1 < 0) && !decide (255 < x.1) && !decide (x.2.1 < 0) && !decide (255 < x.2.1)
noncomputable def encE (x : E3) : List UInt8 := UInt8.ofNat x.1.toNat :: UInt8.ofNat x.2.1.toNat :: oct4 x.2.2
noncomputable def enc (l : List E3) : List UInt8 := l.flatMap encE
theorem enc_length (l : List E3) : (enc l).length = l.length * 6 := by
  induction l with
  | nil => rfl
  | cons x l ih =>
    have : enc (x :: l) = encE x ++ enc l := rfl
    rw [this, List.length_append, ih]
    have : (encE x).length = 6 := rfl
    rw [this, List.length_cons]; omega
theorem enc_snoc {l : List E3} {k : Nat} {x : E3} (hx : l[k]? = some x) : enc (l.take (k + 1)) = enc (l.take k) ++ [UInt8.ofNat x.1.toNat] ++ [UInt8.ofNat x.2.1.toNat] ++ oct4 x.2.2 := by
  rw [List.take_add_one, hx]
  simp [enc, encE]
theorem all_snoc {l : List E3} {k : Nat} {x : E3} (hx : l[k]? = some x) (h1 : (l.take k).all okE = true) (h2 : okE x = true) : (l.take (k + 1)).all okE = true := by
  rw [List.take_add_one, hx]
  simp only [Option.toList_some, List.all_append, h1, List.all_cons, h2, List.all_nil, Bool.and_self]
noncomputable def putV (l : List E3) : Value := bsel (l.all okE) (.tuple #[str (enc l), .int .i64 0]) (.tuple #[str [], .int .i64 2])
theorem putV_ok {l : List E3} (h : l.all okE = true) : putV l = .tuple #[str (enc l), .int .i64 0] := by unfold putV; rw [h, bsel_true]
theorem putV_bad {l : List E3} {k : Nat} {x : E3} (hx : l[k]? = some x) (h : okE x = false) : putV l = .tuple #[str [], .int .i64 2] := by
  have : l.all okE = false := by
    cases ha : l.all okE with
    | false => rfl
    | true => rw [List.all_eq_true.mp ha x (List.mem_of_getElem? hx)] at h; cases h
  unfold putV; rw [this, bsel_false]
theorem byte_of {w : Int} (h0 : decide (w < 0) = false) (h1 : decide ((255 : Int) < w) = false) (h : Hp) : aconvert Tryz.prog h 3 5 (.int .i64 w) = some (bcell (UInt8.ofNat w.toNat), h) := by
  have h0 := of_decide_eq_false h0
  have h1 := of_decide_eq_false h1
  rw [cv_int ⟨_, und3⟩ und5, wrap_u8 (by omega) (by omega)]
  have : (UInt8.ofNat w.toNat).toNat = w.toNat := by
    rw [UInt8.toNat_ofNat']
    omega
  unfold bcell
  rw [this]
  congr 3
  show w = ((w.toNat : Nat) : Int)
  omega

theorem Put_spec {H : Hp} {sl : Value} {l : List E3} (hs : SlR H sl (2 + 1) (l.map evC)) (hm : ∀ x ∈ l, x.2.2 < 4294967296) (hl : l.length ≤ 10000) (h4 : 4 ≤ H.nx) :
    ∃ v h' pn', (Cl Tryz.prog orc none false (.fn (.func 8) #[]) #[sl] H (.ret v) h' pn' ∧ H.nx ≤ h'.nx) ∧ (v = putV l ∧ Keeps H h') := by
  obtain ⟨o0, c0, hsl⟩ := hs.len
  rw [List.length_map] at hsl
  refine wpF_Cl (by kernel_rfl) fnAt8 ?_
  refine xw_fun rfl (tm := (Tri.set Tri.leaf 0 sl)) rfl ?_
  have e1 : decide ((10000 : Int) < Int.ofNat l.length) = false := by
    apply decide_eq_false
    have : (Int.ofNat l.length : Int) = (l.length : Int) := rfl
    omega
  -- region 0
  repeat with_reducible refine xw_seq ?_
  refine xw_region ?_
  refine xw_val (by simp only [aopOf, evalT, aMove]; rfl) ?_  -- 0: t2 := assign ""
  refine xw_val (by simp only [aopOf, evalT, aMove]; rfl) ?_  -- 1: t3 := assign 0:i64
  refine xw_nil ?_
  repeat first | with_reducible refine xw_next ?_ | with_reducible refine xw_pass ?_ | with_reducible refine xw_passr ?_ | with_reducible refine xw_bnorm ?_ | with_reducible refine xw_bret ?_ | with_reducible refine xw_hit ?_ | with_reducible refine xw_past rfl ?_
  -- region 1
  repeat with_reducible refine xw_seq ?_
  refine xw_region ?_
  refine xw_val (by simp only [aopOf, evalT, tput, tget_set, tget_leaf, Nat.reduceEqDiff, reduceIte, aMove, hsl]; rfl) ?_  -- 0: t9 := move t0
  refine xw_val (by simp only [aopOf, evalT, tput, tget_set, tget_leaf, Nat.reduceEqDiff, reduceIte, aCall, mapOps, hsl, abuiltin, bLen]; rfl) ?_  -- 1: t10 := call builtin len (t9) types [[]40#22]
  refine xw_val (by simp only [aopOf, evalT, tput, tget_set, tget_leaf, Nat.reduceEqDiff, reduceIte, aBin, opt1, hsl, e1, bi_gtr]; rfl) ?_  -- 2: t11 := binOp gtr Go.IntKind.i64#3 t10 10000:i64
  refine xw_nil ?_
  repeat first | with_reducible refine xw_next ?_ | with_reducible refine xw_pass ?_ | with_reducible refine xw_passr ?_ | with_reducible refine xw_bnorm ?_ | with_reducible refine xw_bret ?_ | with_reducible refine xw_hit ?_ | with_reducible refine xw_past rfl ?_
  repeat with_reducible refine xw_seq ?_
  refine xw_else (by simp [tput, tget_set, hsl]) ?_  -- IF t11
  refine xw_skip ?_
  repeat first | with_reducible refine xw_next ?_ | with_reducible refine xw_pass ?_ | with_reducible refine xw_passr ?_ | with_reducible refine xw_bnorm ?_ | with_reducible refine xw_bret ?_ | with_reducible refine xw_hit ?_ | with_reducible refine xw_past rfl ?_
  -- region 3
  repeat with_reducible refine xw_seq ?_
  refine xw_region ?_
  refine xw_val (by simp only [aopOf, aAlloc, aNewRow, Value.cells, List.toList_toArray, zero47]; rfl) ?_  -- 0: t4 := alloc strings.Builder#47
  refine xw_nil ?_
  repeat first | with_reducible refine xw_next ?_ | with_reducible refine xw_pass ?_ | with_reducible refine xw_passr ?_ | with_reducible refine xw_bnorm ?_ | with_reducible refine xw_bret ?_ | with_reducible refine xw_hit ?_ | with_reducible refine xw_past rfl ?_
  -- region 4
  repeat with_reducible refine xw_seq ?_
  refine xw_region ?_
  refine xw_val (by simp only [aopOf, evalT, tput, tget_set, tget_leaf, Nat.reduceEqDiff, reduceIte, aMove, hsl]; rfl) ?_  -- 0: t12 := move t0
  refine xw_val (by simp only [aopOf, evalT, tput, tget_set, tget_leaf, Nat.reduceEqDiff, reduceIte, aCall, mapOps, hsl, abuiltin, bLen]; rfl) ?_  -- 1: t13 := call builtin len (t12) types [[]40#22]
  refine xw_val (by simp only [aopOf, evalT, aMove]; rfl) ?_  -- 2: t14 := move 0:i64
  refine xw_nil ?_
  repeat first | with_reducible refine xw_next ?_ | with_reducible refine xw_pass ?_ | with_reducible refine xw_passr ?_ | with_reducible refine xw_bnorm ?_ | with_reducible refine xw_bret ?_ | with_reducible refine xw_hit ?_ | with_reducible refine xw_past rfl ?_
  repeat with_reducible refine xw_seq ?_
  refine xw_block ?_
  refine xw_inv (fun n s => ∃ (k : Nat) (tm : Tri Value) (h : Hp) (ob : Option Nat), s = ⟨tm, [], h, none⟩ ∧ k + n = l.length ∧ tget tm 4 = .pointer (some ⟨H.nx, 0, none⟩) ∧ tget tm 12 = sl ∧ tget tm 13 = .int .i64 (.ofNat l.length) ∧ tget tm 14 = .int .i64 (.ofNat k) ∧
      H.nx < h.nx ∧ Keeps H h ∧ Bld 47 5 h H.nx ob (enc (l.take k)) ∧ (∀ B, ob = some B → H.nx ≤ B) ∧ (l.take k).all okE = true) l.length
    ⟨0, _, _, none, rfl, by omega, by simp [tput, tget_set], by simp [tput, tget_set, hsl], by simp [tput, tget_set], by simp [tput, tget_set], by simp, Keeps.new _ _, ⟨⟨none, .inl rfl, get_new_same _ _⟩, rfl, by simp⟩, (fun B hB => by cases hB), rfl⟩ ?_
  rintro n s ⟨k, tm, h, ob, rfl, hk, e4, e12, e13, e14, hnx, hkeep, hB, hob, hall⟩
  by_cases hlt : k < l.length
  · have hc : (decide ((Int.ofNat k : Int) < Int.ofNat l.length)) = true := by simp; omega
    have hadd : IntKind.i64.wrap (Int.ofNat k + 1) = Int.ofNat (k + 1) := by rw [wrap_i64 (by simp; omega) (by simp; omega)]; rfl
    obtain ⟨x, hx⟩ : ∃ x, l[k]? = some x := ⟨_, List.getElem?_eq_getElem hlt⟩
    have hxm := hm x (List.mem_of_getElem? hx)
    obtain ⟨B, off, hBx, hi, hld, hcell⟩ := (hs.keep (Nat.le_of_lt hnx) hkeep).elem und22 sz40 agg40 (i := k) (x := evC x) (by rw [List.getElem?_map, hx]; rfl) rfl
    have hi := hi .i64
    have hld' : aload Tryz.prog h 40 ⟨B, off, none⟩ = some (.agg #[.int .i64 x.1, .int .i64 x.2.1, .int .u32 (.ofNat x.2.2)]) := hld
    have hst : astore Tryz.prog (h.new (.row [.int .i64 0, .int .i64 0, .int .u32 0] 40 .exact)) 40 ⟨h.nx, 0, none⟩ (.agg #[.int .i64 x.1, .int .i64 x.2.1, .int .u32 (.ofNat x.2.2)]) = some ((h.new (.row [.int .i64 0, .int .i64 0, .int .u32 0] 40 .exact)).set h.nx (.row (evC x) 40 .exact)) :=
      store_all (vs := evC x) sz40 rfl rfl (get_new_same _ _) rfl rfl
    have g2 : ((h.new (.row [.int .i64 0, .int .i64 0, .int .u32 0] 40 .exact)).set h.nx (.row (evC x) 40 .exact)).get h.nx = some (.row (evC x) 40 .exact) := get_set_same _ _ _
    have l0 : aload Tryz.prog ((h.new (.row [.int .i64 0, .int .i64 0, .int .u32 0] 40 .exact)).set h.nx (.row (evC x) 40 .exact)) 3 ⟨h.nx, 0, none⟩ = some (.int .i64 x.1) := load_cell agg3 sz3 g2 rfl
    have l1 : aload Tryz.prog ((h.new (.row [.int .i64 0, .int .i64 0, .int .u32 0] 40 .exact)).set h.nx (.row (evC x) 40 .exact)) 3 ⟨h.nx, 1, none⟩ = some (.int .i64 x.2.1) := load_cell agg3 sz3 g2 rfl
    cases q1 : decide (x.1 < 0) with
    | true =>
      -- region 5
      repeat with_reducible refine xw_seq ?_
      refine xw_region ?_
      refine xw_val (by simp only [aopOf, evalT, aBin, opt1, hc, e13, e14, bi_lss]; rfl) ?_  -- 0: t15 := binOp lss Go.IntKind.i64#3 t14 t13
      refine xw_nil ?_
      repeat first | with_reducible refine xw_next ?_ | with_reducible refine xw_pass ?_ | with_reducible refine xw_passr ?_ | with_reducible refine xw_bnorm ?_ | with_reducible refine xw_bret ?_ | with_reducible refine xw_hit ?_ | with_reducible refine xw_past rfl ?_
      repeat with_reducible refine xw_seq ?_
      refine xw_then (by simp [tput, tget_set]) ?_  -- IF t15
      refine xw_skip ?_
      repeat first | with_reducible refine xw_next ?_ | with_reducible refine xw_pass ?_ | with_reducible refine xw_passr ?_ | with_reducible refine xw_bnorm ?_ | with_reducible refine xw_bret ?_ | with_reducible refine xw_hit ?_ | with_reducible refine xw_past rfl ?_
      repeat with_reducible refine xw_seq ?_
      refine xw_block ?_
      -- region 6
      repeat with_reducible refine xw_seq ?_
      refine xw_region ?_
      refine xw_val (by simp only [aopOf, evalT, tput, tget_set, Nat.reduceEqDiff, reduceIte, aIndexAddr, opt1, e12, e14, hi]; rfl) ?_  -- 0: t16 := indexAddr []40#22 t12 [t14]
      refine xw_val (by simp only [aopOf, evalT, tput, tget_set, Nat.reduceEqDiff, reduceIte, aLoad, opt1, hld']; rfl) ?_  -- 1: t17 := load priory/api.Event#40 [t16]
      refine xw_val (by simp only [aopOf, aAlloc, aNewRow, Value.cells, List.toList_toArray, zero40]; rfl) ?_  -- 2: t6 := alloc priory/api.Event#40
      refine xw_put (by simp only [aopOf, evalT, tput, tget_set, Nat.reduceEqDiff, reduceIte, aStore, opt3, hst]; rfl) ?_  -- 3: tNone := store priory/api.Event#40 [t6] := t17
      refine xw_nil ?_
      repeat first | with_reducible refine xw_next ?_ | with_reducible refine xw_pass ?_ | with_reducible refine xw_passr ?_ | with_reducible refine xw_bnorm ?_ | with_reducible refine xw_bret ?_ | with_reducible refine xw_hit ?_ | with_reducible refine xw_past rfl ?_
      -- region 7
      repeat with_reducible refine xw_seq ?_
      refine xw_region ?_
      refine xw_val (by simp only [aopOf, evalT, tput, tget_set, Nat.reduceEqDiff, reduceIte, aFieldAddr, opt1, field40_0]; rfl) ?_  -- 0: t18 := fieldAddr priory/api.Event#40 t6 .0
      refine xw_val (by simp only [aopOf, evalT, tput, tget_set, Nat.reduceEqDiff, reduceIte, aLoad, opt1, l0]; rfl) ?_  -- 1: t19 := load Go.IntKind.i64#3 [t18]
      refine xw_val (by simp only [aopOf, evalT, tput, tget_set, Nat.reduceEqDiff, reduceIte, aBin, opt1, q1, bi_lss]; rfl) ?_  -- 2: t20 := binOp lss Go.IntKind.i64#3 t19 0:i64
      refine xw_val (by simp only [aopOf, evalT, tput, tget_set, Nat.reduceEqDiff, reduceIte, aMove]; rfl) ?_  -- 3: t21 := move t20
      refine xg_off (d0 := 21) (t' := true) rfl (by simp only [tput, tget_set, Nat.reduceEqDiff, reduceIte] <;> rfl) rfl ?_  -- 4: fieldAddr priory/api.Event#40 t6 .0 IF 3=false
      refine xg_off (d0 := 21) (t' := true) rfl (by simp only [tput, tget_set, Nat.reduceEqDiff, reduceIte] <;> rfl) rfl ?_  -- 5: load Go.IntKind.i64#3 [t22] IF 3=false
      refine xg_off (d0 := 21) (t' := true) rfl (by simp only [tput, tget_set, Nat.reduceEqDiff, reduceIte] <;> rfl) rfl ?_  -- 6: binOp gtr Go.IntKind.i64#3 t23 255:i64 IF 3=false
      refine xw_val (by simp only [aopOf, evalT, tput, tget_set, Nat.reduceEqDiff, reduceIte, aPick, aPick]; rfl) ?_  -- 7: t25 := pick t21 ? true : t24
      refine xw_val (by simp only [aopOf, evalT, tput, tget_set, Nat.reduceEqDiff, reduceIte, aMove]; rfl) ?_  -- 8: t26 := move t25
      refine xg_off (d0 := 26) (t' := true) rfl (by simp only [tput, tget_set, Nat.reduceEqDiff, reduceIte] <;> rfl) rfl ?_  -- 9: fieldAddr priory/api.Event#40 t6 .1 IF 8=false
      refine xg_off (d0 := 26) (t' := true) rfl (by simp only [tput, tget_set, Nat.reduceEqDiff, reduceIte] <;> rfl) rfl ?_  -- 10: load Go.IntKind.i64#3 [t27] IF 8=false
      refine xg_off (d0 := 26) (t' := true) rfl (by simp only [tput, tget_set, Nat.reduceEqDiff, reduceIte] <;> rfl) rfl ?_  -- 11: binOp lss Go.IntKind.i64#3 t28 0:i64 IF 8=false
      refine xw_val (by simp only [aopOf, evalT, tput, tget_set, Nat.reduceEqDiff, reduceIte, aPick, aPick]; rfl) ?_  -- 12: t30 := pick t26 ? true : t29
      refine xw_val (by simp only [aopOf, evalT, tput, tget_set, Nat.reduceEqDiff, reduceIte, aMove]; rfl) ?_  -- 13: t31 := move t30
      refine xg_off (d0 := 31) (t' := true) rfl (by simp only [tput, tget_set, Nat.reduceEqDiff, reduceIte] <;> rfl) rfl ?_  -- 14: fieldAddr priory/api.Event#40 t6 .1 IF 13=false
      refine xg_off (d0 := 31) (t' := true) rfl (by simp only [tput, tget_set, Nat.reduceEqDiff, reduceIte] <;> rfl) rfl ?_  -- 15: load Go.IntKind.i64#3 [t32] IF 13=false
      refine xg_off (d0 := 31) (t' := true) rfl (by simp only [tput, tget_set, Nat.reduceEqDiff, reduceIte] <;> rfl) rfl ?_  -- 16: binOp gtr Go.IntKind.i64#3 t33 255:i64 IF 13=false
      refine xw_val (by simp only [aopOf, evalT, tput, tget_set, Nat.reduceEqDiff, reduceIte, aPick, aPick]; rfl) ?_  -- 17: t35 := pick t31 ? true : t34
      refine xw_nil ?_
      repeat first | with_reducible refine xw_next ?_ | with_reducible refine xw_pass ?_ | with_reducible refine xw_passr ?_ | with_reducible refine xw_bnorm ?_ | with_reducible refine xw_bret ?_ | with_reducible refine xw_hit ?_ | with_reducible refine xw_past rfl ?_
      repeat with_reducible refine xw_seq ?_
      refine xw_then (by simp [tput, tget_set]) ?_  -- IF t35
      -- region 8
      repeat with_reducible refine xw_seq ?_
      refine xw_region ?_
      refine xw_val (by simp only [aopOf, evalT, aMove]; rfl) ?_  -- 0: t2 := assign ""
      refine xw_val (by simp only [aopOf, evalT, aMove]; rfl) ?_  -- 1: t3 := assign 2:i64
      refine xw_nil ?_
      repeat first | with_reducible refine xw_next ?_ | with_reducible refine xw_pass ?_ | with_reducible refine xw_passr ?_ | with_reducible refine xw_bnorm ?_ | with_reducible refine xw_bret ?_ | with_reducible refine xw_hit ?_ | with_reducible refine xw_past rfl ?_
      repeat with_reducible refine xw_seq ?_
      refine xw_ret ?_
      repeat first | with_reducible refine xw_next ?_ | with_reducible refine xw_pass ?_ | with_reducible refine xw_passr ?_ | with_reducible refine xw_bnorm ?_ | with_reducible refine xw_bret ?_ | with_reducible refine xw_hit ?_ | with_reducible refine xw_past rfl ?_
      refine xw_end (by simp only [resA, tput, tget_set, Nat.reduceEqDiff, reduceIte, Tryz.results8]; rfl) ?_
      refine ⟨(putV_bad hx (by simp [okE, q1, ])).symm ▸ rfl, fun y hy => ?_⟩
      rw [get_set_other (by omega), Hp.get_new, if_neg (by omega)]
      exact hkeep y hy
    | false =>
    cases q2 : decide ((255 : Int) < x.1) with
    | true =>
      -- region 5
      repeat with_reducible refine xw_seq ?_
      refine xw_region ?_
      refine xw_val (by simp only [aopOf, evalT, aBin, opt1, hc, e13, e14, bi_lss]; rfl) ?_  -- 0: t15 := binOp lss Go.IntKind.i64#3 t14 t13
      refine xw_nil ?_
      repeat first | with_reducible refine xw_next ?_ | with_reducible refine xw_pass ?_ | with_reducible refine xw_passr ?_ | with_reducible refine xw_bnorm ?_ | with_reducible refine xw_bret ?_ | with_reducible refine xw_hit ?_ | with_reducible refine xw_past rfl ?_
      repeat with_reducible refine xw_seq ?_
      refine xw_then (by simp [tput, tget_set]) ?_  -- IF t15
      refine xw_skip ?_
      repeat first | with_reducible refine xw_next ?_ | with_reducible refine xw_pass ?_ | with_reducible refine xw_passr ?_ | with_reducible refine xw_bnorm ?_ | with_reducible refine xw_bret ?_ | with_reducible refine xw_hit ?_ | with_reducible refine xw_past rfl ?_
      repeat with_reducible refine xw_seq ?_
      refine xw_block ?_
      -- region 6
      repeat with_reducible refine xw_seq ?_
      refine xw_region ?_
      refine xw_val (by simp only [aopOf, evalT, tput, tget_set, Nat.reduceEqDiff, reduceIte, aIndexAddr, opt1, e12, e14, hi]; rfl) ?_  -- 0: t16 := indexAddr []40#22 t12 [t14]
      refine xw_val (by simp only [aopOf, evalT, tput, tget_set, Nat.reduceEqDiff, reduceIte, aLoad, opt1, hld']; rfl) ?_  -- 1: t17 := load priory/api.Event#40 [t16]
      refine xw_val (by simp only [aopOf, aAlloc, aNewRow, Value.cells, List.toList_toArray, zero40]; rfl) ?_  -- 2: t6 := alloc priory/api.Event#40
      refine xw_put (by simp only [aopOf, evalT, tput, tget_set, Nat.reduceEqDiff, reduceIte, aStore, opt3, hst]; rfl) ?_  -- 3: tNone := store priory/api.Event#40 [t6] := t17
      refine xw_nil ?_
      repeat first | with_reducible refine xw_next ?_ | with_reducible refine xw_pass ?_ | with_reducible refine xw_passr ?_ | with_reducible refine xw_bnorm ?_ | with_reducible refine xw_bret ?_ | with_reducible refine xw_hit ?_ | with_reducible refine xw_past rfl ?_
      -- region 7
      repeat with_reducible refine xw_seq ?_
      refine xw_region ?_
      refine xw_val (by simp only [aopOf, evalT, tput, tget_set, Nat.reduceEqDiff, reduceIte, aFieldAddr, opt1, field40_0]; rfl) ?_  -- 0: t18 := fieldAddr priory/api.Event#40 t6 .0
      refine xw_val (by simp only [aopOf, evalT, tput, tget_set, Nat.reduceEqDiff, reduceIte, aLoad, opt1, l0]; rfl) ?_  -- 1: t19 := load Go.IntKind.i64#3 [t18]
      refine xw_val (by simp only [aopOf, evalT, tput, tget_set, Nat.reduceEqDiff, reduceIte, aBin, opt1, q1, bi_lss]; rfl) ?_  -- 2: t20 := binOp lss Go.IntKind.i64#3 t19 0:i64
      refine xw_val (by simp only [aopOf, evalT, tput, tget_set, Nat.reduceEqDiff, reduceIte, aMove]; rfl) ?_  -- 3: t21 := move t20
      refine xg_val (d0 := 21) rfl (by simp only [tput, tget_set, Nat.reduceEqDiff, reduceIte] <;> rfl) (by simp only [aopOf, evalT, tput, tget_set, Nat.reduceEqDiff, reduceIte, aFieldAddr, opt1, field40_0]; rfl) ?_  -- 4: fieldAddr priory/api.Event#40 t6 .0 IF 3=false
      refine xg_val (d0 := 21) rfl (by simp only [tput, tget_set, Nat.reduceEqDiff, reduceIte] <;> rfl) (by simp only [aopOf, evalT, tput, tget_set, Nat.reduceEqDiff, reduceIte, aLoad, opt1, l0]; rfl) ?_  -- 5: load Go.IntKind.i64#3 [t22] IF 3=false
      refine xg_val (d0 := 21) rfl (by simp only [tput, tget_set, Nat.reduceEqDiff, reduceIte] <;> rfl) (by simp only [aopOf, evalT, tput, tget_set, Nat.reduceEqDiff, reduceIte, aBin, opt1, q2, bi_gtr]; rfl) ?_  -- 6: binOp gtr Go.IntKind.i64#3 t23 255:i64 IF 3=false
      refine xw_val (by simp only [aopOf, evalT, tput, tget_set, Nat.reduceEqDiff, reduceIte, aPick, aPick]; rfl) ?_  -- 7: t25 := pick t21 ? true : t24
      refine xw_val (by simp only [aopOf, evalT, tput, tget_set, Nat.reduceEqDiff, reduceIte, aMove]; rfl) ?_  -- 8: t26 := move t25
      refine xg_off (d0 := 26) (t' := true) rfl (by simp only [tput, tget_set, Nat.reduceEqDiff, reduceIte] <;> rfl) rfl ?_  -- 9: fieldAddr priory/api.Event#40 t6 .1 IF 8=false
      refine xg_off (d0 := 26) (t' := true) rfl (by simp only [tput, tget_set, Nat.reduceEqDiff, reduceIte] <;> rfl) rfl ?_  -- 10: load Go.IntKind.i64#3 [t27] IF 8=false
      refine xg_off (d0 := 26) (t' := true) rfl (by simp only [tput, tget_set, Nat.reduceEqDiff, reduceIte] <;> rfl) rfl ?_  -- 11: binOp lss Go.IntKind.i64#3 t28 0:i64 IF 8=false
      refine xw_val (by simp only [aopOf, evalT, tput, tget_set, Nat.reduceEqDiff, reduceIte, aPick, aPick]; rfl) ?_  -- 12: t30 := pick t26 ? true : t29
      refine xw_val (by simp only [aopOf, evalT, tput, tget_set, Nat.reduceEqDiff, reduceIte, aMove]; rfl) ?_  -- 13: t31 := move t30
      refine xg_off (d0 := 31) (t' := true) rfl (by simp only [tput, tget_set, Nat.reduceEqDiff, reduceIte] <;> rfl) rfl ?_  -- 14: fieldAddr priory/api.Event#40 t6 .1 IF 13=false
      refine xg_off (d0 := 31) (t' := true) rfl (by simp only [tput, tget_set, Nat.reduceEqDiff, reduceIte] <;> rfl) rfl ?_  -- 15: load Go.IntKind.i64#3 [t32] IF 13=false
      refine xg_off (d0 := 31) (t' := true) rfl (by simp only [tput, tget_set, Nat.reduceEqDiff, reduceIte] <;> rfl) rfl ?_  -- 16: binOp gtr Go.IntKind.i64#3 t33 255:i64 IF 13=false
      refine xw_val (by simp only [aopOf, evalT, tput, tget_set, Nat.reduceEqDiff, reduceIte, aPick, aPick]; rfl) ?_  -- 17: t35 := pick t31 ? true : t34
      refine xw_nil ?_
      repeat first | with_reducible refine xw_next ?_ | with_reducible refine xw_pass ?_ | with_reducible refine xw_passr ?_ | with_reducible refine xw_bnorm ?_ | with_reducible refine xw_bret ?_ | with_reducible refine xw_hit ?_ | with_reducible refine xw_past rfl ?_
      repeat with_reducible refine xw_seq ?_
      refine xw_then (by simp [tput, tget_set]) ?_  -- IF t35
      -- region 8
      repeat with_reducible refine xw_seq ?_
      refine xw_region ?_
      refine xw_val (by simp only [aopOf, evalT, aMove]; rfl) ?_  -- 0: t2 := assign ""
      refine xw_val (by simp only [aopOf, evalT, aMove]; rfl) ?_  -- 1: t3 := assign 2:i64
      refine xw_nil ?_
      repeat first | with_reducible refine xw_next ?_ | with_reducible refine xw_pass ?_ | with_reducible refine xw_passr ?_ | with_reducible refine xw_bnorm ?_ | with_reducible refine xw_bret ?_ | with_reducible refine xw_hit ?_ | with_reducible refine xw_past rfl ?_
      repeat with_reducible refine xw_seq ?_
      refine xw_ret ?_
      repeat first | with_reducible refine xw_next ?_ | with_reducible refine xw_pass ?_ | with_reducible refine xw_passr ?_ | with_reducible refine xw_bnorm ?_ | with_reducible refine xw_bret ?_ | with_reducible refine xw_hit ?_ | with_reducible refine xw_past rfl ?_
      refine xw_end (by simp only [resA, tput, tget_set, Nat.reduceEqDiff, reduceIte, Tryz.results8]; rfl) ?_
      refine ⟨(putV_bad hx (by simp [okE, q1, q2, ])).symm ▸ rfl, fun y hy => ?_⟩
      rw [get_set_other (by omega), Hp.get_new, if_neg (by omega)]
      exact hkeep y hy
    | false =>
    cases q3 : decide (x.2.1 < 0) with
    | true =>
      -- region 5
      repeat with_reducible refine xw_seq ?_
      refine xw_region ?_
      refine xw_val (by simp only [aopOf, evalT, aBin, opt1, hc, e13, e14, bi_lss]; rfl) ?_  -- 0: t15 := binOp lss Go.IntKind.i64#3 t14 t13
      refine xw_nil ?_
      repeat first | with_reducible refine xw_next ?_ | with_reducible refine xw_pass ?_ | with_reducible refine xw_passr ?_ | with_reducible refine xw_bnorm ?_ | with_reducible refine xw_bret ?_ | with_reducible refine xw_hit ?_ | with_reducible refine xw_past rfl ?_
      repeat with_reducible refine xw_seq ?_
      refine xw_then (by simp [tput, tget_set]) ?_  -- IF t15
      refine xw_skip ?_
      repeat first | with_reducible refine xw_next ?_ | with_reducible refine xw_pass ?_ | with_reducible refine xw_passr ?_ | with_reducible refine xw_bnorm ?_ | with_reducible refine xw_bret ?_ | with_reducible refine xw_hit ?_ | with_reducible refine xw_past rfl ?_
      repeat with_reducible refine xw_seq ?_
      refine xw_block ?_
      -- region 6
      repeat with_reducible refine xw_seq ?_
      refine xw_region ?_
      refine xw_val (by simp only [aopOf, evalT, tput, tget_set, Nat.reduceEqDiff, reduceIte, aIndexAddr, opt1, e12, e14, hi]; rfl) ?_  -- 0: t16 := indexAddr []40#22 t12 [t14]
      refine xw_val (by simp only [aopOf, evalT, tput, tget_set, Nat.reduceEqDiff, reduceIte, aLoad, opt1, hld']; rfl) ?_  -- 1: t17 := load priory/api.Event#40 [t16]
      refine xw_val (by simp only [aopOf, aAlloc, aNewRow, Value.cells, List.toList_toArray, zero40]; rfl) ?_  -- 2: t6 := alloc priory/api.Event#40
      refine xw_put (by simp only [aopOf, evalT, tput, tget_set, Nat.reduceEqDiff, reduceIte, aStore, opt3, hst]; rfl) ?_  -- 3: tNone := store priory/api.Event#40 [t6] := t17
      refine xw_nil ?_
      repeat first | with_reducible refine xw_next ?_ | with_reducible refine xw_pass ?_ | with_reducible refine xw_passr ?_ | with_reducible refine xw_bnorm ?_ | with_reducible refine xw_bret ?_ | with_reducible refine xw_hit ?_ | with_reducible refine xw_past rfl ?_
      -- region 7
      repeat with_reducible refine xw_seq ?_
      refine xw_region ?_
      refine xw_val (by simp only [aopOf, evalT, tput, tget_set, Nat.reduceEqDiff, reduceIte, aFieldAddr, opt1, field40_0]; rfl) ?_  -- 0: t18 := fieldAddr priory/api.Event#40 t6 .0
      refine xw_val (by simp only [aopOf, evalT, tput, tget_set, Nat.reduceEqDiff, reduceIte, aLoad, opt1, l0]; rfl) ?_  -- 1: t19 := load Go.IntKind.i64#3 [t18]
      refine xw_val (by simp only [aopOf, evalT, tput, tget_set, Nat.reduceEqDiff, reduceIte, aBin, opt1, q1, bi_lss]; rfl) ?_  -- 2: t20 := binOp lss Go.IntKind.i64#3 t19 0:i64
      refine xw_val (by simp only [aopOf, evalT, tput, tget_set, Nat.reduceEqDiff, reduceIte, aMove]; rfl) ?_  -- 3: t21 := move t20
      refine xg_val (d0 := 21) rfl (by simp only [tput, tget_set, Nat.reduceEqDiff, reduceIte] <;> rfl) (by simp only [aopOf, evalT, tput, tget_set, Nat.reduceEqDiff, reduceIte, aFieldAddr, opt1, field40_0]; rfl) ?_  -- 4: fieldAddr priory/api.Event#40 t6 .0 IF 3=false
      refine xg_val (d0 := 21) rfl (by simp only [tput, tget_set, Nat.reduceEqDiff, reduceIte] <;> rfl) (by simp only [aopOf, evalT, tput, tget_set, Nat.reduceEqDiff, reduceIte, aLoad, opt1, l0]; rfl) ?_  -- 5: load Go.IntKind.i64#3 [t22] IF 3=false
      refine xg_val (d0 := 21) rfl (by simp only [tput, tget_set, Nat.reduceEqDiff, reduceIte] <;> rfl) (by simp only [aopOf, evalT, tput, tget_set, Nat.reduceEqDiff, reduceIte, aBin, opt1, q2, bi_gtr]; rfl) ?_  -- 6: binOp gtr Go.IntKind.i64#3 t23 255:i64 IF 3=false
      refine xw_val (by simp only [aopOf, evalT, tput, tget_set, Nat.reduceEqDiff, reduceIte, aPick, aPick]; rfl) ?_  -- 7: t25 := pick t21 ? true : t24
      refine xw_val (by simp only [aopOf, evalT, tput, tget_set, Nat.reduceEqDiff, reduceIte, aMove]; rfl) ?_  -- 8: t26 := move t25
      refine xg_val (d0 := 26) rfl (by simp only [tput, tget_set, Nat.reduceEqDiff, reduceIte] <;> rfl) (by simp only [aopOf, evalT, tput, tget_set, Nat.reduceEqDiff, reduceIte, aFieldAddr, opt1, field40_1]; rfl) ?_  -- 9: fieldAddr priory/api.Event#40 t6 .1 IF 8=false
      refine xg_val (d0 := 26) rfl (by simp only [tput, tget_set, Nat.reduceEqDiff, reduceIte] <;> rfl) (by simp only [aopOf, evalT, tput, tget_set, Nat.reduceEqDiff, reduceIte, aLoad, opt1, l1]; rfl) ?_  -- 10: load Go.IntKind.i64#3 [t27] IF 8=false
      refine xg_val (d0 := 26) rfl (by simp only [tput, tget_set, Nat.reduceEqDiff, reduceIte] <;> rfl) (by simp only [aopOf, evalT, tput, tget_set, Nat.reduceEqDiff, reduceIte, aBin, opt1, q3, bi_lss]; rfl) ?_  -- 11: binOp lss Go.IntKind.i64#3 t28 0:i64 IF 8=false
      refine xw_val (by simp only [aopOf, evalT, tput, tget_set, Nat.reduceEqDiff, reduceIte, aPick, aPick]; rfl) ?_  -- 12: t30 := pick t26 ? true : t29
      refine xw_val (by simp only [aopOf, evalT, tput, tget_set, Nat.reduceEqDiff, reduceIte, aMove]; rfl) ?_  -- 13: t31 := move t30
      refine xg_off (d0 := 31) (t' := true) rfl (by simp only [tput, tget_set, Nat.reduceEqDiff, reduceIte] <;> rfl) rfl ?_  -- 14: fieldAddr priory/api.Event#40 t6 .1 IF 13=false
      refine xg_off (d0 := 31) (t' := true) rfl (by simp only [tput, tget_set, Nat.reduceEqDiff, reduceIte] <;> rfl) rfl ?_  -- 15: load Go.IntKind.i64#3 [t32] IF 13=false
      refine xg_off (d0 := 31) (t' := true) rfl (by simp only [tput, tget_set, Nat.reduceEqDiff, reduceIte] <;> rfl) rfl ?_  -- 16: binOp gtr Go.IntKind.i64#3 t33 255:i64 IF 13=false
      refine xw_val (by simp only [aopOf, evalT, tput, tget_set, Nat.reduceEqDiff, reduceIte, aPick, aPick]; rfl) ?_  -- 17: t35 := pick t31 ? true : t34
      refine xw_nil ?_
      repeat first | with_reducible refine xw_next ?_ | with_reducible refine xw_pass ?_ | with_reducible refine xw_passr ?_ | with_reducible refine xw_bnorm ?_ | with_reducible refine xw_bret ?_ | with_reducible refine xw_hit ?_ | with_reducible refine xw_past rfl ?_
      repeat with_reducible refine xw_seq ?_
      refine xw_then (by simp [tput, tget_set]) ?_  -- IF t35
      -- region 8
      repeat with_reducible refine xw_seq ?_
      refine xw_region ?_
      refine xw_val (by simp only [aopOf, evalT, aMove]; rfl) ?_  -- 0: t2 := assign ""
      refine xw_val (by simp only [aopOf, evalT, aMove]; rfl) ?_  -- 1: t3 := assign 2:i64
      refine xw_nil ?_
      repeat first | with_reducible refine xw_next ?_ | with_reducible refine xw_pass ?_ | with_reducible refine xw_passr ?_ | with_reducible refine xw_bnorm ?_ | with_reducible refine xw_bret ?_ | with_reducible refine xw_hit ?_ | with_reducible refine xw_past rfl ?_
      repeat with_reducible refine xw_seq ?_
      refine xw_ret ?_
      repeat first | with_reducible refine xw_next ?_ | with_reducible refine xw_pass ?_ | with_reducible refine xw_passr ?_ | with_reducible refine xw_bnorm ?_ | with_reducible refine xw_bret ?_ | with_reducible refine xw_hit ?_ | with_reducible refine xw_past rfl ?_
      refine xw_end (by simp only [resA, tput, tget_set, Nat.reduceEqDiff, reduceIte, Tryz.results8]; rfl) ?_
      refine ⟨(putV_bad hx (by simp [okE, q1, q2, q3, ])).symm ▸ rfl, fun y hy => ?_⟩
      rw [get_set_other (by omega), Hp.get_new, if_neg (by omega)]
      exact hkeep y hy
    | false =>
    cases q4 : decide ((255 : Int) < x.2.1) with
    | true =>
      -- region 5
      repeat with_reducible refine xw_seq ?_
      refine xw_region ?_
      refine xw_val (by simp only [aopOf, evalT, aBin, opt1, hc, e13, e14, bi_lss]; rfl) ?_  -- 0: t15 := binOp lss Go.IntKind.i64#3 t14 t13
      refine xw_nil ?_
      repeat first | with_reducible refine xw_next ?_ | with_reducible refine xw_pass ?_ | with_reducible refine xw_passr ?_ | with_reducible refine xw_bnorm ?_ | with_reducible refine xw_bret ?_ | with_reducible refine xw_hit ?_ | with_reducible refine xw_past rfl ?_
      repeat with_reducible refine xw_seq ?_
      refine xw_then (by simp [tput, tget_set]) ?_  -- IF t15
      refine xw_skip ?_
      repeat first | with_reducible refine xw_next ?_ | with_reducible refine xw_pass ?_ | with_reducible refine xw_passr ?_ | with_reducible refine xw_bnorm ?_ | with_reducible refine xw_bret ?_ | with_reducible refine xw_hit ?_ | with_reducible refine xw_past rfl ?_
      repeat with_reducible refine xw_seq ?_
      refine xw_block ?_
      -- region 6
      repeat with_reducible refine xw_seq ?_
      refine xw_region ?_
      refine xw_val (by simp only [aopOf, evalT, tput, tget_set, Nat.reduceEqDiff, reduceIte, aIndexAddr, opt1, e12, e14, hi]; rfl) ?_  -- 0: t16 := indexAddr []40#22 t12 [t14]
      refine xw_val (by simp only [aopOf, evalT, tput, tget_set, Nat.reduceEqDiff, reduceIte, aLoad, opt1, hld']; rfl) ?_  -- 1: t17 := load priory/api.Event#40 [t16]
      refine xw_val (by simp only [aopOf, aAlloc, aNewRow, Value.cells, List.toList_toArray, zero40]; rfl) ?_  -- 2: t6 := alloc priory/api.Event#40
      refine xw_put (by simp only [aopOf, evalT, tput, tget_set, Nat.reduceEqDiff, reduceIte, aStore, opt3, hst]; rfl) ?_  -- 3: tNone := store priory/api.Event#40 [t6] := t17
      refine xw_nil ?_
      repeat first | with_reducible refine xw_next ?_ | with_reducible refine xw_pass ?_ | with_reducible refine xw_passr ?_ | with_reducible refine xw_bnorm ?_ | with_reducible refine xw_bret ?_ | with_reducible refine xw_hit ?_ | with_reducible refine xw_past rfl ?_
      -- region 7
      repeat with_reducible refine xw_seq ?_
      refine xw_region ?_
      refine xw_val (by simp only [aopOf, evalT, tput, tget_set, Nat.reduceEqDiff, reduceIte, aFieldAddr, opt1, field40_0]; rfl) ?_  -- 0: t18 := fieldAddr priory/api.Event#40 t6 .0
      refine xw_val (by simp only [aopOf, evalT, tput, tget_set, Nat.reduceEqDiff, reduceIte, aLoad, opt1, l0]; rfl) ?_  -- 1: t19 := load Go.IntKind.i64#3 [t18]
      refine xw_val (by simp only [aopOf, evalT, tput, tget_set, Nat.reduceEqDiff, reduceIte, aBin, opt1, q1, bi_lss]; rfl) ?_  -- 2: t20 := binOp lss Go.IntKind.i64#3 t19 0:i64
      refine xw_val (by simp only [aopOf, evalT, tput, tget_set, Nat.reduceEqDiff, reduceIte, aMove]; rfl) ?_  -- 3: t21 := move t20
      refine xg_val (d0 := 21) rfl (by simp only [tput, tget_set, Nat.reduceEqDiff, reduceIte] <;> rfl) (by simp only [aopOf, evalT, tput, tget_set, Nat.reduceEqDiff, reduceIte, aFieldAddr, opt1, field40_0]; rfl) ?_  -- 4: fieldAddr priory/api.Event#40 t6 .0 IF 3=false
      refine xg_val (d0 := 21) rfl (by simp only [tput, tget_set, Nat.reduceEqDiff, reduceIte] <;> rfl) (by simp only [aopOf, evalT, tput, tget_set, Nat.reduceEqDiff, reduceIte, aLoad, opt1, l0]; rfl) ?_  -- 5: load Go.IntKind.i64#3 [t22] IF 3=false
      refine xg_val (d0 := 21) rfl (by simp only [tput, tget_set, Nat.reduceEqDiff, reduceIte] <;> rfl) (by simp only [aopOf, evalT, tput, tget_set, Nat.reduceEqDiff, reduceIte, aBin, opt1, q2, bi_gtr]; rfl) ?_  -- 6: binOp gtr Go.IntKind.i64#3 t23 255:i64 IF 3=false
      refine xw_val (by simp only [aopOf, evalT, tput, tget_set, Nat.reduceEqDiff, reduceIte, aPick, aPick]; rfl) ?_  -- 7: t25 := pick t21 ? true : t24
      refine xw_val (by simp only [aopOf, evalT, tput, tget_set, Nat.reduceEqDiff, reduceIte, aMove]; rfl) ?_  -- 8: t26 := move t25
      refine xg_val (d0 := 26) rfl (by simp only [tput, tget_set, Nat.reduceEqDiff, reduceIte] <;> rfl) (by simp only [aopOf, evalT, tput, tget_set, Nat.reduceEqDiff, reduceIte, aFieldAddr, opt1, field40_1]; rfl) ?_  -- 9: fieldAddr priory/api.Event#40 t6 .1 IF 8=false
      refine xg_val (d0 := 26) rfl (by simp only [tput, tget_set, Nat.reduceEqDiff, reduceIte] <;> rfl) (by simp only [aopOf, evalT, tput, tget_set, Nat.reduceEqDiff, reduceIte, aLoad, opt1, l1]; rfl) ?_  -- 10: load Go.IntKind.i64#3 [t27] IF 8=false
      refine xg_val (d0 := 26) rfl (by simp only [tput, tget_set, Nat.reduceEqDiff, reduceIte] <;> rfl) (by simp only [aopOf, evalT, tput, tget_set, Nat.reduceEqDiff, reduceIte, aBin, opt1, q3, bi_lss]; rfl) ?_  -- 11: binOp lss Go.IntKind.i64#3 t28 0:i64 IF 8=false
      refine xw_val (by simp only [aopOf, evalT, tput, tget_set, Nat.reduceEqDiff, reduceIte, aPick, aPick]; rfl) ?_  -- 12: t30 := pick t26 ? true : t29
      refine xw_val (by simp only [aopOf, evalT, tput, tget_set, Nat.reduceEqDiff, reduceIte, aMove]; rfl) ?_  -- 13: t31 := move t30
      refine xg_val (d0 := 31) rfl (by simp only [tput, tget_set, Nat.reduceEqDiff, reduceIte] <;> rfl) (by simp only [aopOf, evalT, tput, tget_set, Nat.reduceEqDiff, reduceIte, aFieldAddr, opt1, field40_1]; rfl) ?_  -- 14: fieldAddr priory/api.Event#40 t6 .1 IF 13=false
      refine xg_val (d0 := 31) rfl (by simp only [tput, tget_set, Nat.reduceEqDiff, reduceIte] <;> rfl) (by simp only [aopOf, evalT, tput, tget_set, Nat.reduceEqDiff, reduceIte, aLoad, opt1, l1]; rfl) ?_  -- 15: load Go.IntKind.i64#3 [t32] IF 13=false
      refine xg_val (d0 := 31) rfl (by simp only [tput, tget_set, Nat.reduceEqDiff, reduceIte] <;> rfl) (by simp only [aopOf, evalT, tput, tget_set, Nat.reduceEqDiff, reduceIte, aBin, opt1, q4, bi_gtr]; rfl) ?_  -- 16: binOp gtr Go.IntKind.i64#3 t33 255:i64 IF 13=false
      refine xw_val (by simp only [aopOf, evalT, tput, tget_set, Nat.reduceEqDiff, reduceIte, aPick, aPick]; rfl) ?_  -- 17: t35 := pick t31 ? true : t34
      refine xw_nil ?_
      repeat first | with_reducible refine xw_next ?_ | with_reducible refine xw_pass ?_ | with_reducible refine xw_passr ?_ | with_reducible refine xw_bnorm ?_ | with_reducible refine xw_bret ?_ | with_reducible refine xw_hit ?_ | with_reducible refine xw_past rfl ?_
      repeat with_reducible refine xw_seq ?_
      refine xw_then (by simp [tput, tget_set]) ?_  -- IF t35
      -- region 8
      repeat with_reducible refine xw_seq ?_
      refine xw_region ?_
      refine xw_val (by simp only [aopOf, evalT, aMove]; rfl) ?_  -- 0: t2 := assign ""
      refine xw_val (by simp only [aopOf, evalT, aMove]; rfl) ?_  -- 1: t3 := assign 2:i64
      refine xw_nil ?_
      repeat first | with_reducible refine xw_next ?_ | with_reducible refine xw_pass ?_ | with_reducible refine xw_passr ?_ | with_reducible refine xw_bnorm ?_ | with_reducible refine xw_bret ?_ | with_reducible refine xw_hit ?_ | with_reducible refine xw_past rfl ?_
      repeat with_reducible refine xw_seq ?_
      refine xw_ret ?_
      repeat first | with_reducible refine xw_next ?_ | with_reducible refine xw_pass ?_ | with_reducible refine xw_passr ?_ | with_reducible refine xw_bnorm ?_ | with_reducible refine xw_bret ?_ | with_reducible refine xw_hit ?_ | with_reducible refine xw_past rfl ?_
      refine xw_end (by simp only [resA, tput, tget_set, Nat.reduceEqDiff, reduceIte, Tryz.results8]; rfl) ?_
      refine ⟨(putV_bad hx (by simp [okE, q1, q2, q3, q4, ])).symm ▸ rfl, fun y hy => ?_⟩
      rw [get_set_other (by omega), Hp.get_new, if_neg (by omega)]
      exact hkeep y hy
    | false =>
      -- region 5
      repeat with_reducible refine xw_seq ?_
      refine xw_region ?_
      refine xw_val (by simp only [aopOf, evalT, aBin, opt1, hc, e13, e14, bi_lss]; rfl) ?_  -- 0: t15 := binOp lss Go.IntKind.i64#3 t14 t13
      refine xw_nil ?_
      repeat first | with_reducible refine xw_next ?_ | with_reducible refine xw_pass ?_ | with_reducible refine xw_passr ?_ | with_reducible refine xw_bnorm ?_ | with_reducible refine xw_bret ?_ | with_reducible refine xw_hit ?_ | with_reducible refine xw_past rfl ?_
      repeat with_reducible refine xw_seq ?_
      refine xw_then (by simp [tput, tget_set]) ?_  -- IF t15
      refine xw_skip ?_
      repeat first | with_reducible refine xw_next ?_ | with_reducible refine xw_pass ?_ | with_reducible refine xw_passr ?_ | with_reducible refine xw_bnorm ?_ | with_reducible refine xw_bret ?_ | with_reducible refine xw_hit ?_ | with_reducible refine xw_past rfl ?_
      repeat with_reducible refine xw_seq ?_
      refine xw_block ?_
      -- region 6
      repeat with_reducible refine xw_seq ?_
      refine xw_region ?_
      refine xw_val (by simp only [aopOf, evalT, tput, tget_set, Nat.reduceEqDiff, reduceIte, aIndexAddr, opt1, e12, e14, hi]; rfl) ?_  -- 0: t16 := indexAddr []40#22 t12 [t14]
      refine xw_val (by simp only [aopOf, evalT, tput, tget_set, Nat.reduceEqDiff, reduceIte, aLoad, opt1, hld']; rfl) ?_  -- 1: t17 := load priory/api.Event#40 [t16]
      refine xw_val (by simp only [aopOf, aAlloc, aNewRow, Value.cells, List.toList_toArray, zero40]; rfl) ?_  -- 2: t6 := alloc priory/api.Event#40
      refine xw_put (by simp only [aopOf, evalT, tput, tget_set, Nat.reduceEqDiff, reduceIte, aStore, opt3, hst]; rfl) ?_  -- 3: tNone := store priory/api.Event#40 [t6] := t17
      refine xw_nil ?_
      repeat first | with_reducible refine xw_next ?_ | with_reducible refine xw_pass ?_ | with_reducible refine xw_passr ?_ | with_reducible refine xw_bnorm ?_ | with_reducible refine xw_bret ?_ | with_reducible refine xw_hit ?_ | with_reducible refine xw_past rfl ?_
      -- region 7
      repeat with_reducible refine xw_seq ?_
      refine xw_region ?_
      refine xw_val (by simp only [aopOf, evalT, tput, tget_set, Nat.reduceEqDiff, reduceIte, aFieldAddr, opt1, field40_0]; rfl) ?_  -- 0: t18 := fieldAddr priory/api.Event#40 t6 .0
      refine xw_val (by simp only [aopOf, evalT, tput, tget_set, Nat.reduceEqDiff, reduceIte, aLoad, opt1, l0]; rfl) ?_  -- 1: t19 := load Go.IntKind.i64#3 [t18]
      refine xw_val (by simp only [aopOf, evalT, tput, tget_set, Nat.reduceEqDiff, reduceIte, aBin, opt1, q1, bi_lss]; rfl) ?_  -- 2: t20 := binOp lss Go.IntKind.i64#3 t19 0:i64
      refine xw_val (by simp only [aopOf, evalT, tput, tget_set, Nat.reduceEqDiff, reduceIte, aMove]; rfl) ?_  -- 3: t21 := move t20
      refine xg_val (d0 := 21) rfl (by simp only [tput, tget_set, Nat.reduceEqDiff, reduceIte] <;> rfl) (by simp only [aopOf, evalT, tput, tget_set, Nat.reduceEqDiff, reduceIte, aFieldAddr, opt1, field40_0]; rfl) ?_  -- 4: fieldAddr priory/api.Event#40 t6 .0 IF 3=false
      refine xg_val (d0 := 21) rfl (by simp only [tput, tget_set, Nat.reduceEqDiff, reduceIte] <;> rfl) (by simp only [aopOf, evalT, tput, tget_set, Nat.reduceEqDiff, reduceIte, aLoad, opt1, l0]; rfl) ?_  -- 5: load Go.IntKind.i64#3 [t22] IF 3=false
      refine xg_val (d0 := 21) rfl (by simp only [tput, tget_set, Nat.reduceEqDiff, reduceIte] <;> rfl) (by simp only [aopOf, evalT, tput, tget_set, Nat.reduceEqDiff, reduceIte, aBin, opt1, q2, bi_gtr]; rfl) ?_  -- 6: binOp gtr Go.IntKind.i64#3 t23 255:i64 IF 3=false
      refine xw_val (by simp only [aopOf, evalT, tput, tget_set, Nat.reduceEqDiff, reduceIte, aPick, aPick]; rfl) ?_  -- 7: t25 := pick t21 ? true : t24
      refine xw_val (by simp only [aopOf, evalT, tput, tget_set, Nat.reduceEqDiff, reduceIte, aMove]; rfl) ?_  -- 8: t26 := move t25
      refine xg_val (d0 := 26) rfl (by simp only [tput, tget_set, Nat.reduceEqDiff, reduceIte] <;> rfl) (by simp only [aopOf, evalT, tput, tget_set, Nat.reduceEqDiff, reduceIte, aFieldAddr, opt1, field40_1]; rfl) ?_  -- 9: fieldAddr priory/api.Event#40 t6 .1 IF 8=false
      refine xg_val (d0 := 26) rfl (by simp only [tput, tget_set, Nat.reduceEqDiff, reduceIte] <;> rfl) (by simp only [aopOf, evalT, tput, tget_set, Nat.reduceEqDiff, reduceIte, aLoad, opt1, l1]; rfl) ?_  -- 10: load Go.IntKind.i64#3 [t27] IF 8=false
      refine xg_val (d0 := 26) rfl (by simp only [tput, tget_set, Nat.reduceEqDiff, reduceIte] <;> rfl) (by simp only [aopOf, evalT, tput, tget_set, Nat.reduceEqDiff, reduceIte, aBin, opt1, q3, bi_lss]; rfl) ?_  -- 11: binOp lss Go.IntKind.i64#3 t28 0:i64 IF 8=false
      refine xw_val (by simp only [aopOf, evalT, tput, tget_set, Nat.reduceEqDiff, reduceIte, aPick, aPick]; rfl) ?_  -- 12: t30 := pick t26 ? true : t29
      refine xw_val (by simp only [aopOf, evalT, tput, tget_set, Nat.reduceEqDiff, reduceIte, aMove]; rfl) ?_  -- 13: t31 := move t30
      refine xg_val (d0 := 31) rfl (by simp only [tput, tget_set, Nat.reduceEqDiff, reduceIte] <;> rfl) (by simp only [aopOf, evalT, tput, tget_set, Nat.reduceEqDiff, reduceIte, aFieldAddr, opt1, field40_1]; rfl) ?_  -- 14: fieldAddr priory/api.Event#40 t6 .1 IF 13=false
      refine xg_val (d0 := 31) rfl (by simp only [tput, tget_set, Nat.reduceEqDiff, reduceIte] <;> rfl) (by simp only [aopOf, evalT, tput, tget_set, Nat.reduceEqDiff, reduceIte, aLoad, opt1, l1]; rfl) ?_  -- 15: load Go.IntKind.i64#3 [t32] IF 13=false
      refine xg_val (d0 := 31) rfl (by simp only [tput, tget_set, Nat.reduceEqDiff, reduceIte] <;> rfl) (by simp only [aopOf, evalT, tput, tget_set, Nat.reduceEqDiff, reduceIte, aBin, opt1, q4, bi_gtr]; rfl) ?_  -- 16: binOp gtr Go.IntKind.i64#3 t33 255:i64 IF 13=false
      refine xw_val (by simp only [aopOf, evalT, tput, tget_set, Nat.reduceEqDiff, reduceIte, aPick, aPick]; rfl) ?_  -- 17: t35 := pick t31 ? true : t34
      refine xw_nil ?_
      repeat first | with_reducible refine xw_next ?_ | with_reducible refine xw_pass ?_ | with_reducible refine xw_passr ?_ | with_reducible refine xw_bnorm ?_ | with_reducible refine xw_bret ?_ | with_reducible refine xw_hit ?_ | with_reducible refine xw_past rfl ?_
      repeat with_reducible refine xw_seq ?_
      refine xw_else (by simp [tput, tget_set]) ?_  -- IF t35
      refine xw_skip ?_
      repeat first | with_reducible refine xw_next ?_ | with_reducible refine xw_pass ?_ | with_reducible refine xw_passr ?_ | with_reducible refine xw_bnorm ?_ | with_reducible refine xw_bret ?_ | with_reducible refine xw_hit ?_ | with_reducible refine xw_past rfl ?_
      have hoblt : ∀ B, ob = some B → B < h.nx := fun B h => by
        have := hB.2.1
        rw [h] at this
        exact this.1
      have c1 := byte_of q1 q2
      have c2 := byte_of q3 q4
      have hlen := enc_length (l.take k)
      have hlen2 : (l.take k).length ≤ 10000 := by rw [List.length_take]; omega
      have hB2 : Bld 47 5 ((h.new (.row [.int .i64 0, .int .i64 0, .int .u32 0] 40 .exact)).set h.nx (.row (evC x) 40 .exact)) H.nx ob (enc (l.take k)) := hB.keep (by simp)
        (by rw [get_set_other (by omega), Hp.get_new, if_neg (by omega)]) fun B h => by
          have := hoblt B h
          rw [get_set_other (by omega), Hp.get_new, if_neg (by omega)]
      have w1 := WriteByte_spec hB2 (by simp; omega) (UInt8.ofNat x.1.toNat) (by omega)
      -- region 9
      repeat with_reducible refine xw_seq ?_
      refine xw_region ?_
      refine xw_val (by simp only [aopOf, evalT, tput, tget_set, Nat.reduceEqDiff, reduceIte, aFieldAddr, opt1, field40_0]; rfl) ?_  -- 0: t36 := fieldAddr priory/api.Event#40 t6 .0
      refine xw_val (by simp only [aopOf, evalT, tput, tget_set, Nat.reduceEqDiff, reduceIte, aLoad, opt1, l0]; rfl) ?_  -- 1: t37 := load Go.IntKind.i64#3 [t36]
      refine xw_val (by simp only [aopOf, evalT, tput, tget_set, Nat.reduceEqDiff, reduceIte, aConvert, opt2, c1]; rfl) ?_  -- 2: t38 := convert Go.IntKind.i64#3 -> Go.IntKind.u8#5 t37
      refine xw_call (by simp only [aopOf, evalT, tput, tget_set, Nat.reduceEqDiff, reduceIte, aCall, mapOps, e4]; rfl) w1 ?_  -- 3: t39 := call F18:(*strings.Builder).WriteByte (t4, t38) types [strings.Builder#47, Go.IntKind.u8#5]
      rintro v3 h3 hn3 ⟨ob3, hB3, hob3, hk3⟩
      refine xw_nil ?_
      repeat first | with_reducible refine xw_next ?_ | with_reducible refine xw_pass ?_ | with_reducible refine xw_passr ?_ | with_reducible refine xw_bnorm ?_ | with_reducible refine xw_bret ?_ | with_reducible refine xw_hit ?_ | with_reducible refine xw_past rfl ?_
      have hn3 : h.nx + 1 ≤ h3.nx := by simpa using hn3
      have hX : h.nx ≠ H.nx := by omega
      have hob0 : ob ≠ some h.nx := fun h => by have := hoblt _ h; omega
      have g3 : h3.get h.nx = some (.row (evC x) 40 .exact) := (hk3 _ (by simp) hX hob0).trans g2
      have l3 : aload Tryz.prog h3 3 ⟨h.nx, 1, none⟩ = some (.int .i64 x.2.1) := load_cell agg3 sz3 g3 rfl
      have w2 := WriteByte_spec hB3 (by omega) (UInt8.ofNat x.2.1.toNat) (by simp; omega)
      -- region 10
      repeat with_reducible refine xw_seq ?_
      refine xw_region ?_
      refine xw_val (by simp only [aopOf, evalT, tput, tget_set, Nat.reduceEqDiff, reduceIte, aFieldAddr, opt1, field40_1]; rfl) ?_  -- 0: t40 := fieldAddr priory/api.Event#40 t6 .1
      refine xw_val (by simp only [aopOf, evalT, tput, tget_set, Nat.reduceEqDiff, reduceIte, aLoad, opt1, l3]; rfl) ?_  -- 1: t41 := load Go.IntKind.i64#3 [t40]
      refine xw_val (by simp only [aopOf, evalT, tput, tget_set, Nat.reduceEqDiff, reduceIte, aConvert, opt2, c2]; rfl) ?_  -- 2: t42 := convert Go.IntKind.i64#3 -> Go.IntKind.u8#5 t41
      refine xw_call (by simp only [aopOf, evalT, tput, tget_set, Nat.reduceEqDiff, reduceIte, aCall, mapOps, e4]; rfl) w2 ?_  -- 3: t43 := call F18:(*strings.Builder).WriteByte (t4, t42) types [strings.Builder#47, Go.IntKind.u8#5]
      rintro v4 h4x hn4 ⟨ob4, hB4, hob4, hk4⟩
      refine xw_nil ?_
      repeat first | with_reducible refine xw_next ?_ | with_reducible refine xw_pass ?_ | with_reducible refine xw_passr ?_ | with_reducible refine xw_bnorm ?_ | with_reducible refine xw_bret ?_ | with_reducible refine xw_hit ?_ | with_reducible refine xw_past rfl ?_
      have hob3' : ob3 ≠ some h.nx := fun h => by have := hob3 _ h; simp at this; omega
      have g4 : h4x.get h.nx = some (.row (evC x) 40 .exact) := (hk4 _ (by omega) hX hob3').trans g3
      have l4 : aload Tryz.prog h4x 33 ⟨h.nx, 2, none⟩ = some (.int .u32 (.ofNat x.2.2)) := load_cell agg33 sz33 g4 rfl
      have w3 := octet_spec (H := h4x) hxm (by omega)
      have w4 := WriteString_spec hB4 (by omega) (oct4 x.2.2) (by simp [oct4]) (by simp [oct4]; omega)
      -- region 11
      repeat with_reducible refine xw_seq ?_
      refine xw_region ?_
      refine xw_val (by simp only [aopOf, evalT, tput, tget_set, Nat.reduceEqDiff, reduceIte, aFieldAddr, opt1, field40_2]; rfl) ?_  -- 0: t45 := fieldAddr priory/api.Event#40 t6 .2
      refine xw_val (by simp only [aopOf, evalT, tput, tget_set, Nat.reduceEqDiff, reduceIte, aLoad, opt1, l4]; rfl) ?_  -- 1: t46 := load priory/api.Word#33 [t45]
      refine xw_call (by simp only [aopOf, evalT, tput, tget_set, Nat.reduceEqDiff, reduceIte, aCall, mapOps]; rfl) w3 ?_  -- 2: t47 := call F19:priory/octet.Put (t46, 4:i64) types [Go.IntKind.u32#32, Go.IntKind.i64#3]
      rintro v hq hn ⟨rfl, hh⟩
      obtain rfl := hh.symm
      refine xw_val (by simp only [aopOf, evalT, tput, tget_set, Nat.reduceEqDiff, reduceIte, aMove]; rfl) ?_  -- 3: t44 := move t47
      refine xw_val (by simp only [aopOf, evalT, tput, tget_set, Nat.reduceEqDiff, reduceIte, aExtract, aextract, opt1]; rfl) ?_  -- 4: t48 := extract t44 0
      refine xw_val (by simp only [aopOf, evalT, tput, tget_set, Nat.reduceEqDiff, reduceIte, aExtract, aextract, opt1]; rfl) ?_  -- 5: t49 := extract t44 1
      refine xw_val (by simp only [aopOf, evalT, tput, tget_set, Nat.reduceEqDiff, reduceIte, aMove]; rfl) ?_  -- 6: t7 := assign t48
      refine xw_val (by simp only [aopOf, evalT, tput, tget_set, Nat.reduceEqDiff, reduceIte, aMove]; rfl) ?_  -- 7: t8 := assign t49
      refine xw_nil ?_
      repeat first | with_reducible refine xw_next ?_ | with_reducible refine xw_pass ?_ | with_reducible refine xw_passr ?_ | with_reducible refine xw_bnorm ?_ | with_reducible refine xw_bret ?_ | with_reducible refine xw_hit ?_ | with_reducible refine xw_past rfl ?_
      -- region 12
      repeat with_reducible refine xw_seq ?_
      refine xw_region ?_
      refine xw_val (by simp only [aopOf, evalT, tput, tget_set, Nat.reduceEqDiff, reduceIte, aMove]; rfl) ?_  -- 0: t50 := move t7
      refine xw_call (by simp only [aopOf, evalT, tput, tget_set, Nat.reduceEqDiff, reduceIte, aCall, mapOps, e4]; rfl) w4 ?_  -- 1: t51 := call F20:(*strings.Builder).WriteString (t4, t50) types [strings.Builder#47, string#9]
      rintro v5 h5 hn5 ⟨ob5, hB5, hob5, hk5⟩
      refine xw_nil ?_
      repeat first | with_reducible refine xw_next ?_ | with_reducible refine xw_pass ?_ | with_reducible refine xw_passr ?_ | with_reducible refine xw_bnorm ?_ | with_reducible refine xw_bret ?_ | with_reducible refine xw_hit ?_ | with_reducible refine xw_past rfl ?_
      -- region 13
      repeat with_reducible refine xw_seq ?_
      refine xw_region ?_
      refine xw_val (by simp only [aopOf, evalT, tput, tget_set, Nat.reduceEqDiff, reduceIte, aBin, opt1, e14, hadd, bi_add]; rfl) ?_  -- 0: t52 := binOp add Go.IntKind.i64#3 t14 1:i64
      refine xw_val (by simp only [aopOf, evalT, tput, tget_set, Nat.reduceEqDiff, reduceIte, aMove]; rfl) ?_  -- 1: t14 := move t52
      refine xw_nil ?_
      repeat first | with_reducible refine xw_next ?_ | with_reducible refine xw_pass ?_ | with_reducible refine xw_passr ?_ | with_reducible refine xw_bnorm ?_ | with_reducible refine xw_bret ?_ | with_reducible refine xw_hit ?_ | with_reducible refine xw_past rfl ?_
      have hkk : Keeps H h5 := fun y hy => by
        have k1 : ob ≠ some y := fun h => by have := hob _ h; omega
        have k3 : ob3 ≠ some y := fun h => by have := hob3 _ h; simp at this; omega
        have k4 : ob4 ≠ some y := fun h => by have := hob4 _ h; omega
        rw [hk5 y (by omega) (by omega) k4, hk4 y (by omega) (by omega) k3, hk3 y (by simp; omega) (by omega) k1, get_set_other (by omega), Hp.get_new, if_neg (by omega)]
        exact hkeep y hy
      refine ⟨n - 1, by omega, k + 1, _, h5, ob5, rfl, by omega, by simp [tput, tget_set, e4], by simp [tput, tget_set, e12], by simp [tput, tget_set, e13], by simp [tput, tget_set], by omega, hkk, by rw [enc_snoc hx]; exact hB5, fun B hB => ?_, all_snoc hx hall (by simp [okE, q1, q2, q3, q4])⟩
      have := hob5 B hB
      omega
  · have hc : (decide ((Int.ofNat k : Int) < Int.ofNat l.length)) = false := by simp; omega
    have hkl : l.take k = l := List.take_of_length_le (by omega)
    rw [hkl] at hB hall
    have hlen := enc_length l
    have w1 := String_spec hB (by omega)
    -- region 5
    repeat with_reducible refine xw_seq ?_
    refine xw_region ?_
    refine xw_val (by simp only [aopOf, evalT, aBin, opt1, hc, e13, e14, bi_lss]; rfl) ?_  -- 0: t15 := binOp lss Go.IntKind.i64#3 t14 t13
    refine xw_nil ?_
    repeat first | with_reducible refine xw_next ?_ | with_reducible refine xw_pass ?_ | with_reducible refine xw_passr ?_ | with_reducible refine xw_bnorm ?_ | with_reducible refine xw_bret ?_ | with_reducible refine xw_hit ?_ | with_reducible refine xw_past rfl ?_
    repeat with_reducible refine xw_seq ?_
    refine xw_else (by simp [tput, tget_set]) ?_  -- IF t15
    refine xw_exit ?_
    repeat first | with_reducible refine xw_next ?_ | with_reducible refine xw_pass ?_ | with_reducible refine xw_passr ?_ | with_reducible refine xw_bnorm ?_ | with_reducible refine xw_bret ?_ | with_reducible refine xw_hit ?_ | with_reducible refine xw_past rfl ?_
    -- region 14
    repeat with_reducible refine xw_seq ?_
    refine xw_region ?_
    refine xw_call (by simp only [aopOf, evalT, tput, tget_set, Nat.reduceEqDiff, reduceIte, aCall, mapOps, e4]; rfl) w1 ?_  -- 0: t53 := call F21:(*strings.Builder).String (t4) types [strings.Builder#47]
    rintro v hq hn ⟨rfl, hnq, hkq⟩
    refine xw_val (by simp only [aopOf, evalT, tput, tget_set, Nat.reduceEqDiff, reduceIte, aMove]; rfl) ?_  -- 1: t2 := assign t53
    refine xw_val (by simp only [aopOf, evalT, aMove]; rfl) ?_  -- 2: t3 := assign 0:i64
    refine xw_nil ?_
    repeat first | with_reducible refine xw_next ?_ | with_reducible refine xw_pass ?_ | with_reducible refine xw_passr ?_ | with_reducible refine xw_bnorm ?_ | with_reducible refine xw_bret ?_ | with_reducible refine xw_hit ?_ | with_reducible refine xw_past rfl ?_
    repeat with_reducible refine xw_seq ?_
    refine xw_ret ?_
    repeat first | with_reducible refine xw_next ?_ | with_reducible refine xw_pass ?_ | with_reducible refine xw_passr ?_ | with_reducible refine xw_bnorm ?_ | with_reducible refine xw_bret ?_ | with_reducible refine xw_hit ?_ | with_reducible refine xw_past rfl ?_
    refine xw_end (by simp only [resA, tput, tget_set, Nat.reduceEqDiff, reduceIte, Tryz.results8]; rfl) ?_
    refine ⟨(putV_ok hall).symm ▸ rfl, fun y hy => ?_⟩
    rw [hkq y (fun h => by have := hob _ h; omega)]
    exact hkeep y hy
end Go.Proofs.YtjncolnikkbjeaaGreatDoor
