/- The call (*List).Add of a fresh list, on plain data, found once and for all. Conditions: none. -/
import Derived.Test.YtoldofonadhpnaaGreatDoorFacts
import Derived.Test.YtoldofonadhpnaaGreatDoorLaw
namespace Go.Proofs.YtoldofonadhpnaaGreatDoor
open Go Pri
theorem fnAt191 : fnAt Tryz.prog 191 = some Tryz.f191 := by kernel_rfl
theorem und306 : und Tryz.prog 306 = some (.array 1024 3) := by kernel_rfl
theorem sz3 : szOf Tryz.prog 3 = some 1 := by kernel_rfl
theorem agg3 : aggOf Tryz.prog 3 = some false := by kernel_rfl

/-- The closure of Add: the greater one of two pages. -/
theorem add1_spec {H : Hp} {a b k : Nat} {A B : List Value} {x y : Int} (ha : H.get a = some (.row A 306 .exact)) (hb : H.get b = some (.row B 306 .exact)) (hk : k < 1024) (hx : A[k]? = some (.int .i64 x)) (hy : B[k]? = some (.int .i64 y)) :
    ∃ v h' pn', (Cl Tryz.prog noOrc none false (.fn (.func 191) #[.pointer (some ⟨a, 0, none⟩), .pointer (some ⟨b, 0, none⟩)]) #[.int .i64 (.ofNat k)] H (.ret v) h' pn' ∧ H.nx ≤ h'.nx) ∧ (v = .int .i64 (bsel (ilt x y) y x) ∧ h' = H) := by
  refine wpF_Cl rfl fnAt191 ?_
  have i1 : aindexAddr Tryz.prog 306 (.pointer (some ⟨a, 0, none⟩)) (.int .i64 (.ofNat k)) = some (.pointer (some ⟨a, 0 + k, none⟩)) := idx_array und306 sz3 hk
  have i2 : aindexAddr Tryz.prog 306 (.pointer (some ⟨b, 0, none⟩)) (.int .i64 (.ofNat k)) = some (.pointer (some ⟨b, 0 + k, none⟩)) := idx_array und306 sz3 hk
  have l1 : aload Tryz.prog H 3 ⟨a, 0 + k, none⟩ = some (.int .i64 x) := load_cell agg3 sz3 ha (by rw [Nat.zero_add]; exact hx)
  have l2 : aload Tryz.prog H 3 ⟨b, 0 + k, none⟩ = some (.int .i64 y) := load_cell agg3 sz3 hb (by rw [Nat.zero_add]; exact hy)
  refine xw_fun rfl (tm := (Tri.set (Tri.set (Tri.set Tri.leaf 0 (.int .i64 (.ofNat k))) 1 (.pointer (some ⟨a, 0, none⟩))) 2 (.pointer (some ⟨b, 0, none⟩)))) rfl ?_
  -- region 0
  repeat with_reducible refine xw_seq ?_
  refine xw_region ?_
  refine xw_val (by simp only [aopOf, evalT, aMove]; rfl) ?_  -- 0: t4 := assign 0:i64
  refine xw_nil ?_
  repeat first | with_reducible refine xw_next ?_ | with_reducible refine xw_pass ?_ | with_reducible refine xw_passr ?_ | with_reducible refine xw_bnorm ?_ | with_reducible refine xw_bret ?_ | with_reducible refine xw_hit ?_ | with_reducible refine xw_past rfl ?_
  -- region 1
  repeat with_reducible refine xw_seq ?_
  refine xw_draw (by kernel_rfl) ?_
  refine xq_val (by simp only [aopOf, evalT, tput, tget_set, tget_leaf, Nat.reduceEqDiff, reduceIte, aMove]; rfl) (by first | rfl | simp [isRead]) ?_  -- 0: t5 := move t0
  refine xq_val (by simp only [aopOf, evalT, tput, tget_set, tget_leaf, Nat.reduceEqDiff, reduceIte, aIndexAddr, opt1, i1]; rfl) (by first | rfl | simp [isRead]) ?_  -- 1: t6 := indexAddr [1024]3#306 t1 [t5]
  refine xq_val (by simp only [aopOf, evalT, tput, tget_set, tget_leaf, Nat.reduceEqDiff, reduceIte, aLoad, opt1, l1]; rfl) (by first | rfl | simp [isRead]) ?_  -- 2: t7 := load Go.IntKind.i64#3 [t6]
  refine xq_val (by simp only [aopOf, evalT, tput, tget_set, tget_leaf, Nat.reduceEqDiff, reduceIte, aMove]; rfl) (by first | rfl | simp [isRead]) ?_  -- 3: t8 := move t0
  refine xq_val (by simp only [aopOf, evalT, tput, tget_set, tget_leaf, Nat.reduceEqDiff, reduceIte, aIndexAddr, opt1, i2]; rfl) (by first | rfl | simp [isRead]) ?_  -- 4: t9 := indexAddr [1024]3#306 t2 [t8]
  refine xq_val (by simp only [aopOf, evalT, tput, tget_set, tget_leaf, Nat.reduceEqDiff, reduceIte, aLoad, opt1, l2]; rfl) (by first | rfl | simp [isRead]) ?_  -- 5: t10 := load Go.IntKind.i64#3 [t9]
  refine xq_val (by simp only [aopOf, evalT, tput, tget_set, tget_leaf, Nat.reduceEqDiff, reduceIte, aCall, mapOps, abuiltin, amax, keq_self, bsel_true]; rfl) (by first | rfl | simp [isRead]) ?_  -- 6: t11 := call builtin max (t7, t10) types [Go.IntKind.i64#3, Go.IntKind.i64#3]
  refine xq_val (by simp only [aopOf, evalT, tput, tget_set, tget_leaf, Nat.reduceEqDiff, reduceIte, aMove]; rfl) (by first | rfl | simp [isRead]) ?_  -- 7: t4 := assign t11
  refine xq_nil ?_
  repeat first | with_reducible refine xw_next ?_ | with_reducible refine xw_pass ?_ | with_reducible refine xw_passr ?_ | with_reducible refine xw_bnorm ?_ | with_reducible refine xw_bret ?_ | with_reducible refine xw_hit ?_ | with_reducible refine xw_past rfl ?_
  repeat with_reducible refine xw_seq ?_
  refine xw_ret ?_
  repeat first | with_reducible refine xw_next ?_ | with_reducible refine xw_pass ?_ | with_reducible refine xw_passr ?_ | with_reducible refine xw_bnorm ?_ | with_reducible refine xw_bret ?_ | with_reducible refine xw_hit ?_ | with_reducible refine xw_past rfl ?_
  refine xw_end (by simp only [tput]; rfl) ?_
  exact ⟨rfl, rfl⟩

theorem fnAt190 : fnAt Tryz.prog 190 = some Tryz.f190 := by kernel_rfl
theorem und195 : und Tryz.prog 195 = some (.slice 239) := by kernel_rfl
theorem ty239 : ∃ i, ty Tryz.prog 239 = some i ∧ i.size = 3 ∧ i.bytes = 24 := by
  have h1 : (ty Tryz.prog 239).map (fun i => (i.size, i.bytes)) = some (3, 24) := by kernel_rfl
  cases h : ty Tryz.prog 239 with
  | none => rw [h] at h1; cases h1
  | some i =>
    rw [h] at h1
    simp only [Option.map_some, Option.some.injEq, Prod.mk.injEq] at h1
    exact ⟨i, rfl, h1⟩
theorem zero239 : zeroOf Tryz.prog 239 = some (.agg #[.int .i64 0, .int .i64 0, .bool false]) := by kernel_rfl
theorem sz239 : szOf Tryz.prog 239 = some 3 := by kernel_rfl
theorem build239 (x y : Int) (b : Bool) : abuild Tryz.prog 239 [(0, .int .i64 x), (1, .int .i64 y), (2, .bool b)] = some (.agg #[.int .i64 x, .int .i64 y, .bool b]) := by kernel_rfl
theorem slice239 (h : Hp) (x y : Int) (b : Bool) : aBuildSlice2 h 239 1 3 (.agg #[.int .i64 0, .int .i64 0, .bool false]) [(0, .agg #[.int .i64 x, .int .i64 y, .bool b])] =
    some (.val (.slice (some ⟨h.nx, 0, none⟩) 1 1), h.new (.row [.int .i64 x, .int .i64 y, .bool b] 239 .exact)) := by kernel_rfl
theorem field239 (l : Nat) : afieldAddr Tryz.prog 239 (.pointer (some ⟨l, 0, none⟩)) 1 = some (.pointer (some ⟨l, 1, none⟩)) := by kernel_rfl
theorem index239 (l : Nat) (c : Nat) : aindexAddr Tryz.prog 195 (.slice (some ⟨l, 0, none⟩) 1 c) (.int .i64 (.ofNat 0)) = some (.pointer (some ⟨l, 0, none⟩)) := by kernel_rfl
theorem index239b (l : Nat) (c : Nat) : aindexAddr Tryz.prog 195 (.slice (some ⟨l, 0, none⟩) 1 c) (.int .i64 0) = some (.pointer (some ⟨l, 0, none⟩)) := by kernel_rfl
theorem app239 {h : Hp} {l : Nat} {x y : Int} {b : Bool} (hg : h.get l = some (.row [.int .i64 x, .int .i64 y, .bool b] 239 .exact)) : aappend Tryz.prog h 195 (.slice none 0 0) (.slice (some ⟨l, 0, none⟩) 1 1) =
    some (.slice (some ⟨h.nx, 0, none⟩) 1 (unk + 1), h.new (.row [.int .i64 x, .int .i64 y, .bool b] 239 (.grow 3))) := by
  obtain ⟨i, h1, h2, h3⟩ := ty239
  have hc : srcCells h 3 (.slice (some ⟨l, 0, none⟩) 1 1) = some [.int .i64 x, .int .i64 y, .bool b] := by
    simp only [srcCells, cellsAt, hpRow, hg]
    rfl
  unfold aappend
  simp only [und195, h1, zero239, srcLen, h2, h3, hc]
  rfl

/-- What holds of a loop over the pages: which areas there are so far. -/
def Formed (H h : Hp) (tm : Tri Value) (k : Nat) : Prop :=
  (k = 0 ∧ tget tm 4 = .slice none 0 0 ∧ tget tm 5 = .int .i64 0) ∨
  (∃ L, H.nx ≤ L ∧ L < h.nx ∧ tget tm 4 = .slice (some ⟨L, 0, none⟩) 1 (unk + 1) ∧ ((k = 1 ∧ tget tm 5 = .int .i64 2 ∧ h.get L = some (.row [.int .i64 0, .int .i64 1, .bool true] 239 (.grow 3))) ∨
    (2 ≤ k ∧ (∃ x, tget tm 5 = .int .i64 x) ∧ h.get L = some (.row [.int .i64 0, .int .i64 2, .bool true] 239 (.grow 3)))))

theorem form_spec {H : Hp} {a b : Nat} {A B : List Value} (ha : H.get a = some (.row A 306 .exact)) (hb : H.get b = some (.row B 306 .exact)) (hla : a < H.nx) (hlb : b < H.nx)
    (hA : ∀ k, k < 1024 → A[k]? = some (.int .i64 0)) (hB : ∀ k, k < 1024 → B[k]? = some (.int .i64 (if k < 2 then 2 else 0))) :
    ∃ v h' pn', (Cl Tryz.prog noOrc none false (.fn (.func 190) #[]) #[.func (.func 191) #[] #[.pointer (some ⟨a, 0, none⟩), .pointer (some ⟨b, 0, none⟩)]] H (.ret v) h' pn' ∧ H.nx ≤ h'.nx) ∧
      (∃ L, v = .tuple #[.slice (some ⟨L, 0, none⟩) 1 (unk + 1), .int .i64 0] ∧ H.nx ≤ L ∧ h'.get L = some (.row [.int .i64 0, .int .i64 2, .bool true] 239 (.grow 3))) := by
  refine wpF_Cl rfl fnAt190 ?_
  refine xw_fun rfl (tm := (Tri.set Tri.leaf 0 (.func (.func 191) #[] #[.pointer (some ⟨a, 0, none⟩), .pointer (some ⟨b, 0, none⟩)]))) rfl ?_
  -- region 0
  repeat with_reducible refine xw_seq ?_
  refine xw_region ?_
  refine xw_val (by simp only [aopOf, evalT, aMove]; rfl) ?_  -- 0: t2 := assign nilslice
  refine xw_val (by simp only [aopOf, evalT, aMove]; rfl) ?_  -- 1: t3 := assign 0:i64
  refine xw_nil ?_
  repeat first | with_reducible refine xw_next ?_ | with_reducible refine xw_pass ?_ | with_reducible refine xw_passr ?_ | with_reducible refine xw_bnorm ?_ | with_reducible refine xw_bret ?_ | with_reducible refine xw_hit ?_ | with_reducible refine xw_past rfl ?_
  -- region 1
  repeat with_reducible refine xw_seq ?_
  refine xw_region ?_
  refine xw_val (by simp only [aopOf, evalT, aMove]; rfl) ?_  -- 0: t4 := assign nilslice
  refine xw_nil ?_
  repeat first | with_reducible refine xw_next ?_ | with_reducible refine xw_pass ?_ | with_reducible refine xw_passr ?_ | with_reducible refine xw_bnorm ?_ | with_reducible refine xw_bret ?_ | with_reducible refine xw_hit ?_ | with_reducible refine xw_past rfl ?_
  -- region 2
  repeat with_reducible refine xw_seq ?_
  refine xw_region ?_
  refine xw_val (by simp only [aopOf, evalT, aMove]; rfl) ?_  -- 0: t5 := assign 0:i64
  refine xw_nil ?_
  repeat first | with_reducible refine xw_next ?_ | with_reducible refine xw_pass ?_ | with_reducible refine xw_passr ?_ | with_reducible refine xw_bnorm ?_ | with_reducible refine xw_bret ?_ | with_reducible refine xw_hit ?_ | with_reducible refine xw_past rfl ?_
  -- region 3
  repeat with_reducible refine xw_seq ?_
  refine xw_region ?_
  refine xw_val (by simp only [aopOf, evalT, aMove]; rfl) ?_  -- 0: t8 := move 0:i64
  refine xw_nil ?_
  repeat first | with_reducible refine xw_next ?_ | with_reducible refine xw_pass ?_ | with_reducible refine xw_passr ?_ | with_reducible refine xw_bnorm ?_ | with_reducible refine xw_bret ?_ | with_reducible refine xw_hit ?_ | with_reducible refine xw_past rfl ?_
  repeat with_reducible refine xw_seq ?_
  refine xw_block ?_
  refine xw_inv (fun n s => ∃ (k : Nat) (tm : Tri Value) (h : Hp), s = ⟨tm, [], h, none⟩ ∧ k + n = 1024 ∧ tget tm 0 = .func (.func 191) #[] #[.pointer (some ⟨a, 0, none⟩), .pointer (some ⟨b, 0, none⟩)] ∧ tget tm 8 = .int .i64 (.ofNat k) ∧ H.nx ≤ h.nx ∧ Keeps H h ∧ Formed H h tm k) 1024
    ⟨0, _, _, rfl, rfl, by simp [tput, tget_set], by simp [tput, tget_set], Nat.le_refl _, Keeps.refl _, .inl ⟨rfl, by simp [tput, tget_set], by simp [tput, tget_set]⟩⟩ ?_
  rintro n s ⟨k, tm, h, rfl, hk, e0, e8, hnx, hkeep, hform⟩
  have ga : h.get a = some (.row A 306 .exact) := by rw [hkeep a hla]; exact ha
  have gb : h.get b = some (.row B 306 .exact) := by rw [hkeep b hlb]; exact hb
  by_cases hlt : k < 1024
  · have hc : (decide ((Int.ofNat k : Int) < 1024)) = true := by simp; omega
    have hadd : IntKind.i64.wrap (Int.ofNat k + 1) = Int.ofNat (k + 1) := by rw [wrap_i64 (by simp; omega) (by simp; omega)]; rfl
    by_cases hk2 : k < 2
    · have hs : ∃ v h' pn', (Cl Tryz.prog noOrc none false (.fn (.func 191) #[.pointer (some ⟨a, 0, none⟩), .pointer (some ⟨b, 0, none⟩)]) #[.int .i64 (.ofNat k)] h (.ret v) h' pn' ∧ h.nx ≤ h'.nx) ∧ (v = .int .i64 2 ∧ h' = h) := by
        have := add1_spec ga gb hlt (hA k hlt) (hB k hlt)
        rw [if_pos hk2] at this
        exact this
      rcases hform with ⟨rfl, h4, h5⟩ | ⟨L, h1, h2, h3, h4⟩
      · have hap := bAppend_of (ts := #[195, 195]) rfl rfl und195 (app239 (h := h.new (.row [.int .i64 (Int.ofNat 0), .int .i64 1, .bool true] 239 .exact)) (get_new_same h _))
        -- region 4
        repeat with_reducible refine xw_seq ?_
        refine xw_region ?_
        refine xw_val (by simp only [aopOf, evalT, aBin, opt1, hc, e8, bi_lss]; rfl) ?_  -- 0: t9 := binOp lss Go.IntKind.i64#3 t8 1024:i64
        refine xw_nil ?_
        repeat first | with_reducible refine xw_next ?_ | with_reducible refine xw_pass ?_ | with_reducible refine xw_passr ?_ | with_reducible refine xw_bnorm ?_ | with_reducible refine xw_bret ?_ | with_reducible refine xw_hit ?_ | with_reducible refine xw_past rfl ?_
        repeat with_reducible refine xw_seq ?_
        refine xw_then (by simp [tput, tget_set]) ?_  -- IF t9
        refine xw_skip ?_
        repeat first | with_reducible refine xw_next ?_ | with_reducible refine xw_pass ?_ | with_reducible refine xw_passr ?_ | with_reducible refine xw_bnorm ?_ | with_reducible refine xw_bret ?_ | with_reducible refine xw_hit ?_ | with_reducible refine xw_past rfl ?_
        repeat with_reducible refine xw_seq ?_
        refine xw_block ?_  -- block 1
        -- region 5
        repeat with_reducible refine xw_seq ?_
        refine xw_region ?_
        refine xw_val (by simp only [aopOf, evalT, tput, tget_set, Nat.reduceEqDiff, reduceIte, aMove, e8]; rfl) ?_  -- 0: t10 := move t8
        refine xw_val (by simp only [aopOf, evalT, tput, tget_set, Nat.reduceEqDiff, reduceIte, aMove]; rfl) ?_  -- 1: t6 := assign t10
        refine xw_nil ?_
        repeat first | with_reducible refine xw_next ?_ | with_reducible refine xw_pass ?_ | with_reducible refine xw_passr ?_ | with_reducible refine xw_bnorm ?_ | with_reducible refine xw_bret ?_ | with_reducible refine xw_hit ?_ | with_reducible refine xw_past rfl ?_
        -- region 6
        repeat with_reducible refine xw_seq ?_
        refine xw_region ?_
        refine xw_val (by simp only [aopOf, evalT, tput, tget_set, Nat.reduceEqDiff, reduceIte, aMove, e0]; rfl) ?_  -- 0: t11 := move t0
        refine xw_val (by simp only [aopOf, evalT, tput, tget_set, Nat.reduceEqDiff, reduceIte, aMove]; rfl) ?_  -- 1: t12 := move t6
        refine xw_call (by simp only [aopOf, evalT, tput, tget_set, Nat.reduceEqDiff, reduceIte, aCall, mapOps]; rfl) hs ?_  -- 2: t13 := call t11 (t12) types [Go.IntKind.i64#3]
        rintro v hq hn ⟨rfl, hh⟩
        obtain rfl := hh.symm
        refine xw_val (by simp only [aopOf, evalT, tput, tget_set, Nat.reduceEqDiff, reduceIte, aMove]; rfl) ?_  -- 3: t7 := assign t13
        refine xw_nil ?_
        repeat first | with_reducible refine xw_next ?_ | with_reducible refine xw_pass ?_ | with_reducible refine xw_passr ?_ | with_reducible refine xw_bnorm ?_ | with_reducible refine xw_bret ?_ | with_reducible refine xw_hit ?_ | with_reducible refine xw_past rfl ?_
        repeat with_reducible refine xw_seq ?_
        refine xw_block ?_  -- block 2
        -- region 8
        repeat with_reducible refine xw_seq ?_
        refine xw_region ?_
        refine xw_val (by simp only [aopOf, evalT, tput, tget_set, Nat.reduceEqDiff, reduceIte, aMove]; rfl) ?_  -- 0: t22 := move t7
        refine xw_val (by simp only [aopOf, evalT, tput, tget_set, Nat.reduceEqDiff, reduceIte, aBin, opt1, bi_eql]; rfl) ?_  -- 1: t23 := binOp eql Go.IntKind.i64#3 t22 0:i64
        refine xw_val (by simp only [aopOf, evalT, tput, tget_set, Nat.reduceEqDiff, reduceIte, aMove]; rfl) ?_  -- 2: t21 := assign t23
        refine xw_nil ?_
        repeat first | with_reducible refine xw_next ?_ | with_reducible refine xw_pass ?_ | with_reducible refine xw_passr ?_ | with_reducible refine xw_bnorm ?_ | with_reducible refine xw_bret ?_ | with_reducible refine xw_hit ?_ | with_reducible refine xw_past rfl ?_
        repeat with_reducible refine xw_seq ?_
        refine xw_else (by simp [tput, tget_set]) ?_  -- IF t21
        -- region 9
        repeat with_reducible refine xw_seq ?_
        refine xw_region ?_
        refine xw_val (by simp only [aopOf, evalT, tput, tget_set, Nat.reduceEqDiff, reduceIte, aMove]; rfl) ?_  -- 0: t25 := move t7
        refine xw_val (by simp only [aopOf, evalT, tput, tget_set, Nat.reduceEqDiff, reduceIte, aMove, h5]; rfl) ?_  -- 1: t26 := move t5
        refine xw_val (by simp only [aopOf, evalT, tput, tget_set, Nat.reduceEqDiff, reduceIte, aBin, opt1, bi_eql]; rfl) ?_  -- 2: t27 := binOp eql Go.IntKind.i64#3 t25 t26
        refine xw_val (by simp only [aopOf, evalT, tput, tget_set, Nat.reduceEqDiff, reduceIte, aMove]; rfl) ?_  -- 3: t24 := assign t27
        refine xw_nil ?_
        repeat first | with_reducible refine xw_next ?_ | with_reducible refine xw_pass ?_ | with_reducible refine xw_passr ?_ | with_reducible refine xw_bnorm ?_ | with_reducible refine xw_bret ?_ | with_reducible refine xw_hit ?_ | with_reducible refine xw_past rfl ?_
        repeat with_reducible refine xw_seq ?_
        refine xw_else (by simp [tput, tget_set]) ?_  -- IF t24
        -- region 7
        repeat with_reducible refine xw_seq ?_
        refine xw_region ?_
        refine xw_val (by simp only [aopOf, evalT, tput, tget_set, Nat.reduceEqDiff, reduceIte, aMove, h4]; rfl) ?_  -- 0: t14 := move t4
        refine xw_val (by simp only [aopOf, evalT, tput, tget_set, Nat.reduceEqDiff, reduceIte, aMove]; rfl) ?_  -- 1: t15 := move t6
        refine xw_val (by simp only [aopOf, evalT, tput, tget_set, Nat.reduceEqDiff, reduceIte, aMove]; rfl) ?_  -- 2: t16 := move t7
        refine xw_val (by simp only [aopOf, evalT, tput, tget_set, Nat.reduceEqDiff, reduceIte, decide_true, aBin, opt1, bi_eql]; rfl) ?_  -- 3: t17 := binOp eql Go.IntKind.i64#3 t16 2:i64
        refine xw_val (by simp only [aopOf, evalT, tput, tget_set, Nat.reduceEqDiff, reduceIte, aBuild, opt1, mapParts, build239]; rfl) ?_  -- 4: t18 := build priory/api.Area#239 [0:t15, 1:1:i64, 2:t17]
        refine xw_val (by simp only [aopOf, evalT, tput, tget_set, Nat.reduceEqDiff, reduceIte, aBuildSlice, mapParts, slice239, und195, sz239, zero239]; rfl) ?_  -- 5: t19 := buildSlice []239#195 1 [0:t18]
        refine xw_val (by simp only [aopOf, evalT, tput, tget_set, Nat.reduceEqDiff, reduceIte, aCall, mapOps, hap, abuiltin]; rfl) ?_  -- 6: t20 := call builtin append (t14, t19) types [[]239#195, []239#195]
        refine xw_val (by simp only [aopOf, evalT, tput, tget_set, Nat.reduceEqDiff, reduceIte, aMove]; rfl) ?_  -- 7: t4 := assign t20
        refine xw_nil ?_
        repeat first | with_reducible refine xw_next ?_ | with_reducible refine xw_pass ?_ | with_reducible refine xw_passr ?_ | with_reducible refine xw_bnorm ?_ | with_reducible refine xw_bret ?_ | with_reducible refine xw_hit ?_ | with_reducible refine xw_past rfl ?_
        -- region 11
        repeat with_reducible refine xw_seq ?_
        refine xw_region ?_
        refine xw_val (by simp only [aopOf, evalT, tput, tget_set, Nat.reduceEqDiff, reduceIte, aMove]; rfl) ?_  -- 0: t38 := move t7
        refine xw_val (by simp only [aopOf, evalT, tput, tget_set, Nat.reduceEqDiff, reduceIte, aMove]; rfl) ?_  -- 1: t5 := assign t38
        refine xw_nil ?_
        repeat first | with_reducible refine xw_next ?_ | with_reducible refine xw_pass ?_ | with_reducible refine xw_passr ?_ | with_reducible refine xw_bnorm ?_ | with_reducible refine xw_bret ?_ | with_reducible refine xw_hit ?_ | with_reducible refine xw_past rfl ?_
        -- region 12
        repeat with_reducible refine xw_seq ?_
        refine xw_region ?_
        refine xw_val (by simp only [aopOf, evalT, tput, tget_set, Nat.reduceEqDiff, reduceIte, aBin, opt1, e8, hadd, bi_add]; rfl) ?_  -- 0: t39 := binOp add Go.IntKind.i64#3 t8 1:i64
        refine xw_val (by simp only [aopOf, evalT, tput, tget_set, Nat.reduceEqDiff, reduceIte, aMove]; rfl) ?_  -- 1: t8 := move t39
        refine xw_nil ?_
        repeat first | with_reducible refine xw_next ?_ | with_reducible refine xw_pass ?_ | with_reducible refine xw_passr ?_ | with_reducible refine xw_bnorm ?_ | with_reducible refine xw_bret ?_ | with_reducible refine xw_hit ?_ | with_reducible refine xw_past rfl ?_
        refine ⟨n - 1, by omega, 0 + 1, _, _, rfl, by omega, by simp [tput, tget_set, e0], by simp [tput, tget_set], by simp; omega, ?_, .inr ⟨h.nx + 1, by omega, by simp, by simp [tput, tget_set], .inl ⟨rfl, by simp [tput, tget_set], ?_⟩⟩⟩
        · exact (hkeep.trans hnx (Keeps.new h _)).trans (by simp; omega) (Keeps.new _ _)
        · rw [Hp.get_new, if_pos (by simp)]; rfl
      · have h6 : k = 1 ∧ tget tm 5 = .int .i64 2 ∧ h.get L = some (.row [.int .i64 0, .int .i64 1, .bool true] 239 (.grow 3)) := by
          rcases h4 with h4 | ⟨h4, _⟩
          · exact h4
          · omega
        obtain ⟨rfl, h5, h6⟩ := h6
        have hl1 : aload Tryz.prog h 3 ⟨L, 1, none⟩ = some (.int .i64 1) := load_cell agg3 sz3 h6 rfl
        have hst : astore Tryz.prog h 3 ⟨L, 1, none⟩ (.int .i64 2) = some (h.set L (.row [.int .i64 0, .int .i64 2, .bool true] 239 (.grow 3))) := by
          rw [store_cell sz3 rfl rfl h6 rfl (by simp)]; rfl
        have hsub : IntKind.i64.wrap (Int.ofNat 1 - 1) = Int.ofNat 0 := by rfl
        have hinc : IntKind.i64.wrap (1 + 1) = 2 := by rfl
        have w0 : IntKind.i64.wrap 0 = 0 := by rfl
        have w2 : IntKind.i64.wrap 2 = 2 := by rfl
        -- region 4
        repeat with_reducible refine xw_seq ?_
        refine xw_region ?_
        refine xw_val (by simp only [aopOf, evalT, aBin, opt1, hc, e8, bi_lss]; rfl) ?_  -- 0: t9 := binOp lss Go.IntKind.i64#3 t8 1024:i64
        refine xw_nil ?_
        repeat first | with_reducible refine xw_next ?_ | with_reducible refine xw_pass ?_ | with_reducible refine xw_passr ?_ | with_reducible refine xw_bnorm ?_ | with_reducible refine xw_bret ?_ | with_reducible refine xw_hit ?_ | with_reducible refine xw_past rfl ?_
        repeat with_reducible refine xw_seq ?_
        refine xw_then (by simp [tput, tget_set]) ?_  -- IF t9
        refine xw_skip ?_
        repeat first | with_reducible refine xw_next ?_ | with_reducible refine xw_pass ?_ | with_reducible refine xw_passr ?_ | with_reducible refine xw_bnorm ?_ | with_reducible refine xw_bret ?_ | with_reducible refine xw_hit ?_ | with_reducible refine xw_past rfl ?_
        repeat with_reducible refine xw_seq ?_
        refine xw_block ?_  -- block 1
        -- region 5
        repeat with_reducible refine xw_seq ?_
        refine xw_region ?_
        refine xw_val (by simp only [aopOf, evalT, tput, tget_set, Nat.reduceEqDiff, reduceIte, aMove, e8]; rfl) ?_  -- 0: t10 := move t8
        refine xw_val (by simp only [aopOf, evalT, tput, tget_set, Nat.reduceEqDiff, reduceIte, aMove]; rfl) ?_  -- 1: t6 := assign t10
        refine xw_nil ?_
        repeat first | with_reducible refine xw_next ?_ | with_reducible refine xw_pass ?_ | with_reducible refine xw_passr ?_ | with_reducible refine xw_bnorm ?_ | with_reducible refine xw_bret ?_ | with_reducible refine xw_hit ?_ | with_reducible refine xw_past rfl ?_
        -- region 6
        repeat with_reducible refine xw_seq ?_
        refine xw_region ?_
        refine xw_val (by simp only [aopOf, evalT, tput, tget_set, Nat.reduceEqDiff, reduceIte, aMove, e0]; rfl) ?_  -- 0: t11 := move t0
        refine xw_val (by simp only [aopOf, evalT, tput, tget_set, Nat.reduceEqDiff, reduceIte, aMove]; rfl) ?_  -- 1: t12 := move t6
        refine xw_call (by simp only [aopOf, evalT, tput, tget_set, Nat.reduceEqDiff, reduceIte, aCall, mapOps]; rfl) hs ?_  -- 2: t13 := call t11 (t12) types [Go.IntKind.i64#3]
        rintro v hq hn ⟨rfl, hh⟩
        obtain rfl := hh.symm
        refine xw_val (by simp only [aopOf, evalT, tput, tget_set, Nat.reduceEqDiff, reduceIte, aMove]; rfl) ?_  -- 3: t7 := assign t13
        refine xw_nil ?_
        repeat first | with_reducible refine xw_next ?_ | with_reducible refine xw_pass ?_ | with_reducible refine xw_passr ?_ | with_reducible refine xw_bnorm ?_ | with_reducible refine xw_bret ?_ | with_reducible refine xw_hit ?_ | with_reducible refine xw_past rfl ?_
        repeat with_reducible refine xw_seq ?_
        refine xw_block ?_  -- block 2
        -- region 8
        repeat with_reducible refine xw_seq ?_
        refine xw_region ?_
        refine xw_val (by simp only [aopOf, evalT, tput, tget_set, Nat.reduceEqDiff, reduceIte, aMove]; rfl) ?_  -- 0: t22 := move t7
        refine xw_val (by simp only [aopOf, evalT, tput, tget_set, Nat.reduceEqDiff, reduceIte, aBin, opt1, bi_eql]; rfl) ?_  -- 1: t23 := binOp eql Go.IntKind.i64#3 t22 0:i64
        refine xw_val (by simp only [aopOf, evalT, tput, tget_set, Nat.reduceEqDiff, reduceIte, aMove]; rfl) ?_  -- 2: t21 := assign t23
        refine xw_nil ?_
        repeat first | with_reducible refine xw_next ?_ | with_reducible refine xw_pass ?_ | with_reducible refine xw_passr ?_ | with_reducible refine xw_bnorm ?_ | with_reducible refine xw_bret ?_ | with_reducible refine xw_hit ?_ | with_reducible refine xw_past rfl ?_
        repeat with_reducible refine xw_seq ?_
        refine xw_else (by simp [tput, tget_set]) ?_  -- IF t21
        -- region 9
        repeat with_reducible refine xw_seq ?_
        refine xw_region ?_
        refine xw_val (by simp only [aopOf, evalT, tput, tget_set, Nat.reduceEqDiff, reduceIte, aMove]; rfl) ?_  -- 0: t25 := move t7
        refine xw_val (by simp only [aopOf, evalT, tput, tget_set, Nat.reduceEqDiff, reduceIte, aMove, h5]; rfl) ?_  -- 1: t26 := move t5
        refine xw_val (by simp only [aopOf, evalT, tput, tget_set, Nat.reduceEqDiff, reduceIte, decide_true, aBin, opt1, bi_eql]; rfl) ?_  -- 2: t27 := binOp eql Go.IntKind.i64#3 t25 t26
        refine xw_val (by simp only [aopOf, evalT, tput, tget_set, Nat.reduceEqDiff, reduceIte, aMove]; rfl) ?_  -- 3: t24 := assign t27
        refine xw_nil ?_
        repeat first | with_reducible refine xw_next ?_ | with_reducible refine xw_pass ?_ | with_reducible refine xw_passr ?_ | with_reducible refine xw_bnorm ?_ | with_reducible refine xw_bret ?_ | with_reducible refine xw_hit ?_ | with_reducible refine xw_past rfl ?_
        repeat with_reducible refine xw_seq ?_
        refine xw_then (by simp [tput, tget_set]) ?_  -- IF t24
        -- region 10
        repeat with_reducible refine xw_seq ?_
        refine xw_region ?_
        refine xw_val (by simp only [aopOf, evalT, tput, tget_set, Nat.reduceEqDiff, reduceIte, aMove, h3]; rfl) ?_  -- 0: t28 := move t4
        refine xw_val (by simp only [aopOf, evalT, tput, tget_set, Nat.reduceEqDiff, reduceIte, aMove, h3]; rfl) ?_  -- 1: t29 := move t4
        refine xw_val (by simp only [aopOf, evalT, tput, tget_set, Nat.reduceEqDiff, reduceIte, aCall, mapOps, abuiltin, bLen]; rfl) ?_  -- 2: t30 := call builtin len (t29) types [[]239#195]
        refine xw_val (by simp only [aopOf, evalT, tput, tget_set, Nat.reduceEqDiff, reduceIte, aBin, opt1, hsub, bi_sub]; rfl) ?_  -- 3: t31 := binOp sub Go.IntKind.i64#3 t30 1:i64
        refine xw_val (by simp only [aopOf, evalT, tput, tget_set, Nat.reduceEqDiff, reduceIte, aIndexAddr, opt1, index239]; rfl) ?_  -- 4: t32 := indexAddr []239#195 t28 [t31]
        refine xw_val (by simp only [aopOf, evalT, tput, tget_set, Nat.reduceEqDiff, reduceIte, aFieldAddr, opt1, field239]; rfl) ?_  -- 5: t33 := fieldAddr priory/api.Area#239 t32 .1
        refine xw_val (by simp only [aopOf, evalT, tput, tget_set, Nat.reduceEqDiff, reduceIte, aLoad, opt1, hl1]; rfl) ?_  -- 6: t34 := load Go.IntKind.i64#3 [t33]
        refine xw_val (by simp only [aopOf, evalT, tput, tget_set, Nat.reduceEqDiff, reduceIte, aBin, opt1, hinc, bi_add]; rfl) ?_  -- 7: t35 := binOp add Go.IntKind.i64#3 t34 1:i64
        refine xw_val (by simp only [aopOf, evalT, tput, tget_set, Nat.reduceEqDiff, reduceIte, aIndexAddr, opt1, index239]; rfl) ?_  -- 8: t36 := indexAddr []239#195 t28 [t31]
        refine xw_val (by simp only [aopOf, evalT, tput, tget_set, Nat.reduceEqDiff, reduceIte, aFieldAddr, opt1, field239]; rfl) ?_  -- 9: t37 := fieldAddr priory/api.Area#239 t36 .1
        refine xw_put (by simp only [aopOf, evalT, tput, tget_set, Nat.reduceEqDiff, reduceIte, aStore, opt3, hst]; rfl) ?_  -- 10: tNone := store Go.IntKind.i64#3 [t37] := t35
        refine xw_nil ?_
        repeat first | with_reducible refine xw_next ?_ | with_reducible refine xw_pass ?_ | with_reducible refine xw_passr ?_ | with_reducible refine xw_bnorm ?_ | with_reducible refine xw_bret ?_ | with_reducible refine xw_hit ?_ | with_reducible refine xw_past rfl ?_
        -- region 11
        repeat with_reducible refine xw_seq ?_
        refine xw_region ?_
        refine xw_val (by simp only [aopOf, evalT, tput, tget_set, Nat.reduceEqDiff, reduceIte, aMove]; rfl) ?_  -- 0: t38 := move t7
        refine xw_val (by simp only [aopOf, evalT, tput, tget_set, Nat.reduceEqDiff, reduceIte, aMove]; rfl) ?_  -- 1: t5 := assign t38
        refine xw_nil ?_
        repeat first | with_reducible refine xw_next ?_ | with_reducible refine xw_pass ?_ | with_reducible refine xw_passr ?_ | with_reducible refine xw_bnorm ?_ | with_reducible refine xw_bret ?_ | with_reducible refine xw_hit ?_ | with_reducible refine xw_past rfl ?_
        -- region 12
        repeat with_reducible refine xw_seq ?_
        refine xw_region ?_
        refine xw_val (by simp only [aopOf, evalT, tput, tget_set, Nat.reduceEqDiff, reduceIte, aBin, opt1, e8, hadd, bi_add]; rfl) ?_  -- 0: t39 := binOp add Go.IntKind.i64#3 t8 1:i64
        refine xw_val (by simp only [aopOf, evalT, tput, tget_set, Nat.reduceEqDiff, reduceIte, aMove]; rfl) ?_  -- 1: t8 := move t39
        refine xw_nil ?_
        repeat first | with_reducible refine xw_next ?_ | with_reducible refine xw_pass ?_ | with_reducible refine xw_passr ?_ | with_reducible refine xw_bnorm ?_ | with_reducible refine xw_bret ?_ | with_reducible refine xw_hit ?_ | with_reducible refine xw_past rfl ?_
        refine ⟨n - 1, by omega, 1 + 1, _, _, rfl, by omega, by simp [tput, tget_set, e0], by simp [tput, tget_set], by simpa using hnx, hkeep.set h1 _, .inr ⟨L, h1, by simpa using h2, by simpa [tput, tget_set] using h3, .inr ⟨by omega, ⟨_, by simp [tput, tget_set]; rfl⟩, get_set_same _ _ _⟩⟩⟩
    · have hs : ∃ v h' pn', (Cl Tryz.prog noOrc none false (.fn (.func 191) #[.pointer (some ⟨a, 0, none⟩), .pointer (some ⟨b, 0, none⟩)]) #[.int .i64 (.ofNat k)] h (.ret v) h' pn' ∧ h.nx ≤ h'.nx) ∧ (v = .int .i64 0 ∧ h' = h) := by
        have := add1_spec ga gb hlt (hA k hlt) (hB k hlt)
        rw [if_neg hk2] at this
        exact this
      -- region 4
      repeat with_reducible refine xw_seq ?_
      refine xw_region ?_
      refine xw_val (by simp only [aopOf, evalT, aBin, opt1, hc, e8, bi_lss]; rfl) ?_  -- 0: t9 := binOp lss Go.IntKind.i64#3 t8 1024:i64
      refine xw_nil ?_
      repeat first | with_reducible refine xw_next ?_ | with_reducible refine xw_pass ?_ | with_reducible refine xw_passr ?_ | with_reducible refine xw_bnorm ?_ | with_reducible refine xw_bret ?_ | with_reducible refine xw_hit ?_ | with_reducible refine xw_past rfl ?_
      repeat with_reducible refine xw_seq ?_
      refine xw_then (by simp [tput, tget_set]) ?_  -- IF t9
      refine xw_skip ?_
      repeat first | with_reducible refine xw_next ?_ | with_reducible refine xw_pass ?_ | with_reducible refine xw_passr ?_ | with_reducible refine xw_bnorm ?_ | with_reducible refine xw_bret ?_ | with_reducible refine xw_hit ?_ | with_reducible refine xw_past rfl ?_
      repeat with_reducible refine xw_seq ?_
      refine xw_block ?_  -- block 1
      -- region 5
      repeat with_reducible refine xw_seq ?_
      refine xw_region ?_
      refine xw_val (by simp only [aopOf, evalT, tput, tget_set, Nat.reduceEqDiff, reduceIte, aMove, e8]; rfl) ?_  -- 0: t10 := move t8
      refine xw_val (by simp only [aopOf, evalT, tput, tget_set, Nat.reduceEqDiff, reduceIte, aMove]; rfl) ?_  -- 1: t6 := assign t10
      refine xw_nil ?_
      repeat first | with_reducible refine xw_next ?_ | with_reducible refine xw_pass ?_ | with_reducible refine xw_passr ?_ | with_reducible refine xw_bnorm ?_ | with_reducible refine xw_bret ?_ | with_reducible refine xw_hit ?_ | with_reducible refine xw_past rfl ?_
      -- region 6
      repeat with_reducible refine xw_seq ?_
      refine xw_region ?_
      refine xw_val (by simp only [aopOf, evalT, tput, tget_set, Nat.reduceEqDiff, reduceIte, aMove, e0]; rfl) ?_  -- 0: t11 := move t0
      refine xw_val (by simp only [aopOf, evalT, tput, tget_set, Nat.reduceEqDiff, reduceIte, aMove]; rfl) ?_  -- 1: t12 := move t6
      refine xw_call (by simp only [aopOf, evalT, tput, tget_set, Nat.reduceEqDiff, reduceIte, aCall, mapOps]; rfl) hs ?_  -- 2: t13 := call t11 (t12) types [Go.IntKind.i64#3]
      rintro v hq hn ⟨rfl, hh⟩
      obtain rfl := hh.symm
      refine xw_val (by simp only [aopOf, evalT, tput, tget_set, Nat.reduceEqDiff, reduceIte, aMove]; rfl) ?_  -- 3: t7 := assign t13
      refine xw_nil ?_
      repeat first | with_reducible refine xw_next ?_ | with_reducible refine xw_pass ?_ | with_reducible refine xw_passr ?_ | with_reducible refine xw_bnorm ?_ | with_reducible refine xw_bret ?_ | with_reducible refine xw_hit ?_ | with_reducible refine xw_past rfl ?_
      repeat with_reducible refine xw_seq ?_
      refine xw_block ?_  -- block 2
      -- region 8
      repeat with_reducible refine xw_seq ?_
      refine xw_region ?_
      refine xw_val (by simp only [aopOf, evalT, tput, tget_set, Nat.reduceEqDiff, reduceIte, aMove]; rfl) ?_  -- 0: t22 := move t7
      refine xw_val (by simp only [aopOf, evalT, tput, tget_set, Nat.reduceEqDiff, reduceIte, decide_true, aBin, opt1, bi_eql]; rfl) ?_  -- 1: t23 := binOp eql Go.IntKind.i64#3 t22 0:i64
      refine xw_val (by simp only [aopOf, evalT, tput, tget_set, Nat.reduceEqDiff, reduceIte, aMove]; rfl) ?_  -- 2: t21 := assign t23
      refine xw_nil ?_
      repeat first | with_reducible refine xw_next ?_ | with_reducible refine xw_pass ?_ | with_reducible refine xw_passr ?_ | with_reducible refine xw_bnorm ?_ | with_reducible refine xw_bret ?_ | with_reducible refine xw_hit ?_ | with_reducible refine xw_past rfl ?_
      repeat with_reducible refine xw_seq ?_
      refine xw_then (by simp [tput, tget_set]) ?_  -- IF t21
      refine xw_skip ?_
      repeat first | with_reducible refine xw_next ?_ | with_reducible refine xw_pass ?_ | with_reducible refine xw_passr ?_ | with_reducible refine xw_bnorm ?_ | with_reducible refine xw_bret ?_ | with_reducible refine xw_hit ?_ | with_reducible refine xw_past rfl ?_
      -- region 11
      repeat with_reducible refine xw_seq ?_
      refine xw_region ?_
      refine xw_val (by simp only [aopOf, evalT, tput, tget_set, Nat.reduceEqDiff, reduceIte, aMove]; rfl) ?_  -- 0: t38 := move t7
      refine xw_val (by simp only [aopOf, evalT, tput, tget_set, Nat.reduceEqDiff, reduceIte, aMove]; rfl) ?_  -- 1: t5 := assign t38
      refine xw_nil ?_
      repeat first | with_reducible refine xw_next ?_ | with_reducible refine xw_pass ?_ | with_reducible refine xw_passr ?_ | with_reducible refine xw_bnorm ?_ | with_reducible refine xw_bret ?_ | with_reducible refine xw_hit ?_ | with_reducible refine xw_past rfl ?_
      -- region 12
      repeat with_reducible refine xw_seq ?_
      refine xw_region ?_
      refine xw_val (by simp only [aopOf, evalT, tput, tget_set, Nat.reduceEqDiff, reduceIte, aBin, opt1, e8, hadd, bi_add]; rfl) ?_  -- 0: t39 := binOp add Go.IntKind.i64#3 t8 1:i64
      refine xw_val (by simp only [aopOf, evalT, tput, tget_set, Nat.reduceEqDiff, reduceIte, aMove]; rfl) ?_  -- 1: t8 := move t39
      refine xw_nil ?_
      repeat first | with_reducible refine xw_next ?_ | with_reducible refine xw_pass ?_ | with_reducible refine xw_passr ?_ | with_reducible refine xw_bnorm ?_ | with_reducible refine xw_bret ?_ | with_reducible refine xw_hit ?_ | with_reducible refine xw_past rfl ?_
      refine ⟨n - 1, by omega, k + 1, _, _, rfl, by omega, by simp [tput, tget_set, e0], by simp [tput, tget_set], hnx, hkeep, .inr ?_⟩
      rcases hform with ⟨h0, _⟩ | ⟨L, h1, h2, h3, h4⟩
      · omega
      · refine ⟨L, h1, h2, by simpa [tput, tget_set] using h3, .inr ⟨by omega, ⟨_, by simp [tput, tget_set]; rfl⟩, ?_⟩⟩
        rcases h4 with ⟨h5, _⟩ | ⟨_, _, h5⟩
        · omega
        · exact h5
  · have hc : (decide ((Int.ofNat k : Int) < 1024)) = false := by simp; omega
    -- region 4
    repeat with_reducible refine xw_seq ?_
    refine xw_region ?_
    refine xw_val (by simp only [aopOf, evalT, aBin, opt1, hc, e8, bi_lss]; rfl) ?_  -- 0: t9 := binOp lss Go.IntKind.i64#3 t8 1024:i64
    refine xw_nil ?_
    repeat first | with_reducible refine xw_next ?_ | with_reducible refine xw_pass ?_ | with_reducible refine xw_passr ?_ | with_reducible refine xw_bnorm ?_ | with_reducible refine xw_bret ?_ | with_reducible refine xw_hit ?_ | with_reducible refine xw_past rfl ?_
    repeat with_reducible refine xw_seq ?_
    refine xw_else (by simp [tput, tget_set]) ?_  -- IF t9
    refine xw_exit ?_
    repeat first | with_reducible refine xw_next ?_ | with_reducible refine xw_pass ?_ | with_reducible refine xw_passr ?_ | with_reducible refine xw_bnorm ?_ | with_reducible refine xw_bret ?_ | with_reducible refine xw_hit ?_ | with_reducible refine xw_past rfl ?_
    rcases hform with ⟨h0, _⟩ | ⟨L, h1, h2, h3, h4⟩
    · omega
    · have h5 : h.get L = some (.row [.int .i64 0, .int .i64 2, .bool true] 239 (.grow 3)) := by
        rcases h4 with ⟨h5, _⟩ | ⟨_, _, h5⟩
        · omega
        · exact h5
      -- region 13
      repeat with_reducible refine xw_seq ?_
      refine xw_region ?_
      refine xw_val (by simp only [aopOf, evalT, tput, tget_set, Nat.reduceEqDiff, reduceIte, aMove, h3]; rfl) ?_  -- 0: t40 := move t4
      refine xw_val (by simp only [aopOf, evalT, tput, tget_set, Nat.reduceEqDiff, reduceIte, aCall, mapOps, abuiltin, bLen]; rfl) ?_  -- 1: t41 := call builtin len (t40) types [[]239#195]
      refine xw_val (by simp only [aopOf, evalT, tput, tget_set, Nat.reduceEqDiff, reduceIte, aBin, opt1, bi_gtr]; rfl) ?_  -- 2: t42 := binOp gtr Go.IntKind.i64#3 t41 8:i64
      refine xw_nil ?_
      repeat first | with_reducible refine xw_next ?_ | with_reducible refine xw_pass ?_ | with_reducible refine xw_passr ?_ | with_reducible refine xw_bnorm ?_ | with_reducible refine xw_bret ?_ | with_reducible refine xw_hit ?_ | with_reducible refine xw_past rfl ?_
      repeat with_reducible refine xw_seq ?_
      refine xw_else (by simp [tput, tget_set]) ?_  -- IF t42
      refine xw_skip ?_
      repeat first | with_reducible refine xw_next ?_ | with_reducible refine xw_pass ?_ | with_reducible refine xw_passr ?_ | with_reducible refine xw_bnorm ?_ | with_reducible refine xw_bret ?_ | with_reducible refine xw_hit ?_ | with_reducible refine xw_past rfl ?_
      -- region 15
      repeat with_reducible refine xw_seq ?_
      refine xw_region ?_
      refine xw_val (by simp only [aopOf, evalT, tput, tget_set, Nat.reduceEqDiff, reduceIte, aMove, h3]; rfl) ?_  -- 0: t43 := move t4
      refine xw_val (by simp only [aopOf, evalT, tput, tget_set, Nat.reduceEqDiff, reduceIte, aMove]; rfl) ?_  -- 1: t2 := assign t43
      refine xw_val (by simp only [aopOf, evalT, aMove]; rfl) ?_  -- 2: t3 := assign 0:i64
      refine xw_nil ?_
      repeat first | with_reducible refine xw_next ?_ | with_reducible refine xw_pass ?_ | with_reducible refine xw_passr ?_ | with_reducible refine xw_bnorm ?_ | with_reducible refine xw_bret ?_ | with_reducible refine xw_hit ?_ | with_reducible refine xw_past rfl ?_
      repeat with_reducible refine xw_seq ?_
      refine xw_ret ?_
      repeat first | with_reducible refine xw_next ?_ | with_reducible refine xw_pass ?_ | with_reducible refine xw_passr ?_ | with_reducible refine xw_bnorm ?_ | with_reducible refine xw_bret ?_ | with_reducible refine xw_hit ?_ | with_reducible refine xw_past rfl ?_
      refine xw_end (by simp only [resA, tput, tget_set, Nat.reduceEqDiff, reduceIte, Tryz.results190]; rfl) ?_
      exact ⟨L, rfl, h1, h5⟩

theorem fnAt149 : fnAt Tryz.prog 149 = some Tryz.f149 := by kernel_rfl
def addA : List Value := List.replicate 1024 (.int .i64 0)
def addB : List Value := .int .i64 2 :: .int .i64 2 :: List.replicate 1022 (.int .i64 0)
noncomputable def addF (s : Fs) : Bool := match tget s.tm 6, tget s.tm 7 with
  | .pointer (some ⟨a, 0, none⟩), .pointer (some ⟨b, 0, none⟩) => rowIs s.h a addA 306 && rowIs s.h b addB 306 && Nat.blt a s.h.nx && Nat.blt b s.h.nx && s.df.isEmpty && s.pn.isNone && Nat.ble 1 s.h.nx
  | _, _ => false

set_option maxRecDepth 100000 in
theorem add_cl : ∃ v h' pn', (Cl Tryz.prog noOrc none false (.fn (.func 149) #[]) #[.slice none 0 0, .agg #[.int .i64 0, .int .i64 2, .bool true]] (glI tabless).hp (.ret v) h' pn' ∧ (glI tabless).hp.nx ≤ h'.nx) ∧
    (∃ L, v = .tuple #[.slice (some ⟨L, 0, none⟩) 1 (unk + 1), .int .i64 0] ∧ 1 ≤ L ∧ h'.get L = some (.row [.int .i64 0, .int .i64 2, .bool true] 239 (.grow 3))) := by
  refine xe_Cl (tm := (Tri.leaf.set 0 (.slice none 0 0)).set 1 (.agg #[.int .i64 0, .int .i64 2, .bool true])) rfl fnAt149 rfl rfl ?_
  refine xe_assoc ?_
  refine xe_assoc ?_
  refine xe_seq (xe_eval addF 400 (by kernel_rfl) ?_)
  rintro ⟨tm, df, h, pn⟩ hF
  unfold addF at hF
  split at hF
  · rename_i a b e6 e7
    simp only [Bool.and_eq_true] at hF
    obtain ⟨⟨⟨⟨⟨⟨f1, f2⟩, f3⟩, f4⟩, f5⟩, f6⟩, f7⟩ := hF
    have ga := rowIs_eq f1
    have gb := rowIs_eq f2
    have hla : a < h.nx := Nat.le_of_ble_eq_true f3
    have hlb : b < h.nx := Nat.le_of_ble_eq_true f4
    have h1x : 1 ≤ h.nx := Nat.le_of_ble_eq_true f7
    obtain rfl : df = [] := by simpa using f5
    obtain rfl : pn = none := by simpa using f6
    have hA : ∀ k, k < 1024 → addA[k]? = some (.int .i64 0) := fun k hk => by unfold addA; rw [List.getElem?_replicate, if_pos hk]
    have hB : ∀ k, k < 1024 → addB[k]? = some (.int .i64 (if k < 2 then 2 else 0)) := fun k hk => by
      unfold addB
      match k, hk with
      | 0, _ => rfl
      | 1, _ => rfl
      | k + 2, hk =>
        rw [List.getElem?_cons_succ, List.getElem?_cons_succ, List.getElem?_replicate, if_pos (by omega), if_neg (by omega)]
    have e6 : tget tm 6 = .pointer (some ⟨a, 0, none⟩) := e6
    have e7 : tget tm 7 = .pointer (some ⟨b, 0, none⟩) := e7
    refine xw_next ?_
    refine xe_wp ?_
    -- region 4
    repeat with_reducible refine xw_seq ?_
    refine xw_region ?_
    refine xw_val (by simp only [aopOf, evalT, aMove]; rfl) ?_  -- 0: t25 := move 0:i64
    refine xw_nil ?_
    repeat first | with_reducible refine xw_next ?_ | with_reducible refine xw_pass ?_ | with_reducible refine xw_passr ?_ | with_reducible refine xw_bnorm ?_ | with_reducible refine xw_bret ?_ | with_reducible refine xw_hit ?_ | with_reducible refine xw_past rfl ?_
    repeat with_reducible refine xw_seq ?_
    refine xw_block ?_
    refine xw_inv (fun n s => ∃ (k : Nat) (tm' : Tri Value), s = ⟨tm', [], h, none⟩ ∧ k + n = 1024 ∧ tget tm' 6 = .pointer (some ⟨a, 0, none⟩) ∧ tget tm' 7 = .pointer (some ⟨b, 0, none⟩) ∧ tget tm' 25 = .int .i64 (.ofNat k)) 1024
      ⟨0, _, rfl, rfl, by simp [tput, tget_set, e6], by simp [tput, tget_set, e7], by simp [tput, tget_set]⟩ ?_
    rintro n s ⟨k, tm', rfl, hk, e6', e7', e25⟩
    by_cases hlt : k < 1024
    · have hc : (decide ((Int.ofNat k : Int) < 1024)) = true := by simp; omega
      have hadd : IntKind.i64.wrap (Int.ofNat k + 1) = Int.ofNat (k + 1) := by rw [wrap_i64 (by simp; omega) (by simp; omega)]; rfl
      have i1 : aindexAddr Tryz.prog 306 (.pointer (some ⟨a, 0, none⟩)) (.int .i64 (.ofNat k)) = some (.pointer (some ⟨a, 0 + k, none⟩)) := idx_array und306 sz3 hlt
      have l1 : aload Tryz.prog h 3 ⟨a, 0 + k, none⟩ = some (.int .i64 0) := load_cell agg3 sz3 ga (by rw [Nat.zero_add]; exact hA k hlt)
      -- region 5
      repeat with_reducible refine xw_seq ?_
      refine xw_region ?_
      refine xw_val (by simp only [aopOf, evalT, aBin, opt1, hc, e25, bi_lss]; rfl) ?_  -- 0: t26 := binOp lss Go.IntKind.i64#3 t25 1024:i64
      refine xw_nil ?_
      repeat first | with_reducible refine xw_next ?_ | with_reducible refine xw_pass ?_ | with_reducible refine xw_passr ?_ | with_reducible refine xw_bnorm ?_ | with_reducible refine xw_bret ?_ | with_reducible refine xw_hit ?_ | with_reducible refine xw_past rfl ?_
      repeat with_reducible refine xw_seq ?_
      refine xw_then (by simp [tput, tget_set]) ?_  -- IF t26
      refine xw_skip ?_
      repeat first | with_reducible refine xw_next ?_ | with_reducible refine xw_pass ?_ | with_reducible refine xw_passr ?_ | with_reducible refine xw_bnorm ?_ | with_reducible refine xw_bret ?_ | with_reducible refine xw_hit ?_ | with_reducible refine xw_past rfl ?_
      repeat with_reducible refine xw_seq ?_
      refine xw_block ?_  -- block 1
      -- region 6
      repeat with_reducible refine xw_seq ?_
      refine xw_region ?_
      refine xw_val (by simp only [aopOf, evalT, tput, tget_set, Nat.reduceEqDiff, reduceIte, aMove, e25]; rfl) ?_  -- 0: t27 := move t25
      refine xw_val (by simp only [aopOf, evalT, tput, tget_set, Nat.reduceEqDiff, reduceIte, aMove]; rfl) ?_  -- 1: t8 := assign t27
      refine xw_nil ?_
      repeat first | with_reducible refine xw_next ?_ | with_reducible refine xw_pass ?_ | with_reducible refine xw_passr ?_ | with_reducible refine xw_bnorm ?_ | with_reducible refine xw_bret ?_ | with_reducible refine xw_hit ?_ | with_reducible refine xw_past rfl ?_
      -- region 7
      repeat with_reducible refine xw_seq ?_
      refine xw_region ?_
      refine xw_val (by simp only [aopOf, evalT, tput, tget_set, Nat.reduceEqDiff, reduceIte, aMove]; rfl) ?_  -- 0: t28 := move t8
      refine xw_val (by simp only [aopOf, evalT, tput, tget_set, Nat.reduceEqDiff, reduceIte, aIndexAddr, opt1, e6', i1]; rfl) ?_  -- 1: t29 := indexAddr [1024]3#306 t6 [t28]
      refine xw_val (by simp only [aopOf, evalT, tput, tget_set, Nat.reduceEqDiff, reduceIte, aLoad, opt1, l1]; rfl) ?_  -- 2: t30 := load Go.IntKind.i64#3 [t29]
      refine xw_val (by simp only [aopOf, evalT, tput, tget_set, Nat.reduceEqDiff, reduceIte, decide_true, aBin, opt1, bi_neq]; rfl) ?_  -- 3: t31 := binOp neq Go.IntKind.i64#3 t30 0:i64
      refine xw_val (by simp only [aopOf, evalT, tput, tget_set, Nat.reduceEqDiff, reduceIte, aMove]; rfl) ?_  -- 4: t32 := move t31
      refine xg_off (d0 := 32) (t' := false) rfl (by simp only [tput, tget_set, Nat.reduceEqDiff, reduceIte]; rfl) rfl ?_  -- 5: move t8 IF 4=true
      refine xg_off (d0 := 32) (t' := false) rfl (by simp only [tput, tget_set, Nat.reduceEqDiff, reduceIte]; rfl) rfl ?_  -- 6: indexAddr [1024]3#306 t7 [t33] IF 4=true
      refine xg_off (d0 := 32) (t' := false) rfl (by simp only [tput, tget_set, Nat.reduceEqDiff, reduceIte]; rfl) rfl ?_  -- 7: load Go.IntKind.i64#3 [t34] IF 4=true
      refine xg_off (d0 := 32) (t' := false) rfl (by simp only [tput, tget_set, Nat.reduceEqDiff, reduceIte]; rfl) rfl ?_  -- 8: binOp neq Go.IntKind.i64#3 t35 0:i64 IF 4=true
      refine xw_val (by simp only [aopOf, evalT, tput, tget_set, Nat.reduceEqDiff, reduceIte, aPick]; rfl) ?_  -- 9: t37 := pick t32 ? t36 : false
      refine xw_nil ?_
      repeat first | with_reducible refine xw_next ?_ | with_reducible refine xw_pass ?_ | with_reducible refine xw_passr ?_ | with_reducible refine xw_bnorm ?_ | with_reducible refine xw_bret ?_ | with_reducible refine xw_hit ?_ | with_reducible refine xw_past rfl ?_
      repeat with_reducible refine xw_seq ?_
      refine xw_else (by simp [tput, tget_set]) ?_  -- IF t37
      refine xw_skip ?_
      repeat first | with_reducible refine xw_next ?_ | with_reducible refine xw_pass ?_ | with_reducible refine xw_passr ?_ | with_reducible refine xw_bnorm ?_ | with_reducible refine xw_bret ?_ | with_reducible refine xw_hit ?_ | with_reducible refine xw_past rfl ?_
      -- region 9
      repeat with_reducible refine xw_seq ?_
      refine xw_region ?_
      refine xw_val (by simp only [aopOf, evalT, tput, tget_set, Nat.reduceEqDiff, reduceIte, aBin, opt1, e25, hadd, bi_add]; rfl) ?_  -- 0: t38 := binOp add Go.IntKind.i64#3 t25 1:i64
      refine xw_val (by simp only [aopOf, evalT, tput, tget_set, Nat.reduceEqDiff, reduceIte, aMove]; rfl) ?_  -- 1: t25 := move t38
      refine xw_nil ?_
      repeat first | with_reducible refine xw_next ?_ | with_reducible refine xw_pass ?_ | with_reducible refine xw_passr ?_ | with_reducible refine xw_bnorm ?_ | with_reducible refine xw_bret ?_ | with_reducible refine xw_hit ?_ | with_reducible refine xw_past rfl ?_
      exact ⟨n - 1, by omega, k + 1, _, rfl, by omega, by simp [tput, tget_set, e6'], by simp [tput, tget_set, e7'], by simp [tput, tget_set]⟩
    · have hc : (decide ((Int.ofNat k : Int) < 1024)) = false := by simp; omega
      -- region 5
      repeat with_reducible refine xw_seq ?_
      refine xw_region ?_
      refine xw_val (by simp only [aopOf, evalT, aBin, opt1, hc, e25, bi_lss]; rfl) ?_  -- 0: t26 := binOp lss Go.IntKind.i64#3 t25 1024:i64
      refine xw_nil ?_
      repeat first | with_reducible refine xw_next ?_ | with_reducible refine xw_pass ?_ | with_reducible refine xw_passr ?_ | with_reducible refine xw_bnorm ?_ | with_reducible refine xw_bret ?_ | with_reducible refine xw_hit ?_ | with_reducible refine xw_past rfl ?_
      repeat with_reducible refine xw_seq ?_
      refine xw_else (by simp [tput, tget_set]) ?_  -- IF t26
      refine xw_exit ?_
      repeat first | with_reducible refine xw_next ?_ | with_reducible refine xw_pass ?_ | with_reducible refine xw_passr ?_ | with_reducible refine xw_bnorm ?_ | with_reducible refine xw_bret ?_ | with_reducible refine xw_hit ?_ | with_reducible refine xw_past rfl ?_
      -- region 10
      repeat with_reducible refine xw_seq ?_
      refine xw_region ?_
      refine xw_val (by simp only [aopOf, evalT, tput, tget_set, Nat.reduceEqDiff, reduceIte, aMkFunc, mapOps, e6', e7']; rfl) ?_  -- 0: t39 := makeFunc F191:priory/region.Add$1 [] [t6, t7]
      refine xw_call (by simp only [aopOf, evalT, tput, tget_set, Nat.reduceEqDiff, reduceIte, aCall, mapOps]; rfl) (form_spec ga gb hla hlb hA hB) ?_  -- 1: t40 := call F190:priory/region.form (t39) types [func#228]
      rintro v hq hn ⟨L, rfl, hL, hrow⟩
      refine xw_val (by simp only [aopOf, evalT, tput, tget_set, Nat.reduceEqDiff, reduceIte, aExtract, aextract, opt1]; rfl) ?_  -- 2: t41 := extract t40 0
      refine xw_val (by simp only [aopOf, evalT, tput, tget_set, Nat.reduceEqDiff, reduceIte, aExtract, aextract, opt1]; rfl) ?_  -- 3: t42 := extract t40 1
      refine xw_val (by simp only [aopOf, evalT, tput, tget_set, Nat.reduceEqDiff, reduceIte, aMove]; rfl) ?_  -- 4: t4 := assign t41
      refine xw_val (by simp only [aopOf, evalT, tput, tget_set, Nat.reduceEqDiff, reduceIte, aMove]; rfl) ?_  -- 5: t5 := assign t42
      refine xw_nil ?_
      repeat first | with_reducible refine xw_next ?_ | with_reducible refine xw_pass ?_ | with_reducible refine xw_passr ?_ | with_reducible refine xw_bnorm ?_ | with_reducible refine xw_bret ?_ | with_reducible refine xw_hit ?_ | with_reducible refine xw_past rfl ?_
      repeat with_reducible refine xw_seq ?_
      refine xw_ret ?_
      repeat first | with_reducible refine xw_next ?_ | with_reducible refine xw_pass ?_ | with_reducible refine xw_passr ?_ | with_reducible refine xw_bnorm ?_ | with_reducible refine xw_bret ?_ | with_reducible refine xw_hit ?_ | with_reducible refine xw_past rfl ?_
      refine xw_end (by simp only [resA, tput, tget_set, Nat.reduceEqDiff, reduceIte, Tryz.results149]; rfl) ?_
      exact ⟨L, rfl, by omega, hrow⟩
  · cases hF

noncomputable def orcAdd : Inv := rowOrc 149 [.slice none 0 0, .agg #[.int .i64 0, .int .i64 2, .bool true]] 1 [.int .i64 0, .int .i64 2, .bool true] 239 (.grow 3) (.int .i64 0)
theorem orcAdd_sound : InvS Tryz.prog orcAdd := by
  obtain ⟨v, h', pn', ⟨⟨n, hn⟩, _⟩, L, rfl, hL, hrow⟩ := add_cl
  have hg : Tryz.prog.globals.size = 1 := by kernel_rfl
  exact rowOrc_sound (evO_sound mix fok noOrc_sound n).2 tabless_sz rfl (by kernel_rfl) (by kernel_rfl) rfl (by kernel_rfl) hn (by omega) hrow
end Go.Proofs.YtoldofonadhpnaaGreatDoor
