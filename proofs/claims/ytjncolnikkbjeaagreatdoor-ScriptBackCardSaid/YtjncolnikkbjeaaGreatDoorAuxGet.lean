/- script.Get: what it answers, whatever the bytes. Conditions: none. -/
import Derived.Test.YtjncolnikkbjeaaGreatDoorLaw
import Derived.Test.YtjncolnikkbjeaaGreatDoorAuxRead
namespace Go.Proofs.YtjncolnikkbjeaaGreatDoor
open Go Pri
theorem fnAt10 : fnAt Tryz.prog 10 = some Tryz.f10 := by kernel_rfl
theorem und33 : und Tryz.prog 33 = some (.int .u32) := by kernel_rfl
theorem build40 (x y z : Int) : abuild Tryz.prog 40 [(0, .int .i64 x), (1, .int .i64 y), (2, .int .u32 z)] = some (.agg #[.int .i64 x, .int .i64 y, .int .u32 z]) := by kernel_rfl
theorem slice40 (h : Hp) (x y z : Int) : aBuildSlice2 h 40 1 3 (.agg #[.int .i64 0, .int .i64 0, .int .u32 0]) [(0, .agg #[.int .i64 x, .int .i64 y, .int .u32 z])] = some (.val (.slice (some ⟨h.nx, 0, none⟩) 1 1), h.new (.row [.int .i64 x, .int .i64 y, .int .u32 z] 40 .exact)) := by kernel_rfl
/-- The events of bytes. -/
def dec : List UInt8 → List E3
  | a :: b :: c :: d :: e :: f :: l => (Int.ofNat a.toNat, Int.ofNat b.toNat, num [c, d, e, f]) :: dec l
  | _ => []
theorem dec_length : ∀ (n : Nat) (l : List UInt8), l.length = 6 * n → (dec l).length = n
  | 0, l, h => by
    rw [List.length_eq_zero_iff.mp (by omega : l.length = 0)]; rfl
  | n + 1, a :: b :: c :: d :: e :: f :: l, h => by
    show (dec l).length + 1 = n + 1
    rw [dec_length n l (by simp at h; omega)]
  | n + 1, [], h => by simp at h
  | n + 1, [_], h => by simp at h; omega
  | n + 1, [_, _], h => by simp at h; omega
  | n + 1, [_, _, _], h => by simp at h; omega
  | n + 1, [_, _, _, _], h => by simp at h; omega
  | n + 1, [_, _, _, _, _], h => by simp at h; omega
theorem six {n : Nat} {l : List UInt8} (h : l.length = 6 * (n + 1)) : ∃ a b c d e f m, l = a :: b :: c :: d :: e :: f :: m ∧ m.length = 6 * n := by
  match l, h with
  | a :: b :: c :: d :: e :: f :: m, h => exact ⟨a, b, c, d, e, f, m, rfl, by simp at h; omega⟩
  | [], h => simp at h
  | [_], h => simp at h; omega
  | [_, _], h => simp at h; omega
  | [_, _, _], h => simp at h; omega
  | [_, _, _, _], h => simp at h; omega
  | [_, _, _, _, _], h => simp at h; omega
theorem one_slr {h : Hp} {x : E3} : SlR (h.new (.row (evC x) 40 .exact)) (.slice (some ⟨h.nx, 0, none⟩) 1 1) 3 ([x].map evC) :=
  ⟨_, _, rfl, fun i y hy => by
    match i, hy with
    | 0, hy =>
      simp only [List.map_cons, List.map_nil, List.getElem?_cons_zero, Option.some.injEq] at hy
      subst hy
      exact ⟨h.nx, 0, _, _, _, rfl, by simp, get_new_same _ _, rfl⟩
    | i + 1, hy => simp at hy⟩
theorem Get_bad {H : Hp} {bs : List UInt8} (h6 : bs.length % 6 ≠ 0) (hb : bs.length < 4611686018427387904) : ∃ v h' pn', (Cl Tryz.prog orc none false (.fn (.func 10) #[]) #[str bs] H (.ret v) h' pn' ∧ H.nx ≤ h'.nx) ∧ (v = .tuple #[.slice none 0 0, .int .i64 6] ∧ h' = H) := by
  refine wpF_Cl (by kernel_rfl) fnAt10 ?_
  refine xw_fun rfl (tm := (Tri.set Tri.leaf 0 (str bs))) rfl ?_
  have n1 : bLen Tryz.prog H #[9] [str bs] = some (.val (.int .i64 (.ofNat bs.length)), H) := len_str rfl und9 bs
  have r1 : ∀ c, abin Tryz.prog H .rem 3 c (.int .i64 (.ofNat bs.length)) (.int .i64 6) = some (.int .i64 (.ofNat (bs.length % 6))) := fun c => bi_remn (b := 6) (by omega)
  have e1 : decide (Int.ofNat (bs.length % 6) = (0 : Int)) = false := decide_eq_false (by simp <;> omega)
  -- region 0
  repeat with_reducible refine xw_seq ?_
  refine xw_region ?_
  refine xw_val (by simp only [aopOf, evalT, aMove]; rfl) ?_  -- 0: t2 := assign nilslice
  refine xw_val (by simp only [aopOf, evalT, aMove]; rfl) ?_  -- 1: t3 := assign 0:i64
  refine xw_nil ?_
  repeat first | with_reducible refine xw_next ?_ | with_reducible refine xw_pass ?_ | with_reducible refine xw_passr ?_ | with_reducible refine xw_bnorm ?_ | with_reducible refine xw_bret ?_ | with_reducible refine xw_hit ?_ | with_reducible refine xw_past rfl ?_
  repeat with_reducible refine xw_seq ?_
  refine xw_block ?_  -- block 0
  -- region 1
  repeat with_reducible refine xw_seq ?_
  refine xw_region ?_
  refine xw_val (by simp only [aopOf, evalT, tput, tget_set, tget_leaf, Nat.reduceEqDiff, reduceIte, aMove]; rfl) ?_  -- 0: t9 := move t0
  refine xw_val (by simp only [aopOf, evalT, tput, tget_set, tget_leaf, Nat.reduceEqDiff, reduceIte, aCall, mapOps, n1, abuiltin]; rfl) ?_  -- 1: t10 := call builtin len (t9) types [string#9]
  refine xw_val (by simp only [aopOf, evalT, tput, tget_set, tget_leaf, Nat.reduceEqDiff, reduceIte, aBin, opt1, r1]; rfl) ?_  -- 2: t11 := binOp rem Go.IntKind.i64#3 t10 6:i64
  refine xw_val (by simp only [aopOf, evalT, tput, tget_set, tget_leaf, Nat.reduceEqDiff, reduceIte, aBin, opt1, e1, Bool.not_false, bi_neq]; rfl) ?_  -- 3: t12 := binOp neq Go.IntKind.i64#3 t11 0:i64
  refine xw_val (by simp only [aopOf, evalT, tput, tget_set, tget_leaf, Nat.reduceEqDiff, reduceIte, aMove]; rfl) ?_  -- 4: t8 := assign t12
  refine xw_nil ?_
  repeat first | with_reducible refine xw_next ?_ | with_reducible refine xw_pass ?_ | with_reducible refine xw_passr ?_ | with_reducible refine xw_bnorm ?_ | with_reducible refine xw_bret ?_ | with_reducible refine xw_hit ?_ | with_reducible refine xw_past rfl ?_
  repeat with_reducible refine xw_seq ?_
  refine xw_then (by simp [tput, tget_set]) ?_  -- IF t8
  -- region 2
  repeat with_reducible refine xw_seq ?_
  refine xw_region ?_
  refine xw_val (by simp only [aopOf, evalT, aMove]; rfl) ?_  -- 0: t2 := assign nilslice
  refine xw_val (by simp only [aopOf, evalT, aMove]; rfl) ?_  -- 1: t3 := assign 6:i64
  refine xw_nil ?_
  repeat first | with_reducible refine xw_next ?_ | with_reducible refine xw_pass ?_ | with_reducible refine xw_passr ?_ | with_reducible refine xw_bnorm ?_ | with_reducible refine xw_bret ?_ | with_reducible refine xw_hit ?_ | with_reducible refine xw_past rfl ?_
  repeat with_reducible refine xw_seq ?_
  refine xw_ret ?_
  repeat first | with_reducible refine xw_next ?_ | with_reducible refine xw_pass ?_ | with_reducible refine xw_passr ?_ | with_reducible refine xw_bnorm ?_ | with_reducible refine xw_bret ?_ | with_reducible refine xw_hit ?_ | with_reducible refine xw_past rfl ?_
  refine xw_end (by simp only [resA, tput, tget_set, Nat.reduceEqDiff, reduceIte, Tryz.results10]; rfl) ?_
  exact ⟨rfl, rfl⟩
theorem Get_long {H : Hp} {bs : List UInt8} (h6 : bs.length % 6 = 0) (hb : bs.length < 4611686018427387904) (hl : 60000 < bs.length) : ∃ v h' pn', (Cl Tryz.prog orc none false (.fn (.func 10) #[]) #[str bs] H (.ret v) h' pn' ∧ H.nx ≤ h'.nx) ∧ (v = .tuple #[.slice none 0 0, .int .i64 2] ∧ h' = H) := by
  refine wpF_Cl (by kernel_rfl) fnAt10 ?_
  refine xw_fun rfl (tm := (Tri.set Tri.leaf 0 (str bs))) rfl ?_
  have n1 : bLen Tryz.prog H #[9] [str bs] = some (.val (.int .i64 (.ofNat bs.length)), H) := len_str rfl und9 bs
  have r1 : ∀ c, abin Tryz.prog H .rem 3 c (.int .i64 (.ofNat bs.length)) (.int .i64 6) = some (.int .i64 (.ofNat (bs.length % 6))) := fun c => bi_remn (b := 6) (by omega)
  have e1 : decide (Int.ofNat (bs.length % 6) = (0 : Int)) = true := decide_eq_true (by rw [h6]; rfl)
  have q1 : ∀ c, abin Tryz.prog H .quo 3 c (.int .i64 (.ofNat bs.length)) (.int .i64 6) = some (.int .i64 (.ofNat (bs.length / 6))) := fun c => bi_quon (b := 6) (by omega) (wrap_i64 (by simp <;> omega) (by simp <;> omega))
  have e2 : decide ((10000 : Int) < Int.ofNat (bs.length / 6)) = true := decide_eq_true (by simp <;> omega)
  -- region 0
  repeat with_reducible refine xw_seq ?_
  refine xw_region ?_
  refine xw_val (by simp only [aopOf, evalT, aMove]; rfl) ?_  -- 0: t2 := assign nilslice
  refine xw_val (by simp only [aopOf, evalT, aMove]; rfl) ?_  -- 1: t3 := assign 0:i64
  refine xw_nil ?_
  repeat first | with_reducible refine xw_next ?_ | with_reducible refine xw_pass ?_ | with_reducible refine xw_passr ?_ | with_reducible refine xw_bnorm ?_ | with_reducible refine xw_bret ?_ | with_reducible refine xw_hit ?_ | with_reducible refine xw_past rfl ?_
  repeat with_reducible refine xw_seq ?_
  refine xw_block ?_  -- block 0
  -- region 1
  repeat with_reducible refine xw_seq ?_
  refine xw_region ?_
  refine xw_val (by simp only [aopOf, evalT, tput, tget_set, tget_leaf, Nat.reduceEqDiff, reduceIte, aMove]; rfl) ?_  -- 0: t9 := move t0
  refine xw_val (by simp only [aopOf, evalT, tput, tget_set, tget_leaf, Nat.reduceEqDiff, reduceIte, aCall, mapOps, n1, abuiltin]; rfl) ?_  -- 1: t10 := call builtin len (t9) types [string#9]
  refine xw_val (by simp only [aopOf, evalT, tput, tget_set, tget_leaf, Nat.reduceEqDiff, reduceIte, aBin, opt1, r1]; rfl) ?_  -- 2: t11 := binOp rem Go.IntKind.i64#3 t10 6:i64
  refine xw_val (by simp only [aopOf, evalT, tput, tget_set, tget_leaf, Nat.reduceEqDiff, reduceIte, aBin, opt1, e1, Bool.not_true, bi_neq]; rfl) ?_  -- 3: t12 := binOp neq Go.IntKind.i64#3 t11 0:i64
  refine xw_val (by simp only [aopOf, evalT, tput, tget_set, tget_leaf, Nat.reduceEqDiff, reduceIte, aMove]; rfl) ?_  -- 4: t8 := assign t12
  refine xw_nil ?_
  repeat first | with_reducible refine xw_next ?_ | with_reducible refine xw_pass ?_ | with_reducible refine xw_passr ?_ | with_reducible refine xw_bnorm ?_ | with_reducible refine xw_bret ?_ | with_reducible refine xw_hit ?_ | with_reducible refine xw_past rfl ?_
  repeat with_reducible refine xw_seq ?_
  refine xw_else (by simp [tput, tget_set]) ?_  -- IF t8
  -- region 3
  repeat with_reducible refine xw_seq ?_
  refine xw_region ?_
  refine xw_val (by simp only [aopOf, evalT, tput, tget_set, tget_leaf, Nat.reduceEqDiff, reduceIte, aMove]; rfl) ?_  -- 0: t14 := move t0
  refine xw_val (by simp only [aopOf, evalT, tput, tget_set, tget_leaf, Nat.reduceEqDiff, reduceIte, aCall, mapOps, n1, abuiltin]; rfl) ?_  -- 1: t15 := call builtin len (t14) types [string#9]
  refine xw_val (by simp only [aopOf, evalT, tput, tget_set, tget_leaf, Nat.reduceEqDiff, reduceIte, aBin, opt1, q1]; rfl) ?_  -- 2: t16 := binOp quo Go.IntKind.i64#3 t15 6:i64
  refine xw_val (by simp only [aopOf, evalT, tput, tget_set, tget_leaf, Nat.reduceEqDiff, reduceIte, aBin, opt1, e2, bi_gtr]; rfl) ?_  -- 3: t17 := binOp gtr Go.IntKind.i64#3 t16 10000:i64
  refine xw_val (by simp only [aopOf, evalT, tput, tget_set, tget_leaf, Nat.reduceEqDiff, reduceIte, aMove]; rfl) ?_  -- 4: t13 := assign t17
  refine xw_nil ?_
  repeat first | with_reducible refine xw_next ?_ | with_reducible refine xw_pass ?_ | with_reducible refine xw_passr ?_ | with_reducible refine xw_bnorm ?_ | with_reducible refine xw_bret ?_ | with_reducible refine xw_hit ?_ | with_reducible refine xw_past rfl ?_
  repeat with_reducible refine xw_seq ?_
  refine xw_then (by simp [tput, tget_set]) ?_  -- IF t13
  -- region 4
  repeat with_reducible refine xw_seq ?_
  refine xw_region ?_
  refine xw_val (by simp only [aopOf, evalT, aMove]; rfl) ?_  -- 0: t2 := assign nilslice
  refine xw_val (by simp only [aopOf, evalT, aMove]; rfl) ?_  -- 1: t3 := assign 2:i64
  refine xw_nil ?_
  repeat first | with_reducible refine xw_next ?_ | with_reducible refine xw_pass ?_ | with_reducible refine xw_passr ?_ | with_reducible refine xw_bnorm ?_ | with_reducible refine xw_bret ?_ | with_reducible refine xw_hit ?_ | with_reducible refine xw_past rfl ?_
  repeat with_reducible refine xw_seq ?_
  refine xw_ret ?_
  repeat first | with_reducible refine xw_next ?_ | with_reducible refine xw_pass ?_ | with_reducible refine xw_passr ?_ | with_reducible refine xw_bnorm ?_ | with_reducible refine xw_bret ?_ | with_reducible refine xw_hit ?_ | with_reducible refine xw_past rfl ?_
  refine xw_end (by simp only [resA, tput, tget_set, Nat.reduceEqDiff, reduceIte, Tryz.results10]; rfl) ?_
  exact ⟨rfl, rfl⟩
theorem Get_ok {H : Hp} {bs : List UInt8} {m : Nat} (h6 : bs.length = 6 * m) (hm : m ≤ 10000) (h4 : 4 ≤ H.nx) : ∃ v h' pn', (Cl Tryz.prog orc none false (.fn (.func 10) #[]) #[str bs] H (.ret v) h' pn' ∧ H.nx ≤ h'.nx) ∧
    (∃ sl ob, v = .tuple #[sl, .int .i64 0] ∧ Grw h' 40 3 sl ((dec bs).map evC) ob ∧ (∀ B, ob = some B → H.nx ≤ B) ∧ Keeps H h') := by
  refine wpF_Cl (by kernel_rfl) fnAt10 ?_
  refine xw_fun rfl (tm := (Tri.set Tri.leaf 0 (str bs))) rfl ?_
  have n1 : bLen Tryz.prog H #[9] [str bs] = some (.val (.int .i64 (.ofNat bs.length)), H) := len_str rfl und9 bs
  have r1 : ∀ c, abin Tryz.prog H .rem 3 c (.int .i64 (.ofNat bs.length)) (.int .i64 6) = some (.int .i64 (.ofNat (bs.length % 6))) := fun c => bi_remn (b := 6) (by omega)
  have e1 : decide (Int.ofNat (bs.length % 6) = (0 : Int)) = true := decide_eq_true (by rw [h6, Nat.mul_mod_right]; rfl)
  have q1 : ∀ c, abin Tryz.prog H .quo 3 c (.int .i64 (.ofNat bs.length)) (.int .i64 6) = some (.int .i64 (.ofNat (bs.length / 6))) := fun c => bi_quon (b := 6) (by omega) (wrap_i64 (by simp <;> omega) (by simp <;> omega))
  have e2 : decide ((10000 : Int) < Int.ofNat (bs.length / 6)) = false := decide_eq_false (by simp <;> omega)
  have w1 := New_spec (H := H) (bs := bs)
  -- region 0
  repeat with_reducible refine xw_seq ?_
  refine xw_region ?_
  refine xw_val (by simp only [aopOf, evalT, aMove]; rfl) ?_  -- 0: t2 := assign nilslice
  refine xw_val (by simp only [aopOf, evalT, aMove]; rfl) ?_  -- 1: t3 := assign 0:i64
  refine xw_nil ?_
  repeat first | with_reducible refine xw_next ?_ | with_reducible refine xw_pass ?_ | with_reducible refine xw_passr ?_ | with_reducible refine xw_bnorm ?_ | with_reducible refine xw_bret ?_ | with_reducible refine xw_hit ?_ | with_reducible refine xw_past rfl ?_
  repeat with_reducible refine xw_seq ?_
  refine xw_block ?_  -- block 0
  -- region 1
  repeat with_reducible refine xw_seq ?_
  refine xw_region ?_
  refine xw_val (by simp only [aopOf, evalT, tput, tget_set, tget_leaf, Nat.reduceEqDiff, reduceIte, aMove]; rfl) ?_  -- 0: t9 := move t0
  refine xw_val (by simp only [aopOf, evalT, tput, tget_set, tget_leaf, Nat.reduceEqDiff, reduceIte, aCall, mapOps, n1, abuiltin]; rfl) ?_  -- 1: t10 := call builtin len (t9) types [string#9]
  refine xw_val (by simp only [aopOf, evalT, tput, tget_set, tget_leaf, Nat.reduceEqDiff, reduceIte, aBin, opt1, r1]; rfl) ?_  -- 2: t11 := binOp rem Go.IntKind.i64#3 t10 6:i64
  refine xw_val (by simp only [aopOf, evalT, tput, tget_set, tget_leaf, Nat.reduceEqDiff, reduceIte, aBin, opt1, e1, Bool.not_true, bi_neq]; rfl) ?_  -- 3: t12 := binOp neq Go.IntKind.i64#3 t11 0:i64
  refine xw_val (by simp only [aopOf, evalT, tput, tget_set, tget_leaf, Nat.reduceEqDiff, reduceIte, aMove]; rfl) ?_  -- 4: t8 := assign t12
  refine xw_nil ?_
  repeat first | with_reducible refine xw_next ?_ | with_reducible refine xw_pass ?_ | with_reducible refine xw_passr ?_ | with_reducible refine xw_bnorm ?_ | with_reducible refine xw_bret ?_ | with_reducible refine xw_hit ?_ | with_reducible refine xw_past rfl ?_
  repeat with_reducible refine xw_seq ?_
  refine xw_else (by simp [tput, tget_set]) ?_  -- IF t8
  -- region 3
  repeat with_reducible refine xw_seq ?_
  refine xw_region ?_
  refine xw_val (by simp only [aopOf, evalT, tput, tget_set, tget_leaf, Nat.reduceEqDiff, reduceIte, aMove]; rfl) ?_  -- 0: t14 := move t0
  refine xw_val (by simp only [aopOf, evalT, tput, tget_set, tget_leaf, Nat.reduceEqDiff, reduceIte, aCall, mapOps, n1, abuiltin]; rfl) ?_  -- 1: t15 := call builtin len (t14) types [string#9]
  refine xw_val (by simp only [aopOf, evalT, tput, tget_set, tget_leaf, Nat.reduceEqDiff, reduceIte, aBin, opt1, q1]; rfl) ?_  -- 2: t16 := binOp quo Go.IntKind.i64#3 t15 6:i64
  refine xw_val (by simp only [aopOf, evalT, tput, tget_set, tget_leaf, Nat.reduceEqDiff, reduceIte, aBin, opt1, e2, bi_gtr]; rfl) ?_  -- 3: t17 := binOp gtr Go.IntKind.i64#3 t16 10000:i64
  refine xw_val (by simp only [aopOf, evalT, tput, tget_set, tget_leaf, Nat.reduceEqDiff, reduceIte, aMove]; rfl) ?_  -- 4: t13 := assign t17
  refine xw_nil ?_
  repeat first | with_reducible refine xw_next ?_ | with_reducible refine xw_pass ?_ | with_reducible refine xw_passr ?_ | with_reducible refine xw_bnorm ?_ | with_reducible refine xw_bret ?_ | with_reducible refine xw_hit ?_ | with_reducible refine xw_past rfl ?_
  repeat with_reducible refine xw_seq ?_
  refine xw_else (by simp [tput, tget_set]) ?_  -- IF t13
  refine xw_skip ?_
  repeat first | with_reducible refine xw_next ?_ | with_reducible refine xw_pass ?_ | with_reducible refine xw_passr ?_ | with_reducible refine xw_bnorm ?_ | with_reducible refine xw_bret ?_ | with_reducible refine xw_hit ?_ | with_reducible refine xw_past rfl ?_
  -- region 5
  repeat with_reducible refine xw_seq ?_
  refine xw_region ?_
  refine xw_val (by simp only [aopOf, evalT, tput, tget_set, tget_leaf, Nat.reduceEqDiff, reduceIte, aMove]; rfl) ?_  -- 0: t18 := move t0
  refine xw_call (by simp only [aopOf, evalT, tput, tget_set, tget_leaf, Nat.reduceEqDiff, reduceIte, aCall, mapOps]; rfl) w1 ?_  -- 1: t19 := call F23:priory/octet.New (t18) types [string#9]
  rintro v hq hn ⟨rfl, hh⟩
  obtain rfl := hh.symm
  refine xw_val (by simp only [aopOf, evalT, tput, tget_set, tget_leaf, Nat.reduceEqDiff, reduceIte, aMove]; rfl) ?_  -- 2: t4 := assign t19
  refine xw_nil ?_
  repeat first | with_reducible refine xw_next ?_ | with_reducible refine xw_pass ?_ | with_reducible refine xw_passr ?_ | with_reducible refine xw_bnorm ?_ | with_reducible refine xw_bret ?_ | with_reducible refine xw_hit ?_ | with_reducible refine xw_past rfl ?_
  -- region 6
  repeat with_reducible refine xw_seq ?_
  refine xw_region ?_
  refine xw_val (by simp only [aopOf, evalT, aMove]; rfl) ?_  -- 0: t5 := assign nilslice
  refine xw_nil ?_
  repeat first | with_reducible refine xw_next ?_ | with_reducible refine xw_pass ?_ | with_reducible refine xw_passr ?_ | with_reducible refine xw_bnorm ?_ | with_reducible refine xw_bret ?_ | with_reducible refine xw_hit ?_ | with_reducible refine xw_past rfl ?_
  repeat with_reducible refine xw_seq ?_
  refine xw_block ?_
  refine xw_inv (fun n s => ∃ (tm : Tri Value) (h : Hp) (done : List E3) (rest : List UInt8) (sl : Value) (ob : Option Nat), s = ⟨tm, [], h, none⟩ ∧ dec bs = done ++ dec rest ∧ rest.length = 6 * n ∧ done.length + n = m ∧ tget tm 4 = .pointer (some ⟨H.nx, 0, none⟩) ∧ tget tm 5 = sl ∧
      H.nx < h.nx ∧ Keeps H h ∧ Rdr h H.nx rest ∧ Grw h 40 3 sl (done.map evC) ob ∧ (done = [] → sl = .slice none 0 0) ∧ (∀ B, ob = some B → H.nx < B)) m
    ⟨_, _, [], bs, .slice none 0 0, none, rfl, rfl, h6, by simp, by simp [tput, tget_set], by simp [tput, tget_set], by simp, Keeps.new _ _, get_new_same _ _, .inl ⟨rfl, rfl, .inl rfl⟩, (fun _ => rfl), (fun B hB => by cases hB)⟩ ?_
  rintro n s ⟨tm, h, done, rest, sl, ob, rfl, hdec, hrest, hdm, e4, e5, hnx, hkeep, hr, hg, hnil, hob⟩
  have w1 := Left_spec hr
  cases n with
  | succ n =>
    obtain ⟨a, b, c, d, e, f, rest', rfl, hrest'⟩ := six hrest
    have hc : (decide ((0 : Int) < Int.ofNat (a :: b :: c :: d :: e :: f :: rest').length)) = true := decide_eq_true (by simp <;> omega)
    have w2 := Num_spec hr hnx (w := 1) (by omega) (by omega) (by simp)
    -- region 7
    repeat with_reducible refine xw_seq ?_
    refine xw_region ?_
    refine xw_val (by simp only [aopOf, evalT, aMove, e4]; rfl) ?_  -- 0: t20 := move t4
    refine xw_call (by simp only [aopOf, evalT, tput, tget_set, reduceIte, aCall, mapOps]; rfl) w1 ?_  -- 1: t21 := call F24:(*priory/octet.Reader).Left (t20) types [*73#54]
    rintro v hq hn ⟨rfl, hh⟩
    obtain rfl := hh.symm
    refine xw_val (by simp only [aopOf, evalT, tput, tget_set, Nat.reduceEqDiff, reduceIte, aBin, opt1, hc, bi_gtr]; rfl) ?_  -- 2: t22 := binOp gtr Go.IntKind.i64#3 t21 0:i64
    refine xw_nil ?_
    repeat first | with_reducible refine xw_next ?_ | with_reducible refine xw_pass ?_ | with_reducible refine xw_passr ?_ | with_reducible refine xw_bnorm ?_ | with_reducible refine xw_bret ?_ | with_reducible refine xw_hit ?_ | with_reducible refine xw_past rfl ?_
    repeat with_reducible refine xw_seq ?_
    refine xw_then (by simp [tput, tget_set]) ?_  -- IF t22
    refine xw_skip ?_
    repeat first | with_reducible refine xw_next ?_ | with_reducible refine xw_pass ?_ | with_reducible refine xw_passr ?_ | with_reducible refine xw_bnorm ?_ | with_reducible refine xw_bret ?_ | with_reducible refine xw_hit ?_ | with_reducible refine xw_past rfl ?_
    repeat with_reducible refine xw_seq ?_
    refine xw_block ?_
    -- region 8
    repeat with_reducible refine xw_seq ?_
    refine xw_region ?_
    refine xw_val (by simp only [aopOf, evalT, tput, tget_set, Nat.reduceEqDiff, reduceIte, aMove, e4]; rfl) ?_  -- 0: t23 := move t4
    refine xw_call (by simp only [aopOf, evalT, tput, tget_set, Nat.reduceEqDiff, reduceIte, aCall, mapOps]; rfl) w2 ?_  -- 1: t24 := call F25:(*priory/octet.Reader).Num (t23, 1:i64) types [*73#54, Go.IntKind.i64#3]
    rintro v1 h1 hn1 ⟨rfl, hr1, hk1⟩
    have w3 := Num_spec hr1 (by omega) (w := 1) (by omega) (by omega) (by simp)
    refine xw_val (by simp only [aopOf, evalT, tput, tget_set, Nat.reduceEqDiff, reduceIte, aMove, e4]; rfl) ?_  -- 2: t25 := move t4
    refine xw_call (by simp only [aopOf, evalT, tput, tget_set, Nat.reduceEqDiff, reduceIte, aCall, mapOps]; rfl) w3 ?_  -- 3: t26 := call F25:(*priory/octet.Reader).Num (t25, 1:i64) types [*73#54, Go.IntKind.i64#3]
    rintro v2 h2 hn2 ⟨rfl, hr2, hk2⟩
    refine xw_val (by simp only [aopOf, evalT, tput, tget_set, Nat.reduceEqDiff, reduceIte, aMove]; rfl) ?_  -- 4: t6 := assign t24
    refine xw_val (by simp only [aopOf, evalT, tput, tget_set, Nat.reduceEqDiff, reduceIte, aMove]; rfl) ?_  -- 5: t7 := assign t26
    refine xw_nil ?_
    repeat first | with_reducible refine xw_next ?_ | with_reducible refine xw_pass ?_ | with_reducible refine xw_passr ?_ | with_reducible refine xw_bnorm ?_ | with_reducible refine xw_bret ?_ | with_reducible refine xw_hit ?_ | with_reducible refine xw_past rfl ?_
    have w4 := Num_spec hr2 (by omega) (w := 4) (by omega) (by omega) (by simp)
    have n2 : num (List.take 1 (a :: b :: c :: d :: e :: f :: rest')) = a.toNat := by simp [num]
    have n3 : num (List.take 1 (List.drop 1 (a :: b :: c :: d :: e :: f :: rest'))) = b.toNat := by simp [num]
    have n4 : num (List.take 4 (List.drop 1 (List.drop 1 (a :: b :: c :: d :: e :: f :: rest')))) = num [c, d, e, f] := by simp
    have c1 : ∀ h, aconvert Tryz.prog h 32 3 (.int .u32 (.ofNat (num (List.take 1 (a :: b :: c :: d :: e :: f :: rest'))))) = some (.int .i64 (.ofNat a.toNat), h) := fun h => by
      have := a.toNat_lt
      rw [n2, cv_int ⟨_, und32⟩ und3, wrap_i64 (by simp <;> omega) (by simp <;> omega)]
    have c2 : ∀ h, aconvert Tryz.prog h 32 3 (.int .u32 (.ofNat (num (List.take 1 (List.drop 1 (a :: b :: c :: d :: e :: f :: rest')))))) = some (.int .i64 (.ofNat b.toNat), h) := fun h => by
      have := b.toNat_lt
      rw [n3, cv_int ⟨_, und32⟩ und3, wrap_i64 (by simp <;> omega) (by simp <;> omega)]
    -- region 9
    repeat with_reducible refine xw_seq ?_
    refine xw_region ?_
    refine xw_val (by simp only [aopOf, evalT, tput, tget_set, Nat.reduceEqDiff, reduceIte, aMove, e5]; rfl) ?_  -- 0: t27 := move t5
    refine xw_val (by simp only [aopOf, evalT, tput, tget_set, Nat.reduceEqDiff, reduceIte, aMove]; rfl) ?_  -- 1: t28 := move t6
    refine xw_val (by simp only [aopOf, evalT, tput, tget_set, Nat.reduceEqDiff, reduceIte, aConvert, opt2, c1]; rfl) ?_  -- 2: t29 := convert Go.IntKind.u32#32 -> Go.IntKind.i64#3 t28
    refine xw_val (by simp only [aopOf, evalT, tput, tget_set, Nat.reduceEqDiff, reduceIte, aMove]; rfl) ?_  -- 3: t30 := move t7
    refine xw_val (by simp only [aopOf, evalT, tput, tget_set, Nat.reduceEqDiff, reduceIte, aConvert, opt2, c2]; rfl) ?_  -- 4: t31 := convert Go.IntKind.u32#32 -> Go.IntKind.i64#3 t30
    refine xw_val (by simp only [aopOf, evalT, tput, tget_set, Nat.reduceEqDiff, reduceIte, aMove, e4]; rfl) ?_  -- 5: t32 := move t4
    refine xw_call (by simp only [aopOf, evalT, tput, tget_set, Nat.reduceEqDiff, reduceIte, aCall, mapOps]; rfl) w4 ?_  -- 6: t33 := call F25:(*priory/octet.Reader).Num (t32, 4:i64) types [*73#54, Go.IntKind.i64#3]
    rintro v3 h3 hn3 ⟨rfl, hr3, hk3⟩
    rw [n4]
    have hX : Keeps H h3 := fun y hy => (hk3 y (by omega) (by omega)).trans ((hk2 y (by omega) (by omega)).trans ((hk1 y (by omega) (by omega)).trans (hkeep y hy)))
    have hg3 : Grw h3 40 3 sl (done.map evC) ob := by
      have hall : ∀ B, H.nx < B → B < h.nx → h3.get B = h.get B := fun B h1 h2 => (hk3 B (by omega) (by omega)).trans ((hk2 B (by omega) (by omega)).trans (hk1 B (by omega) (by omega)))
      rcases hg with ⟨g1, g2, g3⟩ | ⟨g1, B, g2, g3, g4, g5⟩
      · refine .inl ⟨g1, g2, .inl (hnil (List.map_eq_nil_iff.mp g1))⟩
      · exact .inr ⟨g1, B, g2, g3, by omega, by rw [hall B (hob B g2) g4]; exact g5⟩
    have hg4 : Grw (h3.new (.row (evC (Int.ofNat a.toNat, Int.ofNat b.toNat, num [c, d, e, f])) 40 .exact)) 40 3 sl (done.map evC) ob := by
      rcases hg3 with ⟨g1, g2, g3⟩ | ⟨g1, B, g2, g3, g4, g5⟩
      · refine .inl ⟨g1, g2, .inl (hnil (List.map_eq_nil_iff.mp g1))⟩
      · exact .inr ⟨g1, B, g2, g3, by simp; omega, by rw [Hp.get_new, if_neg (by omega)]; exact g5⟩
    obtain ⟨s5, h5, ob5, hap5, hg5, hn5, hk5, hob5⟩ := app40 hg4 (one_slr (h := h3) (x := (Int.ofNat a.toNat, Int.ofNat b.toNat, num [c, d, e, f]))) (by simp; omega)
    have hb5 : bAppend Tryz.prog (h3.new (.row [.int .i64 (.ofNat a.toNat), .int .i64 (.ofNat b.toNat), .int .u32 (.ofNat (num [c, d, e, f]))] 40 .exact)) #[22, 22] [sl, .slice (some ⟨h3.nx, 0, none⟩) 1 1] = some (.val s5, h5) := bAppend_of (ts := #[22, 22]) rfl rfl und22 hap5
    refine xw_val (by simp only [aopOf, evalT, tput, tget_set, Nat.reduceEqDiff, reduceIte, aBuild, opt1, mapParts, build40]; rfl) ?_  -- 7: t34 := build priory/api.Event#40 [0:t29, 1:t31, 2:t33]
    refine xw_val (by simp only [aopOf, evalT, tput, tget_set, Nat.reduceEqDiff, reduceIte, aBuildSlice, mapParts, slice40, und22, sz40x, zero40]; rfl) ?_  -- 8: t35 := buildSlice []40#22 1 [0:t34]
    refine xw_val (by simp only [aopOf, evalT, tput, tget_set, Nat.reduceEqDiff, reduceIte, aCall, mapOps, hb5, abuiltin]; rfl) ?_  -- 9: t36 := call builtin append (t27, t35) types [[]40#22, []40#22]
    refine xw_val (by simp only [aopOf, evalT, tput, tget_set, Nat.reduceEqDiff, reduceIte, aMove]; rfl) ?_  -- 10: t5 := assign t36
    refine xw_nil ?_
    repeat first | with_reducible refine xw_next ?_ | with_reducible refine xw_pass ?_ | with_reducible refine xw_passr ?_ | with_reducible refine xw_bnorm ?_ | with_reducible refine xw_bret ?_ | with_reducible refine xw_hit ?_ | with_reducible refine xw_past rfl ?_
    have hn5 : h3.nx + 1 ≤ h5.nx := by simpa using hn5
    have hobn : ob ≠ some H.nx := fun h => by have := hob _ h; omega
    refine ⟨n, by omega, _, h5, done ++ [(Int.ofNat a.toNat, Int.ofNat b.toNat, num [c, d, e, f])], rest', s5, ob5, rfl, by rw [hdec]; simp [dec], hrest', by simp; omega, by simp [tput, tget_set, e4], by simp [tput, tget_set], by omega, fun y hy => ?_, ?_, hg5, fun h => by simp at h, fun B hB => ?_⟩
    · rw [hk5 y (by simp; omega) (fun h => by have := hob _ h; omega), Hp.get_new, if_neg (by omega)]
      exact hX y hy
    · unfold Rdr
      rw [hk5 H.nx (by simp; omega) hobn, Hp.get_new, if_neg (by omega)]
      exact hr3
    · rcases hob5 B hB with h | h
      · exact hob B h
      · simp at h; omega
  | zero =>
    obtain rfl : rest = [] := List.length_eq_zero_iff.mp (by omega)
    have hc : (decide ((0 : Int) < Int.ofNat ([] : List UInt8).length)) = false := decide_eq_false (by simp)
    -- region 7
    repeat with_reducible refine xw_seq ?_
    refine xw_region ?_
    refine xw_val (by simp only [aopOf, evalT, aMove, e4]; rfl) ?_  -- 0: t20 := move t4
    refine xw_call (by simp only [aopOf, evalT, tput, tget_set, reduceIte, aCall, mapOps]; rfl) w1 ?_  -- 1: t21 := call F24:(*priory/octet.Reader).Left (t20) types [*73#54]
    rintro v hq hn ⟨rfl, hh⟩
    obtain rfl := hh.symm
    refine xw_val (by simp only [aopOf, evalT, tput, tget_set, Nat.reduceEqDiff, reduceIte, aBin, opt1, hc, bi_gtr]; rfl) ?_  -- 2: t22 := binOp gtr Go.IntKind.i64#3 t21 0:i64
    refine xw_nil ?_
    repeat first | with_reducible refine xw_next ?_ | with_reducible refine xw_pass ?_ | with_reducible refine xw_passr ?_ | with_reducible refine xw_bnorm ?_ | with_reducible refine xw_bret ?_ | with_reducible refine xw_hit ?_ | with_reducible refine xw_past rfl ?_
    repeat with_reducible refine xw_seq ?_
    refine xw_else (by simp [tput, tget_set]) ?_  -- IF t22
    refine xw_exit ?_
    repeat first | with_reducible refine xw_next ?_ | with_reducible refine xw_pass ?_ | with_reducible refine xw_passr ?_ | with_reducible refine xw_bnorm ?_ | with_reducible refine xw_bret ?_ | with_reducible refine xw_hit ?_ | with_reducible refine xw_past rfl ?_
    -- region 10
    repeat with_reducible refine xw_seq ?_
    refine xw_region ?_
    refine xw_val (by simp only [aopOf, evalT, tput, tget_set, Nat.reduceEqDiff, reduceIte, aMove, e5]; rfl) ?_  -- 0: t37 := move t5
    refine xw_val (by simp only [aopOf, evalT, tput, tget_set, Nat.reduceEqDiff, reduceIte, aMove]; rfl) ?_  -- 1: t2 := assign t37
    refine xw_val (by simp only [aopOf, evalT, aMove]; rfl) ?_  -- 2: t3 := assign 0:i64
    refine xw_nil ?_
    repeat first | with_reducible refine xw_next ?_ | with_reducible refine xw_pass ?_ | with_reducible refine xw_passr ?_ | with_reducible refine xw_bnorm ?_ | with_reducible refine xw_bret ?_ | with_reducible refine xw_hit ?_ | with_reducible refine xw_past rfl ?_
    repeat with_reducible refine xw_seq ?_
    refine xw_ret ?_
    repeat first | with_reducible refine xw_next ?_ | with_reducible refine xw_pass ?_ | with_reducible refine xw_passr ?_ | with_reducible refine xw_bnorm ?_ | with_reducible refine xw_bret ?_ | with_reducible refine xw_hit ?_ | with_reducible refine xw_past rfl ?_
    refine xw_end (by simp only [resA, tput, tget_set, Nat.reduceEqDiff, reduceIte, Tryz.results10]; rfl) ?_
    have hd : dec bs = done := by rw [hdec]; simp [dec]
    rw [hd]
    exact ⟨sl, ob, rfl, hg, fun B hB => Nat.le_of_lt (hob B hB), hkeep⟩
end Go.Proofs.YtjncolnikkbjeaaGreatDoor
