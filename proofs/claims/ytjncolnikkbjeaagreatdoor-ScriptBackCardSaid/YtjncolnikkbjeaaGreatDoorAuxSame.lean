/- Events are the same; bytes there and back. Conditions: none. -/
import Derived.Test.YtjncolnikkbjeaaGreatDoorLaw
import Derived.Test.YtjncolnikkbjeaaGreatDoorAuxGet
namespace Go.Proofs.YtjncolnikkbjeaaGreatDoor
open Go Pri
theorem fnAt12 : fnAt Tryz.prog 12 = some Tryz.f12 := by kernel_rfl
theorem held40 : (ty Tryz.prog 40).map (·.held) = some false := by kernel_rfl
theorem part40_0 (x y z : Int) : aggPart Tryz.prog 3 [.int .i64 x, .int .i64 y, .int .u32 z] 0 = some (.int .i64 x) := by kernel_rfl
theorem part40_1 (x y z : Int) : aggPart Tryz.prog 3 [.int .i64 x, .int .i64 y, .int .u32 z] 1 = some (.int .i64 y) := by kernel_rfl
theorem part40_2 (x y z : Int) : aggPart Tryz.prog 33 [.int .i64 x, .int .i64 y, .int .u32 z] 2 = some (.int .u32 z) := by kernel_rfl
theorem fields40 : ∃ f0 f1 f2, und Tryz.prog 40 = some (.struct #[f0, f1, f2]) ∧ f0.type = 3 ∧ f1.type = 3 ∧ f2.type = 33 ∧ f0.offset = 0 ∧ f1.offset = 1 ∧ f2.offset = 2 ∧ (f0.name != "_") = true ∧ (f1.name != "_") = true ∧ (f2.name != "_") = true :=
  ⟨{ name := "What", type := 3, offset := 0, embedded := false, tag := "", pkgPath := "", byteOffset := 0 }, { name := "R", type := 3, offset := 1, embedded := false, tag := "", pkgPath := "", byteOffset := 8 }, { name := "A", type := 33, offset := 2, embedded := false, tag := "", pkgPath := "", byteOffset := 16 }, by kernel_rfl, rfl, rfl, rfl, rfl, rfl, rfl, by decide, by decide, by decide⟩
theorem named40 : fieldNamed Tryz.prog 40 = true := by kernel_rfl
theorem neq40 (h : Hp) (c : Bool) (x y z : Int) : abin Tryz.prog h .neq 40 c (.agg #[.int .i64 x, .int .i64 y, .int .u32 z]) (.agg #[.int .i64 x, .int .i64 y, .int .u32 z]) = some (.bool false) := by
  obtain ⟨f0, f1, f2, hu, t0, t1, t2, o0, o1, o2, n0, n1, n2⟩ := fields40
  refine agg_neq named40 (eqDeep_struct hu held40 ?_)
  exact eqFields_step (a := .int .i64 x) (by rw [t0, o0]; exact part40_0 x y z) n0 (by rw [t0]; exact eqDeep_int und3) (eqFields_step (a := .int .i64 y) (by rw [t1, o1]; exact part40_1 x y z) n1 (by rw [t1]; exact eqDeep_int und3)
    (eqFields_step (a := .int .u32 z) (by rw [t2, o2]; exact part40_2 x y z) n2 (by rw [t2]; exact eqDeep_int und33) rfl))
set_option maxRecDepth 20000 in
theorem Same_spec {H : Hp} {s1 s2 : Value} {l : List E3} (hs1 : SlR H s1 (2 + 1) (l.map evC)) (hs2 : SlR H s2 (2 + 1) (l.map evC)) (hl : l.length ≤ 100000) :
    ∃ v h' pn', (Cl Tryz.prog orc none false (.fn (.func 12) #[]) #[s1, s2] H (.ret v) h' pn' ∧ H.nx ≤ h'.nx) ∧ (v = .bool true ∧ h' = H) := by
  obtain ⟨o1, c1, hsl1⟩ := hs1.len
  obtain ⟨o2, c2, hsl2⟩ := hs2.len
  rw [List.length_map] at hsl1 hsl2
  refine wpF_Cl (by kernel_rfl) fnAt12 ?_
  refine xw_fun rfl (tm := (Tri.set (Tri.set Tri.leaf 0 s1) 1 s2)) rfl ?_
  have e1 : decide (Int.ofNat l.length = Int.ofNat l.length) = true := decide_eq_true rfl
  -- region 0
  repeat with_reducible refine xw_seq ?_
  refine xw_region ?_
  refine xw_val (by simp only [aopOf, evalT, aMove]; rfl) ?_  -- 0: t4 := assign false
  refine xw_nil ?_
  repeat first | with_reducible refine xw_next ?_ | with_reducible refine xw_pass ?_ | with_reducible refine xw_passr ?_ | with_reducible refine xw_bnorm ?_ | with_reducible refine xw_bret ?_ | with_reducible refine xw_hit ?_ | with_reducible refine xw_past rfl ?_
  -- region 1
  repeat with_reducible refine xw_seq ?_
  refine xw_region ?_
  refine xw_val (by simp only [aopOf, evalT, tput, tget_set, tget_leaf, Nat.reduceEqDiff, reduceIte, aMove, hsl1, hsl2]; rfl) ?_  -- 0: t6 := move t0
  refine xw_val (by simp only [aopOf, evalT, tput, tget_set, tget_leaf, Nat.reduceEqDiff, reduceIte, aCall, mapOps, hsl1, hsl2, abuiltin, bLen]; rfl) ?_  -- 1: t7 := call builtin len (t6) types [[]40#22]
  refine xw_val (by simp only [aopOf, evalT, tput, tget_set, tget_leaf, Nat.reduceEqDiff, reduceIte, aMove, hsl1, hsl2]; rfl) ?_  -- 2: t8 := move t1
  refine xw_val (by simp only [aopOf, evalT, tput, tget_set, tget_leaf, Nat.reduceEqDiff, reduceIte, aCall, mapOps, hsl1, hsl2, abuiltin, bLen]; rfl) ?_  -- 3: t9 := call builtin len (t8) types [[]40#22]
  refine xw_val (by simp only [aopOf, evalT, tput, tget_set, tget_leaf, Nat.reduceEqDiff, reduceIte, decide_true, aBin, opt1, hsl1, hsl2, Bool.not_true, bi_neq]; rfl) ?_  -- 4: t10 := binOp neq Go.IntKind.i64#3 t7 t9
  refine xw_nil ?_
  repeat first | with_reducible refine xw_next ?_ | with_reducible refine xw_pass ?_ | with_reducible refine xw_passr ?_ | with_reducible refine xw_bnorm ?_ | with_reducible refine xw_bret ?_ | with_reducible refine xw_hit ?_ | with_reducible refine xw_past rfl ?_
  repeat with_reducible refine xw_seq ?_
  refine xw_else (by simp [tput, tget_set, hsl1, hsl2]) ?_  -- IF t10
  refine xw_skip ?_
  repeat first | with_reducible refine xw_next ?_ | with_reducible refine xw_pass ?_ | with_reducible refine xw_passr ?_ | with_reducible refine xw_bnorm ?_ | with_reducible refine xw_bret ?_ | with_reducible refine xw_hit ?_ | with_reducible refine xw_past rfl ?_
  -- region 3
  repeat with_reducible refine xw_seq ?_
  refine xw_region ?_
  refine xw_val (by simp only [aopOf, evalT, aMove]; rfl) ?_  -- 0: t5 := assign 0:i64
  refine xw_nil ?_
  repeat first | with_reducible refine xw_next ?_ | with_reducible refine xw_pass ?_ | with_reducible refine xw_passr ?_ | with_reducible refine xw_bnorm ?_ | with_reducible refine xw_bret ?_ | with_reducible refine xw_hit ?_ | with_reducible refine xw_past rfl ?_
  repeat with_reducible refine xw_seq ?_
  refine xw_block ?_
  refine xw_inv (fun n s => ∃ (k : Nat) (tm : Tri Value), s = ⟨tm, [], H, none⟩ ∧ k + n = l.length ∧ tget tm 0 = s1 ∧ tget tm 1 = s2 ∧ tget tm 5 = .int .i64 (.ofNat k)) l.length
    ⟨0, _, rfl, by omega, by simp [tput, tget_set], by simp [tput, tget_set], by simp [tput, tget_set]⟩ ?_
  rintro n s ⟨k, tm, rfl, hk, e0, e1', e5⟩
  by_cases hlt : k < l.length
  · have hc : (decide ((Int.ofNat k : Int) < Int.ofNat l.length)) = true := by simp; omega
    have hadd : IntKind.i64.wrap (Int.ofNat k + 1) = Int.ofNat (k + 1) := by rw [wrap_i64 (by simp; omega) (by simp; omega)]; rfl
    obtain ⟨x, hx⟩ : ∃ x, l[k]? = some x := ⟨_, List.getElem?_eq_getElem hlt⟩
    obtain ⟨B1, f1, _, i1, d1, _⟩ := hs1.elem und22 sz40 agg40 (i := k) (x := evC x) (by rw [List.getElem?_map, hx]; rfl) rfl
    obtain ⟨B2, f2, _, i2, d2, _⟩ := hs2.elem und22 sz40 agg40 (i := k) (x := evC x) (by rw [List.getElem?_map, hx]; rfl) rfl
    have i1 := i1 .i64
    have i2 := i2 .i64
    have d1' : aload Tryz.prog H 40 ⟨B1, f1, none⟩ = some (.agg #[.int .i64 x.1, .int .i64 x.2.1, .int .u32 (.ofNat x.2.2)]) := d1
    have d2' : aload Tryz.prog H 40 ⟨B2, f2, none⟩ = some (.agg #[.int .i64 x.1, .int .i64 x.2.1, .int .u32 (.ofNat x.2.2)]) := d2
    have nq : ∀ c, abin Tryz.prog H .neq 40 c (.agg #[.int .i64 x.1, .int .i64 x.2.1, .int .u32 (.ofNat x.2.2)]) (.agg #[.int .i64 x.1, .int .i64 x.2.1, .int .u32 (.ofNat x.2.2)]) = some (.bool false) := fun c => neq40 H c _ _ _
    -- region 4
    repeat with_reducible refine xw_seq ?_
    refine xw_region ?_
    refine xw_val (by simp only [aopOf, evalT, aMove, e5]; rfl) ?_  -- 0: t11 := move t5
    refine xw_val (by simp only [aopOf, evalT, tput, tget_set, Nat.reduceEqDiff, reduceIte, aMove, e0, hsl1]; rfl) ?_  -- 1: t12 := move t0
    refine xw_val (by simp only [aopOf, evalT, tput, tget_set, Nat.reduceEqDiff, reduceIte, aCall, mapOps, abuiltin, bLen]; rfl) ?_  -- 2: t13 := call builtin len (t12) types [[]40#22]
    refine xw_val (by simp only [aopOf, evalT, tput, tget_set, Nat.reduceEqDiff, reduceIte, aBin, opt1, hc, bi_lss]; rfl) ?_  -- 3: t14 := binOp lss Go.IntKind.i64#3 t11 t13
    refine xw_nil ?_
    repeat first | with_reducible refine xw_next ?_ | with_reducible refine xw_pass ?_ | with_reducible refine xw_passr ?_ | with_reducible refine xw_bnorm ?_ | with_reducible refine xw_bret ?_ | with_reducible refine xw_hit ?_ | with_reducible refine xw_past rfl ?_
    repeat with_reducible refine xw_seq ?_
    refine xw_then (by simp [tput, tget_set]) ?_  -- IF t14
    refine xw_skip ?_
    repeat first | with_reducible refine xw_next ?_ | with_reducible refine xw_pass ?_ | with_reducible refine xw_passr ?_ | with_reducible refine xw_bnorm ?_ | with_reducible refine xw_bret ?_ | with_reducible refine xw_hit ?_ | with_reducible refine xw_past rfl ?_
    repeat with_reducible refine xw_seq ?_
    refine xw_block ?_
    -- region 6
    repeat with_reducible refine xw_seq ?_
    refine xw_draw (by kernel_rfl) ?_
    refine xq_val (by simp only [aopOf, evalT, tput, tget_set, Nat.reduceEqDiff, reduceIte, aMove, e0]; rfl) (by first | rfl | simp [isRead]) ?_  -- 0: t17 := move t0
    refine xq_val (by simp only [aopOf, evalT, tput, tget_set, Nat.reduceEqDiff, reduceIte, aMove, e5]; rfl) (by first | rfl | simp [isRead]) ?_  -- 1: t18 := move t5
    refine xq_val (by simp only [aopOf, evalT, tput, tget_set, Nat.reduceEqDiff, reduceIte, aIndexAddr, opt1, i1]; rfl) (by first | rfl | simp [isRead]) ?_  -- 2: t19 := indexAddr []40#22 t17 [t18]
    refine xq_val (by simp only [aopOf, evalT, tput, tget_set, Nat.reduceEqDiff, reduceIte, aLoad, opt1, d1']; rfl) (by first | rfl | simp [isRead]) ?_  -- 3: t20 := load priory/api.Event#40 [t19]
    refine xq_val (by simp only [aopOf, evalT, tput, tget_set, Nat.reduceEqDiff, reduceIte, aMove, e1']; rfl) (by first | rfl | simp [isRead]) ?_  -- 4: t21 := move t1
    refine xq_val (by simp only [aopOf, evalT, tput, tget_set, Nat.reduceEqDiff, reduceIte, aMove, e5]; rfl) (by first | rfl | simp [isRead]) ?_  -- 5: t22 := move t5
    refine xq_val (by simp only [aopOf, evalT, tput, tget_set, Nat.reduceEqDiff, reduceIte, aIndexAddr, opt1, i2]; rfl) (by first | rfl | simp [isRead]) ?_  -- 6: t23 := indexAddr []40#22 t21 [t22]
    refine xq_val (by simp only [aopOf, evalT, tput, tget_set, Nat.reduceEqDiff, reduceIte, aLoad, opt1, d2']; rfl) (by first | rfl | simp [isRead]) ?_  -- 7: t24 := load priory/api.Event#40 [t23]
    refine xq_val (by simp only [aopOf, evalT, tput, tget_set, Nat.reduceEqDiff, reduceIte, aBin, opt1, nq]; rfl) (by first | rfl | simp [isRead]) ?_  -- 8: t25 := binOp neq priory/api.Event#40 t20 t24
    refine xq_nil ?_
    repeat first | with_reducible refine xw_next ?_ | with_reducible refine xw_pass ?_ | with_reducible refine xw_passr ?_ | with_reducible refine xw_bnorm ?_ | with_reducible refine xw_bret ?_ | with_reducible refine xw_hit ?_ | with_reducible refine xw_past rfl ?_
    repeat with_reducible refine xw_seq ?_
    refine xw_else (by simp [tput, tget_set]) ?_  -- IF t25
    refine xw_skip ?_
    repeat first | with_reducible refine xw_next ?_ | with_reducible refine xw_pass ?_ | with_reducible refine xw_passr ?_ | with_reducible refine xw_bnorm ?_ | with_reducible refine xw_bret ?_ | with_reducible refine xw_hit ?_ | with_reducible refine xw_past rfl ?_
    -- region 5
    repeat with_reducible refine xw_seq ?_
    refine xw_region ?_
    refine xw_val (by simp only [aopOf, evalT, tput, tget_set, Nat.reduceEqDiff, reduceIte, aMove, e5]; rfl) ?_  -- 0: t15 := move t5
    refine xw_val (by simp only [aopOf, evalT, tput, tget_set, Nat.reduceEqDiff, reduceIte, aBin, opt1, hadd, bi_add]; rfl) ?_  -- 1: t16 := binOp add Go.IntKind.i64#3 t15 1:i64
    refine xw_val (by simp only [aopOf, evalT, tput, tget_set, Nat.reduceEqDiff, reduceIte, aMove]; rfl) ?_  -- 2: t5 := assign t16
    refine xw_nil ?_
    repeat first | with_reducible refine xw_next ?_ | with_reducible refine xw_pass ?_ | with_reducible refine xw_passr ?_ | with_reducible refine xw_bnorm ?_ | with_reducible refine xw_bret ?_ | with_reducible refine xw_hit ?_ | with_reducible refine xw_past rfl ?_
    exact ⟨n - 1, by omega, k + 1, _, rfl, by omega, by simp [tput, tget_set, e0], by simp [tput, tget_set, e1'], by simp [tput, tget_set]⟩
  · have hc : (decide ((Int.ofNat k : Int) < Int.ofNat l.length)) = false := by simp; omega
    -- region 4
    repeat with_reducible refine xw_seq ?_
    refine xw_region ?_
    refine xw_val (by simp only [aopOf, evalT, aMove, e5]; rfl) ?_  -- 0: t11 := move t5
    refine xw_val (by simp only [aopOf, evalT, tput, tget_set, Nat.reduceEqDiff, reduceIte, aMove, e0, hsl1]; rfl) ?_  -- 1: t12 := move t0
    refine xw_val (by simp only [aopOf, evalT, tput, tget_set, Nat.reduceEqDiff, reduceIte, aCall, mapOps, abuiltin, bLen]; rfl) ?_  -- 2: t13 := call builtin len (t12) types [[]40#22]
    refine xw_val (by simp only [aopOf, evalT, tput, tget_set, Nat.reduceEqDiff, reduceIte, aBin, opt1, hc, bi_lss]; rfl) ?_  -- 3: t14 := binOp lss Go.IntKind.i64#3 t11 t13
    refine xw_nil ?_
    repeat first | with_reducible refine xw_next ?_ | with_reducible refine xw_pass ?_ | with_reducible refine xw_passr ?_ | with_reducible refine xw_bnorm ?_ | with_reducible refine xw_bret ?_ | with_reducible refine xw_hit ?_ | with_reducible refine xw_past rfl ?_
    repeat with_reducible refine xw_seq ?_
    refine xw_else (by simp [tput, tget_set]) ?_  -- IF t14
    refine xw_exit ?_
    repeat first | with_reducible refine xw_next ?_ | with_reducible refine xw_pass ?_ | with_reducible refine xw_passr ?_ | with_reducible refine xw_bnorm ?_ | with_reducible refine xw_bret ?_ | with_reducible refine xw_hit ?_ | with_reducible refine xw_past rfl ?_
    -- region 8
    repeat with_reducible refine xw_seq ?_
    refine xw_region ?_
    refine xw_val (by simp only [aopOf, evalT, aMove]; rfl) ?_  -- 0: t4 := assign true
    refine xw_nil ?_
    repeat first | with_reducible refine xw_next ?_ | with_reducible refine xw_pass ?_ | with_reducible refine xw_passr ?_ | with_reducible refine xw_bnorm ?_ | with_reducible refine xw_bret ?_ | with_reducible refine xw_hit ?_ | with_reducible refine xw_past rfl ?_
    repeat with_reducible refine xw_seq ?_
    refine xw_ret ?_
    repeat first | with_reducible refine xw_next ?_ | with_reducible refine xw_pass ?_ | with_reducible refine xw_passr ?_ | with_reducible refine xw_bnorm ?_ | with_reducible refine xw_bret ?_ | with_reducible refine xw_hit ?_ | with_reducible refine xw_past rfl ?_
    refine xw_end (by simp only [resA, tput, tget_set, Nat.reduceEqDiff, reduceIte, Tryz.results12]; rfl) ?_
    exact ⟨rfl, rfl⟩

/-! there and back -/
set_option maxRecDepth 100000 in
theorem b8_toNat (n : Nat) : (b8 n).toNat = n % 256 := by
  unfold b8
  rw [fw_eq]
  have : IntKind.u8.wrap (.ofNat n) = ((n % 256 : Nat) : Int) := by
    simp [IntKind.wrap, IntKind.signed, IntKind.bits]
  rw [this, Int.toNat_natCast, UInt8.toNat_ofNat']
  omega
set_option maxRecDepth 100000 in
theorem num_oct4 {m : Nat} (hm : m < 4294967296) : num (oct4 m) = m := by
  have h1 : ∀ k, Nat.shiftRight m k = m / 2 ^ k := fun k => Nat.shiftRight_eq_div_pow m k
  simp only [num, oct4, List.foldl_cons, List.foldl_nil, b8_toNat, h1]
  omega
set_option maxRecDepth 100000 in
theorem oct4_num (c d e f : UInt8) : oct4 (num [c, d, e, f]) = [c, d, e, f] := by
  have h1 : ∀ m k, Nat.shiftRight m k = m / 2 ^ k := fun m k => Nat.shiftRight_eq_div_pow m k
  have hc := c.toNat_lt
  have hd := d.toNat_lt
  have he := e.toNat_lt
  have hf := f.toNat_lt
  have hb : ∀ (n : Nat) (x : UInt8), n % 256 = x.toNat → b8 n = x := fun n x h => UInt8.toNat_inj.mp (by rw [b8_toNat, h])
  simp only [oct4, h1, num, List.foldl_cons, List.foldl_nil]
  rw [hb _ c (by omega), hb _ d (by omega), hb _ e (by omega), hb _ f (by omega)]
theorem num4_lt (c d e f : UInt8) : num [c, d, e, f] < 4294967296 := by
  have hc := c.toNat_lt
  have hd := d.toNat_lt
  have he := e.toNat_lt
  have hf := f.toNat_lt
  simp only [num, List.foldl_cons, List.foldl_nil]
  omega
set_option maxRecDepth 100000 in
theorem byte_back (b : UInt8) : UInt8.ofNat (Int.ofNat b.toNat).toNat = b := by
  simp
theorem enc_dec : ∀ (n : Nat) (l : List UInt8), l.length = 6 * n → enc (dec l) = l
  | 0, l, h => by
    rw [List.length_eq_zero_iff.mp (by omega : l.length = 0)]; rfl
  | n + 1, l, h => by
    obtain ⟨a, b, c, d, e, f, m, rfl, hm⟩ := six h
    show encE (Int.ofNat a.toNat, Int.ofNat b.toNat, num [c, d, e, f]) ++ enc (dec m) = _
    rw [enc_dec n m hm]
    simp only [encE, byte_back, oct4_num]
    rfl
set_option maxRecDepth 100000 in
theorem dec_ok : ∀ (n : Nat) (l : List UInt8), l.length = 6 * n → (dec l).all okE = true ∧ ∀ x ∈ dec l, x.2.2 < 4294967296
  | 0, l, h => by
    rw [List.length_eq_zero_iff.mp (by omega : l.length = 0)]
    exact ⟨rfl, fun x hx => by simp [dec] at hx⟩
  | n + 1, l, h => by
    obtain ⟨a, b, c, d, e, f, m, rfl, hm⟩ := six h
    obtain ⟨h1, h2⟩ := dec_ok n m hm
    have ha := a.toNat_lt
    have hb := b.toNat_lt
    have hk : okE (Int.ofNat a.toNat, Int.ofNat b.toNat, num [c, d, e, f]) = true := by
      simp [okE]
      omega
    refine ⟨?_, fun x hx => ?_⟩
    · show (okE _ && (dec m).all okE) = true
      rw [hk, h1]; rfl
    · rcases List.mem_cons.mp (show x ∈ (Int.ofNat a.toNat, Int.ofNat b.toNat, num [c, d, e, f]) :: dec m from hx) with rfl | hx
      · exact num4_lt c d e f
      · exact h2 x hx
set_option maxRecDepth 100000 in
theorem dec_encE (x : E3) (l : List UInt8) (h1 : okE x = true) (h2 : x.2.2 < 4294967296) : dec (encE x ++ l) = x :: dec l := by
  obtain ⟨w, r, m⟩ := x
  simp only [okE, Bool.and_eq_true, Bool.not_eq_true', decide_eq_false_iff_not] at h1
  have hn := num_oct4 h2
  have hq : ∀ z : Int, ¬ z < 0 → ¬ 255 < z → Int.ofNat (UInt8.ofNat z.toNat).toNat = z := fun z a b => by
    rw [UInt8.toNat_ofNat']
    show ((z.toNat % 2 ^ 8 : Nat) : Int) = z
    omega
  show (Int.ofNat (UInt8.ofNat w.toNat).toNat, Int.ofNat (UInt8.ofNat r.toNat).toNat, num (oct4 m)) :: dec l = _
  rw [hn, hq w h1.1.1.1 h1.1.1.2, hq r h1.1.2 h1.2]
theorem dec_enc : ∀ l : List E3, l.all okE = true → (∀ x ∈ l, x.2.2 < 4294967296) → dec (enc l) = l
  | [], _, _ => rfl
  | x :: l, h1, h2 => by
    simp only [List.all_cons, Bool.and_eq_true] at h1
    show dec (encE x ++ enc l) = _
    rw [dec_encE x _ h1.1 (h2 x List.mem_cons_self), dec_enc l h1.2 fun y hy => h2 y (List.mem_cons_of_mem _ hy)]
end Go.Proofs.YtjncolnikkbjeaaGreatDoor
