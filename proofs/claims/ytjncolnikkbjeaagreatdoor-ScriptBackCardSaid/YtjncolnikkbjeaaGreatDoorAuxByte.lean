/- The bytes' builder: what its calls do. Conditions: none. -/
import Derived.Test.YtjncolnikkbjeaaGreatDoorLaw
import Derived.Test.YtjncolnikkbjeaaGreatDoorAwake
namespace Go.Proofs.YtjncolnikkbjeaaGreatDoor
open Go Pri
theorem und44 : und Tryz.prog 44 = some (.pointer 47) := by kernel_rfl
theorem und45 : und Tryz.prog 45 = some (.slice 5) := by kernel_rfl
theorem und115 : und Tryz.prog 115 = some .unsafePointer := by kernel_rfl
theorem und5 : und Tryz.prog 5 = some (.int .u8) := by kernel_rfl
theorem und71 : und Tryz.prog 71 = some (.pointer 5) := by kernel_rfl
theorem sz47 : szOf Tryz.prog 47 = some (1 + 1) := by kernel_rfl
theorem sz44 : szOf Tryz.prog 44 = some 1 := by kernel_rfl
theorem sz45 : szOf Tryz.prog 45 = some (0 + 1) := by kernel_rfl
theorem sz44' : szOf Tryz.prog 44 = some (0 + 1) := by kernel_rfl
theorem sz5 : szOf Tryz.prog 5 = some 1 := by kernel_rfl
theorem agg44 : aggOf Tryz.prog 44 = some false := by kernel_rfl
theorem agg45 : aggOf Tryz.prog 45 = some false := by kernel_rfl
theorem zero5 : zeroOf Tryz.prog 5 = some (.int .u8 0) := by kernel_rfl
theorem ty5 : ∃ i, ty Tryz.prog 5 = some i ∧ i.size = 1 ∧ i.bytes = 1 := by
  have h1 : (ty Tryz.prog 5).map (fun i => (i.size, i.bytes)) = some (1, 1) := by kernel_rfl
  cases h : ty Tryz.prog 5 with
  | none => rw [h] at h1; cases h1
  | some i =>
    rw [h] at h1
    simp only [Option.map_some, Option.some.injEq, Prod.mk.injEq] at h1
    exact ⟨i, rfl, h1⟩
theorem field47_0 (l : Nat) : afieldAddr Tryz.prog 47 (.pointer (some ⟨l, 0, none⟩)) 0 = some (.pointer (some ⟨l, 0, none⟩)) := by kernel_rfl
theorem field47_1 (l : Nat) : afieldAddr Tryz.prog 47 (.pointer (some ⟨l, 0, none⟩)) 1 = some (.pointer (some ⟨l, 1, none⟩)) := by kernel_rfl
theorem fnAt32 : fnAt Tryz.prog 32 = some Tryz.f32 := by kernel_rfl
theorem fnAt18 : fnAt Tryz.prog 18 = some Tryz.f18 := by kernel_rfl
theorem fnAt20 : fnAt Tryz.prog 20 = some Tryz.f20 := by kernel_rfl
theorem fnAt21 : fnAt Tryz.prog 21 = some Tryz.f21 := by kernel_rfl
/-- A pointer that is handed back. -/
theorem noEscape {H : Hp} {x : Value} : ∃ v h' pn', (Cl Tryz.prog orc none false (.fn (.func 51) #[]) #[x] H (.ret v) h' pn' ∧ H.nx ≤ h'.nx) ∧ (v = x ∧ h' = H) :=
  ⟨x, H, none, ⟨Cl.of (n := 1) (by kernel_rfl) (Nat.le_refl _) (show callF Tryz.prog (evO Tryz.prog orc 1).1 (evO Tryz.prog orc 1).2 none false 51 #[x] H = some (.ret x, H, none) by kernel_rfl), Nat.le_refl _⟩, rfl, rfl⟩

theorem copyCheck_spec {H : Hp} {L : Nat} {p : Option Addr} {sl : Value} (hp : p = none ∨ p = some ⟨L, 0, none⟩) (hg : H.get L = some (.row [.pointer p, sl] 47 .exact)) :
    ∃ v h' pn', (Cl Tryz.prog orc none false (.fn (.func 32) #[]) #[.pointer (some ⟨L, 0, none⟩)] H (.ret v) h' pn' ∧ H.nx ≤ h'.nx) ∧
      (h'.nx = H.nx ∧ h'.get L = some (.row [.pointer (some ⟨L, 0, none⟩), sl] 47 .exact) ∧ ∀ x, x ≠ L → h'.get x = H.get x) := by
  refine wpF_Cl (by kernel_rfl) fnAt32 ?_
  refine xw_fun rfl (tm := (Tri.set Tri.leaf 0 (.pointer (some ⟨L, 0, none⟩)))) rfl ?_
  have l1 : aload Tryz.prog H 44 ⟨L, 0, none⟩ = some (.pointer p) := load_cell agg44 sz44 hg rfl
  rcases hp with rfl | rfl
  · have q1 : ∀ c, abin Tryz.prog H .eql 44 c (.pointer none) (.pointer none) = some (.bool true) := fun c => bp_eql_nil und44
    have c1 : aconvert Tryz.prog H 44 115 (.pointer (some ⟨L, 0, none⟩)) = some (.pointer (some ⟨L, 0, none⟩), H) := cv_unsafe und44 und115 sz47 hg (by simp)
    have c2 : aconvert Tryz.prog H 115 44 (.pointer (some ⟨L, 0, none⟩)) = some (.pointer (some ⟨L, 0, none⟩), H) := cv_back und115 und44 sz47 hg (by simp)
    have s1 : astore Tryz.prog H 44 ⟨L, 0, none⟩ (.pointer (some ⟨L, 0, none⟩)) = some (H.set L (.row [.pointer (some ⟨L, 0, none⟩), sl] 47 .exact)) := by
      rw [store_cell sz44' rfl rfl hg rfl (by simp)]; rfl
    -- region 0
    repeat with_reducible refine xw_seq ?_
    refine xw_region ?_
    refine xw_val (by simp only [aopOf, evalT, tget_set, tget_leaf, reduceIte, aMove]; rfl) ?_  -- 0: t2 := move t0
    refine xw_val (by simp only [aopOf, evalT, tput, tget_set, tget_leaf, Nat.reduceEqDiff, reduceIte, aNilCheck]; rfl) ?_  -- 1: t3 := nilCheck t2
    refine xw_val (by simp only [aopOf, evalT, tput, tget_set, tget_leaf, Nat.reduceEqDiff, reduceIte, aFieldAddr, opt1, field47_0]; rfl) ?_  -- 2: t4 := fieldAddr strings.Builder#47 t3 .0
    refine xw_val (by simp only [aopOf, evalT, tput, tget_set, tget_leaf, Nat.reduceEqDiff, reduceIte, aLoad, opt1, l1]; rfl) ?_  -- 3: t5 := load *47#44 [t4]
    refine xw_val (by simp only [aopOf, evalT, tput, tget_set, tget_leaf, Nat.reduceEqDiff, reduceIte, aBin, opt1, q1]; rfl) ?_  -- 4: t6 := binOp eql *47#44 t5 nilptr
    refine xw_nil ?_
    repeat first | with_reducible refine xw_next ?_ | with_reducible refine xw_pass ?_ | with_reducible refine xw_passr ?_ | with_reducible refine xw_bnorm ?_ | with_reducible refine xw_bret ?_ | with_reducible refine xw_hit ?_ | with_reducible refine xw_past rfl ?_
    repeat with_reducible refine xw_seq ?_
    refine xw_then (by simp [tput, tget_set]) ?_  -- IF t6
    -- region 1
    repeat with_reducible refine xw_seq ?_
    refine xw_region ?_
    refine xw_val (by simp only [aopOf, evalT, tput, tget_set, tget_leaf, Nat.reduceEqDiff, reduceIte, aMove]; rfl) ?_  -- 0: t7 := move t0
    refine xw_val (by simp only [aopOf, evalT, tput, tget_set, tget_leaf, Nat.reduceEqDiff, reduceIte, aMove]; rfl) ?_  -- 1: t8 := move t0
    refine xw_val (by simp only [aopOf, evalT, tput, tget_set, tget_leaf, Nat.reduceEqDiff, reduceIte, aConvert, opt2, c1]; rfl) ?_  -- 2: t9 := convert *47#44 -> ?#115 t8
    refine xw_call (by simp only [aopOf, evalT, tput, tget_set, tget_leaf, Nat.reduceEqDiff, reduceIte, aCall, mapOps]; rfl) noEscape ?_  -- 3: t10 := call F51:internal/abi.NoEscape (t9) types [?#115]
    rintro v hq hn ⟨rfl, hh⟩
    obtain rfl := hh.symm
    refine xw_val (by simp only [aopOf, evalT, tput, tget_set, tget_leaf, Nat.reduceEqDiff, reduceIte, aConvert, opt2, c2]; rfl) ?_  -- 4: t11 := convert ?#115 -> *47#44 t10
    refine xw_val (by simp only [aopOf, evalT, tput, tget_set, tget_leaf, Nat.reduceEqDiff, reduceIte, aNilCheck]; rfl) ?_  -- 5: t12 := nilCheck t7
    refine xw_val (by simp only [aopOf, evalT, tput, tget_set, tget_leaf, Nat.reduceEqDiff, reduceIte, aFieldAddr, opt1, field47_0]; rfl) ?_  -- 6: t13 := fieldAddr strings.Builder#47 t12 .0
    refine xw_put (by simp only [aopOf, evalT, tput, tget_set, tget_leaf, Nat.reduceEqDiff, reduceIte, aStore, opt3, s1]; rfl) ?_  -- 7: tNone := store *47#44 [t13] := t11
    refine xw_nil ?_
    repeat first | with_reducible refine xw_next ?_ | with_reducible refine xw_pass ?_ | with_reducible refine xw_passr ?_ | with_reducible refine xw_bnorm ?_ | with_reducible refine xw_bret ?_ | with_reducible refine xw_hit ?_ | with_reducible refine xw_past rfl ?_
    refine xw_end' (vs := []) (by kernel_rfl) ?_
    exact ⟨rfl, get_set_same _ _ _, fun x hx => get_set_other hx⟩
  · have q1 : ∀ c, abin Tryz.prog H .eql 44 c (.pointer (some ⟨L, 0, none⟩)) (.pointer none) = some (.bool false) := fun c => bp_eql_some und44
    have q2 : ∀ c, abin Tryz.prog H .neq 44 c (.pointer (some ⟨L, 0, none⟩)) (.pointer (some ⟨L, 0, none⟩)) = some (.bool false) := fun c => bp_neq_self und44 sz47 (live_of hg)
    -- region 0
    repeat with_reducible refine xw_seq ?_
    refine xw_region ?_
    refine xw_val (by simp only [aopOf, evalT, tget_set, tget_leaf, reduceIte, aMove]; rfl) ?_  -- 0: t2 := move t0
    refine xw_val (by simp only [aopOf, evalT, tput, tget_set, tget_leaf, Nat.reduceEqDiff, reduceIte, aNilCheck]; rfl) ?_  -- 1: t3 := nilCheck t2
    refine xw_val (by simp only [aopOf, evalT, tput, tget_set, tget_leaf, Nat.reduceEqDiff, reduceIte, aFieldAddr, opt1, field47_0]; rfl) ?_  -- 2: t4 := fieldAddr strings.Builder#47 t3 .0
    refine xw_val (by simp only [aopOf, evalT, tput, tget_set, tget_leaf, Nat.reduceEqDiff, reduceIte, aLoad, opt1, l1]; rfl) ?_  -- 3: t5 := load *47#44 [t4]
    refine xw_val (by simp only [aopOf, evalT, tput, tget_set, tget_leaf, Nat.reduceEqDiff, reduceIte, aBin, opt1, q1]; rfl) ?_  -- 4: t6 := binOp eql *47#44 t5 nilptr
    refine xw_nil ?_
    repeat first | with_reducible refine xw_next ?_ | with_reducible refine xw_pass ?_ | with_reducible refine xw_passr ?_ | with_reducible refine xw_bnorm ?_ | with_reducible refine xw_bret ?_ | with_reducible refine xw_hit ?_ | with_reducible refine xw_past rfl ?_
    repeat with_reducible refine xw_seq ?_
    refine xw_else (by simp [tput, tget_set]) ?_  -- IF t6
    -- region 2
    repeat with_reducible refine xw_seq ?_
    refine xw_region ?_
    refine xw_val (by simp only [aopOf, evalT, tput, tget_set, tget_leaf, Nat.reduceEqDiff, reduceIte, aMove]; rfl) ?_  -- 0: t14 := move t0
    refine xw_val (by simp only [aopOf, evalT, tput, tget_set, tget_leaf, Nat.reduceEqDiff, reduceIte, aNilCheck]; rfl) ?_  -- 1: t15 := nilCheck t14
    refine xw_val (by simp only [aopOf, evalT, tput, tget_set, tget_leaf, Nat.reduceEqDiff, reduceIte, aFieldAddr, opt1, field47_0]; rfl) ?_  -- 2: t16 := fieldAddr strings.Builder#47 t15 .0
    refine xw_val (by simp only [aopOf, evalT, tput, tget_set, tget_leaf, Nat.reduceEqDiff, reduceIte, aLoad, opt1, l1]; rfl) ?_  -- 3: t17 := load *47#44 [t16]
    refine xw_val (by simp only [aopOf, evalT, tput, tget_set, tget_leaf, Nat.reduceEqDiff, reduceIte, aMove]; rfl) ?_  -- 4: t18 := move t0
    refine xw_val (by simp only [aopOf, evalT, tput, tget_set, tget_leaf, Nat.reduceEqDiff, reduceIte, aBin, opt1, q2]; rfl) ?_  -- 5: t19 := binOp neq *47#44 t17 t18
    refine xw_nil ?_
    repeat first | with_reducible refine xw_next ?_ | with_reducible refine xw_pass ?_ | with_reducible refine xw_passr ?_ | with_reducible refine xw_bnorm ?_ | with_reducible refine xw_bret ?_ | with_reducible refine xw_hit ?_ | with_reducible refine xw_past rfl ?_
    repeat with_reducible refine xw_seq ?_
    refine xw_else (by simp [tput, tget_set]) ?_  -- IF t19
    refine xw_skip ?_
    repeat first | with_reducible refine xw_next ?_ | with_reducible refine xw_pass ?_ | with_reducible refine xw_passr ?_ | with_reducible refine xw_bnorm ?_ | with_reducible refine xw_bret ?_ | with_reducible refine xw_hit ?_ | with_reducible refine xw_past rfl ?_
    refine xw_end' (vs := []) (by kernel_rfl) ?_
    exact ⟨rfl, hg, fun x hx => rfl⟩

theorem und9 : und Tryz.prog 9 = some .string := by kernel_rfl
theorem app5 {h : Hp} {ob : Option Nat} {bs xs : List UInt8} {x : Value} (hob : Behind h 5 1 (bcells bs) ob) (h0 : ob = none → bs.length = 0) (hx : srcLen x = some xs.length) (hs : srcCells h 1 x = some (bcells xs)) (hn : xs ≠ []) (hb : bs.length + xs.length ≤ 140737488355328) :
    ∃ h2, aappend Tryz.prog h 45 (slOf ob bs.length) x = some (slOf (some h.nx) (bs ++ xs).length, h2) ∧ h2.nx = h.nx + 1 ∧ Behind h2 5 1 (bcells (bs ++ xs)) (some h.nx) ∧ ∀ y, y < h.nx → ob ≠ some y → h2.get y = h.get y := by
  obtain ⟨i, h1, h2, h3⟩ := ty5
  have := app_more (len := bs.length) (n := xs.length) und45 h1 zero5 (by rw [h2]; rfl) (by rw [h2]; exact hob) (by rw [h2]; simp) h0 hx (by rw [h2]; exact hs) (bcells_plain _) (by simpa [bcells] using hn) (List.length_pos_iff.mpr hn) (by rw [h3]; omega) (by omega)
  simpa only [h2, bcells_append, List.length_append] using this
theorem slice5 (h : Hp) (b : UInt8) : aBuildSlice2 h 5 1 1 (.int .u8 0) [(0, bcell b)] = some (.val (.slice (some ⟨h.nx, 0, none⟩) 1 1), h.new (.row (bcells [b]) 5 .exact)) := by kernel_rfl
theorem WriteByte_spec {H : Hp} {L : Nat} {ob : Option Nat} {bs : List UInt8} (hB : Bld 47 5 H L ob bs) (hL : L < H.nx) (b : UInt8) (hlen : bs.length ≤ 1000000) :
    ∃ v h' pn', (Cl Tryz.prog orc none false (.fn (.func 18) #[]) #[.pointer (some ⟨L, 0, none⟩), bcell b] H (.ret v) h' pn' ∧ H.nx ≤ h'.nx) ∧
      (∃ ob', Bld 47 5 h' L ob' (bs ++ [b]) ∧ (∀ B, ob' = some B → H.nx ≤ B) ∧ ∀ x, x < H.nx → x ≠ L → ob ≠ some x → h'.get x = H.get x) := by
  have h0 := hB.len
  obtain ⟨⟨p, hp, hg⟩, hbe, hne⟩ := hB
  have hs := copyCheck_spec hp hg
  refine wpF_Cl (by kernel_rfl) fnAt18 ?_
  refine xw_fun rfl (tm := (Tri.set (Tri.set Tri.leaf 0 (.pointer (some ⟨L, 0, none⟩))) 1 (bcell b))) rfl ?_
  -- region 0
  repeat with_reducible refine xw_seq ?_
  refine xw_region ?_
  refine xw_val (by simp only [aopOf, evalT, aMove]; rfl) ?_  -- 0: t4 := assign niliface
  refine xw_nil ?_
  repeat first | with_reducible refine xw_next ?_ | with_reducible refine xw_pass ?_ | with_reducible refine xw_passr ?_ | with_reducible refine xw_bnorm ?_ | with_reducible refine xw_bret ?_ | with_reducible refine xw_hit ?_ | with_reducible refine xw_past rfl ?_
  -- region 1
  repeat with_reducible refine xw_seq ?_
  refine xw_region ?_
  refine xw_val (by simp only [aopOf, evalT, tput, tget_set, tget_leaf, Nat.reduceEqDiff, reduceIte, aMove]; rfl) ?_  -- 0: t5 := move t0
  refine xw_call (by simp only [aopOf, evalT, tput, tget_set, tget_leaf, Nat.reduceEqDiff, reduceIte, aCall, mapOps]; rfl) hs ?_  -- 1: t6 := call F32:(*strings.Builder).copyCheck (t5) types [*47#44]
  rintro v hq hn ⟨hnx, hg1, hk1⟩
  refine xw_nil ?_
  repeat first | with_reducible refine xw_next ?_ | with_reducible refine xw_pass ?_ | with_reducible refine xw_passr ?_ | with_reducible refine xw_bnorm ?_ | with_reducible refine xw_bret ?_ | with_reducible refine xw_hit ?_ | with_reducible refine xw_past rfl ?_
  have l1 : aload Tryz.prog hq 45 ⟨L, 1, none⟩ = some (slOf ob bs.length) := load_cell agg45 sz45 hg1 rfl
  have hbe1 : Behind hq 5 1 (bcells bs) ob := hbe.keep hn fun B hB => hk1 B fun h => hne (by rw [hB, h])
  have hbe2 : Behind (hq.new (.row (bcells [b]) 5 .exact)) 5 1 (bcells bs) ob := hbe1.keep (by simp) fun B hB => by
    subst hB
    rw [Hp.get_new, if_neg (by have := hbe1.1; omega)]
  obtain ⟨h3, hap, hn3, hbe3, hk3⟩ := app5 hbe2 h0 (x := .slice (some ⟨hq.nx, 0, none⟩) 1 1) (xs := [b]) rfl (by simp only [srcCells]; exact cellsAt_all (get_new_same _ _) rfl) (by simp) (by simp; omega)
  have hb3 := bAppend_of (ts := #[45, 45]) rfl rfl und45 hap
  have g3 : h3.get L = some (.row [.pointer (some ⟨L, 0, none⟩), slOf ob bs.length] 47 .exact) := by
    rw [hk3 L (by simp; omega) hne, Hp.get_new, if_neg (by omega)]
    exact hg1
  have s1 : astore Tryz.prog h3 45 ⟨L, 1, none⟩ (slOf (some (hq.new (.row (bcells [b]) 5 .exact)).nx) (bs ++ [b]).length) = some (h3.set L (.row [.pointer (some ⟨L, 0, none⟩), slOf (some (hq.new (.row (bcells [b]) 5 .exact)).nx) (bs ++ [b]).length] 47 .exact)) := by
    rw [store_cell sz45 rfl rfl g3 rfl (by simp)]; rfl
  -- region 2
  repeat with_reducible refine xw_seq ?_
  refine xw_region ?_
  refine xw_val (by simp only [aopOf, evalT, tput, tget_set, tget_leaf, Nat.reduceEqDiff, reduceIte, aMove]; rfl) ?_  -- 0: t7 := move t0
  refine xw_val (by simp only [aopOf, evalT, tput, tget_set, tget_leaf, Nat.reduceEqDiff, reduceIte, aMove]; rfl) ?_  -- 1: t8 := move t0
  refine xw_val (by simp only [aopOf, evalT, tput, tget_set, tget_leaf, Nat.reduceEqDiff, reduceIte, aNilCheck]; rfl) ?_  -- 2: t9 := nilCheck t8
  refine xw_val (by simp only [aopOf, evalT, tput, tget_set, tget_leaf, Nat.reduceEqDiff, reduceIte, aFieldAddr, opt1, field47_1]; rfl) ?_  -- 3: t10 := fieldAddr strings.Builder#47 t9 .1
  refine xw_val (by simp only [aopOf, evalT, tput, tget_set, tget_leaf, Nat.reduceEqDiff, reduceIte, aLoad, opt1, l1]; rfl) ?_  -- 4: t11 := load []5#45 [t10]
  refine xw_val (by simp only [aopOf, evalT, tput, tget_set, tget_leaf, Nat.reduceEqDiff, reduceIte, aMove]; rfl) ?_  -- 5: t12 := move t1
  refine xw_val (by simp only [aopOf, evalT, tput, tget_set, tget_leaf, Nat.reduceEqDiff, reduceIte, aBuildSlice, mapParts, slice5, und45, sz5, zero5]; rfl) ?_  -- 6: t13 := buildSlice []5#45 1 [0:t12]
  refine xw_val (by simp only [aopOf, evalT, tput, tget_set, tget_leaf, Nat.reduceEqDiff, reduceIte, aCall, mapOps, hb3, abuiltin]; rfl) ?_  -- 7: t14 := call builtin append (t11, t13) types [[]5#45, []5#45]
  refine xw_val (by simp only [aopOf, evalT, tput, tget_set, tget_leaf, Nat.reduceEqDiff, reduceIte, aNilCheck]; rfl) ?_  -- 8: t15 := nilCheck t7
  refine xw_val (by simp only [aopOf, evalT, tput, tget_set, tget_leaf, Nat.reduceEqDiff, reduceIte, aFieldAddr, opt1, field47_1]; rfl) ?_  -- 9: t16 := fieldAddr strings.Builder#47 t15 .1
  refine xw_put (by simp only [aopOf, evalT, tput, tget_set, tget_leaf, Nat.reduceEqDiff, reduceIte, aStore, opt3, s1]; rfl) ?_  -- 10: tNone := store []5#45 [t16] := t14
  refine xw_nil ?_
  repeat first | with_reducible refine xw_next ?_ | with_reducible refine xw_pass ?_ | with_reducible refine xw_passr ?_ | with_reducible refine xw_bnorm ?_ | with_reducible refine xw_bret ?_ | with_reducible refine xw_hit ?_ | with_reducible refine xw_past rfl ?_
  -- region 3
  repeat with_reducible refine xw_seq ?_
  refine xw_region ?_
  refine xw_val (by simp only [aopOf, evalT, aMove]; rfl) ?_  -- 0: t4 := assign niliface
  refine xw_nil ?_
  repeat first | with_reducible refine xw_next ?_ | with_reducible refine xw_pass ?_ | with_reducible refine xw_passr ?_ | with_reducible refine xw_bnorm ?_ | with_reducible refine xw_bret ?_ | with_reducible refine xw_hit ?_ | with_reducible refine xw_past rfl ?_
  repeat with_reducible refine xw_seq ?_
  refine xw_ret ?_
  repeat first | with_reducible refine xw_next ?_ | with_reducible refine xw_pass ?_ | with_reducible refine xw_passr ?_ | with_reducible refine xw_bnorm ?_ | with_reducible refine xw_bret ?_ | with_reducible refine xw_hit ?_ | with_reducible refine xw_past rfl ?_
  refine xw_end (by simp only [tput]; rfl) ?_
  refine ⟨some (hq.new (.row (bcells [b]) 5 .exact)).nx, ⟨⟨_, .inr rfl, get_set_same _ _ _⟩, hbe3.keep (by simp) fun B hB => ?_, ?_⟩, fun B hB => ?_, fun x hx h1 h2 => ?_⟩
  · simp only [Hp.nx_new, Option.some.injEq] at hB
    rw [get_set_other (by omega)]
  · simp only [Hp.nx_new, ne_eq, Option.some.injEq]
    omega
  · simp only [Hp.nx_new, Option.some.injEq] at hB
    omega
  · rw [get_set_other h1, hk3 x (by simp; omega) h2, Hp.get_new, if_neg (by omega), hk1 x h1]

theorem WriteString_spec {H : Hp} {L : Nat} {ob : Option Nat} {bs : List UInt8} (hB : Bld 47 5 H L ob bs) (hL : L < H.nx) (xs : List UInt8) (hx : xs ≠ []) (hlen : bs.length + xs.length ≤ 1000000) :
    ∃ v h' pn', (Cl Tryz.prog orc none false (.fn (.func 20) #[]) #[.pointer (some ⟨L, 0, none⟩), str xs] H (.ret v) h' pn' ∧ H.nx ≤ h'.nx) ∧
      (∃ ob', Bld 47 5 h' L ob' (bs ++ xs) ∧ (∀ B, ob' = some B → H.nx ≤ B) ∧ ∀ x, x < H.nx → x ≠ L → ob ≠ some x → h'.get x = H.get x) := by
  have h0 := hB.len
  obtain ⟨⟨p, hp, hg⟩, hbe, hne⟩ := hB
  have hs := copyCheck_spec hp hg
  refine wpF_Cl (by kernel_rfl) fnAt20 ?_
  refine xw_fun rfl (tm := (Tri.set (Tri.set Tri.leaf 0 (.pointer (some ⟨L, 0, none⟩))) 1 (str xs))) rfl ?_
  -- region 0
  repeat with_reducible refine xw_seq ?_
  refine xw_region ?_
  refine xw_val (by simp only [aopOf, evalT, aMove]; rfl) ?_  -- 0: t4 := assign 0:i64
  refine xw_val (by simp only [aopOf, evalT, aMove]; rfl) ?_  -- 1: t5 := assign niliface
  refine xw_nil ?_
  repeat first | with_reducible refine xw_next ?_ | with_reducible refine xw_pass ?_ | with_reducible refine xw_passr ?_ | with_reducible refine xw_bnorm ?_ | with_reducible refine xw_bret ?_ | with_reducible refine xw_hit ?_ | with_reducible refine xw_past rfl ?_
  -- region 1
  repeat with_reducible refine xw_seq ?_
  refine xw_region ?_
  refine xw_val (by simp only [aopOf, evalT, tput, tget_set, tget_leaf, Nat.reduceEqDiff, reduceIte, aMove]; rfl) ?_  -- 0: t6 := move t0
  refine xw_call (by simp only [aopOf, evalT, tput, tget_set, tget_leaf, Nat.reduceEqDiff, reduceIte, aCall, mapOps]; rfl) hs ?_  -- 1: t7 := call F32:(*strings.Builder).copyCheck (t6) types [*47#44]
  rintro v hq hn ⟨hnx, hg1, hk1⟩
  refine xw_nil ?_
  repeat first | with_reducible refine xw_next ?_ | with_reducible refine xw_pass ?_ | with_reducible refine xw_passr ?_ | with_reducible refine xw_bnorm ?_ | with_reducible refine xw_bret ?_ | with_reducible refine xw_hit ?_ | with_reducible refine xw_past rfl ?_
  have l1 : aload Tryz.prog hq 45 ⟨L, 1, none⟩ = some (slOf ob bs.length) := load_cell agg45 sz45 hg1 rfl
  have hbe1 : Behind hq 5 1 (bcells bs) ob := hbe.keep hn fun B hB => hk1 B fun h => hne (by rw [hB, h])
  obtain ⟨h3, hap, hn3, hbe3, hk3⟩ := app5 hbe1 h0 (x := str xs) (xs := xs) rfl (srcCells_str _ _) hx (by omega)
  have hb3 := bAppend_str (ts := #[45, 9]) rfl rfl und9 hap
  have g3 : h3.get L = some (.row [.pointer (some ⟨L, 0, none⟩), slOf ob bs.length] 47 .exact) := by
    rw [hk3 L (by omega) hne]
    exact hg1
  have s1 : astore Tryz.prog h3 45 ⟨L, 1, none⟩ (slOf (some hq.nx) (bs ++ xs).length) = some (h3.set L (.row [.pointer (some ⟨L, 0, none⟩), slOf (some hq.nx) (bs ++ xs).length] 47 .exact)) := by
    rw [store_cell sz45 rfl rfl g3 rfl (by simp)]; rfl
  -- region 2
  repeat with_reducible refine xw_seq ?_
  refine xw_region ?_
  refine xw_val (by simp only [aopOf, evalT, tput, tget_set, tget_leaf, Nat.reduceEqDiff, reduceIte, aMove]; rfl) ?_  -- 0: t8 := move t0
  refine xw_val (by simp only [aopOf, evalT, tput, tget_set, tget_leaf, Nat.reduceEqDiff, reduceIte, aMove]; rfl) ?_  -- 1: t9 := move t0
  refine xw_val (by simp only [aopOf, evalT, tput, tget_set, tget_leaf, Nat.reduceEqDiff, reduceIte, aNilCheck]; rfl) ?_  -- 2: t10 := nilCheck t9
  refine xw_val (by simp only [aopOf, evalT, tput, tget_set, tget_leaf, Nat.reduceEqDiff, reduceIte, aFieldAddr, opt1, field47_1]; rfl) ?_  -- 3: t11 := fieldAddr strings.Builder#47 t10 .1
  refine xw_val (by simp only [aopOf, evalT, tput, tget_set, tget_leaf, Nat.reduceEqDiff, reduceIte, aLoad, opt1, l1]; rfl) ?_  -- 4: t12 := load []5#45 [t11]
  refine xw_val (by simp only [aopOf, evalT, tput, tget_set, tget_leaf, Nat.reduceEqDiff, reduceIte, aMove]; rfl) ?_  -- 5: t13 := move t1
  refine xw_val (by simp only [aopOf, evalT, tput, tget_set, tget_leaf, Nat.reduceEqDiff, reduceIte, aCall, mapOps, hb3, abuiltin]; rfl) ?_  -- 6: t14 := call builtin append (t12, t13) types [[]5#45, string#9]
  refine xw_val (by simp only [aopOf, evalT, tput, tget_set, tget_leaf, Nat.reduceEqDiff, reduceIte, aNilCheck]; rfl) ?_  -- 7: t15 := nilCheck t8
  refine xw_val (by simp only [aopOf, evalT, tput, tget_set, tget_leaf, Nat.reduceEqDiff, reduceIte, aFieldAddr, opt1, field47_1]; rfl) ?_  -- 8: t16 := fieldAddr strings.Builder#47 t15 .1
  refine xw_put (by simp only [aopOf, evalT, tput, tget_set, tget_leaf, Nat.reduceEqDiff, reduceIte, aStore, opt3, s1]; rfl) ?_  -- 9: tNone := store []5#45 [t16] := t14
  refine xw_nil ?_
  repeat first | with_reducible refine xw_next ?_ | with_reducible refine xw_pass ?_ | with_reducible refine xw_passr ?_ | with_reducible refine xw_bnorm ?_ | with_reducible refine xw_bret ?_ | with_reducible refine xw_hit ?_ | with_reducible refine xw_past rfl ?_
  -- region 3
  repeat with_reducible refine xw_seq ?_
  refine xw_region ?_
  refine xw_val (by simp only [aopOf, evalT, tput, tget_set, tget_leaf, Nat.reduceEqDiff, reduceIte, aMove]; rfl) ?_  -- 0: t17 := move t1
  refine xw_val (by simp only [aopOf, evalT, tput, tget_set, tget_leaf, Nat.reduceEqDiff, reduceIte, aCall, mapOps, abuiltin, bLen]; rfl) ?_  -- 1: t18 := call builtin len (t17) types [string#9]
  refine xw_val (by simp only [aopOf, evalT, tput, tget_set, tget_leaf, Nat.reduceEqDiff, reduceIte, aMove]; rfl) ?_  -- 2: t4 := assign t18
  refine xw_val (by simp only [aopOf, evalT, aMove]; rfl) ?_  -- 3: t5 := assign niliface
  refine xw_nil ?_
  repeat first | with_reducible refine xw_next ?_ | with_reducible refine xw_pass ?_ | with_reducible refine xw_passr ?_ | with_reducible refine xw_bnorm ?_ | with_reducible refine xw_bret ?_ | with_reducible refine xw_hit ?_ | with_reducible refine xw_past rfl ?_
  repeat with_reducible refine xw_seq ?_
  refine xw_ret ?_
  repeat first | with_reducible refine xw_next ?_ | with_reducible refine xw_pass ?_ | with_reducible refine xw_passr ?_ | with_reducible refine xw_bnorm ?_ | with_reducible refine xw_bret ?_ | with_reducible refine xw_hit ?_ | with_reducible refine xw_past rfl ?_
  refine xw_end (by simp only [tput]; rfl) ?_
  refine ⟨some hq.nx, ⟨⟨_, .inr rfl, get_set_same _ _ _⟩, hbe3.keep (by simp) fun B hB => ?_, ?_⟩, fun B hB => ?_, fun x hx h1 h2 => ?_⟩
  · simp only [Option.some.injEq] at hB
    rw [get_set_other (by omega)]
  · simp only [ne_eq, Option.some.injEq]
    omega
  · simp only [Option.some.injEq] at hB
    omega
  · rw [get_set_other h1, hk3 x (by omega) h2, hk1 x h1]

theorem String_spec {H : Hp} {L : Nat} {ob : Option Nat} {bs : List UInt8} (hB : Bld 47 5 H L ob bs) (hlen : bs.length ≤ 1000000) :
    ∃ v h' pn', (Cl Tryz.prog orc none false (.fn (.func 21) #[]) #[.pointer (some ⟨L, 0, none⟩)] H (.ret v) h' pn' ∧ H.nx ≤ h'.nx) ∧
      (v = str bs ∧ h'.nx = H.nx ∧ ∀ x, ob ≠ some x → h'.get x = H.get x) := by
  have h0 := hB.len
  obtain ⟨⟨p, hp, hg⟩, hbe, hne⟩ := hB
  have l1 : aload Tryz.prog H 45 ⟨L, 1, none⟩ = some (slOf ob bs.length) := load_cell agg45 sz45 hg rfl
  refine wpF_Cl (by kernel_rfl) fnAt21 ?_
  refine xw_fun rfl (tm := (Tri.set Tri.leaf 0 (.pointer (some ⟨L, 0, none⟩)))) rfl ?_
  cases ob with
  | none =>
    obtain rfl : bs = [] := List.length_eq_zero_iff.mp (h0 rfl)
    -- region 0
    repeat with_reducible refine xw_seq ?_
    refine xw_region ?_
    refine xw_val (by simp only [aopOf, evalT, aMove]; rfl) ?_  -- 0: t2 := assign ""
    refine xw_nil ?_
    repeat first | with_reducible refine xw_next ?_ | with_reducible refine xw_pass ?_ | with_reducible refine xw_passr ?_ | with_reducible refine xw_bnorm ?_ | with_reducible refine xw_bret ?_ | with_reducible refine xw_hit ?_ | with_reducible refine xw_past rfl ?_
    -- region 1
    repeat with_reducible refine xw_seq ?_
    refine xw_draw (by kernel_rfl) ?_
    refine xq_val (by simp only [aopOf, evalT, tput, tget_set, tget_leaf, Nat.reduceEqDiff, reduceIte, aMove]; rfl) (by first | rfl | simp [isRead]) ?_  -- 0: t3 := move t0
    refine xq_val (by simp only [aopOf, evalT, tput, tget_set, tget_leaf, Nat.reduceEqDiff, reduceIte, aNilCheck]; rfl) (by first | rfl | simp [isRead]) ?_  -- 1: t4 := nilCheck t3
    refine xq_val (by simp only [aopOf, evalT, tput, tget_set, tget_leaf, Nat.reduceEqDiff, reduceIte, aFieldAddr, opt1, field47_1]; rfl) (by first | rfl | simp [isRead]) ?_  -- 2: t5 := fieldAddr strings.Builder#47 t4 .1
    refine xq_val (by simp only [aopOf, evalT, tput, tget_set, tget_leaf, Nat.reduceEqDiff, reduceIte, aLoad, opt1, l1, slOf]; rfl) (by first | rfl | simp [isRead]) ?_  -- 3: t6 := load []5#45 [t5]
    refine xq_val (by simp only [aopOf, evalT, tput, tget_set, tget_leaf, Nat.reduceEqDiff, reduceIte, aCall, mapOps, bSliceData, abuiltin]; rfl) (by first | rfl | simp [isRead]) ?_  -- 4: t7 := call builtin unsafeSliceData (t6) types [[]5#45]
    refine xq_val (by simp only [aopOf, evalT, tput, tget_set, tget_leaf, Nat.reduceEqDiff, reduceIte, aMove]; rfl) (by first | rfl | simp [isRead]) ?_  -- 5: t8 := move t0
    refine xq_val (by simp only [aopOf, evalT, tput, tget_set, tget_leaf, Nat.reduceEqDiff, reduceIte, aNilCheck]; rfl) (by first | rfl | simp [isRead]) ?_  -- 6: t9 := nilCheck t8
    refine xq_val (by simp only [aopOf, evalT, tput, tget_set, tget_leaf, Nat.reduceEqDiff, reduceIte, aFieldAddr, opt1, field47_1]; rfl) (by first | rfl | simp [isRead]) ?_  -- 7: t10 := fieldAddr strings.Builder#47 t9 .1
    refine xq_val (by simp only [aopOf, evalT, tput, tget_set, tget_leaf, Nat.reduceEqDiff, reduceIte, aLoad, opt1, l1, slOf]; rfl) (by first | rfl | simp [isRead]) ?_  -- 8: t11 := load []5#45 [t10]
    refine xq_val (by simp only [aopOf, evalT, tput, tget_set, tget_leaf, Nat.reduceEqDiff, reduceIte, aCall, mapOps, abuiltin, bLen]; rfl) (by first | rfl | simp [isRead]) ?_  -- 9: t12 := call builtin len (t11) types [[]5#45]
    refine xq_val (by simp only [aopOf, evalT, tput, tget_set, tget_leaf, Nat.reduceEqDiff, reduceIte, aCall, mapOps, abuiltin]; rfl) (by first | rfl | simp [isRead]) ?_  -- 10: t13 := call builtin unsafeString (t7, t12) types [*5#71, Go.IntKind.i64#3]
    refine xq_val (by simp only [aopOf, evalT, tput, tget_set, tget_leaf, Nat.reduceEqDiff, reduceIte, aMove]; rfl) (by first | rfl | simp [isRead]) ?_  -- 11: t2 := assign t13
    refine xq_nil ?_
    repeat first | with_reducible refine xw_next ?_ | with_reducible refine xw_pass ?_ | with_reducible refine xw_passr ?_ | with_reducible refine xw_bnorm ?_ | with_reducible refine xw_bret ?_ | with_reducible refine xw_hit ?_ | with_reducible refine xw_past rfl ?_
    repeat with_reducible refine xw_seq ?_
    refine xw_ret ?_
    repeat first | with_reducible refine xw_next ?_ | with_reducible refine xw_pass ?_ | with_reducible refine xw_passr ?_ | with_reducible refine xw_bnorm ?_ | with_reducible refine xw_bret ?_ | with_reducible refine xw_hit ?_ | with_reducible refine xw_past rfl ?_
    refine xw_end (by simp only [tput]; rfl) ?_
    exact ⟨rfl, rfl, fun _ _ => rfl⟩
  | some B =>
    have hb1 : bs ≠ [] := fun h => hbe.2.1 (by rw [h]; rfl)
    have d1 := fun k => sliceData_of (h := H) B k bs.length (List.length_pos_iff.mpr hb1)
    have d2 := fun k => unsafeStr (k := k) (ts := #[71, 3]) rfl und71 und5 sz5 hbe.2.2 rfl hb1 (by omega)
    -- region 0
    repeat with_reducible refine xw_seq ?_
    refine xw_region ?_
    refine xw_val (by simp only [aopOf, evalT, aMove]; rfl) ?_  -- 0: t2 := assign ""
    refine xw_nil ?_
    repeat first | with_reducible refine xw_next ?_ | with_reducible refine xw_pass ?_ | with_reducible refine xw_passr ?_ | with_reducible refine xw_bnorm ?_ | with_reducible refine xw_bret ?_ | with_reducible refine xw_hit ?_ | with_reducible refine xw_past rfl ?_
    -- region 1
    repeat with_reducible refine xw_seq ?_
    refine xw_draw (by kernel_rfl) ?_
    refine xq_val (by simp only [aopOf, evalT, tput, tget_set, tget_leaf, Nat.reduceEqDiff, reduceIte, aMove]; rfl) (by first | rfl | simp [isRead]) ?_  -- 0: t3 := move t0
    refine xq_val (by simp only [aopOf, evalT, tput, tget_set, tget_leaf, Nat.reduceEqDiff, reduceIte, aNilCheck]; rfl) (by first | rfl | simp [isRead]) ?_  -- 1: t4 := nilCheck t3
    refine xq_val (by simp only [aopOf, evalT, tput, tget_set, tget_leaf, Nat.reduceEqDiff, reduceIte, aFieldAddr, opt1, field47_1]; rfl) (by first | rfl | simp [isRead]) ?_  -- 2: t5 := fieldAddr strings.Builder#47 t4 .1
    refine xq_val (by simp only [aopOf, evalT, tput, tget_set, tget_leaf, Nat.reduceEqDiff, reduceIte, aLoad, opt1, l1, slOf]; rfl) (by first | rfl | simp [isRead]) ?_  -- 3: t6 := load []5#45 [t5]
    refine xq_val (by simp only [aopOf, evalT, tput, tget_set, tget_leaf, Nat.reduceEqDiff, reduceIte, aCall, mapOps, d1, abuiltin]; rfl) (by first | rfl | simp [isRead]) ?_  -- 4: t7 := call builtin unsafeSliceData (t6) types [[]5#45]
    refine xq_val (by simp only [aopOf, evalT, tput, tget_set, tget_leaf, Nat.reduceEqDiff, reduceIte, aMove]; rfl) (by first | rfl | simp [isRead]) ?_  -- 5: t8 := move t0
    refine xq_val (by simp only [aopOf, evalT, tput, tget_set, tget_leaf, Nat.reduceEqDiff, reduceIte, aNilCheck]; rfl) (by first | rfl | simp [isRead]) ?_  -- 6: t9 := nilCheck t8
    refine xq_val (by simp only [aopOf, evalT, tput, tget_set, tget_leaf, Nat.reduceEqDiff, reduceIte, aFieldAddr, opt1, field47_1]; rfl) (by first | rfl | simp [isRead]) ?_  -- 7: t10 := fieldAddr strings.Builder#47 t9 .1
    refine xq_val (by simp only [aopOf, evalT, tput, tget_set, tget_leaf, Nat.reduceEqDiff, reduceIte, aLoad, opt1, l1, slOf]; rfl) (by first | rfl | simp [isRead]) ?_  -- 8: t11 := load []5#45 [t10]
    refine xq_val (by simp only [aopOf, evalT, tput, tget_set, tget_leaf, Nat.reduceEqDiff, reduceIte, aCall, mapOps, abuiltin, bLen]; rfl) (by first | rfl | simp [isRead]) ?_  -- 9: t12 := call builtin len (t11) types [[]5#45]
    refine xq_val (by simp only [aopOf, evalT, tput, tget_set, tget_leaf, Nat.reduceEqDiff, reduceIte, aCall, mapOps, d2, abuiltin]; rfl) (by first | rfl | simp [isRead]) ?_  -- 10: t13 := call builtin unsafeString (t7, t12) types [*5#71, Go.IntKind.i64#3]
    refine xq_val (by simp only [aopOf, evalT, tput, tget_set, tget_leaf, Nat.reduceEqDiff, reduceIte, aMove]; rfl) (by first | rfl | simp [isRead]) ?_  -- 11: t2 := assign t13
    refine xq_nil ?_
    repeat first | with_reducible refine xw_next ?_ | with_reducible refine xw_pass ?_ | with_reducible refine xw_passr ?_ | with_reducible refine xw_bnorm ?_ | with_reducible refine xw_bret ?_ | with_reducible refine xw_hit ?_ | with_reducible refine xw_past rfl ?_
    repeat with_reducible refine xw_seq ?_
    refine xw_ret ?_
    repeat first | with_reducible refine xw_next ?_ | with_reducible refine xw_pass ?_ | with_reducible refine xw_passr ?_ | with_reducible refine xw_bnorm ?_ | with_reducible refine xw_bret ?_ | with_reducible refine xw_hit ?_ | with_reducible refine xw_past rfl ?_
    refine xw_end (by simp only [tput]; rfl) ?_
    exact ⟨rfl, rfl, fun x hx => get_set_other fun h => hx (by rw [h])⟩
end Go.Proofs.YtjncolnikkbjeaaGreatDoor
