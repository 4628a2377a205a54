/- octet.Put of a number of four bytes, on plain data, found once and for all. Conditions: none. -/
import Derived.Test.YtjncolnikkbjeaaGreatDoorLaw
import Derived.Test.YtjncolnikkbjeaaGreatDoorFacts
namespace Go.Proofs.YtjncolnikkbjeaaGreatDoor
open Go Pri
theorem fnAt19 : fnAt Tryz.prog 19 = some Tryz.f19 := by kernel_rfl
theorem und32 : und Tryz.prog 32 = some (.int .u32) := by kernel_rfl
theorem und70 : und Tryz.prog 70 = some (.int .u64) := by kernel_rfl
noncomputable def b8 (n : Nat) : UInt8 := UInt8.ofNat (fw .u8 (.ofNat n)).toNat
noncomputable def oct4 (m : Nat) : List UInt8 := [b8 (Nat.shiftRight m 24), b8 (Nat.shiftRight m 16), b8 (Nat.shiftRight m 8), b8 (Nat.shiftRight m 0)]
theorem octet_cl {m : Nat} (hm : m < 4294967296) : ∃ v h' pn', (Cl Tryz.prog noOrc none false (.fn (.func 19) #[]) #[.int .u32 (.ofNat m), .int .i64 (.ofNat 4)] (glI tabless).hp (.ret v) h' pn' ∧ (glI tabless).hp.nx ≤ h'.nx) ∧ v = .tuple #[str (oct4 m), .int .i64 0] := by
  have c1 : ∀ h, aconvert Tryz.prog h 32 70 (.int .u32 (.ofNat m)) = some (.int .u64 (.ofNat m), h) := fun h => by
    rw [cv_int ⟨_, und32⟩ und70, wrap_u64 (by simp) (by simp; omega)]
  have w1 : IntKind.i64.wrap (8 * Int.ofNat 4) = Int.ofNat 32 := by decide
  have s1 : ∀ h b, abin Tryz.prog h .shr 70 b (.int .u64 (.ofNat m)) (.int .i64 (.ofNat 32)) = some (.int .u64 (.ofNat 0)) := fun h b => by
    rw [bi_shr (by decide), Nat.shiftRight_eq_div_pow, Nat.div_eq_of_lt hm]
  have e1 : decide (Int.ofNat 4 < (1 : Int)) = false := by decide
  have e2 : decide ((4 : Int) < Int.ofNat 4) = false := by decide
  have e3 : decide ((0 : Int) < Int.ofNat 0) = false := by decide
  refine xe_Cl rfl fnAt19 rfl (tm := (Tri.set (Tri.set Tri.leaf 0 (.int .u32 (.ofNat m))) 1 (.int .i64 (.ofNat 4)))) rfl ?_
  refine xe_seq (xe_wp ?_)
  -- region 0
  refine xw_region ?_
  refine xw_val (by simp only [aopOf, evalT, aMove]; rfl) ?_  -- 0: t4 := assign ""
  refine xw_val (by simp only [aopOf, evalT, aMove]; rfl) ?_  -- 1: t5 := assign 0:i64
  refine xw_nil ?_
  repeat first | with_reducible refine xw_next ?_ | with_reducible refine xw_pass ?_ | with_reducible refine xw_passr ?_ | with_reducible refine xw_bnorm ?_ | with_reducible refine xw_bret ?_ | with_reducible refine xw_hit ?_ | with_reducible refine xw_past rfl ?_
  refine xe_seq (xe_seq (xe_wp ?_))
  -- region 1
  refine xw_region ?_
  refine xw_val (by simp only [aopOf, evalT, tput, tget_set, tget_leaf, Nat.reduceEqDiff, reduceIte, aMove]; rfl) ?_  -- 0: t8 := move t1
  refine xw_val (by simp only [aopOf, evalT, tput, tget_set, tget_leaf, Nat.reduceEqDiff, reduceIte, aBin, opt1, e1, bi_lss]; rfl) ?_  -- 1: t9 := binOp lss Go.IntKind.i64#3 t8 1:i64
  refine xw_val (by simp only [aopOf, evalT, tput, tget_set, tget_leaf, Nat.reduceEqDiff, reduceIte, aMove]; rfl) ?_  -- 2: t10 := move t9
  refine xg_val (d0 := 10) rfl (by simp only [tput, tget_set, tget_leaf, Nat.reduceEqDiff, reduceIte] <;> rfl) (by simp only [aopOf, evalT, tput, tget_set, tget_leaf, Nat.reduceEqDiff, reduceIte, aMove]; rfl) ?_  -- 3: move t1 IF 2=false
  refine xg_val (d0 := 10) rfl (by simp only [tput, tget_set, tget_leaf, Nat.reduceEqDiff, reduceIte] <;> rfl) (by simp only [aopOf, evalT, tput, tget_set, tget_leaf, Nat.reduceEqDiff, reduceIte, aBin, opt1, e2, bi_gtr]; rfl) ?_  -- 4: binOp gtr Go.IntKind.i64#3 t11 4:i64 IF 2=false
  refine xw_val (by simp only [aopOf, evalT, tput, tget_set, tget_leaf, Nat.reduceEqDiff, reduceIte, aPick, aPick]; rfl) ?_  -- 5: t13 := pick t10 ? true : t12
  refine xw_val (by simp only [aopOf, evalT, tput, tget_set, tget_leaf, Nat.reduceEqDiff, reduceIte, aMove]; rfl) ?_  -- 6: t14 := move t13
  refine xg_val (d0 := 14) rfl (by simp only [tput, tget_set, tget_leaf, Nat.reduceEqDiff, reduceIte] <;> rfl) (by simp only [aopOf, evalT, tput, tget_set, tget_leaf, Nat.reduceEqDiff, reduceIte, aMove]; rfl) ?_  -- 7: move t0 IF 6=false
  refine xg_val (d0 := 14) rfl (by simp only [tput, tget_set, tget_leaf, Nat.reduceEqDiff, reduceIte] <;> rfl) (by simp only [aopOf, evalT, tput, tget_set, tget_leaf, Nat.reduceEqDiff, reduceIte, aConvert, opt2, c1]; rfl) ?_  -- 8: convert Go.IntKind.u32#32 -> Go.IntKind.u64#70 t15 IF 6=false
  refine xg_val (d0 := 14) rfl (by simp only [tput, tget_set, tget_leaf, Nat.reduceEqDiff, reduceIte] <;> rfl) (by simp only [aopOf, evalT, tput, tget_set, tget_leaf, Nat.reduceEqDiff, reduceIte, aMove]; rfl) ?_  -- 9: move t1 IF 6=false
  refine xg_val (d0 := 14) rfl (by simp only [tput, tget_set, tget_leaf, Nat.reduceEqDiff, reduceIte] <;> rfl) (by simp only [aopOf, evalT, tput, tget_set, tget_leaf, Nat.reduceEqDiff, reduceIte, aBin, opt1, w1, bi_mul]; rfl) ?_  -- 10: binOp mul Go.IntKind.i64#3 8:i64 t17 IF 6=false
  refine xg_val (d0 := 14) rfl (by simp only [tput, tget_set, tget_leaf, Nat.reduceEqDiff, reduceIte] <;> rfl) (by simp only [aopOf, evalT, tput, tget_set, tget_leaf, Nat.reduceEqDiff, reduceIte, aBin, opt1, s1]; rfl) ?_  -- 11: binOp shr Go.IntKind.u64#70 t16 t18 IF 6=false
  refine xg_val (d0 := 14) rfl (by simp only [tput, tget_set, tget_leaf, Nat.reduceEqDiff, reduceIte] <;> rfl) (by simp only [aopOf, evalT, tput, tget_set, tget_leaf, Nat.reduceEqDiff, reduceIte, aBin, opt1, e3, bi_gtr]; rfl) ?_  -- 12: binOp gtr Go.IntKind.u64#70 t19 0:u64 IF 6=false
  refine xw_val (by simp only [aopOf, evalT, tput, tget_set, tget_leaf, Nat.reduceEqDiff, reduceIte, aPick, aPick]; rfl) ?_  -- 13: t21 := pick t14 ? true : t20
  refine xw_nil ?_
  repeat first | with_reducible refine xw_next ?_ | with_reducible refine xw_pass ?_ | with_reducible refine xw_passr ?_ | with_reducible refine xw_bnorm ?_ | with_reducible refine xw_bret ?_ | with_reducible refine xw_hit ?_ | with_reducible refine xw_past rfl ?_
  refine xe_wp (xw_else (by simp [tput, tget_set]) (xw_skip ?_))
  refine xw_next ?_
  exact xe_retvs [4, 5] [str (oct4 m), .int .i64 0] 100 (by kernel_rfl) (end_vs (by kernel_rfl) fun _ => rfl)
noncomputable def octVal : List Value → Option Value
  | [.int .u32 (.ofNat m), .int .i64 (.ofNat 4)] => bsel (Nat.blt m 4294967296) (some (.tuple #[str (oct4 m), .int .i64 0])) none
  | _ => none
noncomputable def orcOct : Inv := famOrc tabless 19 octVal
theorem orcOct_sound : InvS Tryz.prog orcOct := famOrc_sound fun a v h => by
  unfold octVal at h
  split at h
  · obtain ⟨h1, h2⟩ := bsel_some h
    obtain ⟨v', h', pn', ⟨⟨n, hn⟩, _⟩, rfl⟩ := octet_cl (Nat.le_of_ble_eq_true h1)
    cases h2
    exact closedOrc_sound (evO_sound mix fok noOrc_sound n).2 tabless_sz rfl (by rfl) (by rfl) hn
  · cases h
theorem octVal_of {m : Nat} (hm : m < 4294967296) : octVal [.int .u32 (.ofNat m), .int .i64 (.ofNat 4)] = some (.tuple #[str (oct4 m), .int .i64 0]) := by
  have : Nat.blt m 4294967296 = true := Nat.ble_eq_true_of_le hm
  simp only [octVal, this, bsel_true]
theorem octet_hit {m : Nat} {h : Hp} (hm : m < 4294967296) (hn : 4 ≤ h.nx) : orcOct none false (.fn (.func 19) #[]) #[.int .u32 (.ofNat m), .int .i64 (.ofNat 4)] h = some (.ret (.tuple #[str (oct4 m), .int .i64 0]), h, none) :=
  famOrc_hit (octVal_of hm) hn rfl (by simp [veqs, veq])
end Go.Proofs.YtjncolnikkbjeaaGreatDoor
