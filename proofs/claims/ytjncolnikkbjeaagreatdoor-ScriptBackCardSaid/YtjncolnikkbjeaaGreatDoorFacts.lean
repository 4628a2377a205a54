/- The seat's facts: its program's looks, its tables, and two calls on plain data, found once and for all. Conditions: none. -/
import Derived.Test.YtjncolnikkbjeaaGreatDoorChecked
import Derived.Test.YtjncolnikkbjeaaGreatDoorRows
import Derived.Test.YtjncolnikkbjeaaGreatDoorLaw
import Derived.Lay
import Derived.LaidMore
import Derived.LaidOnce
namespace Go.Proofs.YtjncolnikkbjeaaGreatDoor
open Go Go.ChangeShapes Go.WideShapes Go.RowKit Pri

theorem own : ownKnob Tryz.prog.godebug = none := by kernel_rfl
theorem mix : Tryz.prog.follows .mixedOrders = true := by kernel_rfl
theorem laidOut : laidOutB Tryz.prog = true := by kernel_rfl
theorem mapsOk : mapsRowed Tryz.prog = true := by kernel_rfl
theorem slicesOk : ((List.range Tryz.prog.types.size).all fun t => match Tryz.prog.underlying t with | some (.slice e) => decide (0 < Tryz.prog.cellsOf e) | _ => true) = true := by kernel_rfl
theorem funcsOk : (Tryz.prog.funcs.toList.all fun f => okFunc Tryz.prog.globals.size f) = true := by kernel_rfl
theorem fok : FOK Tryz.prog := fok_of funcsOk
def tab0 : List Int := [1, 10, 100, 1000, 10000, 100000, 1000000, 10000000, 100000000, 1000000000, 10000000000, 100000000000, 1000000000000, 10000000000000, 100000000000000, 1000000000000000, 10000000000000000, 100000000000000000, 1000000000000000000, 10000000000000000000]
def tab2 : List Int := [0, 1, 28, 2, 29, 14, 24, 3, 30, 22, 20, 15, 25, 17, 4, 8, 31, 27, 13, 23, 21, 19, 16, 7, 26, 12, 18, 6, 11, 5, 10, 9]
def tab3 : List Int := [0, 1, 56, 2, 57, 49, 28, 3, 61, 58, 42, 50, 38, 29, 17, 4, 62, 47, 59, 36, 45, 43, 51, 22, 53, 39, 33, 30, 24, 18, 12, 5, 63, 55, 48, 27, 60, 41, 37, 16, 46, 35, 44, 21, 52, 32, 23, 11, 54, 26, 40, 15, 34, 20, 31, 10, 25, 14, 19, 9, 13, 8, 7, 6]
def gl : List AObj := [.row (tab0.map (.int .u64 ·)) 173 .ro, .dead, .row (tab2.map (.int .u8 ·)) 257 .ro, .row (tab3.map (.int .u8 ·)) 258 .ro]
theorem glsz : gl.length = Tryz.prog.globals.size := by kernel_rfl
theorem glplain : plainRows gl = true := by kernel_rfl
def laidList : List (String × DataW Unit) := [("math/bits.deBruijn32tab", Rows.laid_math_bits_deBruijn32tab), ("math/bits.deBruijn64tab", Rows.laid_math_bits_deBruijn64tab), ("internal/strconv.uint64pow10", Rows.laid_internal_strconv_uint64pow10)]
theorem ini_ok {W : World} (h : laidMetH Tryz.prog laidList W) (hsh : W.ShapedOpen Tryz.prog) : IniOk Tryz.prog (glI gl) W := by
  rw [MakeChecks.laidMetH_plain _ _ _ (by kernel_rfl)] at h
  obtain ⟨ps, hl, _, _⟩ := h
  have t0 := table_obj (nm := "internal/strconv.uint64pow10") (k := .u64) (ns := tab0) (g := 0) (t := 173) (e := 70) (n := 20) (t' := 173) (zero := (List.replicate 20 (Value.int .u64 0)).toArray) hl (by unfold laidList; simp; first | rfl | exact .inl rfl | exact .inr rfl | exact .inr (.inl rfl) | exact .inr (.inr rfl)) (by kernel_rfl) (by kernel_rfl) (by kernel_rfl) (by kernel_rfl) (by kernel_rfl) (by kernel_rfl) hsh (by kernel_rfl) (of_decide_eq_true (by kernel_rfl)) (glI gl).rho
  obtain ⟨⟨z1, u1⟩, hz1⟩ := Option.isSome_iff_exists.mp (show (((begin Tryz.prog (fun _ _ => 0) default).world.heap[1]?).bind Obj.row?).isSome = true by kernel_rfl)
  have t1 := dead_obj hsh (g := 1) hz1 (of_decide_eq_true (by kernel_rfl)) (glI gl).rho
  have t2 := table_obj (nm := "math/bits.deBruijn32tab") (k := .u8) (ns := tab2) (g := 2) (t := 257) (e := 5) (n := 32) (t' := 257) (zero := (List.replicate 32 (Value.int .u8 0)).toArray) hl (by unfold laidList; simp; first | rfl | exact .inl rfl | exact .inr rfl | exact .inr (.inl rfl) | exact .inr (.inr rfl)) (by kernel_rfl) (by kernel_rfl) (by kernel_rfl) (by kernel_rfl) (by kernel_rfl) (by kernel_rfl) hsh (by kernel_rfl) (of_decide_eq_true (by kernel_rfl)) (glI gl).rho
  have t3 := table_obj (nm := "math/bits.deBruijn64tab") (k := .u8) (ns := tab3) (g := 3) (t := 258) (e := 5) (n := 64) (t' := 258) (zero := (List.replicate 64 (Value.int .u8 0)).toArray) hl (by unfold laidList; simp; first | rfl | exact .inl rfl | exact .inr rfl | exact .inr (.inl rfl) | exact .inr (.inr rfl)) (by kernel_rfl) (by kernel_rfl) (by kernel_rfl) (by kernel_rfl) (by kernel_rfl) (by kernel_rfl) hsh (by kernel_rfl) (of_decide_eq_true (by kernel_rfl)) (glI gl).rho
  have hx : ∀ x ∈ glI gl, x = (.row (tab0.map (.int .u64 ·)) 173 .ro, ⟨0, 0, 0, 0, true⟩) ∨ x = (.dead, ⟨1, 0, 0, 0, true⟩) ∨ x = (.row (tab2.map (.int .u8 ·)) 257 .ro, ⟨2, 0, 0, 0, true⟩) ∨ x = (.row (tab3.map (.int .u8 ·)) 258 .ro, ⟨3, 0, 0, 0, true⟩) := by
    intro x hx
    have : x ∈ [(.row (tab0.map (.int .u64 ·)) 173 .ro, ⟨0, 0, 0, 0, true⟩), (.dead, ⟨1, 0, 0, 0, true⟩), (.row (tab2.map (.int .u8 ·)) 257 .ro, ⟨2, 0, 0, 0, true⟩), (.row (tab3.map (.int .u8 ·)) 258 .ro, ⟨3, 0, 0, 0, true⟩)] := hx
    simpa using this
  have hg : Tryz.prog.globals.size = 4 := by kernel_rfl
  refine ⟨fun x h => ?_, fun x h => ?_, fun g hg' => ?_⟩
  · rcases hx x h with rfl | rfl | rfl | rfl <;> exact ⟨rfl, rfl⟩
  · rcases hx x h with rfl | rfl | rfl | rfl
    · exact t0
    · exact t1
    · exact t2
    · exact t3
  · rw [hg] at hg'
    have : g = 0 ∨ g = 1 ∨ g = 2 ∨ g = 3 := by omega
    rcases this with rfl | rfl | rfl | rfl <;> exact ⟨_, rfl, rfl, rfl⟩

def tabless : List AObj := [.dead, .dead, .dead, .dead]
theorem tabless_sz : tabless.length = Tryz.prog.globals.size := by kernel_rfl
noncomputable def orcGet : Inv := closedOrc tabless 296 [.int .u32 0] (.tuple #[.agg #[.bool false, .bool false, .bool false, .int .i64 0], .int .i64 0])
theorem orcGet_sound : InvS Tryz.prog orcGet :=
  closed_of mix fok noOrc_sound tabless_sz (by kernel_rfl) (by kernel_rfl) (by kernel_rfl) (n := 1000) (by kernel_rfl)
noncomputable def orcAwake : Inv := closedOrc gl 7 [] (.bool true)
end Go.Proofs.YtjncolnikkbjeaaGreatDoor
