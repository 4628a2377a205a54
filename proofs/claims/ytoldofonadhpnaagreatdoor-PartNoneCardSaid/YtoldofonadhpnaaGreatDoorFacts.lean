/- The seat's facts: its program's looks, its tables, and two calls on plain data, found once and for all. Conditions: none. -/
import Derived.Test.YtoldofonadhpnaaGreatDoorChecked
import Derived.Test.YtoldofonadhpnaaGreatDoorRows
import Derived.Test.YtoldofonadhpnaaGreatDoorLaw
import Derived.Lay
import Derived.LaidMore
import Derived.LaidOnce
namespace Go.Proofs.YtoldofonadhpnaaGreatDoor
open Go Go.ChangeShapes Go.WideShapes Go.RowKit Pri

theorem own : ownKnob Tryz.prog.godebug = none := by kernel_rfl
theorem mix : Tryz.prog.follows .mixedOrders = true := by kernel_rfl
theorem laidOut : laidOutB Tryz.prog = true := by kernel_rfl
theorem mapsOk : mapsRowed Tryz.prog = true := by kernel_rfl
theorem slicesOk : ((List.range Tryz.prog.types.size).all fun t => match Tryz.prog.underlying t with | some (.slice e) => decide (0 < Tryz.prog.cellsOf e) | _ => true) = true := by kernel_rfl
theorem funcsOk : (Tryz.prog.funcs.toList.all fun f => okFunc Tryz.prog.globals.size f) = true := by kernel_rfl
theorem fok : FOK Tryz.prog := fok_of funcsOk
def tab0 : List Int := [0, 1, 56, 2, 57, 49, 28, 3, 61, 58, 42, 50, 38, 29, 17, 4, 62, 47, 59, 36, 45, 43, 51, 22, 53, 39, 33, 30, 24, 18, 12, 5, 63, 55, 48, 27, 60, 41, 37, 16, 46, 35, 44, 21, 52, 32, 23, 11, 54, 26, 40, 15, 34, 20, 31, 10, 25, 14, 19, 9, 13, 8, 7, 6]
def gl : List AObj := [.row (tab0.map (.int .u8 ·)) 364 .ro]
theorem glsz : gl.length = Tryz.prog.globals.size := by kernel_rfl
theorem glplain : plainRows gl = true := by kernel_rfl
def laidList : List (String × DataW Unit) := [("math/bits.deBruijn64tab", Rows.laid_math_bits_deBruijn64tab)]
theorem ini_ok {W : World} (h : laidMetH Tryz.prog laidList W) (hsh : W.ShapedOpen Tryz.prog) : IniOk Tryz.prog (glI gl) W := by
  rw [MakeChecks.laidMetH_plain _ _ _ (by kernel_rfl)] at h
  obtain ⟨ps, hl, _, _⟩ := h
  have t0 := table_obj (nm := "math/bits.deBruijn64tab") (k := .u8) (ns := tab0) (g := 0) (t := 364) (e := 5) (n := 64) (t' := 364) (zero := (List.replicate 64 (Value.int .u8 0)).toArray) hl (by unfold laidList; simp; first | rfl | exact .inl rfl | exact .inr rfl | exact .inr (.inl rfl) | exact .inr (.inr rfl)) (by kernel_rfl) (by kernel_rfl) (by kernel_rfl) (by kernel_rfl) (by kernel_rfl) (by kernel_rfl) hsh (by kernel_rfl) (of_decide_eq_true (by kernel_rfl)) (glI gl).rho
  have hx : ∀ x ∈ glI gl, x = (.row (tab0.map (.int .u8 ·)) 364 .ro, ⟨0, 0, 0, 0, true⟩) := by
    intro x hx
    have : x ∈ [(.row (tab0.map (.int .u8 ·)) 364 .ro, ⟨0, 0, 0, 0, true⟩)] := hx
    simpa using this
  have hg : Tryz.prog.globals.size = 1 := by kernel_rfl
  refine ⟨fun x h => ?_, fun x h => ?_, fun g hg' => ?_⟩
  · rcases hx x h with rfl <;> exact ⟨rfl, rfl⟩
  · rcases hx x h with rfl
    · exact t0
  · rw [hg] at hg'
    have : g = 0 := by omega
    rcases this with rfl <;> exact ⟨_, rfl, rfl, rfl⟩

def tabless : List AObj := [.dead]
theorem tabless_sz : tabless.length = Tryz.prog.globals.size := by kernel_rfl
noncomputable def orcGet : Inv := closedOrc tabless 180 [.int .u32 0] (.tuple #[.agg #[.bool false, .bool false, .bool false, .int .i64 0], .int .i64 0])
theorem orcGet_sound : InvS Tryz.prog orcGet :=
  closed_of mix fok noOrc_sound tabless_sz (by kernel_rfl) (by kernel_rfl) (by kernel_rfl) (n := 1000) (by kernel_rfl)
noncomputable def orcAwake : Inv := closedOrc gl 5 [] (.bool true)
end Go.Proofs.YtoldofonadhpnaaGreatDoor
