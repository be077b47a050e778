/-
  value.logic and the operation not: what three-valued logic answers.
-/
import Derived.Test.YtdcbanfakcgokaaDoorOpen
namespace Go.Proofs.YtdcbanfakcgokaaDoor.Va
open Go.RowKit

/-- What and (12), or (13), xor (14) make of -1, 0, 1. -/
def logI (op a b : Int) : Int := if op = 12 then min a b else if op = 13 then max a b else -a * b
def logD (c : Int) : Dat := if c = 0 then .nul else .tru (decide (0 < c))

set_option maxRecDepth 100000 in
theorem logic_ok (op : Int) (x y : Dat) (hop : op = 12 ∨ op = 13 ∨ op = 14) (hx : x.three.2 = true) (hy : y.three.2 = true) (w : World) :
    Calls Tryd.prog 41 #[.int .i64 op, x.v, y.v] w fun e w' => e = .returned (.tuple #[(logD (logI op x.three.1 y.three.1)).v, .int .i64 0]) ∧ Below w.heap.size w w' := by
  have h3x := three_any x
  have h3y := three_any y
  rw [hx] at h3x
  rw [hy] at h3y
  have hxr : x.three.1 = -1 ∨ x.three.1 = 0 ∨ x.three.1 = 1 := by cases x <;> simp [Dat.three]; split <;> simp
  have hyr : y.three.1 = -1 ∨ y.three.1 = 0 ∨ y.three.1 = 1 := by cases y <;> simp [Dat.three]; split <;> simp
  generalize x.three.1 = a at *
  generalize y.three.1 = b at *
  clear hx hy
  unfold Dat.v at *
  generalize x.t = tx at *
  generalize x.x = xx at *
  generalize y.t = ty at *
  generalize y.x = yx at *
  have Hx := Lib.hid h3x
  have Hy := Lib.hid h3y
  clear h3x h3y
  rcases hop with rfl | rfl | rfl <;> rcases hxr with rfl | rfl | rfl <;> rcases hyr with rfl | rfl | rfl
  all_goals
    go_enter Tryd.func41, Tryd.ntmps41
    go_wp2_with fail
    refine (Hx.out _).mono ?_
    rintro e w1 ⟨rfl, hb1⟩
    go_wp2_with fail
    refine (Hy.out _).mono ?_
    rintro e w2 ⟨rfl, hb2⟩
    go_wp2
    go_ret2
    exact ⟨rfl, hb1.trans (hb2.mono hb1.size)⟩
end Go.Proofs.YtdcbanfakcgokaaDoor.Va
