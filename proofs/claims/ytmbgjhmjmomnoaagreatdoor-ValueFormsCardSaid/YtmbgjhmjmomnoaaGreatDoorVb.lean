/-
  The calls of package value on three-valued logic: three, logic, truth.unary, nothing.unary.
-/
import Derived.Test.YtmbgjhmjmomnoaaGreatDoorVa
namespace Go.Proofs.YtmbgjhmjmomnoaaGreatDoor.Va
open Go.RowKit

/-- What a type switch or an assertion tells of a value. -/
def Dat.asNul : Dat → Value
  | .nul => .tuple #[.agg #[], .bool true]
  | _ => .tuple #[.agg #[], .bool false]
def Dat.asTru : Dat → Value
  | .tru b => .tuple #[.bool b, .bool true]
  | _ => .tuple #[.bool false, .bool false]
def Dat.asWhl : Dat → Value
  | .whl n => .tuple #[.int .i64 n, .bool true]
  | _ => .tuple #[.int .i64 0, .bool false]
def Dat.asPln : Dat → Value
  | .pln a b => .tuple #[.agg #[.int .i64 a, .int .i64 b], .bool true]
  | _ => .tuple #[.agg #[.int .i64 0, .int .i64 0], .bool false]
def Dat.asWrd : Dat → Value
  | .wrd s => .tuple #[.string s, .bool true]
  | _ => .tuple #[.string ⟨#[]⟩, .bool false]
theorem as_nul (d : Dat) (W : World) : (Instr.typeAssert (.iface d.t d.x) 49 75 true).run Tryz.prog W = .ok d.asNul W := by cases d <;> kernel_rfl
theorem as_tru (d : Dat) (W : World) : (Instr.typeAssert (.iface d.t d.x) 49 67 true).run Tryz.prog W = .ok d.asTru W := by cases d <;> kernel_rfl
theorem as_whl (d : Dat) (W : World) : (Instr.typeAssert (.iface d.t d.x) 49 105 true).run Tryz.prog W = .ok d.asWhl W := by cases d <;> kernel_rfl
theorem as_pln (d : Dat) (W : World) : (Instr.typeAssert (.iface d.t d.x) 49 108 true).run Tryz.prog W = .ok d.asPln W := by cases d <;> kernel_rfl
theorem as_wrd (d : Dat) (W : World) : (Instr.typeAssert (.iface d.t d.x) 49 109 true).run Tryz.prog W = .ok d.asWrd W := by cases d <;> kernel_rfl

theorem ret2 {a b c d : Value} (h1 : a = c) (h2 : b = d) : Ending.returned (.tuple #[a, b]) = .returned (.tuple #[c, d]) := by rw [h1, h2]

def Dat.three : Dat → Int × Bool
  | .nul => (0, true)
  | .tru b => (if b then 1 else -1, true)
  | _ => (0, false)

set_option maxRecDepth 100000 in
theorem three_any (d : Dat) (w : World) : Calls Tryz.prog 96 #[d.v] w fun e w' => e = .returned (.tuple #[.int .i64 d.three.1, .bool d.three.2]) ∧ Below w.heap.size w w' := by
  have f1 := as_nul d
  have f2 := as_tru d
  cases d with
  | tru b =>
    cases b
    all_goals
      simp only [Dat.t, Dat.x, Dat.asNul, Dat.asTru] at f1 f2
      unfold Dat.v Dat.t Dat.x
      go_enter Tryz.func96, Tryz.ntmps96
      go_wp2
      go_ret2
      exact ⟨rfl, (by repeat (first | exact Below.refl _ _ | assumption | refine Below.alloc ?_ (by simp; try omega) _ | refine Below.drew ?_ | refine Below.setCell ?_ (by simp; try omega) _))⟩
  | _ =>
    simp only [Dat.t, Dat.x, Dat.asNul, Dat.asTru] at f1 f2
    unfold Dat.v Dat.t Dat.x
    go_enter Tryz.func96, Tryz.ntmps96
    go_wp2
    go_ret2
    exact ⟨rfl, (by repeat (first | exact Below.refl _ _ | assumption | refine Below.alloc ?_ (by simp; try omega) _ | refine Below.drew ?_ | refine Below.setCell ?_ (by simp; try omega) _))⟩
end Go.Proofs.YtmbgjhmjmomnoaaGreatDoor.Va
