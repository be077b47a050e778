/-
  The calls of package value that only rearrange a value: val, answer: what each returns; it makes memory at most.
-/
import Derived.Test.YtmbgjhmjmomnoaaGreatDoorChecked
import Derived.WalkKit
import Derived.WalkLawsBesides
import Derived.WalkSpells
import Derived.KernelRfl
import Derived.Deep.QuietTactic
import Derived.BigQuiet
import Derived.Lib.Hide
import Derived.Deep.RegionWith
namespace Go.Proofs.YtmbgjhmjmomnoaaGreatDoor.Va
open Go.RowKit

/-- An api.Val. -/
structure V where
  k : Int
  a : Int
  b : Int
  s : ByteArray
  deriving DecidableEq

def V.v (x : V) : Value := .agg #[.int .i64 x.k, .int .i64 x.a, .int .i64 x.b, .string x.s]
def V.null : V := ⟨0, 0, 0, ByteArray.empty⟩

/-- '==' of two api.Vals, closed to simp. -/
def V.eqB (x y : V) : Bool := decide (x = y)
theorem V.eqB_self (x : V) : V.eqB x x = true := by simp [V.eqB]
theorem V.eqB_ne {x y : V} (h : x ≠ y) : V.eqB x y = false := by simp [V.eqB, h]

theorem bytes_eq (s s' : ByteArray) : (s = s') = (s.toList = s'.toList) := by
  rw [ByteArray.toList_eq, ByteArray.toList_eq]
  obtain ⟨⟨x⟩⟩ := s
  obtain ⟨⟨y⟩⟩ := s'
  simp

/-- '==' of two api.Vals. -/
theorem eql_val (k a b : Int) (s : ByteArray) (k' a' b' : Int) (s' : ByteArray) (W : World) :
    (binOp .eql 31 (.agg #[.int .i64 k, .int .i64 a, .int .i64 b, .string s]) (.agg #[.int .i64 k', .int .i64 a', .int .i64 b', .string s'])).run Tryz.prog W = .ok (.bool (V.eqB (V.mk k a b s) (V.mk k' a' b' s'))) W := by
  have e := bytes_eq s s'
  go_simp
  by_cases h1 : k = k' <;> by_cases h2 : a = a' <;> by_cases h3 : b = b' <;> by_cases h4 : s.toList = s'.toList <;> simp [h1, h2, h3, h4, e, V.eqB]
theorem neq_val (k a b : Int) (s : ByteArray) (k' a' b' : Int) (s' : ByteArray) (W : World) :
    (binOp .neq 31 (.agg #[.int .i64 k, .int .i64 a, .int .i64 b, .string s]) (.agg #[.int .i64 k', .int .i64 a', .int .i64 b', .string s'])).run Tryz.prog W = .ok (.bool (!V.eqB (V.mk k a b s) (V.mk k' a' b' s'))) W := by
  have e := bytes_eq s s'
  go_simp
  by_cases h1 : k = k' <;> by_cases h2 : a = a' <;> by_cases h3 : b = b' <;> by_cases h4 : s.toList = s'.toList <;> simp [h1, h2, h3, h4, e, V.eqB]

/-- A value as package value works with it: one of seven kinds. -/
inductive Dat where
  | nul | tru (b : Bool) | whl (n : Int) | pln (a b : Int) | wrd (s : ByteArray) | nod (n : Int) | edg (n : Int)

/-- The interface value: its type. -/
def Dat.t : Dat → TypeId
  | .nul => 75 | .tru _ => 67 | .whl _ => 105 | .pln _ _ => 108 | .wrd _ => 109 | .nod _ => 110 | .edg _ => 111
/-- What it holds. -/
def Dat.x : Dat → Value
  | .nul => .agg #[]
  | .tru b => .bool b
  | .whl n => .int .i64 n
  | .pln a b => .agg #[.int .i64 a, .int .i64 b]
  | .wrd s => .string s
  | .nod n => .int .i64 n
  | .edg n => .int .i64 n
def Dat.v (d : Dat) : Value := .iface d.t d.x

/-- What it is as an api.Val. -/
def Dat.val : Dat → V
  | .nul => ⟨0, 0, 0, ByteArray.empty⟩
  | .tru b => ⟨1, if b then 1 else 0, 0, ByteArray.empty⟩
  | .whl n => ⟨2, n, 0, ByteArray.empty⟩
  | .pln a b => ⟨3, a, b, ByteArray.empty⟩
  | .wrd s => ⟨4, 0, 0, s⟩
  | .nod n => ⟨5, n, 0, ByteArray.empty⟩
  | .edg n => ⟨6, n, 0, ByteArray.empty⟩

/-- The number of the method val of its type. -/
def Dat.fval : Dat → FuncId
  | .nul => 229 | .tru _ => 51 | .whl _ => 109 | .pln _ _ => 123 | .wrd _ => 162 | .nod _ => 253 | .edg _ => 258

theorem val_nul (w : World) : Calls Tryz.prog 229 #[.agg #[]] w fun e w' => e = .returned (Dat.val .nul).v ∧ Below w.heap.size w w' := by
  go_enter Tryz.func229, Tryz.ntmps229
  go_wp2
  exact bodyPost_ret (v := (Dat.val .nul).v) (by simp [results, Tryz.results229, go_sem]; try rfl) rfl ⟨rfl, (by repeat (first | exact Below.refl _ _ | assumption | refine Below.alloc ?_ (by simp; try omega) _ | refine Below.drew ?_ | refine Below.setCell ?_ (by simp; try omega) _))⟩

theorem val_tru (b : Bool) (w : World) : Calls Tryz.prog 51 #[.bool b] w fun e w' => e = .returned (Dat.val (.tru b)).v ∧ Below w.heap.size w w' := by
  cases b
  all_goals
    go_enter Tryz.func51, Tryz.ntmps51
    go_wp2
  · exact bodyPost_ret (v := (Dat.val (.tru false)).v) (by simp [results, Tryz.results51, go_sem]; try rfl) rfl ⟨rfl, (by repeat (first | exact Below.refl _ _ | assumption | refine Below.alloc ?_ (by simp; try omega) _ | refine Below.drew ?_ | refine Below.setCell ?_ (by simp; try omega) _))⟩
  · exact bodyPost_ret (v := (Dat.val (.tru true)).v) (by simp [results, Tryz.results51, go_sem]; try rfl) rfl ⟨rfl, (by repeat (first | exact Below.refl _ _ | assumption | refine Below.alloc ?_ (by simp; try omega) _ | refine Below.drew ?_ | refine Below.setCell ?_ (by simp; try omega) _))⟩

theorem val_whl (n : Int) (w : World) : Calls Tryz.prog 109 #[.int .i64 n] w fun e w' => e = .returned (Dat.val (.whl n)).v ∧ Below w.heap.size w w' := by
  go_enter Tryz.func109, Tryz.ntmps109
  go_wp2
  exact bodyPost_ret (v := (Dat.val (.whl n)).v) (by simp [results, Tryz.results109, go_sem]; try rfl) rfl ⟨rfl, (by repeat (first | exact Below.refl _ _ | assumption | refine Below.alloc ?_ (by simp; try omega) _ | refine Below.drew ?_ | refine Below.setCell ?_ (by simp; try omega) _))⟩

theorem val_pln (a b : Int) (w : World) : Calls Tryz.prog 123 #[.agg #[.int .i64 a, .int .i64 b]] w fun e w' => e = .returned (Dat.val (.pln a b)).v ∧ Below w.heap.size w w' := by
  go_enter Tryz.func123, Tryz.ntmps123
  go_wp2
  exact bodyPost_ret (v := (Dat.val (.pln a b)).v) (by simp [results, Tryz.results123, go_sem]; try rfl) rfl ⟨rfl, (by repeat (first | exact Below.refl _ _ | assumption | refine Below.alloc ?_ (by simp; try omega) _ | refine Below.drew ?_ | refine Below.setCell ?_ (by simp; try omega) _))⟩

theorem val_wrd (s : ByteArray) (w : World) : Calls Tryz.prog 162 #[.string s] w fun e w' => e = .returned (Dat.val (.wrd s)).v ∧ Below w.heap.size w w' := by
  go_enter Tryz.func162, Tryz.ntmps162
  go_wp2
  exact bodyPost_ret (v := (Dat.val (.wrd s)).v) (by simp [results, Tryz.results162, go_sem]; try rfl) rfl ⟨rfl, (by repeat (first | exact Below.refl _ _ | assumption | refine Below.alloc ?_ (by simp; try omega) _ | refine Below.drew ?_ | refine Below.setCell ?_ (by simp; try omega) _))⟩

theorem val_nod (n : Int) (w : World) : Calls Tryz.prog 253 #[.int .i64 n] w fun e w' => e = .returned (Dat.val (.nod n)).v ∧ Below w.heap.size w w' := by
  go_enter Tryz.func253, Tryz.ntmps253
  go_wp2
  exact bodyPost_ret (v := (Dat.val (.nod n)).v) (by simp [results, Tryz.results253, go_sem]; try rfl) rfl ⟨rfl, (by repeat (first | exact Below.refl _ _ | assumption | refine Below.alloc ?_ (by simp; try omega) _ | refine Below.drew ?_ | refine Below.setCell ?_ (by simp; try omega) _))⟩

theorem val_edg (n : Int) (w : World) : Calls Tryz.prog 258 #[.int .i64 n] w fun e w' => e = .returned (Dat.val (.edg n)).v ∧ Below w.heap.size w w' := by
  go_enter Tryz.func258, Tryz.ntmps258
  go_wp2
  exact bodyPost_ret (v := (Dat.val (.edg n)).v) (by simp [results, Tryz.results258, go_sem]; try rfl) rfl ⟨rfl, (by repeat (first | exact Below.refl _ _ | assumption | refine Below.alloc ?_ (by simp; try omega) _ | refine Below.drew ?_ | refine Below.setCell ?_ (by simp; try omega) _))⟩

theorem val_any (d : Dat) (w : World) : Calls Tryz.prog d.fval #[d.x] w fun e w' => e = .returned d.val.v ∧ Below w.heap.size w w' := by
  cases d with
  | nul => exact val_nul w
  | tru b => exact val_tru b w
  | whl n => exact val_whl n w
  | pln a b => exact val_pln a b w
  | wrd s => exact val_wrd s w
  | nod n => exact val_nod n w
  | edg n => exact val_edg n w

theorem meth_val (d : Dat) (k : Nat) (W : World) : (method (k + 1) d.t d.x "trellis/value.val").run Tryz.prog W = .ok (d.fval, d.x) W := by
  cases d <;> kernel_rfl

theorem callFunc_val (d : Dat) (W : World) : (callFunc d.fval #[d.x]).run Tryz.prog W = .ok (.enter d.fval #[d.x]) W := by
  cases d <;> kernel_rfl

/-- Behind a contract: every old cell, every old mark. -/
theorem bcell {W w1 : World} {B : Nat} (hb : Below B W w1) : (∀ b o, b < B → w1.cell? ⟨b, o, none⟩ = W.cell? ⟨b, o, none⟩) ∧ (∀ b o, b < B → w1.frozen? ⟨b, o, none⟩ = W.frozen? ⟨b, o, none⟩) :=
  ⟨fun b o h => hb.cell (p := ⟨b, o, none⟩) h, fun b o h => hb.frozen (p := ⟨b, o, none⟩) h⟩

set_option maxRecDepth 100000 in
theorem answer_ok (d : Dat) (w : World) : Calls Tryz.prog 43 #[d.v, .int .i64 0] w fun e w' => e = .returned (.tuple #[d.val.v, .int .i64 0]) ∧ Below w.heap.size w w' := by
  have hm := meth_val d
  have hc := callFunc_val d
  have hv := val_any d
  unfold Dat.v
  generalize d.t = tt at *
  generalize d.x = xx at *
  generalize d.fval = ff at *
  have Hv := Lib.hid hv
  clear hv
  go_enter Tryz.func43, Tryz.ntmps43
  go_wp2_with fail
  refine (Hv.out _).mono ?_
  rintro e w1 ⟨rfl, hb⟩
  obtain ⟨h1, h2⟩ := bcell hb
  have hz : w.heap.size + 1 ≤ w1.heap.size := by have := hb.size; simpa using this
  generalize hu : d.val = u
  have HU := Lib.hid hu
  clear hu
  obtain ⟨k, a, b, s⟩ := u
  unfold V.v
  go_wp2
  have hb' : Below w.heap.size w w1 := ((Below.refl _ w).alloc (Nat.le_refl _) _).trans (hb.mono (by simp))
  refine bodyPost_ret (v := .tuple #[(V.mk k a b s).v, .int .i64 0]) (by simp [results, Tryz.results43, go_sem, h1]; try rfl) rfl ⟨by rw [HU.out], ?_⟩
  exact (by repeat (first | exact Below.refl _ _ | assumption | refine Below.alloc ?_ (by simp; try omega) _ | refine Below.drew ?_ | refine Below.setCell ?_ (by simp; try omega) _))
end Go.Proofs.YtmbgjhmjmomnoaaGreatDoor.Va
