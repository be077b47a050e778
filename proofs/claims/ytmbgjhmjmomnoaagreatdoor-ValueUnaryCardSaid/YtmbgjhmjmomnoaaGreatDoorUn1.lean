/-
  Texts of this claim, joined in build order (Va, Vb, Open).
-/
import Derived.Test.YtmbgjhmjmomnoaaGreatDoorChecked
import Derived.WalkKit
import Derived.WalkLawsBesides
import Derived.WalkSpells
import Derived.KernelRfl
import Derived.Deep.QuietTactic
import Derived.BigQuiet
import Derived.Lib.Hide
import Derived.Deep.RegionWith
/-
  The calls of package value that only rearrange a value: val, answer: what each returns; it makes memory at most.
-/
namespace Go.Proofs.YtmbgjhmjmomnoaaGreatDoor.Va
open Go.RowKit

/-- An api.Val. -/
structure V where
  k : Int
  a : Int
  b : Int
  s : ByteArray
  deriving DecidableEq

def V.v (x : V) : Value := .agg #[.int .i64 x.k, .int .i64 x.a, .int .i64 x.b, .string x.s]
def V.null : V := ⟨0, 0, 0, ByteArray.empty⟩

/-- '==' of two api.Vals, closed to simp. -/
def V.eqB (x y : V) : Bool := decide (x = y)
theorem V.eqB_self (x : V) : V.eqB x x = true := by simp [V.eqB]
theorem V.eqB_ne {x y : V} (h : x ≠ y) : V.eqB x y = false := by simp [V.eqB, h]

theorem bytes_eq (s s' : ByteArray) : (s = s') = (s.toList = s'.toList) := by
  rw [ByteArray.toList_eq, ByteArray.toList_eq]
  obtain ⟨⟨x⟩⟩ := s
  obtain ⟨⟨y⟩⟩ := s'
  simp

/-- '==' of two api.Vals. -/
theorem eql_val (k a b : Int) (s : ByteArray) (k' a' b' : Int) (s' : ByteArray) (W : World) :
    (binOp .eql 31 (.agg #[.int .i64 k, .int .i64 a, .int .i64 b, .string s]) (.agg #[.int .i64 k', .int .i64 a', .int .i64 b', .string s'])).run Tryz.prog W = .ok (.bool (V.eqB (V.mk k a b s) (V.mk k' a' b' s'))) W := by
  have e := bytes_eq s s'
  go_simp
  by_cases h1 : k = k' <;> by_cases h2 : a = a' <;> by_cases h3 : b = b' <;> by_cases h4 : s.toList = s'.toList <;> simp [h1, h2, h3, h4, e, V.eqB]
theorem neq_val (k a b : Int) (s : ByteArray) (k' a' b' : Int) (s' : ByteArray) (W : World) :
    (binOp .neq 31 (.agg #[.int .i64 k, .int .i64 a, .int .i64 b, .string s]) (.agg #[.int .i64 k', .int .i64 a', .int .i64 b', .string s'])).run Tryz.prog W = .ok (.bool (!V.eqB (V.mk k a b s) (V.mk k' a' b' s'))) W := by
  have e := bytes_eq s s'
  go_simp
  by_cases h1 : k = k' <;> by_cases h2 : a = a' <;> by_cases h3 : b = b' <;> by_cases h4 : s.toList = s'.toList <;> simp [h1, h2, h3, h4, e, V.eqB]

/-- A value as package value works with it: one of seven kinds. -/
inductive Dat where
  | nul | tru (b : Bool) | whl (n : Int) | pln (a b : Int) | wrd (s : ByteArray) | nod (n : Int) | edg (n : Int)

/-- The interface value: its type. -/
def Dat.t : Dat → TypeId
  | .nul => 75 | .tru _ => 67 | .whl _ => 105 | .pln _ _ => 108 | .wrd _ => 109 | .nod _ => 110 | .edg _ => 111
/-- What it holds. -/
def Dat.x : Dat → Value
  | .nul => .agg #[]
  | .tru b => .bool b
  | .whl n => .int .i64 n
  | .pln a b => .agg #[.int .i64 a, .int .i64 b]
  | .wrd s => .string s
  | .nod n => .int .i64 n
  | .edg n => .int .i64 n
def Dat.v (d : Dat) : Value := .iface d.t d.x

/-- What it is as an api.Val. -/
def Dat.val : Dat → V
  | .nul => ⟨0, 0, 0, ByteArray.empty⟩
  | .tru b => ⟨1, if b then 1 else 0, 0, ByteArray.empty⟩
  | .whl n => ⟨2, n, 0, ByteArray.empty⟩
  | .pln a b => ⟨3, a, b, ByteArray.empty⟩
  | .wrd s => ⟨4, 0, 0, s⟩
  | .nod n => ⟨5, n, 0, ByteArray.empty⟩
  | .edg n => ⟨6, n, 0, ByteArray.empty⟩

/-- The number of the method val of its type. -/
def Dat.fval : Dat → FuncId
  | .nul => 229 | .tru _ => 51 | .whl _ => 109 | .pln _ _ => 123 | .wrd _ => 162 | .nod _ => 253 | .edg _ => 258

theorem val_nul (w : World) : Calls Tryz.prog 229 #[.agg #[]] w fun e w' => e = .returned (Dat.val .nul).v ∧ Below w.heap.size w w' := by
  go_enter Tryz.func229, Tryz.ntmps229
  go_wp2
  exact bodyPost_ret (v := (Dat.val .nul).v) (by simp [results, Tryz.results229, go_sem]; try rfl) rfl ⟨rfl, (by repeat (first | exact Below.refl _ _ | assumption | refine Below.alloc ?_ (by simp; try omega) _ | refine Below.drew ?_ | refine Below.setCell ?_ (by simp; try omega) _))⟩

theorem val_tru (b : Bool) (w : World) : Calls Tryz.prog 51 #[.bool b] w fun e w' => e = .returned (Dat.val (.tru b)).v ∧ Below w.heap.size w w' := by
  cases b
  all_goals
    go_enter Tryz.func51, Tryz.ntmps51
    go_wp2
  · exact bodyPost_ret (v := (Dat.val (.tru false)).v) (by simp [results, Tryz.results51, go_sem]; try rfl) rfl ⟨rfl, (by repeat (first | exact Below.refl _ _ | assumption | refine Below.alloc ?_ (by simp; try omega) _ | refine Below.drew ?_ | refine Below.setCell ?_ (by simp; try omega) _))⟩
  · exact bodyPost_ret (v := (Dat.val (.tru true)).v) (by simp [results, Tryz.results51, go_sem]; try rfl) rfl ⟨rfl, (by repeat (first | exact Below.refl _ _ | assumption | refine Below.alloc ?_ (by simp; try omega) _ | refine Below.drew ?_ | refine Below.setCell ?_ (by simp; try omega) _))⟩

theorem val_whl (n : Int) (w : World) : Calls Tryz.prog 109 #[.int .i64 n] w fun e w' => e = .returned (Dat.val (.whl n)).v ∧ Below w.heap.size w w' := by
  go_enter Tryz.func109, Tryz.ntmps109
  go_wp2
  exact bodyPost_ret (v := (Dat.val (.whl n)).v) (by simp [results, Tryz.results109, go_sem]; try rfl) rfl ⟨rfl, (by repeat (first | exact Below.refl _ _ | assumption | refine Below.alloc ?_ (by simp; try omega) _ | refine Below.drew ?_ | refine Below.setCell ?_ (by simp; try omega) _))⟩

theorem val_pln (a b : Int) (w : World) : Calls Tryz.prog 123 #[.agg #[.int .i64 a, .int .i64 b]] w fun e w' => e = .returned (Dat.val (.pln a b)).v ∧ Below w.heap.size w w' := by
  go_enter Tryz.func123, Tryz.ntmps123
  go_wp2
  exact bodyPost_ret (v := (Dat.val (.pln a b)).v) (by simp [results, Tryz.results123, go_sem]; try rfl) rfl ⟨rfl, (by repeat (first | exact Below.refl _ _ | assumption | refine Below.alloc ?_ (by simp; try omega) _ | refine Below.drew ?_ | refine Below.setCell ?_ (by simp; try omega) _))⟩

theorem val_wrd (s : ByteArray) (w : World) : Calls Tryz.prog 162 #[.string s] w fun e w' => e = .returned (Dat.val (.wrd s)).v ∧ Below w.heap.size w w' := by
  go_enter Tryz.func162, Tryz.ntmps162
  go_wp2
  exact bodyPost_ret (v := (Dat.val (.wrd s)).v) (by simp [results, Tryz.results162, go_sem]; try rfl) rfl ⟨rfl, (by repeat (first | exact Below.refl _ _ | assumption | refine Below.alloc ?_ (by simp; try omega) _ | refine Below.drew ?_ | refine Below.setCell ?_ (by simp; try omega) _))⟩

theorem val_nod (n : Int) (w : World) : Calls Tryz.prog 253 #[.int .i64 n] w fun e w' => e = .returned (Dat.val (.nod n)).v ∧ Below w.heap.size w w' := by
  go_enter Tryz.func253, Tryz.ntmps253
  go_wp2
  exact bodyPost_ret (v := (Dat.val (.nod n)).v) (by simp [results, Tryz.results253, go_sem]; try rfl) rfl ⟨rfl, (by repeat (first | exact Below.refl _ _ | assumption | refine Below.alloc ?_ (by simp; try omega) _ | refine Below.drew ?_ | refine Below.setCell ?_ (by simp; try omega) _))⟩

theorem val_edg (n : Int) (w : World) : Calls Tryz.prog 258 #[.int .i64 n] w fun e w' => e = .returned (Dat.val (.edg n)).v ∧ Below w.heap.size w w' := by
  go_enter Tryz.func258, Tryz.ntmps258
  go_wp2
  exact bodyPost_ret (v := (Dat.val (.edg n)).v) (by simp [results, Tryz.results258, go_sem]; try rfl) rfl ⟨rfl, (by repeat (first | exact Below.refl _ _ | assumption | refine Below.alloc ?_ (by simp; try omega) _ | refine Below.drew ?_ | refine Below.setCell ?_ (by simp; try omega) _))⟩

theorem val_any (d : Dat) (w : World) : Calls Tryz.prog d.fval #[d.x] w fun e w' => e = .returned d.val.v ∧ Below w.heap.size w w' := by
  cases d with
  | nul => exact val_nul w
  | tru b => exact val_tru b w
  | whl n => exact val_whl n w
  | pln a b => exact val_pln a b w
  | wrd s => exact val_wrd s w
  | nod n => exact val_nod n w
  | edg n => exact val_edg n w

theorem meth_val (d : Dat) (k : Nat) (W : World) : (method (k + 1) d.t d.x "trellis/value.val").run Tryz.prog W = .ok (d.fval, d.x) W := by
  cases d <;> kernel_rfl

theorem callFunc_val (d : Dat) (W : World) : (callFunc d.fval #[d.x]).run Tryz.prog W = .ok (.enter d.fval #[d.x]) W := by
  cases d <;> kernel_rfl

/-- Behind a contract: every old cell, every old mark. -/
theorem bcell {W w1 : World} {B : Nat} (hb : Below B W w1) : (∀ b o, b < B → w1.cell? ⟨b, o, none⟩ = W.cell? ⟨b, o, none⟩) ∧ (∀ b o, b < B → w1.frozen? ⟨b, o, none⟩ = W.frozen? ⟨b, o, none⟩) :=
  ⟨fun b o h => hb.cell (p := ⟨b, o, none⟩) h, fun b o h => hb.frozen (p := ⟨b, o, none⟩) h⟩

set_option maxRecDepth 100000 in
theorem answer_ok (d : Dat) (w : World) : Calls Tryz.prog 43 #[d.v, .int .i64 0] w fun e w' => e = .returned (.tuple #[d.val.v, .int .i64 0]) ∧ Below w.heap.size w w' := by
  have hm := meth_val d
  have hc := callFunc_val d
  have hv := val_any d
  unfold Dat.v
  generalize d.t = tt at *
  generalize d.x = xx at *
  generalize d.fval = ff at *
  have Hv := Lib.hid hv
  clear hv
  go_enter Tryz.func43, Tryz.ntmps43
  go_wp2_with fail
  refine (Hv.out _).mono ?_
  rintro e w1 ⟨rfl, hb⟩
  obtain ⟨h1, h2⟩ := bcell hb
  have hz : w.heap.size + 1 ≤ w1.heap.size := by have := hb.size; simpa using this
  generalize hu : d.val = u
  have HU := Lib.hid hu
  clear hu
  obtain ⟨k, a, b, s⟩ := u
  unfold V.v
  go_wp2
  have hb' : Below w.heap.size w w1 := ((Below.refl _ w).alloc (Nat.le_refl _) _).trans (hb.mono (by simp))
  refine bodyPost_ret (v := .tuple #[(V.mk k a b s).v, .int .i64 0]) (by simp [results, Tryz.results43, go_sem, h1]; try rfl) rfl ⟨by rw [HU.out], ?_⟩
  exact (by repeat (first | exact Below.refl _ _ | assumption | refine Below.alloc ?_ (by simp; try omega) _ | refine Below.drew ?_ | refine Below.setCell ?_ (by simp; try omega) _))
end Go.Proofs.YtmbgjhmjmomnoaaGreatDoor.Va

/-
  The calls of package value on three-valued logic: three, logic, truth.unary, nothing.unary.
-/
namespace Go.Proofs.YtmbgjhmjmomnoaaGreatDoor.Va
open Go.RowKit

/-- What a type switch or an assertion tells of a value. -/
def Dat.asNul : Dat → Value
  | .nul => .tuple #[.agg #[], .bool true]
  | _ => .tuple #[.agg #[], .bool false]
def Dat.asTru : Dat → Value
  | .tru b => .tuple #[.bool b, .bool true]
  | _ => .tuple #[.bool false, .bool false]
def Dat.asWhl : Dat → Value
  | .whl n => .tuple #[.int .i64 n, .bool true]
  | _ => .tuple #[.int .i64 0, .bool false]
def Dat.asPln : Dat → Value
  | .pln a b => .tuple #[.agg #[.int .i64 a, .int .i64 b], .bool true]
  | _ => .tuple #[.agg #[.int .i64 0, .int .i64 0], .bool false]
def Dat.asWrd : Dat → Value
  | .wrd s => .tuple #[.string s, .bool true]
  | _ => .tuple #[.string ⟨#[]⟩, .bool false]
theorem as_nul (d : Dat) (W : World) : (Instr.typeAssert (.iface d.t d.x) 49 75 true).run Tryz.prog W = .ok d.asNul W := by cases d <;> kernel_rfl
theorem as_tru (d : Dat) (W : World) : (Instr.typeAssert (.iface d.t d.x) 49 67 true).run Tryz.prog W = .ok d.asTru W := by cases d <;> kernel_rfl
theorem as_whl (d : Dat) (W : World) : (Instr.typeAssert (.iface d.t d.x) 49 105 true).run Tryz.prog W = .ok d.asWhl W := by cases d <;> kernel_rfl
theorem as_pln (d : Dat) (W : World) : (Instr.typeAssert (.iface d.t d.x) 49 108 true).run Tryz.prog W = .ok d.asPln W := by cases d <;> kernel_rfl
theorem as_wrd (d : Dat) (W : World) : (Instr.typeAssert (.iface d.t d.x) 49 109 true).run Tryz.prog W = .ok d.asWrd W := by cases d <;> kernel_rfl

theorem ret2 {a b c d : Value} (h1 : a = c) (h2 : b = d) : Ending.returned (.tuple #[a, b]) = .returned (.tuple #[c, d]) := by rw [h1, h2]

def Dat.three : Dat → Int × Bool
  | .nul => (0, true)
  | .tru b => (if b then 1 else -1, true)
  | _ => (0, false)

set_option maxRecDepth 100000 in
theorem three_any (d : Dat) (w : World) : Calls Tryz.prog 96 #[d.v] w fun e w' => e = .returned (.tuple #[.int .i64 d.three.1, .bool d.three.2]) ∧ Below w.heap.size w w' := by
  have f1 := as_nul d
  have f2 := as_tru d
  cases d with
  | tru b =>
    cases b
    all_goals
      simp only [Dat.t, Dat.x, Dat.asNul, Dat.asTru] at f1 f2
      unfold Dat.v Dat.t Dat.x
      go_enter Tryz.func96, Tryz.ntmps96
      go_wp2
      go_ret2
      exact ⟨rfl, (by repeat (first | exact Below.refl _ _ | assumption | refine Below.alloc ?_ (by simp; try omega) _ | refine Below.drew ?_ | refine Below.setCell ?_ (by simp; try omega) _))⟩
  | _ =>
    simp only [Dat.t, Dat.x, Dat.asNul, Dat.asTru] at f1 f2
    unfold Dat.v Dat.t Dat.x
    go_enter Tryz.func96, Tryz.ntmps96
    go_wp2
    go_ret2
    exact ⟨rfl, (by repeat (first | exact Below.refl _ _ | assumption | refine Below.alloc ?_ (by simp; try omega) _ | refine Below.drew ?_ | refine Below.setCell ?_ (by simp; try omega) _))⟩
end Go.Proofs.YtmbgjhmjmomnoaaGreatDoor.Va

/-
  value.open: what an api.Val stands for, and whether it is a value: by its kind (strings apart).
-/
namespace Go.Proofs.YtmbgjhmjmomnoaaGreatDoor.Va
open Go.RowKit

theorem inPart_any (n : Int) (w : World) : Calls Tryz.prog 87 #[.int .i64 n] w fun e w' => e = .returned (.bool (decide (-33554432 ≤ n ∧ n ≤ 33554432))) ∧ w = w' := by
  by_cases h1 : -33554432 ≤ n
  · by_cases h2 : n ≤ 33554432
    · go_enter Tryz.func87, Tryz.ntmps87
      go_wp2
      go_ret
      exact ⟨by rw [decide_eq_true ⟨h1, h2⟩]; rfl, rfl⟩
    · go_enter Tryz.func87, Tryz.ntmps87
      go_wp2
      go_ret
      exact ⟨by rw [decide_eq_false (by omega)]; rfl, rfl⟩
  · go_enter Tryz.func87, Tryz.ntmps87
    go_wp2
    go_ret
    exact ⟨by rw [decide_eq_false (by omega)]; rfl, rfl⟩
theorem inPart_yes (n : Int) (w : World) (h : -33554432 ≤ n ∧ n ≤ 33554432) : Calls Tryz.prog 87 #[.int .i64 n] w fun e w' => e = .returned (.bool true) ∧ w = w' :=
  (inPart_any n w).mono fun _ _ h' => by rw [decide_eq_true h] at h'; exact h'
theorem inPart_no (n : Int) (w : World) (h : ¬ (-33554432 ≤ n ∧ n ≤ 33554432)) : Calls Tryz.prog 87 #[.int .i64 n] w fun e w' => e = .returned (.bool false) ∧ w = w' :=
  (inPart_any n w).mono fun _ _ h' => by rw [decide_eq_false h] at h'; exact h'

set_option maxRecDepth 100000 in
theorem open_nul (a b : Int) (s : ByteArray) (w : World) : Calls Tryz.prog 33 #[.agg #[.int .i64 0, .int .i64 a, .int .i64 b, .string s]] w fun e w' => e = .returned (.tuple #[Dat.v (.nul), .bool (V.eqB (V.mk 0 0 0 ByteArray.empty) (V.mk 0 a b s))]) ∧ Below w.heap.size w w' := by
  have hm := meth_val (.nul)
  have hc := callFunc_val (.nul)
  have hv := val_any (.nul)
  have he := eql_val
  simp only [Dat.t, Dat.x, Dat.fval, Dat.val, V.v] at hm hc hv
  have Hv := Lib.hid hv
  clear hv
  unfold Dat.v Dat.t Dat.x
  go_enter Tryz.func33, Tryz.ntmps33
  go_wp2_with fail
  go_region_with (first | (go_at_call 229; refine (Hv.out _).mono ?_; rintro e w1 ⟨rfl, hb⟩; obtain ⟨h1, h2⟩ := bcell hb; have hz : w.heap.size + 1 ≤ w1.heap.size := by have := hb.size; simpa using this))
  all_goals
    go_wp2
    go_ret2
    refine ⟨rfl, ?_⟩
    have hb' : Below w.heap.size w w1 := (((Below.refl _ w).alloc (Nat.le_refl _) _).drew).trans (hb.mono (by simp))
    exact (by repeat (first | exact Below.refl _ _ | assumption | refine Below.alloc ?_ (by simp; try omega) _ | refine Below.drew ?_ | refine Below.setCell ?_ (by simp; try omega) _))

set_option maxRecDepth 100000 in
theorem open_tru1 (a b : Int) (s : ByteArray) (w : World) (h : a = 1) : Calls Tryz.prog 33 #[.agg #[.int .i64 1, .int .i64 a, .int .i64 b, .string s]] w fun e w' => e = .returned (.tuple #[Dat.v (.tru true), .bool (V.eqB (V.mk 1 1 0 ByteArray.empty) (V.mk 1 a b s))]) ∧ Below w.heap.size w w' := by
  subst h
  have hm := meth_val (.tru true)
  have hc := callFunc_val (.tru true)
  have hv := val_any (.tru true)
  have he := eql_val
  simp only [Dat.t, Dat.x, Dat.fval, Dat.val, V.v, if_true] at hm hc hv
  have Hv := Lib.hid hv
  clear hv
  unfold Dat.v Dat.t Dat.x
  go_enter Tryz.func33, Tryz.ntmps33
  go_wp2_with fail
  go_region_with (first | (go_at_call 51; refine (Hv.out _).mono ?_; rintro e w1 ⟨rfl, hb⟩; obtain ⟨h1, h2⟩ := bcell hb; have hz : w.heap.size + 1 ≤ w1.heap.size := by have := hb.size; simpa using this))
  all_goals
    go_wp2
    go_ret2
    refine ⟨rfl, ?_⟩
    have hb' : Below w.heap.size w w1 := (((Below.refl _ w).alloc (Nat.le_refl _) _).drew).trans (hb.mono (by simp))
    exact (by repeat (first | exact Below.refl _ _ | assumption | refine Below.alloc ?_ (by simp; try omega) _ | refine Below.drew ?_ | refine Below.setCell ?_ (by simp; try omega) _))

set_option maxRecDepth 100000 in
theorem open_tru0 (a b : Int) (s : ByteArray) (w : World) (h : (a == 1) = false) : Calls Tryz.prog 33 #[.agg #[.int .i64 1, .int .i64 a, .int .i64 b, .string s]] w fun e w' => e = .returned (.tuple #[Dat.v (.tru false), .bool (V.eqB (V.mk 1 0 0 ByteArray.empty) (V.mk 1 a b s))]) ∧ Below w.heap.size w w' := by
  have hm := meth_val (.tru false)
  have hc := callFunc_val (.tru false)
  have hv := val_any (.tru false)
  have he := eql_val
  simp only [Dat.t, Dat.x, Dat.fval, Dat.val, V.v, Bool.false_eq_true, if_false] at hm hc hv
  have Hv := Lib.hid hv
  clear hv
  unfold Dat.v Dat.t Dat.x
  go_enter Tryz.func33, Tryz.ntmps33
  go_wp2_with fail
  go_region_with (first | (go_at_call 51; refine (Hv.out _).mono ?_; rintro e w1 ⟨rfl, hb⟩; obtain ⟨h1, h2⟩ := bcell hb; have hz : w.heap.size + 1 ≤ w1.heap.size := by have := hb.size; simpa using this))
  all_goals
    go_wp2
    go_ret2
    refine ⟨rfl, ?_⟩
    have hb' : Below w.heap.size w w1 := (((Below.refl _ w).alloc (Nat.le_refl _) _).drew).trans (hb.mono (by simp))
    exact (by repeat (first | exact Below.refl _ _ | assumption | refine Below.alloc ?_ (by simp; try omega) _ | refine Below.drew ?_ | refine Below.setCell ?_ (by simp; try omega) _))

set_option maxRecDepth 100000 in
theorem open_whl (a b : Int) (s : ByteArray) (w : World) : Calls Tryz.prog 33 #[.agg #[.int .i64 2, .int .i64 a, .int .i64 b, .string s]] w fun e w' => e = .returned (.tuple #[Dat.v (.whl a), .bool (V.eqB (V.mk 2 a 0 ByteArray.empty) (V.mk 2 a b s))]) ∧ Below w.heap.size w w' := by
  have hm := meth_val (.whl a)
  have hc := callFunc_val (.whl a)
  have hv := val_any (.whl a)
  have he := eql_val
  simp only [Dat.t, Dat.x, Dat.fval, Dat.val, V.v] at hm hc hv
  have Hv := Lib.hid hv
  clear hv
  unfold Dat.v Dat.t Dat.x
  go_enter Tryz.func33, Tryz.ntmps33
  go_wp2_with fail
  go_region_with (first | (go_at_call 109; refine (Hv.out _).mono ?_; rintro e w1 ⟨rfl, hb⟩; obtain ⟨h1, h2⟩ := bcell hb; have hz : w.heap.size + 1 ≤ w1.heap.size := by have := hb.size; simpa using this))
  all_goals
    go_wp2
    go_ret2
    refine ⟨rfl, ?_⟩
    have hb' : Below w.heap.size w w1 := (((Below.refl _ w).alloc (Nat.le_refl _) _).drew).trans (hb.mono (by simp))
    exact (by repeat (first | exact Below.refl _ _ | assumption | refine Below.alloc ?_ (by simp; try omega) _ | refine Below.drew ?_ | refine Below.setCell ?_ (by simp; try omega) _))

set_option maxRecDepth 100000 in
theorem open_pln (a b : Int) (s : ByteArray) (w : World) (ha : -33554432 ≤ a ∧ a ≤ 33554432) (hb : -33554432 ≤ b ∧ b ≤ 33554432) : Calls Tryz.prog 33 #[.agg #[.int .i64 3, .int .i64 a, .int .i64 b, .string s]] w fun e w' => e = .returned (.tuple #[Dat.v (.pln a b), .bool (V.eqB (V.mk 3 a b ByteArray.empty) (V.mk 3 a b s))]) ∧ Below w.heap.size w w' := by
  have hm := meth_val (.pln a b)
  have hc := callFunc_val (.pln a b)
  have hv := val_any (.pln a b)
  have he := eql_val
  simp only [Dat.t, Dat.x, Dat.fval, Dat.val, V.v] at hm hc hv
  have Hv := Lib.hid hv
  clear hv
  unfold Dat.v Dat.t Dat.x
  have Ha := Lib.hid ha
  have Hb := Lib.hid hb
  clear ha hb
  go_enter Tryz.func33, Tryz.ntmps33
  go_wp2_with (first | (go_at_call_of 87 a; refine (inPart_yes a _ Ha.out).mono ?_; rintro e w1 ⟨rfl, rfl⟩) | (go_at_call_of 87 b; refine (inPart_yes b _ Hb.out).mono ?_; rintro e w1 ⟨rfl, rfl⟩))
  go_region_with (first | (go_at_call 123; refine (Hv.out _).mono ?_; rintro e w1 ⟨rfl, hb⟩; obtain ⟨h1, h2⟩ := bcell hb; have hz : w.heap.size + 1 ≤ w1.heap.size := by have := hb.size; simpa using this))
  all_goals
    go_wp2
    go_ret2
    refine ⟨rfl, ?_⟩
    have hb' : Below w.heap.size w w1 := (((Below.refl _ w).alloc (Nat.le_refl _) _).drew).trans (hb.mono (by simp))
    exact (by repeat (first | exact Below.refl _ _ | assumption | refine Below.alloc ?_ (by simp; try omega) _ | refine Below.drew ?_ | refine Below.setCell ?_ (by simp; try omega) _))

set_option maxRecDepth 100000 in
theorem open_nod (a b : Int) (s : ByteArray) (w : World) (h : (a == 0) = false) : Calls Tryz.prog 33 #[.agg #[.int .i64 5, .int .i64 a, .int .i64 b, .string s]] w fun e w' => e = .returned (.tuple #[Dat.v (.nod a), .bool (V.eqB (V.mk 5 a 0 ByteArray.empty) (V.mk 5 a b s))]) ∧ Below w.heap.size w w' := by
  have hm := meth_val (.nod a)
  have hc := callFunc_val (.nod a)
  have hv := val_any (.nod a)
  have he := eql_val
  simp only [Dat.t, Dat.x, Dat.fval, Dat.val, V.v] at hm hc hv
  have Hv := Lib.hid hv
  clear hv
  unfold Dat.v Dat.t Dat.x
  go_enter Tryz.func33, Tryz.ntmps33
  go_wp2_with fail
  go_region_with (first | (go_at_call 253; refine (Hv.out _).mono ?_; rintro e w1 ⟨rfl, hb⟩; obtain ⟨h1, h2⟩ := bcell hb; have hz : w.heap.size + 1 ≤ w1.heap.size := by have := hb.size; simpa using this))
  all_goals
    go_wp2
    go_ret2
    refine ⟨rfl, ?_⟩
    have hb' : Below w.heap.size w w1 := (((Below.refl _ w).alloc (Nat.le_refl _) _).drew).trans (hb.mono (by simp))
    exact (by repeat (first | exact Below.refl _ _ | assumption | refine Below.alloc ?_ (by simp; try omega) _ | refine Below.drew ?_ | refine Below.setCell ?_ (by simp; try omega) _))

set_option maxRecDepth 100000 in
theorem open_edg (a b : Int) (s : ByteArray) (w : World) (h : (a == 0) = false) : Calls Tryz.prog 33 #[.agg #[.int .i64 6, .int .i64 a, .int .i64 b, .string s]] w fun e w' => e = .returned (.tuple #[Dat.v (.edg a), .bool (V.eqB (V.mk 6 a 0 ByteArray.empty) (V.mk 6 a b s))]) ∧ Below w.heap.size w w' := by
  have hm := meth_val (.edg a)
  have hc := callFunc_val (.edg a)
  have hv := val_any (.edg a)
  have he := eql_val
  simp only [Dat.t, Dat.x, Dat.fval, Dat.val, V.v] at hm hc hv
  have Hv := Lib.hid hv
  clear hv
  unfold Dat.v Dat.t Dat.x
  go_enter Tryz.func33, Tryz.ntmps33
  go_wp2_with fail
  go_region_with (first | (go_at_call 258; refine (Hv.out _).mono ?_; rintro e w1 ⟨rfl, hb⟩; obtain ⟨h1, h2⟩ := bcell hb; have hz : w.heap.size + 1 ≤ w1.heap.size := by have := hb.size; simpa using this))
  all_goals
    go_wp2
    go_ret2
    refine ⟨rfl, ?_⟩
    have hb' : Below w.heap.size w w1 := (((Below.refl _ w).alloc (Nat.le_refl _) _).drew).trans (hb.mono (by simp))
    exact (by repeat (first | exact Below.refl _ _ | assumption | refine Below.alloc ?_ (by simp; try omega) _ | refine Below.drew ?_ | refine Below.setCell ?_ (by simp; try omega) _))

set_option maxRecDepth 100000 in
theorem open_nod0 (a b : Int) (s : ByteArray) (w : World) (h : a = 0) : Calls Tryz.prog 33 #[.agg #[.int .i64 5, .int .i64 a, .int .i64 b, .string s]] w fun e w' => e = .returned (.tuple #[.nilIface, .bool false]) ∧ Below w.heap.size w w' := by
  subst h
  go_enter Tryz.func33, Tryz.ntmps33
  go_wp2_with fail
  all_goals
    go_ret2
    exact ⟨rfl, (by repeat (first | exact Below.refl _ _ | assumption | refine Below.alloc ?_ (by simp; try omega) _ | refine Below.drew ?_ | refine Below.setCell ?_ (by simp; try omega) _))⟩

set_option maxRecDepth 100000 in
theorem open_edg0 (a b : Int) (s : ByteArray) (w : World) (h : a = 0) : Calls Tryz.prog 33 #[.agg #[.int .i64 6, .int .i64 a, .int .i64 b, .string s]] w fun e w' => e = .returned (.tuple #[.nilIface, .bool false]) ∧ Below w.heap.size w w' := by
  subst h
  go_enter Tryz.func33, Tryz.ntmps33
  go_wp2_with fail
  all_goals
    go_ret2
    exact ⟨rfl, (by repeat (first | exact Below.refl _ _ | assumption | refine Below.alloc ?_ (by simp; try omega) _ | refine Below.drew ?_ | refine Below.setCell ?_ (by simp; try omega) _))⟩

set_option maxRecDepth 100000 in
theorem open_pln_a (a b : Int) (s : ByteArray) (w : World) (ha : ¬ (-33554432 ≤ a ∧ a ≤ 33554432)) : Calls Tryz.prog 33 #[.agg #[.int .i64 3, .int .i64 a, .int .i64 b, .string s]] w fun e w' => e = .returned (.tuple #[.nilIface, .bool false]) ∧ Below w.heap.size w w' := by
  have Ha := Lib.hid ha
  clear ha
  go_enter Tryz.func33, Tryz.ntmps33
  go_wp2_with (go_at_call 87; refine (inPart_no a _ Ha.out).mono ?_; rintro e w1 ⟨rfl, rfl⟩)
  all_goals
    go_ret2
    exact ⟨rfl, (by repeat (first | exact Below.refl _ _ | assumption | refine Below.alloc ?_ (by simp; try omega) _ | refine Below.drew ?_ | refine Below.setCell ?_ (by simp; try omega) _))⟩

set_option maxRecDepth 100000 in
theorem open_pln_b (a b : Int) (s : ByteArray) (w : World) (ha : -33554432 ≤ a ∧ a ≤ 33554432) (hb : ¬ (-33554432 ≤ b ∧ b ≤ 33554432)) : Calls Tryz.prog 33 #[.agg #[.int .i64 3, .int .i64 a, .int .i64 b, .string s]] w fun e w' => e = .returned (.tuple #[.nilIface, .bool false]) ∧ Below w.heap.size w w' := by
  have Ha := Lib.hid ha
  have Hb := Lib.hid hb
  clear ha hb
  go_enter Tryz.func33, Tryz.ntmps33
  go_wp2_with (first | (go_at_call_of 87 a; refine (inPart_yes a _ Ha.out).mono ?_; rintro e w1 ⟨rfl, rfl⟩) | (go_at_call_of 87 b; refine (inPart_no b _ Hb.out).mono ?_; rintro e w1 ⟨rfl, rfl⟩))
  all_goals
    go_ret2
    exact ⟨rfl, (by repeat (first | exact Below.refl _ _ | assumption | refine Below.alloc ?_ (by simp; try omega) _ | refine Below.drew ?_ | refine Below.setCell ?_ (by simp; try omega) _))⟩

set_option maxRecDepth 100000 in
theorem open_no (a b : Int) (s : ByteArray) (k : Int) (w : World) (h0 : (k == 0) = false) (h1 : (k == 1) = false) (h2 : (k == 2) = false) (h3 : (k == 3) = false) (h4 : (k == 4) = false) (h5 : (k == 5) = false) (h6 : (k == 6) = false) : Calls Tryz.prog 33 #[.agg #[.int .i64 k, .int .i64 a, .int .i64 b, .string s]] w fun e w' => e = .returned (.tuple #[.nilIface, .bool false]) ∧ Below w.heap.size w w' := by
  go_enter Tryz.func33, Tryz.ntmps33
  go_wp2_with fail
  all_goals
    go_ret2
    exact ⟨rfl, (by repeat (first | exact Below.refl _ _ | assumption | refine Below.alloc ?_ (by simp; try omega) _ | refine Below.drew ?_ | refine Below.setCell ?_ (by simp; try omega) _))⟩
end Go.Proofs.YtmbgjhmjmomnoaaGreatDoor.Va
