/-
  value.Unary: what it answers, out of what value.open and the kind's own method answer.
-/
import Derived.Test.YtdcbanfakcgokaaDoorLog
namespace Go.Proofs.YtdcbanfakcgokaaDoor.Va
open Go.RowKit

set_option maxRecDepth 100000 in
theorem answer_err (xv : Value) (e : Int) (he : (e != 0) = true) (w : World) : Calls Tryd.prog 40 #[xv, .int .i64 e] w fun e' w' => e' = .returned (.tuple #[V.null.v, .int .i64 e]) ∧ Below w.heap.size w w' := by
  go_enter Tryd.func40, Tryd.ntmps40
  go_wp2
  refine bodyPost_ret (v := .tuple #[V.null.v, .int .i64 e]) (by simp [results, Tryd.results40, go_sem]; try rfl) rfl ⟨rfl, ?_⟩
  exact (by repeat (first | exact Below.refl _ _ | assumption | refine Below.alloc ?_ (by simp; try omega) _ | refine Below.drew ?_ | refine Below.setCell ?_ (by simp; try omega) _))

/-- The number of the method unary of its type. -/
def Dat.funary : Dat → FuncId
  | .nul => 117 | .tru _ => 122 | .whl _ => 126 | .pln _ _ => 132 | .wrd _ => 136 | .nod _ => 140 | .edg _ => 145
theorem meth_unary (d : Dat) (k : Nat) (W : World) : (method (k + 1) d.t d.x "trellis/value.unary").run Tryd.prog W = .ok (d.funary, d.x) W := by
  cases d <;> kernel_rfl
theorem callFunc_unary (d : Dat) (op : Int) (W : World) : (callFunc d.funary #[d.x, .int .i64 op]).run Tryd.prog W = .ok (.enter d.funary #[d.x, .int .i64 op]) W := by
  cases d <;> kernel_rfl

/-- What a call answers that makes memory at most. -/
def Ans (v : Value) (w : World) (e : Ending) (w' : World) : Prop := e = .returned v ∧ Below w.heap.size w w'
theorem Ans.mk {v : Value} {w : World} {e : Ending} {w' : World} (h1 : e = .returned v) (h2 : Below w.heap.size w w') : Ans v w e w' := ⟨h1, h2⟩

set_option maxRecDepth 100000 in
theorem Unary_of (op : Int) (x : V) (d : Dat) (rv : Value) (ee : Int) (o : V) (w : World) (h1 : (op < 1) = False) (h2 : (8 < op) = False)
    (hopen : ∀ w, Calls Tryd.prog 34 #[x.v] w (Ans (.tuple #[d.v, .bool true]) w))
    (hun : ∀ w, Calls Tryd.prog d.funary #[d.x, .int .i64 op] w (Ans (.tuple #[rv, .int .i64 ee]) w))
    (hans : ∀ w, Calls Tryd.prog 40 #[rv, .int .i64 ee] w (Ans (.tuple #[o.v, .int .i64 ee]) w)) :
    Calls Tryd.prog 39 #[.int .i64 op, x.v] w (Ans (.tuple #[o.v, .int .i64 ee]) w) := by
  have hm := meth_unary d
  have hc := callFunc_unary d op
  unfold Dat.v at *
  generalize d.t = tt at *
  generalize d.x = xx at *
  generalize d.funary = ff at *
  obtain ⟨k, a, b, s⟩ := x
  obtain ⟨ok, oa, ob, os⟩ := o
  unfold V.v at *
  have Ho := Lib.hid hopen
  have Hu := Lib.hid hun
  have Ha := Lib.hid hans
  clear hopen hun hans
  go_enter Tryd.func39, Tryd.ntmps39
  go_wp2_with fail
  refine (Ho.out _).mono ?_
  rintro e w1 ⟨rfl, hb1⟩
  obtain ⟨c1, f1⟩ := bcell hb1
  go_wp2_with fail
  refine (Hu.out _).mono ?_
  rintro e w2 ⟨rfl, hb2⟩
  have hb12 := hb1.trans (hb2.mono hb1.size)
  clear c1 f1
  obtain ⟨c2, f2⟩ := bcell hb12
  go_wp2_with fail
  refine (Ha.out _).mono ?_
  rintro e w3 ⟨rfl, hb3⟩
  have hb13 := hb12.trans (hb3.mono hb12.size)
  clear c2 f2
  obtain ⟨c3, f3⟩ := bcell hb13
  have z3 : w.heap.size + 2 ≤ w3.heap.size := by have := hb13.size; simpa using this
  go_wp2
  have hb' : Below w.heap.size w w3 := (((Below.refl _ w).alloc (Nat.le_refl _) _).alloc (by simp) _).trans (hb13.mono (by simp; try omega))
  refine bodyPost_ret (v := .tuple #[(V.mk ok oa ob os).v, .int .i64 ee]) (by simp [results, Tryd.results39, go_sem, c3]; try rfl) rfl ⟨rfl, ?_⟩
  exact (by repeat (first | exact Below.refl _ _ | assumption | refine Below.alloc ?_ (by simp; try omega) _ | refine Below.drew ?_ | refine Below.setCell ?_ (by simp; try omega) _))

/-! ### not, of three values -/
theorem unary_nul (op : Int) (w : World) : Calls Tryd.prog 117 #[.agg #[], .int .i64 op] w (Ans (.tuple #[Dat.v .nul, .int .i64 0]) w) := by
  go_enter Tryd.func117, Tryd.ntmps117
  go_wp2
  go_ret2
  exact ⟨rfl, (by repeat (first | exact Below.refl _ _ | assumption | refine Below.alloc ?_ (by simp; try omega) _ | refine Below.drew ?_ | refine Below.setCell ?_ (by simp; try omega) _))⟩
theorem unary_not (b : Bool) (w : World) : Calls Tryd.prog 122 #[.bool b, .int .i64 2] w (Ans (.tuple #[Dat.v (.tru !b), .int .i64 0]) w) := by
  go_enter Tryd.func122, Tryd.ntmps122
  go_wp2
  go_ret2
  exact ⟨rfl, (by repeat (first | exact Below.refl _ _ | assumption | refine Below.alloc ?_ (by simp; try omega) _ | refine Below.drew ?_ | refine Below.setCell ?_ (by simp; try omega) _))⟩
theorem unary_tru_no (b : Bool) (op : Int) (h : (op == 2) = false) (w : World) : Calls Tryd.prog 122 #[.bool b, .int .i64 op] w (Ans (.tuple #[.nilIface, .int .i64 10]) w) := by
  go_enter Tryd.func122, Tryd.ntmps122
  go_wp2
  go_ret2
  exact ⟨rfl, (by repeat (first | exact Below.refl _ _ | assumption | refine Below.alloc ?_ (by simp; try omega) _ | refine Below.drew ?_ | refine Below.setCell ?_ (by simp; try omega) _))⟩

theorem openA_nul (w : World) : Calls Tryd.prog 34 #[(Dat.val .nul).v] w (Ans (.tuple #[Dat.v .nul, .bool true]) w) := by
  have := open_nul 0 0 ByteArray.empty w
  rw [V.eqB_self] at this
  exact this
theorem openA_tru (b : Bool) (w : World) : Calls Tryd.prog 34 #[(Dat.val (.tru b)).v] w (Ans (.tuple #[Dat.v (.tru b), .bool true]) w) := by
  cases b
  · have := open_tru0 0 0 ByteArray.empty w rfl
    rw [V.eqB_self] at this
    exact this
  · have := open_tru1 1 0 ByteArray.empty w rfl
    rw [V.eqB_self] at this
    exact this
theorem openA_whl (n : Int) (w : World) : Calls Tryd.prog 34 #[(Dat.val (.whl n)).v] w (Ans (.tuple #[Dat.v (.whl n), .bool true]) w) := by
  have := open_whl n 0 ByteArray.empty w
  rw [V.eqB_self] at this
  exact this
theorem openA_pln (a b : Int) (ha : -33554432 ≤ a ∧ a ≤ 33554432) (hb : -33554432 ≤ b ∧ b ≤ 33554432) (w : World) : Calls Tryd.prog 34 #[(Dat.val (.pln a b)).v] w (Ans (.tuple #[Dat.v (.pln a b), .bool true]) w) := by
  have := open_pln a b ByteArray.empty w ha hb
  rw [V.eqB_self] at this
  exact this

theorem answerA (d : Dat) (w : World) : Calls Tryd.prog 40 #[d.v, .int .i64 0] w (Ans (.tuple #[d.val.v, .int .i64 0]) w) := answer_ok d w

/-- One of false, true, null. -/
def K3 (d : Dat) : Prop := d = .nul ∨ ∃ b, d = .tru b
def Dat.no : Dat → Dat
  | .tru b => .tru !b
  | d => d
theorem K3.no {d : Dat} (h : K3 d) : K3 d.no := by
  rcases h with rfl | ⟨b, rfl⟩
  · exact .inl rfl
  · exact .inr ⟨_, rfl⟩
theorem openA_K3 {d : Dat} (h : K3 d) (w : World) : Calls Tryd.prog 34 #[d.val.v] w (Ans (.tuple #[d.v, .bool true]) w) := by
  rcases h with rfl | ⟨b, rfl⟩
  · exact openA_nul w
  · exact openA_tru b w
theorem Unary_not {d : Dat} (h : K3 d) (w : World) : Calls Tryd.prog 39 #[.int .i64 2, d.val.v] w (Ans (.tuple #[d.no.val.v, .int .i64 0]) w) := by
  refine Unary_of 2 d.val d d.no.v 0 d.no.val w (by simp) (by simp) (openA_K3 h) (fun w => ?_) (answerA d.no)
  rcases h with rfl | ⟨b, rfl⟩
  · exact unary_nul 2 w
  · exact unary_not b w
end Go.Proofs.YtdcbanfakcgokaaDoor.Va
