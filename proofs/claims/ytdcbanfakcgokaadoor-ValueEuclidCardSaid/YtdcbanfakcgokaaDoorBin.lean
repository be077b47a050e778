/-
  value.Binary: its roads to logic and to arithmetic: what it answers, out of what the callees answer.
-/
import Derived.Test.YtdcbanfakcgokaaDoorUn
namespace Go.Proofs.YtdcbanfakcgokaaDoor.Va
open Go.RowKit

set_option maxRecDepth 100000 in
set_option maxHeartbeats 400000 in
theorem Binary_log_of (op : Int) (x y : V) (dx dy : Dat) (rv : Value) (ee : Int) (o : V) (w : World) (hop : op = 12 ∨ op = 13 ∨ op = 14)
    (hox : ∀ w, Calls Tryd.prog 34 #[x.v] w (Ans (.tuple #[dx.v, .bool true]) w))
    (hoy : ∀ w, Calls Tryd.prog 34 #[y.v] w (Ans (.tuple #[dy.v, .bool true]) w))
    (hlog : ∀ w, Calls Tryd.prog 41 #[.int .i64 op, dx.v, dy.v] w (Ans (.tuple #[rv, .int .i64 ee]) w))
    (hans : ∀ w, Calls Tryd.prog 40 #[rv, .int .i64 ee] w (Ans (.tuple #[o.v, .int .i64 ee]) w)) :
    Calls Tryd.prog 23 #[.int .i64 op, x.v, y.v] w (Ans (.tuple #[o.v, .int .i64 ee]) w) := by
  generalize dx.v = vx at *
  generalize dy.v = vy at *
  obtain ⟨k, a, b, s⟩ := x
  obtain ⟨k', a', b', s'⟩ := y
  obtain ⟨ok, oa, ob, os⟩ := o
  unfold V.v at *
  have Hx := Lib.hid hox
  have Hy := Lib.hid hoy
  have Hl := Lib.hid hlog
  have Ha := Lib.hid hans
  clear hox hoy hlog hans
  rcases hop with rfl | rfl | rfl
  all_goals
    go_enter Tryd.func23, Tryd.ntmps23
    go_wp2_with fail
    refine (Hx.out _).mono ?_
    rintro e w1 ⟨rfl, hb1⟩
    obtain ⟨c1, f1⟩ := bcell hb1
    go_wp2_with fail
    refine (Hy.out _).mono ?_
    rintro e w2 ⟨rfl, hb2⟩
    have hb12 := hb1.trans (hb2.mono hb1.size)
    clear c1 f1
    obtain ⟨c2, f2⟩ := bcell hb12
    go_wp2_with fail
    refine (Hl.out _).mono ?_
    rintro e w3 ⟨rfl, hb3⟩
    have hb13 := hb12.trans (hb3.mono hb12.size)
    clear c2 f2
    go_wp2_with fail
    refine (Ha.out _).mono ?_
    rintro e w4 ⟨rfl, hb4⟩
    have hb14 := hb13.trans (hb4.mono hb13.size)
    obtain ⟨c4, f4⟩ := bcell hb14
    have z4 : w.heap.size + 3 ≤ w4.heap.size := by have := hb14.size; simpa using this
    go_wp2
    have hb' : Below w.heap.size w w4 := ((((Below.refl _ w).alloc (Nat.le_refl _) _).alloc (by simp) _).alloc (by simp; try omega) _).trans (hb14.mono (by simp; try omega))
    refine bodyPost_ret (v := .tuple #[(V.mk ok oa ob os).v, .int .i64 ee]) (by simp [results, Tryd.results23, go_sem, c4]; try rfl) rfl ⟨rfl, ?_⟩
    exact (by repeat (first | exact Below.refl _ _ | assumption | refine Below.alloc ?_ (by simp; try omega) _ | refine Below.drew ?_ | refine Below.setCell ?_ (by simp; try omega) _))

set_option maxRecDepth 100000 in
set_option maxHeartbeats 400000 in
theorem Binary_arith_of (op : Int) (x y : V) (dx dy : Dat) (rv : Value) (ee : Int) (o : V) (w : World) (hlo : 1 ≤ op) (hhi : op ≤ 5)
    (hkx : (x.k == 0) = false) (hky : (y.k == 0) = false)
    (hox : ∀ w, Calls Tryd.prog 34 #[x.v] w (Ans (.tuple #[dx.v, .bool true]) w))
    (hoy : ∀ w, Calls Tryd.prog 34 #[y.v] w (Ans (.tuple #[dy.v, .bool true]) w))
    (hlog : ∀ w, Calls Tryd.prog 47 #[.int .i64 op, dx.v, dy.v] w (Ans (.tuple #[rv, .int .i64 ee]) w))
    (hans : ∀ w, Calls Tryd.prog 40 #[rv, .int .i64 ee] w (Ans (.tuple #[o.v, .int .i64 ee]) w)) :
    Calls Tryd.prog 23 #[.int .i64 op, x.v, y.v] w (Ans (.tuple #[o.v, .int .i64 ee]) w) := by
  generalize dx.v = vx at *
  generalize dy.v = vy at *
  obtain ⟨k, a, b, s⟩ := x
  obtain ⟨k', a', b', s'⟩ := y
  obtain ⟨ok, oa, ob, os⟩ := o
  unfold V.v at *
  simp only at hkx hky
  have e6 : (op == 6) = false := by simp; omega
  have e7 : (op == 7) = false := by simp; omega
  have e8 : (op == 8) = false := by simp; omega
  have e9 : (op == 9) = false := by simp; omega
  have e10 : (op == 10) = false := by simp; omega
  have e11 : (op == 11) = false := by simp; omega
  have e12 : (op == 12) = false := by simp; omega
  have e13 : (op == 13) = false := by simp; omega
  have e14 : (op == 14) = false := by simp; omega
  have e15 : (op == 15) = false := by simp; omega
  have e16 : (op == 16) = false := by simp; omega
  have e17 : (op == 17) = false := by simp; omega
  have e18 : (op == 18) = false := by simp; omega
  have l1 : decide (op < 1) = false := by simp; omega
  have l18 : decide (18 < op) = false := by simp; omega
  have Hx := Lib.hid hox
  have Hy := Lib.hid hoy
  have Hl := Lib.hid hlog
  have Ha := Lib.hid hans
  clear hox hoy hlog hans
  go_enter Tryd.func23, Tryd.ntmps23
  go_wp2_with fail
  refine (Hx.out _).mono ?_
  rintro e w1 ⟨rfl, hb1⟩
  obtain ⟨c1, f1⟩ := bcell hb1
  go_wp2_with fail
  refine (Hy.out _).mono ?_
  rintro e w2 ⟨rfl, hb2⟩
  have hb12 := hb1.trans (hb2.mono hb1.size)
  clear c1 f1
  obtain ⟨c2, f2⟩ := bcell hb12
  go_wp2_with fail
  refine (Hl.out _).mono ?_
  rintro e w3 ⟨rfl, hb3⟩
  have hb13 := hb12.trans (hb3.mono hb12.size)
  clear c2 f2
  go_wp2_with fail
  refine (Ha.out _).mono ?_
  rintro e w4 ⟨rfl, hb4⟩
  have hb14 := hb13.trans (hb4.mono hb13.size)
  obtain ⟨c4, f4⟩ := bcell hb14
  have z4 : w.heap.size + 3 ≤ w4.heap.size := by have := hb14.size; simpa using this
  go_wp2
  have hb' : Below w.heap.size w w4 := ((((Below.refl _ w).alloc (Nat.le_refl _) _).alloc (by simp) _).alloc (by simp; try omega) _).trans (hb14.mono (by simp; try omega))
  refine bodyPost_ret (v := .tuple #[(V.mk ok oa ob os).v, .int .i64 ee]) (by simp [results, Tryd.results23, go_sem, c4]; try rfl) rfl ⟨rfl, ?_⟩
  exact (by repeat (first | exact Below.refl _ _ | assumption | refine Below.alloc ?_ (by simp; try omega) _ | refine Below.drew ?_ | refine Below.setCell ?_ (by simp; try omega) _))

theorem Binary_K3 (op : Int) (hop : op = 12 ∨ op = 13 ∨ op = 14) {x y : Dat} (hx : K3 x) (hy : K3 y) (w : World) :
    Calls Tryd.prog 23 #[.int .i64 op, x.val.v, y.val.v] w (Ans (.tuple #[(logD (logI op x.three.1 y.three.1)).val.v, .int .i64 0]) w) := by
  have h3 : ∀ {d : Dat}, K3 d → d.three.2 = true := by rintro d (rfl | ⟨b, rfl⟩) <;> rfl
  exact Binary_log_of op _ _ x y _ 0 _ w hop (openA_K3 hx) (openA_K3 hy) (fun w => logic_ok op x y hop (h3 hx) (h3 hy) w) (answerA _)
end Go.Proofs.YtdcbanfakcgokaaDoor.Va
