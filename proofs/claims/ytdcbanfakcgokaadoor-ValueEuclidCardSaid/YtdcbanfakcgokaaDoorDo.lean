/-
  The law's small functions: cut, gauss, does, norm, size.
-/
import Derived.Test.YtdcbanfakcgokaaDoorAr
import Derived.Test.YtdcbanfakcgokaaDoorBox
import Derived.Deep.RegionHeld3
namespace Go.Proofs.YtdcbanfakcgokaaDoor.Va
open Go.RowKit

set_option maxRecDepth 100000 in
theorem cut_255 (n : Int) (w : World) : Calls Tryd.prog 21 #[.int .i64 n, .int .i64 255] w fun e w' => e = .returned (.int .i64 (n.tmod 256)) ∧ w' = w := by
  go_enter Tryd.func21, Tryd.ntmps21
  go_wp2
  exact bodyPost_ret (v := .int .i64 (n.tmod 256)) (by simp [results, Tryd.results21, go_sem]; try rfl) rfl ⟨rfl, rfl⟩
set_option maxRecDepth 100000 in
theorem cut_1048575 (n : Int) (w : World) : Calls Tryd.prog 21 #[.int .i64 n, .int .i64 1048575] w fun e w' => e = .returned (.int .i64 (n.tmod 1048576)) ∧ w' = w := by
  go_enter Tryd.func21, Tryd.ntmps21
  go_wp2
  exact bodyPost_ret (v := .int .i64 (n.tmod 1048576)) (by simp [results, Tryd.results21, go_sem]; try rfl) rfl ⟨rfl, rfl⟩
set_option maxRecDepth 100000 in
theorem cut_16777216 (n : Int) (w : World) : Calls Tryd.prog 21 #[.int .i64 n, .int .i64 16777216] w fun e w' => e = .returned (.int .i64 (n.tmod 16777217)) ∧ w' = w := by
  go_enter Tryd.func21, Tryd.ntmps21
  go_wp2
  exact bodyPost_ret (v := .int .i64 (n.tmod 16777217)) (by simp [results, Tryd.results21, go_sem]; try rfl) rfl ⟨rfl, rfl⟩
set_option maxRecDepth 100000 in
theorem gauss_255 (a b : Int) (w : World) : Calls Tryd.prog 18 #[.int .i64 a, .int .i64 b, .int .i64 255] w (Ans (V.mk 3 (a.tmod 256) (b.tmod 256) ByteArray.empty).v w) := by
  have h1 := cut_255 a
  have h2 := cut_255 b
  generalize a.tmod 256 = c at *
  generalize b.tmod 256 = d at *
  have H1 := Lib.hid h1
  have H2 := Lib.hid h2
  clear h1 h2
  go_enter Tryd.func18, Tryd.ntmps18
  go_wp2_with fail
  refine (H1.out _).mono ?_
  rintro e w1 ⟨rfl, rfl⟩
  go_wp2_with fail
  refine (H2.out _).mono ?_
  rintro e w2 ⟨rfl, rfl⟩
  go_wp2_with fail
  exact bodyPost_ret (v := (V.mk 3 c d ByteArray.empty).v) (by simp [results, Tryd.results18, go_sem]; try rfl) rfl ⟨rfl, (by repeat (first | exact Below.refl _ _ | assumption | refine Below.alloc ?_ (by simp; try omega) _ | refine Below.drew ?_ | refine Below.setCell ?_ (by simp; try omega) _))⟩
set_option maxRecDepth 100000 in
theorem gauss_16777216 (a b : Int) (w : World) : Calls Tryd.prog 18 #[.int .i64 a, .int .i64 b, .int .i64 16777216] w (Ans (V.mk 3 (a.tmod 16777217) (b.tmod 16777217) ByteArray.empty).v w) := by
  have h1 := cut_16777216 a
  have h2 := cut_16777216 b
  generalize a.tmod 16777217 = c at *
  generalize b.tmod 16777217 = d at *
  have H1 := Lib.hid h1
  have H2 := Lib.hid h2
  clear h1 h2
  go_enter Tryd.func18, Tryd.ntmps18
  go_wp2_with fail
  refine (H1.out _).mono ?_
  rintro e w1 ⟨rfl, rfl⟩
  go_wp2_with fail
  refine (H2.out _).mono ?_
  rintro e w2 ⟨rfl, rfl⟩
  go_wp2_with fail
  exact bodyPost_ret (v := (V.mk 3 c d ByteArray.empty).v) (by simp [results, Tryd.results18, go_sem]; try rfl) rfl ⟨rfl, (by repeat (first | exact Below.refl _ _ | assumption | refine Below.alloc ?_ (by simp; try omega) _ | refine Below.drew ?_ | refine Below.setCell ?_ (by simp; try omega) _))⟩

set_option maxRecDepth 100000 in
set_option maxHeartbeats 1600000 in
theorem does_of (op : Int) (x y : V) (k a b : Int) (hk : k = 2 ∨ k = 3) (w : World)
    (hbin : ∀ w, Calls Tryd.prog 23 #[.int .i64 op, x.v, y.v] w (Ans (.tuple #[(V.mk k a b ByteArray.empty).v, .int .i64 0]) w)) :
    Calls Tryd.prog 22 #[.int .i64 op, x.v, y.v] w (Ans (.tuple #[(V.mk k a b ByteArray.empty).v, .bool true]) w) := by
  obtain ⟨xk, xa, xb, xs⟩ := x
  obtain ⟨yk, ya, yb, ys⟩ := y
  unfold V.v at *
  have Hb := Lib.hid hbin
  clear hbin
  rcases hk with rfl | rfl
  all_goals
    go_enter Tryd.func22, Tryd.ntmps22
    go_wp2_with fail
    refine (Hb.out _).mono ?_
    rintro e w1 ⟨rfl, hb1⟩
    have bx := ((Box.new (((w.alloc _).alloc _)) 0 0 0 ⟨#[]⟩ 23).keep hb1)
    simp only [World.size_alloc] at bx
    go_wp2_with fail
    have lt := bx.lt
    have k0 := fun o => (bx.alloc o).k0
    have k1 := fun o => (bx.alloc o).k1
    have k2 := fun o => (bx.alloc o).k2
    have k3 := fun o => (bx.alloc o).k3
    have f0 := fun o => (bx.alloc o).f0
    have f1 := fun o => (bx.alloc o).f1
    have f2 := fun o => (bx.alloc o).f2
    have f3 := fun o => (bx.alloc o).f3
    have bx0 := Lib.hid bx
    obtain ⟨j0, j1, j2, j3, g0, g1, g2, g3⟩ := bx
    have ne1 : ¬ (w1.heap.size = w.heap.size + 1 + 1) := by omega
    have ne2 : ¬ (w.heap.size + 1 + 1 = w1.heap.size) := by omega
    go_region
    go_wp2
    have hb' : Below w.heap.size w w1 := ((((Below.refl _ w).alloc (Nat.le_refl _) _).alloc (by simp) _).alloc (by simp; try omega) _).trans (hb1.mono (by simp; try omega))
  · have q := fun o => (bx0.out.put 2 a b ByteArray.empty).alloc o
    simp only [putV] at q
    refine bodyPost_ret (v := .tuple #[(V.mk 2 a b ByteArray.empty).v, .bool true]) (by simp [results, Tryd.results22, go_sem, fun o => (q o).k0, fun o => (q o).k1, fun o => (q o).k2, fun o => (q o).k3]; try rfl) rfl ⟨rfl, ?_⟩
    exact (by repeat (first | exact Below.refl _ _ | assumption | refine Below.alloc ?_ (by simp; try omega) _ | refine Below.drew ?_ | refine Below.setCell ?_ (by simp; try omega) _))
  · have q := fun o => (bx0.out.put 3 a b ByteArray.empty).alloc o
    simp only [putV] at q
    refine bodyPost_ret (v := .tuple #[(V.mk 3 a b ByteArray.empty).v, .bool true]) (by simp [results, Tryd.results22, go_sem, fun o => (q o).k0, fun o => (q o).k1, fun o => (q o).k2, fun o => (q o).k3]; try rfl) rfl ⟨rfl, ?_⟩
    exact (by repeat (first | exact Below.refl _ _ | assumption | refine Below.alloc ?_ (by simp; try omega) _ | refine Below.drew ?_ | refine Below.setCell ?_ (by simp; try omega) _))
set_option maxRecDepth 100000 in
theorem norm_of (x : V) (n : Int) (w : World)
    (hun : ∀ w, Calls Tryd.prog 39 #[.int .i64 6, x.v] w (Ans (.tuple #[(V.mk 2 n 0 ByteArray.empty).v, .int .i64 0]) w)) :
    Calls Tryd.prog 24 #[x.v] w (Ans (.tuple #[.int .i64 n, .bool true]) w) := by
  obtain ⟨xk, xa, xb, xs⟩ := x
  unfold V.v at *
  have Hu := Lib.hid hun
  clear hun
  go_enter Tryd.func24, Tryd.ntmps24
  go_wp2_with fail
  refine (Hu.out _).mono ?_
  rintro e w1 ⟨rfl, hb1⟩
  have B1 : Below w.heap.size w w1 := ((Below.refl _ w).alloc (Nat.le_refl _) _).trans (hb1.mono (by simp; try omega))
  have z1 := B1.size
  go_wp2_with fail
  go_region
  go_wp2
  refine bodyPost_ret (v := .tuple #[.int .i64 n, .bool true]) (by simp [results, Tryd.results24, go_sem]; try rfl) rfl ⟨rfl, ?_⟩
  first | exact B1.alloc z1 _ | exact (B1.alloc z1 _).drew
set_option maxRecDepth 100000 in
theorem size_pos (n : Int) (h : ¬ n < 0) (w : World) : Calls Tryd.prog 48 #[.int .i64 n] w fun e w' => e = .returned (.int .i64 n) ∧ w' = w := by
  go_enter Tryd.func48, Tryd.ntmps48
  go_wp2
  exact bodyPost_ret (v := .int .i64 n) (by simp [results, Tryd.results48, go_sem]; try rfl) rfl ⟨rfl, rfl⟩
set_option maxRecDepth 100000 in
theorem size_neg (n : Int) (h : n < 0) (h' : -9223372036854775808 < n) (w : World) : Calls Tryd.prog 48 #[.int .i64 n] w fun e w' => e = .returned (.int .i64 (-n)) ∧ w' = w := by
  have hw : wrap64 (-n) = -n := by unfold wrap64; omega
  go_enter Tryd.func48, Tryd.ntmps48
  go_wp2
  exact bodyPost_ret (v := .int .i64 (-n)) (by simp [results, Tryd.results48, go_sem]; try rfl) rfl ⟨rfl, rfl⟩
end Go.Proofs.YtdcbanfakcgokaaDoor.Va
