/-
  The law ValueKleene: what it asks of three-valued logic.
-/
import Derived.Test.YtdcbanfakcgokaaDoorBin
import Derived.Test.YtdcbanfakcgokaaDoorBox
import Derived.Deep.RegionHeld3
namespace Go.Proofs.YtdcbanfakcgokaaDoor.Va
open Go.RowKit

theorem K3.logD (c : Int) : K3 (logD c) := by
  unfold Va.logD
  split
  · exact .inl rfl
  · exact .inr ⟨_, rfl⟩

set_option maxRecDepth 100000 in
set_option maxHeartbeats 1600000 in
theorem llogic_of (op : Int) (x y : V) (k a : Int) (hk : k = 0 ∨ k = 1) (w : World)
    (hbin : ∀ w, Calls Tryd.prog 23 #[.int .i64 op, x.v, y.v] w (Ans (.tuple #[(V.mk k a 0 ByteArray.empty).v, .int .i64 0]) w)) :
    Calls Tryd.prog 49 #[.int .i64 op, x.v, y.v] w (Ans (.tuple #[(V.mk k a 0 ByteArray.empty).v, .bool true]) w) := by
  obtain ⟨xk, xa, xb, xs⟩ := x
  obtain ⟨yk, ya, yb, ys⟩ := y
  unfold V.v at *
  have Hb := Lib.hid hbin
  clear hbin
  rcases hk with rfl | rfl
  all_goals
    go_enter Tryd.func49, Tryd.ntmps49
    go_wp2_with fail
    refine (Hb.out _).mono ?_
    rintro e w1 ⟨rfl, hb1⟩
    have bx := ((Box.new (((w.alloc _).alloc _)) 0 0 0 ⟨#[]⟩ 23).keep hb1)
    simp only [World.size_alloc] at bx
    go_wp2_with fail
    have lt := bx.lt
    have k0 := fun o => (bx.alloc o).k0
    have k1 := fun o => (bx.alloc o).k1
    have k2 := fun o => (bx.alloc o).k2
    have k3 := fun o => (bx.alloc o).k3
    have f0 := fun o => (bx.alloc o).f0
    have f1 := fun o => (bx.alloc o).f1
    have f2 := fun o => (bx.alloc o).f2
    have f3 := fun o => (bx.alloc o).f3
    have bx0 := Lib.hid bx
    obtain ⟨j0, j1, j2, j3, g0, g1, g2, g3⟩ := bx
    have ne1 : ¬ (w1.heap.size = w.heap.size + 1 + 1) := by omega
    have ne2 : ¬ (w.heap.size + 1 + 1 = w1.heap.size) := by omega
    go_region
    go_wp2
    have hb' : Below w.heap.size w w1 := ((((Below.refl _ w).alloc (Nat.le_refl _) _).alloc (by simp) _).alloc (by simp; try omega) _).trans (hb1.mono (by simp; try omega))
  · have q := fun o => (bx0.out.put 0 a 0 ByteArray.empty).alloc o
    simp only [putV] at q
    refine bodyPost_ret (v := .tuple #[(V.mk 0 a 0 ByteArray.empty).v, .bool true]) (by simp [results, Tryd.results49, go_sem, fun o => (q o).k0, fun o => (q o).k1, fun o => (q o).k2, fun o => (q o).k3]; try rfl) rfl ⟨rfl, ?_⟩
    exact (by repeat (first | exact Below.refl _ _ | assumption | refine Below.alloc ?_ (by simp; try omega) _ | refine Below.drew ?_ | refine Below.setCell ?_ (by simp; try omega) _))
  · have q := fun o => (bx0.out.put 1 a 0 ByteArray.empty).alloc o
    simp only [putV] at q
    refine bodyPost_ret (v := .tuple #[(V.mk 1 a 0 ByteArray.empty).v, .bool true]) (by simp [results, Tryd.results49, go_sem, fun o => (q o).k0, fun o => (q o).k1, fun o => (q o).k2, fun o => (q o).k3]; try rfl) rfl ⟨rfl, ?_⟩
    exact (by repeat (first | exact Below.refl _ _ | assumption | refine Below.alloc ?_ (by simp; try omega) _ | refine Below.drew ?_ | refine Below.setCell ?_ (by simp; try omega) _))

/-- false, true, null. -/
def t3 (n : Int) : Dat := if n = 0 then .tru false else if n = 1 then .tru true else .nul

theorem lthree_0 (w : World) : Calls Tryd.prog 27 #[.int .i64 0] w (Ans (.agg #[.int .i64 1, .int .i64 0, .int .i64 0, .string ByteArray.empty]) w) := by
  go_enter Tryd.func27, Tryd.ntmps27
  go_wp2
  refine bodyPost_ret (v := (.agg #[.int .i64 1, .int .i64 0, .int .i64 0, .string ByteArray.empty])) (by simp [results, Tryd.results27, go_sem]; try rfl) rfl ⟨rfl, ?_⟩
  exact (by repeat (first | exact Below.refl _ _ | assumption | refine Below.alloc ?_ (by simp; try omega) _ | refine Below.drew ?_ | refine Below.setCell ?_ (by simp; try omega) _))
theorem lthree_1 (w : World) : Calls Tryd.prog 27 #[.int .i64 1] w (Ans (.agg #[.int .i64 1, .int .i64 1, .int .i64 0, .string ByteArray.empty]) w) := by
  go_enter Tryd.func27, Tryd.ntmps27
  go_wp2
  refine bodyPost_ret (v := (.agg #[.int .i64 1, .int .i64 1, .int .i64 0, .string ByteArray.empty])) (by simp [results, Tryd.results27, go_sem]; try rfl) rfl ⟨rfl, ?_⟩
  exact (by repeat (first | exact Below.refl _ _ | assumption | refine Below.alloc ?_ (by simp; try omega) _ | refine Below.drew ?_ | refine Below.setCell ?_ (by simp; try omega) _))
theorem lthree_2 (w : World) : Calls Tryd.prog 27 #[.int .i64 2] w (Ans (.agg #[.int .i64 0, .int .i64 0, .int .i64 0, .string ByteArray.empty]) w) := by
  go_enter Tryd.func27, Tryd.ntmps27
  go_wp2
  refine bodyPost_ret (v := (.agg #[.int .i64 0, .int .i64 0, .int .i64 0, .string ByteArray.empty])) (by simp [results, Tryd.results27, go_sem]; try rfl) rfl ⟨rfl, ?_⟩
  exact (by repeat (first | exact Below.refl _ _ | assumption | refine Below.alloc ?_ (by simp; try omega) _ | refine Below.drew ?_ | refine Below.setCell ?_ (by simp; try omega) _))

theorem llogic_K3 (op : Int) (hop : op = 12 ∨ op = 13 ∨ op = 14) {x y : Dat} (hx : K3 x) (hy : K3 y) (w : World) :
    Calls Tryd.prog 49 #[.int .i64 op, x.val.v, y.val.v] w (Ans (.tuple #[(logD (logI op x.three.1 y.three.1)).val.v, .bool true]) w) := by
  have h := fun w => Binary_K3 op hop hx hy w
  rcases K3.logD (logI op x.three.1 y.three.1) with e | ⟨b, e⟩ <;> rw [e] at h ⊢
  · exact llogic_of op _ _ 0 0 (.inl rfl) w h
  · exact llogic_of op _ _ 1 (if b then 1 else 0) (.inr rfl) w h
end Go.Proofs.YtdcbanfakcgokaaDoor.Va
