/-
  The law ValueEuclid: true, where what it calls answers as it should.
-/
import Derived.Test.YtdcbanfakcgokaaDoorDo
namespace Go.Proofs.YtdcbanfakcgokaaDoor.Va
open Go.RowKit

set_option maxRecDepth 100000 in
set_option maxHeartbeats 4000000 in
theorem euclid_zero (a b c d a1 a2 : Int) (w : World)
    (hg1 : ∀ w, Calls Tryd.prog 18 #[.int .i64 a, .int .i64 b, .int .i64 16777216] w (Ans (V.mk 3 a1 a2 ByteArray.empty).v w))
    (hg2 : ∀ w, Calls Tryd.prog 18 #[.int .i64 c, .int .i64 d, .int .i64 16777216] w (Ans (V.mk 3 0 0 ByteArray.empty).v w))
    (hm : ∀ w, Calls Tryd.prog 23 #[.int .i64 5, (V.mk 3 a1 a2 ByteArray.empty).v, (V.mk 3 0 0 ByteArray.empty).v] w (Ans (.tuple #[V.null.v, .int .i64 12]) w))
    (hdv : ∀ w, Calls Tryd.prog 23 #[.int .i64 4, (V.mk 3 a1 a2 ByteArray.empty).v, (V.mk 3 0 0 ByteArray.empty).v] w (Ans (.tuple #[V.null.v, .int .i64 12]) w))
    : Calls Tryd.prog 6 #[.int .i64 a, .int .i64 b, .int .i64 c, .int .i64 d] w (Ans (.bool true) w) := by
  unfold V.v V.null at *
  have Hg1 := Lib.hid hg1
  clear hg1
  have Hg2 := Lib.hid hg2
  clear hg2
  have Hm := Lib.hid hm
  clear hm
  have Hdv := Lib.hid hdv
  clear hdv
  go_enter Tryd.func6, Tryd.ntmps6
  go_wp2_with fail
  refine (Hg1.out _).mono ?_
  rintro e w1 ⟨rfl, hb1⟩
  have B1 : Below w.heap.size w w1 := hb1
  go_wp2_with fail
  refine (Hg2.out _).mono ?_
  rintro e w2 ⟨rfl, hb2⟩
  have bX := (Box.new w1 3 a1 a2 ByteArray.empty 23).keep hb2
  have B2 : Below w.heap.size w w2 := (B1.alloc B1.size _).trans (hb2.mono (by have := B1.size; simp; omega))
  clear hb2 B1
  have qX0 := fun o => (bX.alloc o).k0
  have qX1 := fun o => (bX.alloc o).k1
  have qX2 := fun o => (bX.alloc o).k2
  have qX3 := fun o => (bX.alloc o).k3
  go_wp2_with fail
  refine (Hm.out _).mono ?_
  rintro e w3 ⟨rfl, hb3⟩
  clear qX0 qX1 qX2 qX3
  have bX := (bX.alloc _).keep hb3
  have bY := (Box.new w2 3 0 0 ByteArray.empty 23).keep hb3
  have B3 : Below w.heap.size w w3 := (B2.alloc B2.size _).trans (hb3.mono (by have := B2.size; simp; omega))
  clear hb3 B2
  have qX0 := fun o => (bX.alloc o).k0
  have qX1 := fun o => (bX.alloc o).k1
  have qX2 := fun o => (bX.alloc o).k2
  have qX3 := fun o => (bX.alloc o).k3
  have qY0 := fun o => (bY.alloc o).k0
  have qY1 := fun o => (bY.alloc o).k1
  have qY2 := fun o => (bY.alloc o).k2
  have qY3 := fun o => (bY.alloc o).k3
  go_wp2_with fail
  refine (Hdv.out _).mono ?_
  rintro e w4 ⟨rfl, hb4⟩
  clear qX0 qX1 qX2 qX3
  clear qY0 qY1 qY2 qY3
  clear bX bY
  have B4 : Below w.heap.size w w4 := (B3.alloc B3.size _).trans (hb4.mono (by have := B3.size; simp; omega))
  clear hb4 B3
  go_wp2_with fail
  go_ret
  exact ⟨rfl, B4.alloc B4.size _⟩
set_option maxRecDepth 100000 in
set_option maxHeartbeats 8000000 in
theorem euclid_of (a b c d a1 a2 c1 c2 r1 r2 n k t1 t2 n1 n2 nn : Int) (w : World) (hz : (c1 == 0) = false ∨ ((c1 == 0) = true ∧ (c2 == 0) = false)) (hn : wrap64 (2 * n) = nn) (hk : ¬ k < nn)
    (hg1 : ∀ w, Calls Tryd.prog 18 #[.int .i64 a, .int .i64 b, .int .i64 16777216] w (Ans (V.mk 3 a1 a2 ByteArray.empty).v w))
    (hg2 : ∀ w, Calls Tryd.prog 18 #[.int .i64 c, .int .i64 d, .int .i64 16777216] w (Ans (V.mk 3 c1 c2 ByteArray.empty).v w))
    (hm : ∀ w, Calls Tryd.prog 23 #[.int .i64 5, (V.mk 3 a1 a2 ByteArray.empty).v, (V.mk 3 c1 c2 ByteArray.empty).v] w (Ans (.tuple #[(V.mk 3 r1 r2 ByteArray.empty).v, .int .i64 0]) w))
    (hn1 : ∀ w, Calls Tryd.prog 24 #[(V.mk 3 r1 r2 ByteArray.empty).v] w (Ans (.tuple #[.int .i64 n, .bool true]) w))
    (hn2 : ∀ w, Calls Tryd.prog 24 #[(V.mk 3 c1 c2 ByteArray.empty).v] w (Ans (.tuple #[.int .i64 k, .bool true]) w))
    (hd1 : ∀ w, Calls Tryd.prog 22 #[.int .i64 2, (V.mk 3 a1 a2 ByteArray.empty).v, (V.mk 3 r1 r2 ByteArray.empty).v] w (Ans (.tuple #[(V.mk 3 t1 t2 ByteArray.empty).v, .bool true]) w))
    (hd2 : ∀ w, Calls Tryd.prog 22 #[.int .i64 4, (V.mk 3 t1 t2 ByteArray.empty).v, (V.mk 3 c1 c2 ByteArray.empty).v] w (Ans (.tuple #[(V.mk 3 n1 n2 ByteArray.empty).v, .bool true]) w))
    (hd3 : ∀ w, Calls Tryd.prog 22 #[.int .i64 3, (V.mk 3 n1 n2 ByteArray.empty).v, (V.mk 3 c1 c2 ByteArray.empty).v] w (Ans (.tuple #[(V.mk 3 t1 t2 ByteArray.empty).v, .bool true]) w))
    (hd4 : ∀ w, Calls Tryd.prog 22 #[.int .i64 1, (V.mk 3 t1 t2 ByteArray.empty).v, (V.mk 3 r1 r2 ByteArray.empty).v] w (Ans (.tuple #[(V.mk 3 a1 a2 ByteArray.empty).v, .bool true]) w))
    (hwh : ∀ w, Calls Tryd.prog 25 #[.int .i64 a, .int .i64 c] w (Ans (.bool true) w))
    : Calls Tryd.prog 6 #[.int .i64 a, .int .i64 b, .int .i64 c, .int .i64 d] w (Ans (.bool true) w) := by
  unfold V.v at *
  have Hg1 := Lib.hid hg1
  clear hg1
  have Hg2 := Lib.hid hg2
  clear hg2
  have Hm := Lib.hid hm
  clear hm
  have Hn1 := Lib.hid hn1
  clear hn1
  have Hn2 := Lib.hid hn2
  clear hn2
  have Hd1 := Lib.hid hd1
  clear hd1
  have Hd2 := Lib.hid hd2
  clear hd2
  have Hd3 := Lib.hid hd3
  clear hd3
  have Hd4 := Lib.hid hd4
  clear hd4
  have Hwh := Lib.hid hwh
  clear hwh
  have hn' : IntKind.i64.wrap (2 * n) = nn := by rw [IntKind.wrap_i64]; unfold wrap64 at hn; exact hn
  have hk' := decide_eq_false hk
  have eq := eql_val
  have nq := neq_val
  have es := V.eqB_self
  rcases hz with z1 | ⟨z1, z2⟩
  all_goals
    go_enter Tryd.func6, Tryd.ntmps6
    go_wp2_with fail
    refine (Hg1.out _).mono ?_
    rintro e w1 ⟨rfl, hb1⟩
    have B1 : Below w.heap.size w w1 := hb1
    go_wp2_with fail
    refine (Hg2.out _).mono ?_
    rintro e w2 ⟨rfl, hb2⟩
    have bX := (Box.new w1 3 a1 a2 ByteArray.empty 23).keep hb2
    have B2 : Below w.heap.size w w2 := (B1.alloc B1.size _).trans (hb2.mono (by have := B1.size; simp; omega))
    clear hb2 B1
    have qX0 := fun o => (bX.alloc o).k0
    have qX1 := fun o => (bX.alloc o).k1
    have qX2 := fun o => (bX.alloc o).k2
    have qX3 := fun o => (bX.alloc o).k3
    go_wp2_with fail
    refine (Hm.out _).mono ?_
    rintro e w3 ⟨rfl, hb3⟩
    clear qX0 qX1 qX2 qX3
    have bX := (bX.alloc _).keep hb3
    have bY := (Box.new w2 3 c1 c2 ByteArray.empty 23).keep hb3
    have B3 : Below w.heap.size w w3 := (B2.alloc B2.size _).trans (hb3.mono (by have := B2.size; simp; omega))
    clear hb3 B2
    have qY0 := fun o => (bY.alloc o).k0
    have qY1 := fun o => (bY.alloc o).k1
    have qY2 := fun o => (bY.alloc o).k2
    have qY3 := fun o => (bY.alloc o).k3
    go_wp2_with fail
    refine (Hn1.out _).mono ?_
    rintro e w4 ⟨rfl, hb4⟩
    clear qY0 qY1 qY2 qY3
    have bX := (bX.alloc _).keep hb4
    have bY := (bY.alloc _).keep hb4
    have bR := (Box.new w3 3 r1 r2 ByteArray.empty 23).keep hb4
    have B4 : Below w.heap.size w w4 := (B3.alloc B3.size _).trans (hb4.mono (by have := B3.size; simp; omega))
    clear hb4 B3
    have qY0 := bY.k0
    have qY1 := bY.k1
    have qY2 := bY.k2
    have qY3 := bY.k3
    go_wp2_with fail
    refine (Hn2.out _).mono ?_
    rintro e w5 ⟨rfl, hb5⟩
    clear qY0 qY1 qY2 qY3
    have bX := bX.keep hb5
    have bY := bY.keep hb5
    have bR := bR.keep hb5
    have B5 : Below w.heap.size w w5 := B4.trans (hb5.mono B4.size)
    clear hb5 B4
    have qX0 := bX.k0
    have qX1 := bX.k1
    have qX2 := bX.k2
    have qX3 := bX.k3
    have qR0 := bR.k0
    have qR1 := bR.k1
    have qR2 := bR.k2
    have qR3 := bR.k3
    go_wp2_with fail
    refine (Hd1.out _).mono ?_
    rintro e w6 ⟨rfl, hb6⟩
    clear qX0 qX1 qX2 qX3
    clear qR0 qR1 qR2 qR3
    have bX := bX.keep hb6
    have bY := bY.keep hb6
    have bR := bR.keep hb6
    have B6 : Below w.heap.size w w6 := B5.trans (hb6.mono B5.size)
    clear hb6 B5
    have qY0 := fun o => (bY.alloc o).k0
    have qY1 := fun o => (bY.alloc o).k1
    have qY2 := fun o => (bY.alloc o).k2
    have qY3 := fun o => (bY.alloc o).k3
    go_wp2_with fail
    refine (Hd2.out _).mono ?_
    rintro e w7 ⟨rfl, hb7⟩
    clear qY0 qY1 qY2 qY3
    have bX := (bX.alloc _).keep hb7
    have bY := (bY.alloc _).keep hb7
    have bR := (bR.alloc _).keep hb7
    have B7 : Below w.heap.size w w7 := (B6.alloc B6.size _).trans (hb7.mono (by have := B6.size; simp; omega))
    clear hb7 B6
    have qY0 := fun o => (bY.alloc o).k0
    have qY1 := fun o => (bY.alloc o).k1
    have qY2 := fun o => (bY.alloc o).k2
    have qY3 := fun o => (bY.alloc o).k3
    go_wp2_with fail
    refine (Hd3.out _).mono ?_
    rintro e w8 ⟨rfl, hb8⟩
    clear qY0 qY1 qY2 qY3
    clear bY
    have bX := (bX.alloc _).keep hb8
    have bR := (bR.alloc _).keep hb8
    have B8 : Below w.heap.size w w8 := (B7.alloc B7.size _).trans (hb8.mono (by have := B7.size; simp; omega))
    clear hb8 B7
    have qR0 := fun o => (bR.alloc o).k0
    have qR1 := fun o => (bR.alloc o).k1
    have qR2 := fun o => (bR.alloc o).k2
    have qR3 := fun o => (bR.alloc o).k3
    go_wp2_with fail
    refine (Hd4.out _).mono ?_
    rintro e w9 ⟨rfl, hb9⟩
    clear qR0 qR1 qR2 qR3
    clear bR
    have bX := (bX.alloc _).keep hb9
    have B9 : Below w.heap.size w w9 := (B8.alloc B8.size _).trans (hb9.mono (by have := B8.size; simp; omega))
    clear hb9 B8
    have qX0 := fun o => (bX.alloc o).k0
    have qX1 := fun o => (bX.alloc o).k1
    have qX2 := fun o => (bX.alloc o).k2
    have qX3 := fun o => (bX.alloc o).k3
    go_wp2_with fail
    refine (Hwh.out _).mono ?_
    rintro e w10 ⟨rfl, hb10⟩
    clear qX0 qX1 qX2 qX3
    have B10 : Below w.heap.size w w10 := (B9.alloc B9.size _).trans (hb10.mono (by have := B9.size; simp; omega))
    clear hb10 B9
    go_wp2_with fail
    go_ret
    exact ⟨rfl, B10⟩
end Go.Proofs.YtdcbanfakcgokaaDoor.Va
