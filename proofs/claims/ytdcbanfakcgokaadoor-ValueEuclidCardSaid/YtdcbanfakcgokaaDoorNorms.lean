/-
  The law's norms: true where the norms agree.
-/
import Derived.Test.YtdcbanfakcgokaaDoorDo
namespace Go.Proofs.YtdcbanfakcgokaaDoor.Va
open Go.RowKit

set_option maxRecDepth 100000 in
set_option maxHeartbeats 8000000 in
theorem norms_of (a b p c : V) (x y z : Int) (w : World) (hxy : wrap64 (x * y) = z)
    (h1 : ∀ w, Calls Tryd.prog 22 #[.int .i64 3, a.v, b.v] w (Ans (.tuple #[p.v, .bool true]) w))
    (h2 : ∀ w, Calls Tryd.prog 24 #[a.v] w (Ans (.tuple #[.int .i64 x, .bool true]) w))
    (h3 : ∀ w, Calls Tryd.prog 24 #[b.v] w (Ans (.tuple #[.int .i64 y, .bool true]) w))
    (h4 : ∀ w, Calls Tryd.prog 24 #[p.v] w (Ans (.tuple #[.int .i64 z, .bool true]) w))
    (h5 : ∀ w, Calls Tryd.prog 39 #[.int .i64 5, a.v] w (Ans (.tuple #[c.v, .int .i64 0]) w))
    (h6 : ∀ w, Calls Tryd.prog 22 #[.int .i64 3, a.v, c.v] w (Ans (.tuple #[(V.mk 3 x 0 ByteArray.empty).v, .bool true]) w))
    (h7 : ∀ w, Calls Tryd.prog 22 #[.int .i64 3, (V.mk 3 0 1 ByteArray.empty).v, (V.mk 3 0 1 ByteArray.empty).v] w (Ans (.tuple #[(V.mk 3 (-1) 0 ByteArray.empty).v, .bool true]) w))
    : Calls Tryd.prog 20 #[a.v, b.v] w (Ans (.bool true) w) := by
  obtain ⟨a_0, a_1, a_2, a_3⟩ := a
  obtain ⟨b_0, b_1, b_2, b_3⟩ := b
  obtain ⟨p_0, p_1, p_2, p_3⟩ := p
  obtain ⟨c_0, c_1, c_2, c_3⟩ := c
  unfold V.v at *
  have H1 := Lib.hid h1
  clear h1
  have H2 := Lib.hid h2
  clear h2
  have H3 := Lib.hid h3
  clear h3
  have H4 := Lib.hid h4
  clear h4
  have H5 := Lib.hid h5
  clear h5
  have H6 := Lib.hid h6
  clear h6
  have H7 := Lib.hid h7
  clear h7
  have hxy' : IntKind.i64.wrap (x * y) = z := by rw [IntKind.wrap_i64]; unfold wrap64 at hxy; exact hxy
  have eq := eql_val
  have nq := neq_val
  have es := V.eqB_self
  have em : V.eqB (V.mk 3 (-1) 0 ByteArray.empty) (V.mk 3 (-1) 0 ⟨#[]⟩) = true := V.eqB_self _
  go_enter Tryd.func20, Tryd.ntmps20
  go_wp2_with fail
  refine (H1.out _).mono ?_
  rintro e w1 ⟨rfl, hb1⟩
  have bA := ((Box.new w a_0 a_1 a_2 a_3 23).alloc _).keep hb1
  have bB := (Box.new (w.alloc _) b_0 b_1 b_2 b_3 23).keep hb1
  simp only [World.size_alloc] at bB
  have B1 : Below w.heap.size w w1 := (((Below.refl _ w).alloc (Nat.le_refl _) _).alloc (by simp) _).trans (hb1.mono (by simp; try omega))
  have qA0 := fun o => (bA.alloc o).k0
  have qA1 := fun o => (bA.alloc o).k1
  have qA2 := fun o => (bA.alloc o).k2
  have qA3 := fun o => (bA.alloc o).k3
  go_wp2_with fail
  refine (H2.out _).mono ?_
  rintro e w2 ⟨rfl, hb2⟩
  clear qA0 qA1 qA2 qA3
  have bA := (bA.alloc _).keep hb2
  have bB := (bB.alloc _).keep hb2
  have bR := (Box.new w1 p_0 p_1 p_2 p_3 23).keep hb2
  have B2 : Below w.heap.size w w2 := (B1.alloc B1.size _).trans (hb2.mono (by have := B1.size; simp; omega))
  clear hb2 B1
  have qB0 := bB.k0
  have qB1 := bB.k1
  have qB2 := bB.k2
  have qB3 := bB.k3
  go_wp2_with fail
  refine (H3.out _).mono ?_
  rintro e w3 ⟨rfl, hb3⟩
  clear qB0 qB1 qB2 qB3
  have bA := bA.keep hb3
  have bR := bR.keep hb3
  clear bB
  have B3 : Below w.heap.size w w3 := B2.trans (hb3.mono B2.size)
  clear hb3 B2
  have qR0 := bR.k0
  have qR1 := bR.k1
  have qR2 := bR.k2
  have qR3 := bR.k3
  go_wp2_with fail
  refine (H4.out _).mono ?_
  rintro e w4 ⟨rfl, hb4⟩
  clear qR0 qR1 qR2 qR3
  have bA := bA.keep hb4
  clear bR
  have B4 : Below w.heap.size w w4 := B3.trans (hb4.mono B3.size)
  clear hb4 B3
  have qA0 := bA.k0
  have qA1 := bA.k1
  have qA2 := bA.k2
  have qA3 := bA.k3
  go_wp2_with fail
  refine (H5.out _).mono ?_
  rintro e w5 ⟨rfl, hb5⟩
  clear qA0 qA1 qA2 qA3
  have bA := bA.keep hb5
  have B5 : Below w.heap.size w w5 := B4.trans (hb5.mono B4.size)
  clear hb5 B4
  have qA0 := fun o => (bA.alloc o).k0
  have qA1 := fun o => (bA.alloc o).k1
  have qA2 := fun o => (bA.alloc o).k2
  have qA3 := fun o => (bA.alloc o).k3
  go_wp2_with fail
  refine (H6.out _).mono ?_
  rintro e w6 ⟨rfl, hb6⟩
  clear qA0 qA1 qA2 qA3
  clear bA
  have B6 : Below w.heap.size w w6 := (B5.alloc B5.size _).trans (hb6.mono (by have := B5.size; simp; omega))
  clear hb6 B5
  go_wp2_with fail
  refine (H7.out _).mono ?_
  rintro e w7 ⟨rfl, hb7⟩
  have B7 : Below w.heap.size w w7 := ((B6.alloc B6.size _).alloc (by have := B6.size; simp; omega) _).trans (hb7.mono (by have := B6.size; simp; omega))
  go_wp2_with fail
  go_ret
  exact ⟨rfl, B7.alloc B7.size _⟩
end Go.Proofs.YtdcbanfakcgokaaDoor.Va
