/-
  The law's ring: true where the twelve values agree.
-/
import Derived.Test.YtdcbanfakcgokaaDoorDo
namespace Go.Proofs.YtdcbanfakcgokaaDoor.Va
open Go.RowKit

set_option maxRecDepth 100000 in
set_option maxHeartbeats 8000000 in
theorem ring_of (a b c s l x y u v p : V) (w : World)
    (h1 : ∀ w, Calls Tryd.prog 22 #[.int .i64 1, b.v, c.v] w (Ans (.tuple #[s.v, .bool true]) w))
    (h2 : ∀ w, Calls Tryd.prog 22 #[.int .i64 3, a.v, s.v] w (Ans (.tuple #[l.v, .bool true]) w))
    (h3 : ∀ w, Calls Tryd.prog 22 #[.int .i64 3, a.v, b.v] w (Ans (.tuple #[x.v, .bool true]) w))
    (h4 : ∀ w, Calls Tryd.prog 22 #[.int .i64 3, a.v, c.v] w (Ans (.tuple #[y.v, .bool true]) w))
    (h5 : ∀ w, Calls Tryd.prog 22 #[.int .i64 1, x.v, y.v] w (Ans (.tuple #[l.v, .bool true]) w))
    (h6 : ∀ w, Calls Tryd.prog 22 #[.int .i64 3, s.v, a.v] w (Ans (.tuple #[l.v, .bool true]) w))
    (h7 : ∀ w, Calls Tryd.prog 22 #[.int .i64 3, x.v, c.v] w (Ans (.tuple #[u.v, .bool true]) w))
    (h8 : ∀ w, Calls Tryd.prog 22 #[.int .i64 3, b.v, c.v] w (Ans (.tuple #[v.v, .bool true]) w))
    (h9 : ∀ w, Calls Tryd.prog 22 #[.int .i64 3, a.v, v.v] w (Ans (.tuple #[u.v, .bool true]) w))
    (h10 : ∀ w, Calls Tryd.prog 22 #[.int .i64 1, a.v, b.v] w (Ans (.tuple #[p.v, .bool true]) w))
    (h11 : ∀ w, Calls Tryd.prog 22 #[.int .i64 1, b.v, a.v] w (Ans (.tuple #[p.v, .bool true]) w))
    (h12 : ∀ w, Calls Tryd.prog 22 #[.int .i64 2, p.v, b.v] w (Ans (.tuple #[a.v, .bool true]) w))
    : Calls Tryd.prog 19 #[a.v, b.v, c.v] w (Ans (.bool true) w) := by
  obtain ⟨a_0, a_1, a_2, a_3⟩ := a
  obtain ⟨b_0, b_1, b_2, b_3⟩ := b
  obtain ⟨c_0, c_1, c_2, c_3⟩ := c
  obtain ⟨s_0, s_1, s_2, s_3⟩ := s
  obtain ⟨l_0, l_1, l_2, l_3⟩ := l
  obtain ⟨x_0, x_1, x_2, x_3⟩ := x
  obtain ⟨y_0, y_1, y_2, y_3⟩ := y
  obtain ⟨u_0, u_1, u_2, u_3⟩ := u
  obtain ⟨v_0, v_1, v_2, v_3⟩ := v
  obtain ⟨p_0, p_1, p_2, p_3⟩ := p
  unfold V.v at *
  have H1 := Lib.hid h1
  clear h1
  have H2 := Lib.hid h2
  clear h2
  have H3 := Lib.hid h3
  clear h3
  have H4 := Lib.hid h4
  clear h4
  have H5 := Lib.hid h5
  clear h5
  have H6 := Lib.hid h6
  clear h6
  have H7 := Lib.hid h7
  clear h7
  have H8 := Lib.hid h8
  clear h8
  have H9 := Lib.hid h9
  clear h9
  have H10 := Lib.hid h10
  clear h10
  have H11 := Lib.hid h11
  clear h11
  have H12 := Lib.hid h12
  clear h12
  have eq := eql_val
  have nq := neq_val
  have es := V.eqB_self
  go_enter Tryd.func19, Tryd.ntmps19
  go_wp2_with fail
  refine (H1.out _).mono ?_
  rintro e w1 ⟨rfl, hb1⟩
  have bA := (((Box.new w a_0 a_1 a_2 a_3 23).alloc _).alloc _).keep hb1
  have bB := ((Box.new (w.alloc _) b_0 b_1 b_2 b_3 23).alloc _).keep hb1
  have bC := (Box.new ((w.alloc _).alloc _) c_0 c_1 c_2 c_3 23).keep hb1
  simp only [World.size_alloc] at bB bC
  have B1 : Below w.heap.size w w1 := ((((Below.refl _ w).alloc (Nat.le_refl _) _).alloc (by simp) _).alloc (by simp; try omega) _).trans (hb1.mono (by simp; try omega))
  have qA0 := fun o => (bA.alloc o).k0
  have qA1 := fun o => (bA.alloc o).k1
  have qA2 := fun o => (bA.alloc o).k2
  have qA3 := fun o => (bA.alloc o).k3
  go_wp2_with fail
  refine (H2.out _).mono ?_
  rintro e w2 ⟨rfl, hb2⟩
  clear qA0 qA1 qA2 qA3
  have bA := (bA.alloc _).keep hb2
  have bB := (bB.alloc _).keep hb2
  have bC := (bC.alloc _).keep hb2
  have bR1 := (Box.new w1 s_0 s_1 s_2 s_3 23).keep hb2
  have B2 : Below w.heap.size w w2 := (B1.alloc B1.size _).trans (hb2.mono (by have := B1.size; simp; omega))
  clear hb2 B1
  have qA0 := fun o => (bA.alloc o).k0
  have qA1 := fun o => (bA.alloc o).k1
  have qA2 := fun o => (bA.alloc o).k2
  have qA3 := fun o => (bA.alloc o).k3
  have qB0 := fun o => (bB.alloc o).k0
  have qB1 := fun o => (bB.alloc o).k1
  have qB2 := fun o => (bB.alloc o).k2
  have qB3 := fun o => (bB.alloc o).k3
  go_wp2_with fail
  refine (H3.out _).mono ?_
  rintro e w3 ⟨rfl, hb3⟩
  clear qA0 qA1 qA2 qA3 qB0 qB1 qB2 qB3
  have bA := (bA.alloc _).keep hb3
  have bB := (bB.alloc _).keep hb3
  have bC := (bC.alloc _).keep hb3
  have bR1 := (bR1.alloc _).keep hb3
  have bR2 := (Box.new w2 l_0 l_1 l_2 l_3 23).keep hb3
  have B3 : Below w.heap.size w w3 := (B2.alloc B2.size _).trans (hb3.mono (by have := B2.size; simp; omega))
  clear hb3 B2
  have qA0 := fun o => (bA.alloc o).k0
  have qA1 := fun o => (bA.alloc o).k1
  have qA2 := fun o => (bA.alloc o).k2
  have qA3 := fun o => (bA.alloc o).k3
  have qC0 := fun o => (bC.alloc o).k0
  have qC1 := fun o => (bC.alloc o).k1
  have qC2 := fun o => (bC.alloc o).k2
  have qC3 := fun o => (bC.alloc o).k3
  go_wp2_with fail
  refine (H4.out _).mono ?_
  rintro e w4 ⟨rfl, hb4⟩
  clear qA0 qA1 qA2 qA3 qC0 qC1 qC2 qC3
  have bA := (bA.alloc _).keep hb4
  have bB := (bB.alloc _).keep hb4
  have bC := (bC.alloc _).keep hb4
  have bR1 := (bR1.alloc _).keep hb4
  have bR2 := (bR2.alloc _).keep hb4
  have bR3 := (Box.new w3 x_0 x_1 x_2 x_3 23).keep hb4
  have B4 : Below w.heap.size w w4 := (B3.alloc B3.size _).trans (hb4.mono (by have := B3.size; simp; omega))
  clear hb4 B3
  have qR30 := fun o => (bR3.alloc o).k0
  have qR31 := fun o => (bR3.alloc o).k1
  have qR32 := fun o => (bR3.alloc o).k2
  have qR33 := fun o => (bR3.alloc o).k3
  go_wp2_with fail
  refine (H5.out _).mono ?_
  rintro e w5 ⟨rfl, hb5⟩
  clear qR30 qR31 qR32 qR33
  have bA := (bA.alloc _).keep hb5
  have bB := (bB.alloc _).keep hb5
  have bC := (bC.alloc _).keep hb5
  have bR1 := (bR1.alloc _).keep hb5
  have bR2 := (bR2.alloc _).keep hb5
  have bR3 := (bR3.alloc _).keep hb5
  have B5 : Below w.heap.size w w5 := (B4.alloc B4.size _).trans (hb5.mono (by have := B4.size; simp; omega))
  clear hb5 B4
  have qR10 := fun o => (bR1.alloc o).k0
  have qR11 := fun o => (bR1.alloc o).k1
  have qR12 := fun o => (bR1.alloc o).k2
  have qR13 := fun o => (bR1.alloc o).k3
  have qA0 := fun o => (bA.alloc o).k0
  have qA1 := fun o => (bA.alloc o).k1
  have qA2 := fun o => (bA.alloc o).k2
  have qA3 := fun o => (bA.alloc o).k3
  go_wp2_with fail
  refine (H6.out _).mono ?_
  rintro e w6 ⟨rfl, hb6⟩
  clear qR10 qR11 qR12 qR13 qA0 qA1 qA2 qA3
  have bA := (bA.alloc _).keep hb6
  have bB := (bB.alloc _).keep hb6
  have bC := (bC.alloc _).keep hb6
  clear bR1
  have bR2 := (bR2.alloc _).keep hb6
  have bR3 := (bR3.alloc _).keep hb6
  have bR5 := (Box.new w5 l_0 l_1 l_2 l_3 23).keep hb6
  have B6 : Below w.heap.size w w6 := (B5.alloc B5.size _).trans (hb6.mono (by have := B5.size; simp; omega))
  clear hb6 B5
  have qR30 := fun o => (bR3.alloc o).k0
  have qR31 := fun o => (bR3.alloc o).k1
  have qR32 := fun o => (bR3.alloc o).k2
  have qR33 := fun o => (bR3.alloc o).k3
  have qC0 := fun o => (bC.alloc o).k0
  have qC1 := fun o => (bC.alloc o).k1
  have qC2 := fun o => (bC.alloc o).k2
  have qC3 := fun o => (bC.alloc o).k3
  have qR20 := fun o => (bR2.alloc o).k0
  have qR21 := fun o => (bR2.alloc o).k1
  have qR22 := fun o => (bR2.alloc o).k2
  have qR23 := fun o => (bR2.alloc o).k3
  have qR50 := fun o => (bR5.alloc o).k0
  have qR51 := fun o => (bR5.alloc o).k1
  have qR52 := fun o => (bR5.alloc o).k2
  have qR53 := fun o => (bR5.alloc o).k3
  go_wp2_with fail
  refine (H7.out _).mono ?_
  rintro e w7 ⟨rfl, hb7⟩
  clear qR30 qR31 qR32 qR33 qC0 qC1 qC2 qC3 qR20 qR21 qR22 qR23 qR50 qR51 qR52 qR53
  have bA := (bA.alloc _).keep hb7
  have bB := (bB.alloc _).keep hb7
  have bC := (bC.alloc _).keep hb7
  clear bR2
  clear bR3
  clear bR5
  have B7 : Below w.heap.size w w7 := (B6.alloc B6.size _).trans (hb7.mono (by have := B6.size; simp; omega))
  clear hb7 B6
  have qB0 := fun o => (bB.alloc o).k0
  have qB1 := fun o => (bB.alloc o).k1
  have qB2 := fun o => (bB.alloc o).k2
  have qB3 := fun o => (bB.alloc o).k3
  have qC0 := fun o => (bC.alloc o).k0
  have qC1 := fun o => (bC.alloc o).k1
  have qC2 := fun o => (bC.alloc o).k2
  have qC3 := fun o => (bC.alloc o).k3
  go_wp2_with fail
  refine (H8.out _).mono ?_
  rintro e w8 ⟨rfl, hb8⟩
  clear qB0 qB1 qB2 qB3 qC0 qC1 qC2 qC3
  have bA := (bA.alloc _).keep hb8
  have bB := (bB.alloc _).keep hb8
  clear bC
  have bR7 := (Box.new w7 u_0 u_1 u_2 u_3 23).keep hb8
  have B8 : Below w.heap.size w w8 := (B7.alloc B7.size _).trans (hb8.mono (by have := B7.size; simp; omega))
  clear hb8 B7
  have qA0 := fun o => (bA.alloc o).k0
  have qA1 := fun o => (bA.alloc o).k1
  have qA2 := fun o => (bA.alloc o).k2
  have qA3 := fun o => (bA.alloc o).k3
  go_wp2_with fail
  refine (H9.out _).mono ?_
  rintro e w9 ⟨rfl, hb9⟩
  clear qA0 qA1 qA2 qA3
  have bA := (bA.alloc _).keep hb9
  have bB := (bB.alloc _).keep hb9
  have bR7 := (bR7.alloc _).keep hb9
  have B9 : Below w.heap.size w w9 := (B8.alloc B8.size _).trans (hb9.mono (by have := B8.size; simp; omega))
  clear hb9 B8
  have qA0 := fun o => (bA.alloc o).k0
  have qA1 := fun o => (bA.alloc o).k1
  have qA2 := fun o => (bA.alloc o).k2
  have qA3 := fun o => (bA.alloc o).k3
  have qB0 := fun o => (bB.alloc o).k0
  have qB1 := fun o => (bB.alloc o).k1
  have qB2 := fun o => (bB.alloc o).k2
  have qB3 := fun o => (bB.alloc o).k3
  go_wp2_with fail
  refine (H10.out _).mono ?_
  rintro e w10 ⟨rfl, hb10⟩
  clear qA0 qA1 qA2 qA3 qB0 qB1 qB2 qB3
  have bA := (bA.alloc _).keep hb10
  have bB := (bB.alloc _).keep hb10
  have bR7 := (bR7.alloc _).keep hb10
  have bR9 := (Box.new w9 u_0 u_1 u_2 u_3 23).keep hb10
  have B10 : Below w.heap.size w w10 := (B9.alloc B9.size _).trans (hb10.mono (by have := B9.size; simp; omega))
  clear hb10 B9
  have qB0 := fun o => (bB.alloc o).k0
  have qB1 := fun o => (bB.alloc o).k1
  have qB2 := fun o => (bB.alloc o).k2
  have qB3 := fun o => (bB.alloc o).k3
  have qA0 := fun o => (bA.alloc o).k0
  have qA1 := fun o => (bA.alloc o).k1
  have qA2 := fun o => (bA.alloc o).k2
  have qA3 := fun o => (bA.alloc o).k3
  go_wp2_with fail
  refine (H11.out _).mono ?_
  rintro e w11 ⟨rfl, hb11⟩
  clear qB0 qB1 qB2 qB3 qA0 qA1 qA2 qA3
  have bA := (bA.alloc _).keep hb11
  have bB := (bB.alloc _).keep hb11
  have bR7 := (bR7.alloc _).keep hb11
  have bR9 := (bR9.alloc _).keep hb11
  have bR10 := (Box.new w10 p_0 p_1 p_2 p_3 23).keep hb11
  have B11 : Below w.heap.size w w11 := (B10.alloc B10.size _).trans (hb11.mono (by have := B10.size; simp; omega))
  clear hb11 B10
  have qR100 := fun o => (bR10.alloc o).k0
  have qR101 := fun o => (bR10.alloc o).k1
  have qR102 := fun o => (bR10.alloc o).k2
  have qR103 := fun o => (bR10.alloc o).k3
  have qB0 := fun o => (bB.alloc o).k0
  have qB1 := fun o => (bB.alloc o).k1
  have qB2 := fun o => (bB.alloc o).k2
  have qB3 := fun o => (bB.alloc o).k3
  go_wp2_with fail
  refine (H12.out _).mono ?_
  rintro e w12 ⟨rfl, hb12⟩
  clear qR100 qR101 qR102 qR103 qB0 qB1 qB2 qB3
  have bA := (bA.alloc _).keep hb12
  clear bB
  have bR7 := (bR7.alloc _).keep hb12
  have bR9 := (bR9.alloc _).keep hb12
  have bR10 := (bR10.alloc _).keep hb12
  have bR11 := (Box.new w11 p_0 p_1 p_2 p_3 23).keep hb12
  have B12 : Below w.heap.size w w12 := (B11.alloc B11.size _).trans (hb12.mono (by have := B11.size; simp; omega))
  clear hb12 B11
  have qR70 := fun o => (bR7.alloc o).k0
  have qR71 := fun o => (bR7.alloc o).k1
  have qR72 := fun o => (bR7.alloc o).k2
  have qR73 := fun o => (bR7.alloc o).k3
  have qR90 := fun o => (bR9.alloc o).k0
  have qR91 := fun o => (bR9.alloc o).k1
  have qR92 := fun o => (bR9.alloc o).k2
  have qR93 := fun o => (bR9.alloc o).k3
  have qR100 := fun o => (bR10.alloc o).k0
  have qR101 := fun o => (bR10.alloc o).k1
  have qR102 := fun o => (bR10.alloc o).k2
  have qR103 := fun o => (bR10.alloc o).k3
  have qR110 := fun o => (bR11.alloc o).k0
  have qR111 := fun o => (bR11.alloc o).k1
  have qR112 := fun o => (bR11.alloc o).k2
  have qR113 := fun o => (bR11.alloc o).k3
  have qA0 := fun o => (bA.alloc o).k0
  have qA1 := fun o => (bA.alloc o).k1
  have qA2 := fun o => (bA.alloc o).k2
  have qA3 := fun o => (bA.alloc o).k3
  go_wp2_with fail
  go_ret
  exact ⟨rfl, B12.alloc B12.size _⟩
end Go.Proofs.YtdcbanfakcgokaaDoor.Va
