/-
  The law's wholes: true for every pair of whole numbers.
-/
import Derived.Test.YtdcbanfakcgokaaDoorDo
import Derived.Deep.RegionHeld3
namespace Go.Proofs.YtdcbanfakcgokaaDoor.Va
open Go.RowKit

set_option maxRecDepth 100000 in
theorem wholes_b0 (a : Int) (w : World)
    (hd : ∀ w, Calls Tryd.prog 23 #[.int .i64 4, (V.mk 2 a 0 ByteArray.empty).v, (V.mk 2 0 0 ByteArray.empty).v] w (Ans (.tuple #[V.null.v, .int .i64 12]) w))
    (hm : ∀ w, Calls Tryd.prog 23 #[.int .i64 5, (V.mk 2 a 0 ByteArray.empty).v, (V.mk 2 0 0 ByteArray.empty).v] w (Ans (.tuple #[V.null.v, .int .i64 12]) w)) :
    Calls Tryd.prog 25 #[.int .i64 a, .int .i64 0] w (Ans (.bool true) w) := by
  unfold V.v V.null at *
  have Hd := Lib.hid hd
  have Hm := Lib.hid hm
  clear hd hm
  go_enter Tryd.func25, Tryd.ntmps25
  go_wp2_with fail
  refine (Hd.out _).mono ?_
  rintro e w1 ⟨rfl, hb1⟩
  have bA := ((Box.new w 2 a 0 ByteArray.empty 23).alloc _).keep hb1
  have bB := (Box.new (w.alloc _) 2 0 0 ByteArray.empty 23).keep hb1
  simp only [World.size_alloc] at bB
  have B1 : Below w.heap.size w w1 := (((Below.refl _ w).alloc (Nat.le_refl _) _).alloc (by simp) _).trans (hb1.mono (by simp; try omega))
  have qA0 := fun o => (bA.alloc o).k0
  have qA1 := fun o => (bA.alloc o).k1
  have qA2 := fun o => (bA.alloc o).k2
  have qA3 := fun o => (bA.alloc o).k3
  have qB0 := fun o => (bB.alloc o).k0
  have qB1 := fun o => (bB.alloc o).k1
  have qB2 := fun o => (bB.alloc o).k2
  have qB3 := fun o => (bB.alloc o).k3
  go_wp2_with fail
  refine (Hm.out _).mono ?_
  rintro e w2 ⟨rfl, hb2⟩
  clear qA0 qA1 qA2 qA3
  clear qB0 qB1 qB2 qB3
  have bQ := (Box.new w1 0 0 0 ByteArray.empty 23).keep hb2
  have B2 : Below w.heap.size w w2 := (B1.alloc B1.size _).trans (hb2.mono (by have := B1.size; simp; omega))
  clear bA bB
  have qQ0 := fun o => (bQ.alloc o).k0
  have qQ1 := fun o => (bQ.alloc o).k1
  have qQ2 := fun o => (bQ.alloc o).k2
  have qQ3 := fun o => (bQ.alloc o).k3
  go_wp2_with fail
  go_ret
  exact ⟨rfl, B2.alloc B2.size _⟩
set_option maxRecDepth 100000 in
theorem wholes_over (w : World)
    (hd : ∀ w, Calls Tryd.prog 23 #[.int .i64 4, (V.mk 2 (-9223372036854775808) 0 ByteArray.empty).v, (V.mk 2 (-1) 0 ByteArray.empty).v] w (Ans (.tuple #[V.null.v, .int .i64 11]) w))
    (hm : ∀ w, Calls Tryd.prog 23 #[.int .i64 5, (V.mk 2 (-9223372036854775808) 0 ByteArray.empty).v, (V.mk 2 (-1) 0 ByteArray.empty).v] w (Ans (.tuple #[(V.mk 2 0 0 ByteArray.empty).v, .int .i64 0]) w)) :
    Calls Tryd.prog 25 #[.int .i64 (-9223372036854775808), .int .i64 (-1)] w (Ans (.bool true) w) := by
  unfold V.v V.null at *
  have Hd := Lib.hid hd
  have Hm := Lib.hid hm
  clear hd hm
  go_enter Tryd.func25, Tryd.ntmps25
  go_wp2_with fail
  refine (Hd.out _).mono ?_
  rintro e w1 ⟨rfl, hb1⟩
  have bA := ((Box.new w 2 (-9223372036854775808) 0 ByteArray.empty 23).alloc _).keep hb1
  have bB := (Box.new (w.alloc _) 2 (-1) 0 ByteArray.empty 23).keep hb1
  simp only [World.size_alloc] at bB
  have B1 : Below w.heap.size w w1 := (((Below.refl _ w).alloc (Nat.le_refl _) _).alloc (by simp) _).trans (hb1.mono (by simp; try omega))
  have qA0 := fun o => (bA.alloc o).k0
  have qA1 := fun o => (bA.alloc o).k1
  have qA2 := fun o => (bA.alloc o).k2
  have qA3 := fun o => (bA.alloc o).k3
  have qB0 := fun o => (bB.alloc o).k0
  have qB1 := fun o => (bB.alloc o).k1
  have qB2 := fun o => (bB.alloc o).k2
  have qB3 := fun o => (bB.alloc o).k3
  go_wp2_with fail
  refine (Hm.out _).mono ?_
  rintro e w2 ⟨rfl, hb2⟩
  clear qA0 qA1 qA2 qA3
  clear qB0 qB1 qB2 qB3
  have bQ := (Box.new w1 0 0 0 ByteArray.empty 23).keep hb2
  have B2 : Below w.heap.size w w2 := (B1.alloc B1.size _).trans (hb2.mono (by have := B1.size; simp; omega))
  clear bA bB
  have qQ0 := fun o => (bQ.alloc o).k0
  have qQ1 := fun o => (bQ.alloc o).k1
  have qQ2 := fun o => (bQ.alloc o).k2
  have qQ3 := fun o => (bQ.alloc o).k3
  go_wp2_with fail
  go_ret
  exact ⟨rfl, B2.alloc B2.size _⟩
set_option maxRecDepth 100000 in
set_option maxHeartbeats 8000000 in
theorem wholes_gen (a b q r qb : Int) (w : World)
    (hd : ∀ w, Calls Tryd.prog 23 #[.int .i64 4, (V.mk 2 a 0 ByteArray.empty).v, (V.mk 2 b 0 ByteArray.empty).v] w (Ans (.tuple #[(V.mk 2 q 0 ByteArray.empty).v, .int .i64 0]) w))
    (hm : ∀ w, Calls Tryd.prog 23 #[.int .i64 5, (V.mk 2 a 0 ByteArray.empty).v, (V.mk 2 b 0 ByteArray.empty).v] w (Ans (.tuple #[(V.mk 2 r 0 ByteArray.empty).v, .int .i64 0]) w))
    (hb0 : (b == 0) = false)
    (hov : (a == (-9223372036854775808)) = false ∨ ((a == (-9223372036854775808)) = true ∧ (b == -1) = false))
    (h1 : wrap64 (q * b) = qb) (h2 : wrap64 (qb + r) = a)
    (hr : (r != 0) = false ∨ ((r != 0) = true ∧ r < 0 ∧ a < 0) ∨ ((r != 0) = true ∧ ¬ r < 0 ∧ ¬ a < 0))
    (hs : (b == (-9223372036854775808)) = true ∨ ((b == (-9223372036854775808)) = false ∧ ∃ s nr : Int, (∀ w, Calls Tryd.prog 48 #[.int .i64 b] w (Ans (.int .i64 s) w)) ∧ wrap64 (-r) = nr ∧ r < s ∧ nr < s)) :
    Calls Tryd.prog 25 #[.int .i64 a, .int .i64 b] w (Ans (.bool true) w) := by
  unfold V.v at *
  have Hd := Lib.hid hd
  have Hm := Lib.hid hm
  clear hd hm
  have h1' : IntKind.i64.wrap (q * b) = qb := by rw [IntKind.wrap_i64]; unfold wrap64 at h1; exact h1
  have h2' : IntKind.i64.wrap (qb + r) = a := by rw [IntKind.wrap_i64]; unfold wrap64 at h2; exact h2
  rcases hs with s1 | ⟨s1, s, nr, hsz, h3, l1, l2⟩ <;> rcases hov with o1 | ⟨o1, o2⟩ <;> rcases hr with t1 | ⟨t1, t2, t3⟩ | ⟨t1, t2, t3⟩
  ·
    go_enter Tryd.func25, Tryd.ntmps25
    go_wp2_with fail
    refine (Hd.out _).mono ?_
    rintro e w1 ⟨rfl, hb1⟩
    have bA := ((Box.new w 2 a 0 ByteArray.empty 23).alloc _).keep hb1
    have bB := (Box.new (w.alloc _) 2 b 0 ByteArray.empty 23).keep hb1
    simp only [World.size_alloc] at bB
    have B1 : Below w.heap.size w w1 := (((Below.refl _ w).alloc (Nat.le_refl _) _).alloc (by simp) _).trans (hb1.mono (by simp; try omega))
    have qA0 := fun o => (bA.alloc o).k0
    have qA1 := fun o => (bA.alloc o).k1
    have qA2 := fun o => (bA.alloc o).k2
    have qA3 := fun o => (bA.alloc o).k3
    have qB0 := fun o => (bB.alloc o).k0
    have qB1 := fun o => (bB.alloc o).k1
    have qB2 := fun o => (bB.alloc o).k2
    have qB3 := fun o => (bB.alloc o).k3
    go_wp2_with fail
    refine (Hm.out _).mono ?_
    rintro e w2 ⟨rfl, hb2⟩
    clear qA0 qA1 qA2 qA3
    clear qB0 qB1 qB2 qB3
    have bQ := (Box.new w1 2 q 0 ByteArray.empty 23).keep hb2
    have B2 : Below w.heap.size w w2 := (B1.alloc B1.size _).trans (hb2.mono (by have := B1.size; simp; omega))
    clear bA bB
    have qQ0 := fun o => (bQ.alloc o).k0
    have qQ1 := fun o => (bQ.alloc o).k1
    have qQ2 := fun o => (bQ.alloc o).k2
    have qQ3 := fun o => (bQ.alloc o).k3
    go_wp2_with fail
    go_region
    go_wp2
    go_ret
    exact ⟨rfl, by first | exact B2.alloc B2.size _ | exact (B2.alloc B2.size _).drew⟩
  ·
    go_enter Tryd.func25, Tryd.ntmps25
    go_wp2_with fail
    refine (Hd.out _).mono ?_
    rintro e w1 ⟨rfl, hb1⟩
    have bA := ((Box.new w 2 a 0 ByteArray.empty 23).alloc _).keep hb1
    have bB := (Box.new (w.alloc _) 2 b 0 ByteArray.empty 23).keep hb1
    simp only [World.size_alloc] at bB
    have B1 : Below w.heap.size w w1 := (((Below.refl _ w).alloc (Nat.le_refl _) _).alloc (by simp) _).trans (hb1.mono (by simp; try omega))
    have qA0 := fun o => (bA.alloc o).k0
    have qA1 := fun o => (bA.alloc o).k1
    have qA2 := fun o => (bA.alloc o).k2
    have qA3 := fun o => (bA.alloc o).k3
    have qB0 := fun o => (bB.alloc o).k0
    have qB1 := fun o => (bB.alloc o).k1
    have qB2 := fun o => (bB.alloc o).k2
    have qB3 := fun o => (bB.alloc o).k3
    go_wp2_with fail
    refine (Hm.out _).mono ?_
    rintro e w2 ⟨rfl, hb2⟩
    clear qA0 qA1 qA2 qA3
    clear qB0 qB1 qB2 qB3
    have bQ := (Box.new w1 2 q 0 ByteArray.empty 23).keep hb2
    have B2 : Below w.heap.size w w2 := (B1.alloc B1.size _).trans (hb2.mono (by have := B1.size; simp; omega))
    clear bA bB
    have qQ0 := fun o => (bQ.alloc o).k0
    have qQ1 := fun o => (bQ.alloc o).k1
    have qQ2 := fun o => (bQ.alloc o).k2
    have qQ3 := fun o => (bQ.alloc o).k3
    go_wp2_with fail
    go_region
    go_wp2
    go_ret
    exact ⟨rfl, by first | exact B2.alloc B2.size _ | exact (B2.alloc B2.size _).drew⟩
  ·
    have t4 := decide_eq_false t2
    have t5 := decide_eq_false t3
    go_enter Tryd.func25, Tryd.ntmps25
    go_wp2_with fail
    refine (Hd.out _).mono ?_
    rintro e w1 ⟨rfl, hb1⟩
    have bA := ((Box.new w 2 a 0 ByteArray.empty 23).alloc _).keep hb1
    have bB := (Box.new (w.alloc _) 2 b 0 ByteArray.empty 23).keep hb1
    simp only [World.size_alloc] at bB
    have B1 : Below w.heap.size w w1 := (((Below.refl _ w).alloc (Nat.le_refl _) _).alloc (by simp) _).trans (hb1.mono (by simp; try omega))
    have qA0 := fun o => (bA.alloc o).k0
    have qA1 := fun o => (bA.alloc o).k1
    have qA2 := fun o => (bA.alloc o).k2
    have qA3 := fun o => (bA.alloc o).k3
    have qB0 := fun o => (bB.alloc o).k0
    have qB1 := fun o => (bB.alloc o).k1
    have qB2 := fun o => (bB.alloc o).k2
    have qB3 := fun o => (bB.alloc o).k3
    go_wp2_with fail
    refine (Hm.out _).mono ?_
    rintro e w2 ⟨rfl, hb2⟩
    clear qA0 qA1 qA2 qA3
    clear qB0 qB1 qB2 qB3
    have bQ := (Box.new w1 2 q 0 ByteArray.empty 23).keep hb2
    have B2 : Below w.heap.size w w2 := (B1.alloc B1.size _).trans (hb2.mono (by have := B1.size; simp; omega))
    clear bA bB
    have qQ0 := fun o => (bQ.alloc o).k0
    have qQ1 := fun o => (bQ.alloc o).k1
    have qQ2 := fun o => (bQ.alloc o).k2
    have qQ3 := fun o => (bQ.alloc o).k3
    go_wp2_with fail
    go_region
    go_wp2
    go_ret
    exact ⟨rfl, by first | exact B2.alloc B2.size _ | exact (B2.alloc B2.size _).drew⟩
  ·
    go_enter Tryd.func25, Tryd.ntmps25
    go_wp2_with fail
    refine (Hd.out _).mono ?_
    rintro e w1 ⟨rfl, hb1⟩
    have bA := ((Box.new w 2 a 0 ByteArray.empty 23).alloc _).keep hb1
    have bB := (Box.new (w.alloc _) 2 b 0 ByteArray.empty 23).keep hb1
    simp only [World.size_alloc] at bB
    have B1 : Below w.heap.size w w1 := (((Below.refl _ w).alloc (Nat.le_refl _) _).alloc (by simp) _).trans (hb1.mono (by simp; try omega))
    have qA0 := fun o => (bA.alloc o).k0
    have qA1 := fun o => (bA.alloc o).k1
    have qA2 := fun o => (bA.alloc o).k2
    have qA3 := fun o => (bA.alloc o).k3
    have qB0 := fun o => (bB.alloc o).k0
    have qB1 := fun o => (bB.alloc o).k1
    have qB2 := fun o => (bB.alloc o).k2
    have qB3 := fun o => (bB.alloc o).k3
    go_wp2_with fail
    refine (Hm.out _).mono ?_
    rintro e w2 ⟨rfl, hb2⟩
    clear qA0 qA1 qA2 qA3
    clear qB0 qB1 qB2 qB3
    have bQ := (Box.new w1 2 q 0 ByteArray.empty 23).keep hb2
    have B2 : Below w.heap.size w w2 := (B1.alloc B1.size _).trans (hb2.mono (by have := B1.size; simp; omega))
    clear bA bB
    have qQ0 := fun o => (bQ.alloc o).k0
    have qQ1 := fun o => (bQ.alloc o).k1
    have qQ2 := fun o => (bQ.alloc o).k2
    have qQ3 := fun o => (bQ.alloc o).k3
    go_wp2_with fail
    go_region
    go_wp2
    go_ret
    exact ⟨rfl, by first | exact B2.alloc B2.size _ | exact (B2.alloc B2.size _).drew⟩
  ·
    go_enter Tryd.func25, Tryd.ntmps25
    go_wp2_with fail
    refine (Hd.out _).mono ?_
    rintro e w1 ⟨rfl, hb1⟩
    have bA := ((Box.new w 2 a 0 ByteArray.empty 23).alloc _).keep hb1
    have bB := (Box.new (w.alloc _) 2 b 0 ByteArray.empty 23).keep hb1
    simp only [World.size_alloc] at bB
    have B1 : Below w.heap.size w w1 := (((Below.refl _ w).alloc (Nat.le_refl _) _).alloc (by simp) _).trans (hb1.mono (by simp; try omega))
    have qA0 := fun o => (bA.alloc o).k0
    have qA1 := fun o => (bA.alloc o).k1
    have qA2 := fun o => (bA.alloc o).k2
    have qA3 := fun o => (bA.alloc o).k3
    have qB0 := fun o => (bB.alloc o).k0
    have qB1 := fun o => (bB.alloc o).k1
    have qB2 := fun o => (bB.alloc o).k2
    have qB3 := fun o => (bB.alloc o).k3
    go_wp2_with fail
    refine (Hm.out _).mono ?_
    rintro e w2 ⟨rfl, hb2⟩
    clear qA0 qA1 qA2 qA3
    clear qB0 qB1 qB2 qB3
    have bQ := (Box.new w1 2 q 0 ByteArray.empty 23).keep hb2
    have B2 : Below w.heap.size w w2 := (B1.alloc B1.size _).trans (hb2.mono (by have := B1.size; simp; omega))
    clear bA bB
    have qQ0 := fun o => (bQ.alloc o).k0
    have qQ1 := fun o => (bQ.alloc o).k1
    have qQ2 := fun o => (bQ.alloc o).k2
    have qQ3 := fun o => (bQ.alloc o).k3
    go_wp2_with fail
    go_region
    go_wp2
    go_ret
    exact ⟨rfl, by first | exact B2.alloc B2.size _ | exact (B2.alloc B2.size _).drew⟩
  ·
    have t4 := decide_eq_false t2
    have t5 := decide_eq_false t3
    go_enter Tryd.func25, Tryd.ntmps25
    go_wp2_with fail
    refine (Hd.out _).mono ?_
    rintro e w1 ⟨rfl, hb1⟩
    have bA := ((Box.new w 2 a 0 ByteArray.empty 23).alloc _).keep hb1
    have bB := (Box.new (w.alloc _) 2 b 0 ByteArray.empty 23).keep hb1
    simp only [World.size_alloc] at bB
    have B1 : Below w.heap.size w w1 := (((Below.refl _ w).alloc (Nat.le_refl _) _).alloc (by simp) _).trans (hb1.mono (by simp; try omega))
    have qA0 := fun o => (bA.alloc o).k0
    have qA1 := fun o => (bA.alloc o).k1
    have qA2 := fun o => (bA.alloc o).k2
    have qA3 := fun o => (bA.alloc o).k3
    have qB0 := fun o => (bB.alloc o).k0
    have qB1 := fun o => (bB.alloc o).k1
    have qB2 := fun o => (bB.alloc o).k2
    have qB3 := fun o => (bB.alloc o).k3
    go_wp2_with fail
    refine (Hm.out _).mono ?_
    rintro e w2 ⟨rfl, hb2⟩
    clear qA0 qA1 qA2 qA3
    clear qB0 qB1 qB2 qB3
    have bQ := (Box.new w1 2 q 0 ByteArray.empty 23).keep hb2
    have B2 : Below w.heap.size w w2 := (B1.alloc B1.size _).trans (hb2.mono (by have := B1.size; simp; omega))
    clear bA bB
    have qQ0 := fun o => (bQ.alloc o).k0
    have qQ1 := fun o => (bQ.alloc o).k1
    have qQ2 := fun o => (bQ.alloc o).k2
    have qQ3 := fun o => (bQ.alloc o).k3
    go_wp2_with fail
    go_region
    go_wp2
    go_ret
    exact ⟨rfl, by first | exact B2.alloc B2.size _ | exact (B2.alloc B2.size _).drew⟩
  ·
    have h3' : IntKind.i64.wrap (-r) = nr := by rw [IntKind.wrap_i64]; unfold wrap64 at h3; exact h3
    have Hs := Lib.hid hsz
    clear hsz
    go_enter Tryd.func25, Tryd.ntmps25
    go_wp2_with fail
    refine (Hd.out _).mono ?_
    rintro e w1 ⟨rfl, hb1⟩
    have bA := ((Box.new w 2 a 0 ByteArray.empty 23).alloc _).keep hb1
    have bB := (Box.new (w.alloc _) 2 b 0 ByteArray.empty 23).keep hb1
    simp only [World.size_alloc] at bB
    have B1 : Below w.heap.size w w1 := (((Below.refl _ w).alloc (Nat.le_refl _) _).alloc (by simp) _).trans (hb1.mono (by simp; try omega))
    have qA0 := fun o => (bA.alloc o).k0
    have qA1 := fun o => (bA.alloc o).k1
    have qA2 := fun o => (bA.alloc o).k2
    have qA3 := fun o => (bA.alloc o).k3
    have qB0 := fun o => (bB.alloc o).k0
    have qB1 := fun o => (bB.alloc o).k1
    have qB2 := fun o => (bB.alloc o).k2
    have qB3 := fun o => (bB.alloc o).k3
    go_wp2_with fail
    refine (Hm.out _).mono ?_
    rintro e w2 ⟨rfl, hb2⟩
    clear qA0 qA1 qA2 qA3
    clear qB0 qB1 qB2 qB3
    have bQ := (Box.new w1 2 q 0 ByteArray.empty 23).keep hb2
    have B2 : Below w.heap.size w w2 := (B1.alloc B1.size _).trans (hb2.mono (by have := B1.size; simp; omega))
    clear bA bB
    have qQ0 := fun o => (bQ.alloc o).k0
    have qQ1 := fun o => (bQ.alloc o).k1
    have qQ2 := fun o => (bQ.alloc o).k2
    have qQ3 := fun o => (bQ.alloc o).k3
    go_wp2_with fail
    go_region_held3 (fun w' => w'.cell? ⟨w2.heap.size, 1, none⟩ = some (.int .i64 r) ∧ Below w.heap.size w w')
      (first | (refine ⟨?_, ?_⟩ <;> first | (exact (B2.alloc B2.size _).drew) | (simp [*]; done)) | (go_split_ands; refine ⟨?_, ?_⟩ <;> first | exact keep1 (by assumption) hbk | exact keepB (by assumption) hbk (by have := Below.size (by assumption : Below w.heap.size w _); omega)))
      (first | (go_at_call_of 48 (Value.int .i64 b); refine (Hs.out _).mono ?_; rintro e wt ⟨rfl, hbk⟩))
    go_split_ands
    go_wp2
    go_ret
    exact ⟨rfl, by assumption⟩
  ·
    have h3' : IntKind.i64.wrap (-r) = nr := by rw [IntKind.wrap_i64]; unfold wrap64 at h3; exact h3
    have Hs := Lib.hid hsz
    clear hsz
    go_enter Tryd.func25, Tryd.ntmps25
    go_wp2_with fail
    refine (Hd.out _).mono ?_
    rintro e w1 ⟨rfl, hb1⟩
    have bA := ((Box.new w 2 a 0 ByteArray.empty 23).alloc _).keep hb1
    have bB := (Box.new (w.alloc _) 2 b 0 ByteArray.empty 23).keep hb1
    simp only [World.size_alloc] at bB
    have B1 : Below w.heap.size w w1 := (((Below.refl _ w).alloc (Nat.le_refl _) _).alloc (by simp) _).trans (hb1.mono (by simp; try omega))
    have qA0 := fun o => (bA.alloc o).k0
    have qA1 := fun o => (bA.alloc o).k1
    have qA2 := fun o => (bA.alloc o).k2
    have qA3 := fun o => (bA.alloc o).k3
    have qB0 := fun o => (bB.alloc o).k0
    have qB1 := fun o => (bB.alloc o).k1
    have qB2 := fun o => (bB.alloc o).k2
    have qB3 := fun o => (bB.alloc o).k3
    go_wp2_with fail
    refine (Hm.out _).mono ?_
    rintro e w2 ⟨rfl, hb2⟩
    clear qA0 qA1 qA2 qA3
    clear qB0 qB1 qB2 qB3
    have bQ := (Box.new w1 2 q 0 ByteArray.empty 23).keep hb2
    have B2 : Below w.heap.size w w2 := (B1.alloc B1.size _).trans (hb2.mono (by have := B1.size; simp; omega))
    clear bA bB
    have qQ0 := fun o => (bQ.alloc o).k0
    have qQ1 := fun o => (bQ.alloc o).k1
    have qQ2 := fun o => (bQ.alloc o).k2
    have qQ3 := fun o => (bQ.alloc o).k3
    go_wp2_with fail
    go_region_held3 (fun w' => w'.cell? ⟨w2.heap.size, 1, none⟩ = some (.int .i64 r) ∧ Below w.heap.size w w')
      (first | (refine ⟨?_, ?_⟩ <;> first | (exact (B2.alloc B2.size _).drew) | (simp [*]; done)) | (go_split_ands; refine ⟨?_, ?_⟩ <;> first | exact keep1 (by assumption) hbk | exact keepB (by assumption) hbk (by have := Below.size (by assumption : Below w.heap.size w _); omega)))
      (first | (go_at_call_of 48 (Value.int .i64 b); refine (Hs.out _).mono ?_; rintro e wt ⟨rfl, hbk⟩))
    go_split_ands
    go_wp2
    go_ret
    exact ⟨rfl, by assumption⟩
  ·
    have t4 := decide_eq_false t2
    have t5 := decide_eq_false t3
    have h3' : IntKind.i64.wrap (-r) = nr := by rw [IntKind.wrap_i64]; unfold wrap64 at h3; exact h3
    have Hs := Lib.hid hsz
    clear hsz
    go_enter Tryd.func25, Tryd.ntmps25
    go_wp2_with fail
    refine (Hd.out _).mono ?_
    rintro e w1 ⟨rfl, hb1⟩
    have bA := ((Box.new w 2 a 0 ByteArray.empty 23).alloc _).keep hb1
    have bB := (Box.new (w.alloc _) 2 b 0 ByteArray.empty 23).keep hb1
    simp only [World.size_alloc] at bB
    have B1 : Below w.heap.size w w1 := (((Below.refl _ w).alloc (Nat.le_refl _) _).alloc (by simp) _).trans (hb1.mono (by simp; try omega))
    have qA0 := fun o => (bA.alloc o).k0
    have qA1 := fun o => (bA.alloc o).k1
    have qA2 := fun o => (bA.alloc o).k2
    have qA3 := fun o => (bA.alloc o).k3
    have qB0 := fun o => (bB.alloc o).k0
    have qB1 := fun o => (bB.alloc o).k1
    have qB2 := fun o => (bB.alloc o).k2
    have qB3 := fun o => (bB.alloc o).k3
    go_wp2_with fail
    refine (Hm.out _).mono ?_
    rintro e w2 ⟨rfl, hb2⟩
    clear qA0 qA1 qA2 qA3
    clear qB0 qB1 qB2 qB3
    have bQ := (Box.new w1 2 q 0 ByteArray.empty 23).keep hb2
    have B2 : Below w.heap.size w w2 := (B1.alloc B1.size _).trans (hb2.mono (by have := B1.size; simp; omega))
    clear bA bB
    have qQ0 := fun o => (bQ.alloc o).k0
    have qQ1 := fun o => (bQ.alloc o).k1
    have qQ2 := fun o => (bQ.alloc o).k2
    have qQ3 := fun o => (bQ.alloc o).k3
    go_wp2_with fail
    go_region_held3 (fun w' => w'.cell? ⟨w2.heap.size, 1, none⟩ = some (.int .i64 r) ∧ Below w.heap.size w w')
      (first | (refine ⟨?_, ?_⟩ <;> first | (exact (B2.alloc B2.size _).drew) | (simp [*]; done)) | (go_split_ands; refine ⟨?_, ?_⟩ <;> first | exact keep1 (by assumption) hbk | exact keepB (by assumption) hbk (by have := Below.size (by assumption : Below w.heap.size w _); omega)))
      (first | (go_at_call_of 48 (Value.int .i64 b); refine (Hs.out _).mono ?_; rintro e wt ⟨rfl, hbk⟩))
    go_split_ands
    go_wp2
    go_ret
    exact ⟨rfl, by assumption⟩
  ·
    have h3' : IntKind.i64.wrap (-r) = nr := by rw [IntKind.wrap_i64]; unfold wrap64 at h3; exact h3
    have Hs := Lib.hid hsz
    clear hsz
    go_enter Tryd.func25, Tryd.ntmps25
    go_wp2_with fail
    refine (Hd.out _).mono ?_
    rintro e w1 ⟨rfl, hb1⟩
    have bA := ((Box.new w 2 a 0 ByteArray.empty 23).alloc _).keep hb1
    have bB := (Box.new (w.alloc _) 2 b 0 ByteArray.empty 23).keep hb1
    simp only [World.size_alloc] at bB
    have B1 : Below w.heap.size w w1 := (((Below.refl _ w).alloc (Nat.le_refl _) _).alloc (by simp) _).trans (hb1.mono (by simp; try omega))
    have qA0 := fun o => (bA.alloc o).k0
    have qA1 := fun o => (bA.alloc o).k1
    have qA2 := fun o => (bA.alloc o).k2
    have qA3 := fun o => (bA.alloc o).k3
    have qB0 := fun o => (bB.alloc o).k0
    have qB1 := fun o => (bB.alloc o).k1
    have qB2 := fun o => (bB.alloc o).k2
    have qB3 := fun o => (bB.alloc o).k3
    go_wp2_with fail
    refine (Hm.out _).mono ?_
    rintro e w2 ⟨rfl, hb2⟩
    clear qA0 qA1 qA2 qA3
    clear qB0 qB1 qB2 qB3
    have bQ := (Box.new w1 2 q 0 ByteArray.empty 23).keep hb2
    have B2 : Below w.heap.size w w2 := (B1.alloc B1.size _).trans (hb2.mono (by have := B1.size; simp; omega))
    clear bA bB
    have qQ0 := fun o => (bQ.alloc o).k0
    have qQ1 := fun o => (bQ.alloc o).k1
    have qQ2 := fun o => (bQ.alloc o).k2
    have qQ3 := fun o => (bQ.alloc o).k3
    go_wp2_with fail
    go_region_held3 (fun w' => w'.cell? ⟨w2.heap.size, 1, none⟩ = some (.int .i64 r) ∧ Below w.heap.size w w')
      (first | (refine ⟨?_, ?_⟩ <;> first | (exact (B2.alloc B2.size _).drew) | (simp [*]; done)) | (go_split_ands; refine ⟨?_, ?_⟩ <;> first | exact keep1 (by assumption) hbk | exact keepB (by assumption) hbk (by have := Below.size (by assumption : Below w.heap.size w _); omega)))
      (first | (go_at_call_of 48 (Value.int .i64 b); refine (Hs.out _).mono ?_; rintro e wt ⟨rfl, hbk⟩))
    go_split_ands
    go_wp2
    go_ret
    exact ⟨rfl, by assumption⟩
  ·
    have h3' : IntKind.i64.wrap (-r) = nr := by rw [IntKind.wrap_i64]; unfold wrap64 at h3; exact h3
    have Hs := Lib.hid hsz
    clear hsz
    go_enter Tryd.func25, Tryd.ntmps25
    go_wp2_with fail
    refine (Hd.out _).mono ?_
    rintro e w1 ⟨rfl, hb1⟩
    have bA := ((Box.new w 2 a 0 ByteArray.empty 23).alloc _).keep hb1
    have bB := (Box.new (w.alloc _) 2 b 0 ByteArray.empty 23).keep hb1
    simp only [World.size_alloc] at bB
    have B1 : Below w.heap.size w w1 := (((Below.refl _ w).alloc (Nat.le_refl _) _).alloc (by simp) _).trans (hb1.mono (by simp; try omega))
    have qA0 := fun o => (bA.alloc o).k0
    have qA1 := fun o => (bA.alloc o).k1
    have qA2 := fun o => (bA.alloc o).k2
    have qA3 := fun o => (bA.alloc o).k3
    have qB0 := fun o => (bB.alloc o).k0
    have qB1 := fun o => (bB.alloc o).k1
    have qB2 := fun o => (bB.alloc o).k2
    have qB3 := fun o => (bB.alloc o).k3
    go_wp2_with fail
    refine (Hm.out _).mono ?_
    rintro e w2 ⟨rfl, hb2⟩
    clear qA0 qA1 qA2 qA3
    clear qB0 qB1 qB2 qB3
    have bQ := (Box.new w1 2 q 0 ByteArray.empty 23).keep hb2
    have B2 : Below w.heap.size w w2 := (B1.alloc B1.size _).trans (hb2.mono (by have := B1.size; simp; omega))
    clear bA bB
    have qQ0 := fun o => (bQ.alloc o).k0
    have qQ1 := fun o => (bQ.alloc o).k1
    have qQ2 := fun o => (bQ.alloc o).k2
    have qQ3 := fun o => (bQ.alloc o).k3
    go_wp2_with fail
    go_region_held3 (fun w' => w'.cell? ⟨w2.heap.size, 1, none⟩ = some (.int .i64 r) ∧ Below w.heap.size w w')
      (first | (refine ⟨?_, ?_⟩ <;> first | (exact (B2.alloc B2.size _).drew) | (simp [*]; done)) | (go_split_ands; refine ⟨?_, ?_⟩ <;> first | exact keep1 (by assumption) hbk | exact keepB (by assumption) hbk (by have := Below.size (by assumption : Below w.heap.size w _); omega)))
      (first | (go_at_call_of 48 (Value.int .i64 b); refine (Hs.out _).mono ?_; rintro e wt ⟨rfl, hbk⟩))
    go_split_ands
    go_wp2
    go_ret
    exact ⟨rfl, by assumption⟩
  ·
    have t4 := decide_eq_false t2
    have t5 := decide_eq_false t3
    have h3' : IntKind.i64.wrap (-r) = nr := by rw [IntKind.wrap_i64]; unfold wrap64 at h3; exact h3
    have Hs := Lib.hid hsz
    clear hsz
    go_enter Tryd.func25, Tryd.ntmps25
    go_wp2_with fail
    refine (Hd.out _).mono ?_
    rintro e w1 ⟨rfl, hb1⟩
    have bA := ((Box.new w 2 a 0 ByteArray.empty 23).alloc _).keep hb1
    have bB := (Box.new (w.alloc _) 2 b 0 ByteArray.empty 23).keep hb1
    simp only [World.size_alloc] at bB
    have B1 : Below w.heap.size w w1 := (((Below.refl _ w).alloc (Nat.le_refl _) _).alloc (by simp) _).trans (hb1.mono (by simp; try omega))
    have qA0 := fun o => (bA.alloc o).k0
    have qA1 := fun o => (bA.alloc o).k1
    have qA2 := fun o => (bA.alloc o).k2
    have qA3 := fun o => (bA.alloc o).k3
    have qB0 := fun o => (bB.alloc o).k0
    have qB1 := fun o => (bB.alloc o).k1
    have qB2 := fun o => (bB.alloc o).k2
    have qB3 := fun o => (bB.alloc o).k3
    go_wp2_with fail
    refine (Hm.out _).mono ?_
    rintro e w2 ⟨rfl, hb2⟩
    clear qA0 qA1 qA2 qA3
    clear qB0 qB1 qB2 qB3
    have bQ := (Box.new w1 2 q 0 ByteArray.empty 23).keep hb2
    have B2 : Below w.heap.size w w2 := (B1.alloc B1.size _).trans (hb2.mono (by have := B1.size; simp; omega))
    clear bA bB
    have qQ0 := fun o => (bQ.alloc o).k0
    have qQ1 := fun o => (bQ.alloc o).k1
    have qQ2 := fun o => (bQ.alloc o).k2
    have qQ3 := fun o => (bQ.alloc o).k3
    go_wp2_with fail
    go_region_held3 (fun w' => w'.cell? ⟨w2.heap.size, 1, none⟩ = some (.int .i64 r) ∧ Below w.heap.size w w')
      (first | (refine ⟨?_, ?_⟩ <;> first | (exact (B2.alloc B2.size _).drew) | (simp [*]; done)) | (go_split_ands; refine ⟨?_, ?_⟩ <;> first | exact keep1 (by assumption) hbk | exact keepB (by assumption) hbk (by have := Below.size (by assumption : Below w.heap.size w _); omega)))
      (first | (go_at_call_of 48 (Value.int .i64 b); refine (Hs.out _).mono ?_; rintro e wt ⟨rfl, hbk⟩))
    go_split_ands
    go_wp2
    go_ret
    exact ⟨rfl, by assumption⟩
end Go.Proofs.YtdcbanfakcgokaaDoor.Va
