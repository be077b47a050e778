/-
  The law's kleene at one pair of false, true, null: true.
-/
import Derived.Test.YtdcbanfakcgokaaDoorKl
import Derived.Deep.DeepCutAuto
namespace Go.Proofs.YtdcbanfakcgokaaDoor.Va
open Go.RowKit

set_option maxRecDepth 100000 in
set_option maxHeartbeats 8000000 in
theorem kleene_ft (w : World) : Calls Tryd.prog 26 #[(.agg #[.int .i64 1, .int .i64 0, .int .i64 0, .string ByteArray.empty]), (.agg #[.int .i64 1, .int .i64 1, .int .i64 0, .string ByteArray.empty])] w (Ans (.bool true) w) := by
  have u1 : ∀ w, Calls Tryd.prog 39 #[.int .i64 2, (.agg #[.int .i64 1, .int .i64 0, .int .i64 0, .string ByteArray.empty])] w (Ans (.tuple #[(.agg #[.int .i64 1, .int .i64 1, .int .i64 0, .string ByteArray.empty]), .int .i64 0]) w) := fun w => Unary_not (d := .tru false) (.inr ⟨_, rfl⟩) w
  have u2 : ∀ w, Calls Tryd.prog 39 #[.int .i64 2, (.agg #[.int .i64 1, .int .i64 1, .int .i64 0, .string ByteArray.empty])] w (Ans (.tuple #[(.agg #[.int .i64 1, .int .i64 0, .int .i64 0, .string ByteArray.empty]), .int .i64 0]) w) := fun w => Unary_not (d := .tru true) (.inr ⟨_, rfl⟩) w
  have l3 : ∀ w, Calls Tryd.prog 49 #[.int .i64 12, (.agg #[.int .i64 1, .int .i64 0, .int .i64 0, .string ByteArray.empty]), (.agg #[.int .i64 1, .int .i64 1, .int .i64 0, .string ByteArray.empty])] w (Ans (.tuple #[(.agg #[.int .i64 1, .int .i64 0, .int .i64 0, .string ByteArray.empty]), .bool true]) w) := fun w => llogic_K3 12 (by decide) (x := .tru false) (y := .tru true) (.inr ⟨_, rfl⟩) (.inr ⟨_, rfl⟩) w
  have l4 : ∀ w, Calls Tryd.prog 49 #[.int .i64 13, (.agg #[.int .i64 1, .int .i64 1, .int .i64 0, .string ByteArray.empty]), (.agg #[.int .i64 1, .int .i64 0, .int .i64 0, .string ByteArray.empty])] w (Ans (.tuple #[(.agg #[.int .i64 1, .int .i64 1, .int .i64 0, .string ByteArray.empty]), .bool true]) w) := fun w => llogic_K3 13 (by decide) (x := .tru true) (y := .tru false) (.inr ⟨_, rfl⟩) (.inr ⟨_, rfl⟩) w
  have u5 : ∀ w, Calls Tryd.prog 39 #[.int .i64 2, (.agg #[.int .i64 1, .int .i64 1, .int .i64 0, .string ByteArray.empty])] w (Ans (.tuple #[(.agg #[.int .i64 1, .int .i64 0, .int .i64 0, .string ByteArray.empty]), .int .i64 0]) w) := fun w => Unary_not (d := .tru true) (.inr ⟨_, rfl⟩) w
  have l6 : ∀ w, Calls Tryd.prog 49 #[.int .i64 14, (.agg #[.int .i64 1, .int .i64 0, .int .i64 0, .string ByteArray.empty]), (.agg #[.int .i64 1, .int .i64 1, .int .i64 0, .string ByteArray.empty])] w (Ans (.tuple #[(.agg #[.int .i64 1, .int .i64 1, .int .i64 0, .string ByteArray.empty]), .bool true]) w) := fun w => llogic_K3 14 (by decide) (x := .tru false) (y := .tru true) (.inr ⟨_, rfl⟩) (.inr ⟨_, rfl⟩) w
  have l7 : ∀ w, Calls Tryd.prog 49 #[.int .i64 12, (.agg #[.int .i64 1, .int .i64 1, .int .i64 0, .string ByteArray.empty]), (.agg #[.int .i64 1, .int .i64 0, .int .i64 0, .string ByteArray.empty])] w (Ans (.tuple #[(.agg #[.int .i64 1, .int .i64 0, .int .i64 0, .string ByteArray.empty]), .bool true]) w) := fun w => llogic_K3 12 (by decide) (x := .tru true) (y := .tru false) (.inr ⟨_, rfl⟩) (.inr ⟨_, rfl⟩) w
  have Hu1 := Lib.hid u1
  clear u1
  have Hu2 := Lib.hid u2
  clear u2
  have Hl3 := Lib.hid l3
  clear l3
  have Hl4 := Lib.hid l4
  clear l4
  have Hu5 := Lib.hid u5
  clear u5
  have Hl6 := Lib.hid l6
  clear l6
  have Hl7 := Lib.hid l7
  clear l7
  go_enter Tryd.func26, Tryd.ntmps26
  go_wp2_with fail
  refine (Hu1.out _).mono ?_
  rintro e w1 ⟨rfl, hb1⟩
  have bA := ((Box.new w 1 0 0 ByteArray.empty 23).alloc _).keep hb1
  have bB := (Box.new (w.alloc _) 1 1 0 ByteArray.empty 23).keep hb1
  simp only [World.size_alloc] at bB
  have B1 : Below w.heap.size w w1 := (((Below.refl _ w).alloc (Nat.le_refl _) _).alloc (by simp) _).trans (hb1.mono (by simp; try omega))
  have qB0 := fun o => (bB.alloc o).k0
  have qB1 := fun o => (bB.alloc o).k1
  have qB2 := fun o => (bB.alloc o).k2
  have qB3 := fun o => (bB.alloc o).k3
  go_wp2_with fail
  refine (Hu2.out _).mono ?_
  rintro e w2 ⟨rfl, hb2⟩
  clear qB0 qB1 qB2 qB3
  have bA := (bA.alloc _).keep hb2
  have bB := (bB.alloc _).keep hb2
  have bR1 := (Box.new w1 1 1 0 ByteArray.empty 23).keep hb2
  have B2 : Below w.heap.size w w2 := (B1.alloc B1.size _).trans (hb2.mono (by have := B1.size; simp; omega))
  clear hb2
  have qA0 := fun o => (bA.alloc o).k0
  have qA1 := fun o => (bA.alloc o).k1
  have qA2 := fun o => (bA.alloc o).k2
  have qA3 := fun o => (bA.alloc o).k3
  have qB0 := fun o => (bB.alloc o).k0
  have qB1 := fun o => (bB.alloc o).k1
  have qB2 := fun o => (bB.alloc o).k2
  have qB3 := fun o => (bB.alloc o).k3
  go_wp2_with fail
  refine (Hl3.out _).mono ?_
  rintro e w3 ⟨rfl, hb3⟩
  clear qA0 qA1 qA2 qA3 qB0 qB1 qB2 qB3
  have bA := (bA.alloc _).keep hb3
  have bB := (bB.alloc _).keep hb3
  have bR1 := (bR1.alloc _).keep hb3
  have bR2 := (Box.new w2 1 0 0 ByteArray.empty 23).keep hb3
  have B3 : Below w.heap.size w w3 := (B2.alloc B2.size _).trans (hb3.mono (by have := B2.size; simp; omega))
  clear hb3
  have qR10 := fun o => (bR1.alloc o).k0
  have qR11 := fun o => (bR1.alloc o).k1
  have qR12 := fun o => (bR1.alloc o).k2
  have qR13 := fun o => (bR1.alloc o).k3
  have qR20 := fun o => (bR2.alloc o).k0
  have qR21 := fun o => (bR2.alloc o).k1
  have qR22 := fun o => (bR2.alloc o).k2
  have qR23 := fun o => (bR2.alloc o).k3
  go_wp2_with fail
  refine (Hl4.out _).mono ?_
  rintro e w4 ⟨rfl, hb4⟩
  clear qR10 qR11 qR12 qR13 qR20 qR21 qR22 qR23
  have bA := (bA.alloc _).keep hb4
  have bB := (bB.alloc _).keep hb4
  have bR1 := (bR1.alloc _).keep hb4
  have bR2 := (bR2.alloc _).keep hb4
  have bR3 := (Box.new w3 1 0 0 ByteArray.empty 23).keep hb4
  have B4 : Below w.heap.size w w4 := (B3.alloc B3.size _).trans (hb4.mono (by have := B3.size; simp; omega))
  clear hb4
  go_wp2_with fail
  refine (Hu5.out _).mono ?_
  rintro e w5 ⟨rfl, hb5⟩
  have bA := (bA.alloc _).keep hb5
  have bB := (bB.alloc _).keep hb5
  have bR1 := (bR1.alloc _).keep hb5
  have bR2 := (bR2.alloc _).keep hb5
  have bR3 := (bR3.alloc _).keep hb5
  have bR4 := (Box.new w4 1 1 0 ByteArray.empty 23).keep hb5
  have B5 : Below w.heap.size w w5 := (B4.alloc B4.size _).trans (hb5.mono (by have := B4.size; simp; omega))
  clear hb5
  have qA0 := fun o => (bA.alloc o).k0
  have qA1 := fun o => (bA.alloc o).k1
  have qA2 := fun o => (bA.alloc o).k2
  have qA3 := fun o => (bA.alloc o).k3
  have qB0 := fun o => (bB.alloc o).k0
  have qB1 := fun o => (bB.alloc o).k1
  have qB2 := fun o => (bB.alloc o).k2
  have qB3 := fun o => (bB.alloc o).k3
  go_wp2_with fail
  refine (Hl6.out _).mono ?_
  rintro e w6 ⟨rfl, hb6⟩
  clear qA0 qA1 qA2 qA3 qB0 qB1 qB2 qB3
  have bA := (bA.alloc _).keep hb6
  have bB := (bB.alloc _).keep hb6
  have bR1 := (bR1.alloc _).keep hb6
  have bR2 := (bR2.alloc _).keep hb6
  have bR3 := (bR3.alloc _).keep hb6
  have bR4 := (bR4.alloc _).keep hb6
  have bR5 := (Box.new w5 1 0 0 ByteArray.empty 23).keep hb6
  have B6 : Below w.heap.size w w6 := (B5.alloc B5.size _).trans (hb6.mono (by have := B5.size; simp; omega))
  clear hb6
  have qB0 := fun o => (bB.alloc o).k0
  have qB1 := fun o => (bB.alloc o).k1
  have qB2 := fun o => (bB.alloc o).k2
  have qB3 := fun o => (bB.alloc o).k3
  have qA0 := fun o => (bA.alloc o).k0
  have qA1 := fun o => (bA.alloc o).k1
  have qA2 := fun o => (bA.alloc o).k2
  have qA3 := fun o => (bA.alloc o).k3
  go_wp2_with fail
  refine (Hl7.out _).mono ?_
  rintro e w7 ⟨rfl, hb7⟩
  clear qB0 qB1 qB2 qB3 qA0 qA1 qA2 qA3
  have bA := (bA.alloc _).keep hb7
  have bB := (bB.alloc _).keep hb7
  have bR1 := (bR1.alloc _).keep hb7
  have bR2 := (bR2.alloc _).keep hb7
  have bR3 := (bR3.alloc _).keep hb7
  have bR4 := (bR4.alloc _).keep hb7
  have bR5 := (bR5.alloc _).keep hb7
  have bR6 := (Box.new w6 1 1 0 ByteArray.empty 23).keep hb7
  have B7 : Below w.heap.size w w7 := (B6.alloc B6.size _).trans (hb7.mono (by have := B6.size; simp; omega))
  clear hb7
  have qR30 := fun o => (bR3.alloc o).k0
  have qR31 := fun o => (bR3.alloc o).k1
  have qR32 := fun o => (bR3.alloc o).k2
  have qR33 := fun o => (bR3.alloc o).k3
  have qR50 := fun o => (bR5.alloc o).k0
  have qR51 := fun o => (bR5.alloc o).k1
  have qR52 := fun o => (bR5.alloc o).k2
  have qR53 := fun o => (bR5.alloc o).k3
  have qR60 := fun o => (bR6.alloc o).k0
  have qR61 := fun o => (bR6.alloc o).k1
  have qR62 := fun o => (bR6.alloc o).k2
  have qR63 := fun o => (bR6.alloc o).k3
  have qA0 := fun o => (bA.alloc o).k0
  have qA1 := fun o => (bA.alloc o).k1
  have qA2 := fun o => (bA.alloc o).k2
  have qA3 := fun o => (bA.alloc o).k3
  have qB0 := fun o => (bB.alloc o).k0
  have qB1 := fun o => (bB.alloc o).k1
  have qB2 := fun o => (bB.alloc o).k2
  have qB3 := fun o => (bB.alloc o).k3
  have qR10 := fun o => (bR1.alloc o).k0
  have qR11 := fun o => (bR1.alloc o).k1
  have qR12 := fun o => (bR1.alloc o).k2
  have qR13 := fun o => (bR1.alloc o).k3
  go_wp2_with fail
  have e0 : IntKind.i64.wrap 0 = 0 := by decide
  have e1 : IntKind.i64.wrap 1 = 1 := by decide
  go_region_held3 (fun w' => w'.cell? ⟨w3.heap.size, 0, none⟩ = some (.int .i64 1) ∧ w'.cell? ⟨w3.heap.size, 1, none⟩ = some (.int .i64 0) ∧ w'.cell? ⟨w3.heap.size, 2, none⟩ = some (.int .i64 0) ∧ w'.cell? ⟨w3.heap.size, 3, none⟩ = some (.string ByteArray.empty) ∧ w'.cell? ⟨w.heap.size, 1, none⟩ = some (.int .i64 0) ∧ w'.cell? ⟨w.heap.size + 1, 1, none⟩ = some (.int .i64 1) ∧ w'.cell? ⟨w6.heap.size, 0, none⟩ = some (.int .i64 1) ∧ w'.cell? ⟨w6.heap.size, 1, none⟩ = some (.int .i64 1) ∧ w'.cell? ⟨w6.heap.size, 2, none⟩ = some (.int .i64 0) ∧ w'.cell? ⟨w6.heap.size, 3, none⟩ = some (.string ByteArray.empty) ∧ w'.cell? ⟨w1.heap.size, 0, none⟩ = some (.int .i64 1) ∧ w'.cell? ⟨w1.heap.size, 1, none⟩ = some (.int .i64 1) ∧ w'.cell? ⟨w1.heap.size, 2, none⟩ = some (.int .i64 0) ∧ w'.cell? ⟨w1.heap.size, 3, none⟩ = some (.string ByteArray.empty) ∧ Below w.heap.size w w')
    (first | (refine ⟨?_, ?_, ?_, ?_, ?_, ?_, ?_, ?_, ?_, ?_, ?_, ?_, ?_, ?_, ?_⟩ <;> first | (exact (B7.alloc B7.size _).drew) | (simp [*]; done)) | (go_split_ands; refine ⟨?_, ?_, ?_, ?_, ?_, ?_, ?_, ?_, ?_, ?_, ?_, ?_, ?_, ?_, ?_⟩ <;> first | exact keep1 (by assumption) hbk | exact keepB (by assumption) hbk (by have := Below.size (by assumption : Below w.heap.size w _); omega) | exact keep1 (by assumption) ((Below.refl _ _).alloc (Nat.le_refl _) _) | exact keepB (by assumption) ((Below.refl _ _).alloc (Nat.le_refl _) _) (by have := Below.size (by assumption : Below w.heap.size w _); omega)))
    (first | (go_at_call_of 27 (Value.int .i64 0); refine (lthree_0 _).mono ?_; rintro e wt ⟨rfl, hbk⟩) | (go_at_call_of 27 (Value.int .i64 1); refine (lthree_1 _).mono ?_; rintro e wt ⟨rfl, hbk⟩))
  go_split_ands
  go_wp2
  go_ret
  exact ⟨rfl, by assumption⟩
end Go.Proofs.YtdcbanfakcgokaaDoor.Va
