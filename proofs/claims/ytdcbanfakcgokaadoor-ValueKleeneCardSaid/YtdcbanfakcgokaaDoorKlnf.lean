/-
  The law's kleene at one pair of false, true, null: true.
-/
import Derived.Test.YtdcbanfakcgokaaDoorKl
import Derived.Deep.DeepCutAuto
namespace Go.Proofs.YtdcbanfakcgokaaDoor.Va
open Go.RowKit

set_option maxRecDepth 100000 in
set_option maxHeartbeats 8000000 in
theorem kleene_nf (w : World) : Calls Tryd.prog 26 #[(.agg #[.int .i64 0, .int .i64 0, .int .i64 0, .string ByteArray.empty]), (.agg #[.int .i64 1, .int .i64 0, .int .i64 0, .string ByteArray.empty])] w (Ans (.bool true) w) := by
  have u1 : ∀ w, Calls Tryd.prog 39 #[.int .i64 2, (.agg #[.int .i64 0, .int .i64 0, .int .i64 0, .string ByteArray.empty])] w (Ans (.tuple #[(.agg #[.int .i64 0, .int .i64 0, .int .i64 0, .string ByteArray.empty]), .int .i64 0]) w) := fun w => Unary_not (d := .nul) (.inl rfl) w
  have u2 : ∀ w, Calls Tryd.prog 39 #[.int .i64 2, (.agg #[.int .i64 1, .int .i64 0, .int .i64 0, .string ByteArray.empty])] w (Ans (.tuple #[(.agg #[.int .i64 1, .int .i64 1, .int .i64 0, .string ByteArray.empty]), .int .i64 0]) w) := fun w => Unary_not (d := .tru false) (.inr ⟨_, rfl⟩) w
  have l3 : ∀ w, Calls Tryd.prog 49 #[.int .i64 12, (.agg #[.int .i64 0, .int .i64 0, .int .i64 0, .string ByteArray.empty]), (.agg #[.int .i64 1, .int .i64 0, .int .i64 0, .string ByteArray.empty])] w (Ans (.tuple #[(.agg #[.int .i64 1, .int .i64 0, .int .i64 0, .string ByteArray.empty]), .bool true]) w) := fun w => llogic_K3 12 (by decide) (x := .nul) (y := .tru false) (.inl rfl) (.inr ⟨_, rfl⟩) w
  have l4 : ∀ w, Calls Tryd.prog 49 #[.int .i64 13, (.agg #[.int .i64 0, .int .i64 0, .int .i64 0, .string ByteArray.empty]), (.agg #[.int .i64 1, .int .i64 1, .int .i64 0, .string ByteArray.empty])] w (Ans (.tuple #[(.agg #[.int .i64 1, .int .i64 1, .int .i64 0, .string ByteArray.empty]), .bool true]) w) := fun w => llogic_K3 13 (by decide) (x := .nul) (y := .tru true) (.inl rfl) (.inr ⟨_, rfl⟩) w
  have u5 : ∀ w, Calls Tryd.prog 39 #[.int .i64 2, (.agg #[.int .i64 1, .int .i64 1, .int .i64 0, .string ByteArray.empty])] w (Ans (.tuple #[(.agg #[.int .i64 1, .int .i64 0, .int .i64 0, .string ByteArray.empty]), .int .i64 0]) w) := fun w => Unary_not (d := .tru true) (.inr ⟨_, rfl⟩) w
  have l6 : ∀ w, Calls Tryd.prog 49 #[.int .i64 14, (.agg #[.int .i64 0, .int .i64 0, .int .i64 0, .string ByteArray.empty]), (.agg #[.int .i64 1, .int .i64 0, .int .i64 0, .string ByteArray.empty])] w (Ans (.tuple #[(.agg #[.int .i64 0, .int .i64 0, .int .i64 0, .string ByteArray.empty]), .bool true]) w) := fun w => llogic_K3 14 (by decide) (x := .nul) (y := .tru false) (.inl rfl) (.inr ⟨_, rfl⟩) w
  have l7 : ∀ w, Calls Tryd.prog 49 #[.int .i64 12, (.agg #[.int .i64 1, .int .i64 0, .int .i64 0, .string ByteArray.empty]), (.agg #[.int .i64 0, .int .i64 0, .int .i64 0, .string ByteArray.empty])] w (Ans (.tuple #[(.agg #[.int .i64 1, .int .i64 0, .int .i64 0, .string ByteArray.empty]), .bool true]) w) := fun w => llogic_K3 12 (by decide) (x := .tru false) (y := .nul) (.inr ⟨_, rfl⟩) (.inl rfl) w
  have m0 : ∀ w, Calls Tryd.prog 49 #[.int .i64 12, (.agg #[.int .i64 1, .int .i64 0, .int .i64 0, .string ByteArray.empty]), (.agg #[.int .i64 1, .int .i64 0, .int .i64 0, .string ByteArray.empty])] w (Ans (.tuple #[(.agg #[.int .i64 1, .int .i64 0, .int .i64 0, .string ByteArray.empty]), .bool true]) w) := fun w => llogic_K3 12 (by decide) (x := .tru false) (y := .tru false) (.inr ⟨_, rfl⟩) (.inr ⟨_, rfl⟩) w
  have x0 : ∀ w, Calls Tryd.prog 49 #[.int .i64 14, (.agg #[.int .i64 1, .int .i64 0, .int .i64 0, .string ByteArray.empty]), (.agg #[.int .i64 1, .int .i64 0, .int .i64 0, .string ByteArray.empty])] w (Ans (.tuple #[(.agg #[.int .i64 1, .int .i64 0, .int .i64 0, .string ByteArray.empty]), .bool true]) w) := fun w => llogic_K3 14 (by decide) (x := .tru false) (y := .tru false) (.inr ⟨_, rfl⟩) (.inr ⟨_, rfl⟩) w
  have m1 : ∀ w, Calls Tryd.prog 49 #[.int .i64 12, (.agg #[.int .i64 1, .int .i64 1, .int .i64 0, .string ByteArray.empty]), (.agg #[.int .i64 1, .int .i64 0, .int .i64 0, .string ByteArray.empty])] w (Ans (.tuple #[(.agg #[.int .i64 1, .int .i64 0, .int .i64 0, .string ByteArray.empty]), .bool true]) w) := fun w => llogic_K3 12 (by decide) (x := .tru true) (y := .tru false) (.inr ⟨_, rfl⟩) (.inr ⟨_, rfl⟩) w
  have x1 : ∀ w, Calls Tryd.prog 49 #[.int .i64 14, (.agg #[.int .i64 1, .int .i64 1, .int .i64 0, .string ByteArray.empty]), (.agg #[.int .i64 1, .int .i64 0, .int .i64 0, .string ByteArray.empty])] w (Ans (.tuple #[(.agg #[.int .i64 1, .int .i64 1, .int .i64 0, .string ByteArray.empty]), .bool true]) w) := fun w => llogic_K3 14 (by decide) (x := .tru true) (y := .tru false) (.inr ⟨_, rfl⟩) (.inr ⟨_, rfl⟩) w
  have Hu1 := Lib.hid u1
  clear u1
  have Hu2 := Lib.hid u2
  clear u2
  have Hl3 := Lib.hid l3
  clear l3
  have Hl4 := Lib.hid l4
  clear l4
  have Hu5 := Lib.hid u5
  clear u5
  have Hl6 := Lib.hid l6
  clear l6
  have Hl7 := Lib.hid l7
  clear l7
  have Hm0 := Lib.hid m0
  clear m0
  have Hx0 := Lib.hid x0
  clear x0
  have Hm1 := Lib.hid m1
  clear m1
  have Hx1 := Lib.hid x1
  clear x1
  go_enter Tryd.func26, Tryd.ntmps26
  go_wp2_with fail
  refine (Hu1.out _).mono ?_
  rintro e w1 ⟨rfl, hb1⟩
  have bA := ((Box.new w 0 0 0 ByteArray.empty 23).alloc _).keep hb1
  have bB := (Box.new (w.alloc _) 1 0 0 ByteArray.empty 23).keep hb1
  simp only [World.size_alloc] at bB
  have B1 : Below w.heap.size w w1 := (((Below.refl _ w).alloc (Nat.le_refl _) _).alloc (by simp) _).trans (hb1.mono (by simp; try omega))
  have qB0 := fun o => (bB.alloc o).k0
  have qB1 := fun o => (bB.alloc o).k1
  have qB2 := fun o => (bB.alloc o).k2
  have qB3 := fun o => (bB.alloc o).k3
  go_wp2_with fail
  refine (Hu2.out _).mono ?_
  rintro e w2 ⟨rfl, hb2⟩
  clear qB0 qB1 qB2 qB3
  have bA := (bA.alloc _).keep hb2
  have bB := (bB.alloc _).keep hb2
  have bR1 := (Box.new w1 0 0 0 ByteArray.empty 23).keep hb2
  have B2 : Below w.heap.size w w2 := (B1.alloc B1.size _).trans (hb2.mono (by have := B1.size; simp; omega))
  clear hb2
  have qA0 := fun o => (bA.alloc o).k0
  have qA1 := fun o => (bA.alloc o).k1
  have qA2 := fun o => (bA.alloc o).k2
  have qA3 := fun o => (bA.alloc o).k3
  have qB0 := fun o => (bB.alloc o).k0
  have qB1 := fun o => (bB.alloc o).k1
  have qB2 := fun o => (bB.alloc o).k2
  have qB3 := fun o => (bB.alloc o).k3
  go_wp2_with fail
  refine (Hl3.out _).mono ?_
  rintro e w3 ⟨rfl, hb3⟩
  clear qA0 qA1 qA2 qA3 qB0 qB1 qB2 qB3
  have bA := (bA.alloc _).keep hb3
  have bB := (bB.alloc _).keep hb3
  have bR1 := (bR1.alloc _).keep hb3
  have bR2 := (Box.new w2 1 1 0 ByteArray.empty 23).keep hb3
  have B3 : Below w.heap.size w w3 := (B2.alloc B2.size _).trans (hb3.mono (by have := B2.size; simp; omega))
  clear hb3
  have qR10 := fun o => (bR1.alloc o).k0
  have qR11 := fun o => (bR1.alloc o).k1
  have qR12 := fun o => (bR1.alloc o).k2
  have qR13 := fun o => (bR1.alloc o).k3
  have qR20 := fun o => (bR2.alloc o).k0
  have qR21 := fun o => (bR2.alloc o).k1
  have qR22 := fun o => (bR2.alloc o).k2
  have qR23 := fun o => (bR2.alloc o).k3
  go_wp2_with fail
  refine (Hl4.out _).mono ?_
  rintro e w4 ⟨rfl, hb4⟩
  clear qR10 qR11 qR12 qR13 qR20 qR21 qR22 qR23
  have bA := (bA.alloc _).keep hb4
  have bB := (bB.alloc _).keep hb4
  have bR1 := (bR1.alloc _).keep hb4
  have bR2 := (bR2.alloc _).keep hb4
  have bR3 := (Box.new w3 1 0 0 ByteArray.empty 23).keep hb4
  have B4 : Below w.heap.size w w4 := (B3.alloc B3.size _).trans (hb4.mono (by have := B3.size; simp; omega))
  clear hb4
  go_wp2_with fail
  refine (Hu5.out _).mono ?_
  rintro e w5 ⟨rfl, hb5⟩
  have bA := (bA.alloc _).keep hb5
  have bB := (bB.alloc _).keep hb5
  have bR1 := (bR1.alloc _).keep hb5
  have bR2 := (bR2.alloc _).keep hb5
  have bR3 := (bR3.alloc _).keep hb5
  have bR4 := (Box.new w4 1 1 0 ByteArray.empty 23).keep hb5
  have B5 : Below w.heap.size w w5 := (B4.alloc B4.size _).trans (hb5.mono (by have := B4.size; simp; omega))
  clear hb5
  have qA0 := fun o => (bA.alloc o).k0
  have qA1 := fun o => (bA.alloc o).k1
  have qA2 := fun o => (bA.alloc o).k2
  have qA3 := fun o => (bA.alloc o).k3
  have qB0 := fun o => (bB.alloc o).k0
  have qB1 := fun o => (bB.alloc o).k1
  have qB2 := fun o => (bB.alloc o).k2
  have qB3 := fun o => (bB.alloc o).k3
  go_wp2_with fail
  refine (Hl6.out _).mono ?_
  rintro e w6 ⟨rfl, hb6⟩
  clear qA0 qA1 qA2 qA3 qB0 qB1 qB2 qB3
  have bA := (bA.alloc _).keep hb6
  have bB := (bB.alloc _).keep hb6
  have bR1 := (bR1.alloc _).keep hb6
  have bR2 := (bR2.alloc _).keep hb6
  have bR3 := (bR3.alloc _).keep hb6
  have bR4 := (bR4.alloc _).keep hb6
  have bR5 := (Box.new w5 1 0 0 ByteArray.empty 23).keep hb6
  have B6 : Below w.heap.size w w6 := (B5.alloc B5.size _).trans (hb6.mono (by have := B5.size; simp; omega))
  clear hb6
  have qB0 := fun o => (bB.alloc o).k0
  have qB1 := fun o => (bB.alloc o).k1
  have qB2 := fun o => (bB.alloc o).k2
  have qB3 := fun o => (bB.alloc o).k3
  have qA0 := fun o => (bA.alloc o).k0
  have qA1 := fun o => (bA.alloc o).k1
  have qA2 := fun o => (bA.alloc o).k2
  have qA3 := fun o => (bA.alloc o).k3
  go_wp2_with fail
  refine (Hl7.out _).mono ?_
  rintro e w7 ⟨rfl, hb7⟩
  clear qB0 qB1 qB2 qB3 qA0 qA1 qA2 qA3
  have bA := (bA.alloc _).keep hb7
  have bB := (bB.alloc _).keep hb7
  have bR1 := (bR1.alloc _).keep hb7
  have bR2 := (bR2.alloc _).keep hb7
  have bR3 := (bR3.alloc _).keep hb7
  have bR4 := (bR4.alloc _).keep hb7
  have bR5 := (bR5.alloc _).keep hb7
  have bR6 := (Box.new w6 0 0 0 ByteArray.empty 23).keep hb7
  have B7 : Below w.heap.size w w7 := (B6.alloc B6.size _).trans (hb7.mono (by have := B6.size; simp; omega))
  clear hb7
  have qR30 := fun o => (bR3.alloc o).k0
  have qR31 := fun o => (bR3.alloc o).k1
  have qR32 := fun o => (bR3.alloc o).k2
  have qR33 := fun o => (bR3.alloc o).k3
  have qR50 := fun o => (bR5.alloc o).k0
  have qR51 := fun o => (bR5.alloc o).k1
  have qR52 := fun o => (bR5.alloc o).k2
  have qR53 := fun o => (bR5.alloc o).k3
  have qR60 := fun o => (bR6.alloc o).k0
  have qR61 := fun o => (bR6.alloc o).k1
  have qR62 := fun o => (bR6.alloc o).k2
  have qR63 := fun o => (bR6.alloc o).k3
  have qA0 := fun o => (bA.alloc o).k0
  have qA1 := fun o => (bA.alloc o).k1
  have qA2 := fun o => (bA.alloc o).k2
  have qA3 := fun o => (bA.alloc o).k3
  have qB0 := fun o => (bB.alloc o).k0
  have qB1 := fun o => (bB.alloc o).k1
  have qB2 := fun o => (bB.alloc o).k2
  have qB3 := fun o => (bB.alloc o).k3
  go_wp2_with fail
  have hB := Lib.hid (bB.alloc (.cells #[.int .i64 1, .int .i64 0, .int .i64 0, .string ByteArray.empty] 23))
  have hR3 := Lib.hid (bR3.alloc (.cells #[.int .i64 1, .int .i64 0, .int .i64 0, .string ByteArray.empty] 23))
  have hW := B7.alloc B7.size (.cells #[.int .i64 1, .int .i64 0, .int .i64 0, .string ByteArray.empty] 23)
  generalize w7.alloc (.cells #[.int .i64 1, .int .i64 0, .int .i64 0, .string ByteArray.empty] 23) = wz at *
  clear qR30 qR31 qR32 qR33
  clear qR50 qR51 qR52 qR53
  clear qR60 qR61 qR62 qR63
  clear qA0 qA1 qA2 qA3
  clear qB0 qB1 qB2 qB3
  clear bA bB bR1 bR2 bR3 bR4 bR5 bR6 B1 B2 B3 B4 B5 B6 B7
  refine wp_loop_rounds 3 ?_
  rw [rounds_succ]
  go_upto_region 16 with fail
  go_cut [20, 21] from 118 to 124 (fun s20 s21 wx => ∃ g : Nat, s20 = .pointer (some ⟨g, 0, none⟩) ∧ s21 = .bool true ∧ Box wx (g) ⟨1, 0, 0, ByteArray.empty⟩ ∧ Box wx (w3.heap.size) ⟨1, 0, 0, ByteArray.empty⟩ ∧ Box wx (w.heap.size + 1) ⟨1, 0, 0, ByteArray.empty⟩ ∧ Below w.heap.size w wx)
  case first =>
    obtain ⟨k0, k1, k2, k3, _, _, _, _⟩ := hB.out
    have ka0 := fun o => (hB.out.alloc o).k0
    have ka1 := fun o => (hB.out.alloc o).k1
    have ka2 := fun o => (hB.out.alloc o).k2
    have ka3 := fun o => (hB.out.alloc o).k3
    have Hl := Hm0
    go_region_with (first | (go_at_call_of 27 (Value.int .i64 0); refine (lthree_0 _).mono ?_; rintro e wt ⟨rfl, hbt⟩; have bR3t := Lib.hid (Box.keep (by first | exact hR3.out.drew | exact (hR3.out.alloc _).drew) hbt); have bBt := Lib.hid (Box.keep (by first | exact hB.out.drew | exact (hB.out.alloc _).drew) hbt); have hWt := keepB (by first | exact hW.drew | exact (hW.alloc hW.size _).drew) hbt (by have := hW.size; simp; omega); obtain ⟨t0, t1, t2, t3, _, _, _, _⟩ := bBt.out; have ta0 := (fun o => (bBt.out.alloc o).k0); have ta1 := (fun o => (bBt.out.alloc o).k1); have ta2 := (fun o => (bBt.out.alloc o).k2); have ta3 := (fun o => (bBt.out.alloc o).k3)) | (go_at_call_of 49 (Value.int .i64 12); refine (Hl.out _).mono ?_; rintro e wl ⟨rfl, hbl⟩; have bR3l := Lib.hid (Box.keep (by first | exact bR3t.out | exact bR3t.out.alloc _) hbl); have bBl := Lib.hid (Box.keep (by first | exact bBt.out | exact bBt.out.alloc _) hbl); have hWl := keepB (by first | exact hWt | exact hWt.alloc hWt.size _) hbl (by have := hWt.size; simp; omega); (first | (have bZl := Lib.hid (Box.keep (Box.new wt 0 0 0 ⟨#[]⟩ 23) hbl); obtain ⟨z0, z1, z2, z3, y0, y1, y2, y3⟩ := bZl.out) | (have bZl := Lib.hid (Box.keep (Box.keep (Box.new wz 0 0 0 ⟨#[]⟩ 23).drew hbt) hbl); obtain ⟨z0, z1, z2, z3, y0, y1, y2, y3⟩ := bZl.out) | skip)))
    all_goals go_wp2_with fail
    all_goals go_meet
    all_goals first | (refine ⟨wl.heap.size, ?_, rfl, ?_⟩; (with_reducible rfl); exact ⟨Box.new wl _ _ _ _ _, bR3l.out.alloc _, bBl.out.alloc _, hWl.alloc hWl.size _⟩) | (refine ⟨wt.heap.size, ?_, rfl, ?_⟩; (with_reducible rfl); exact ⟨bZl.out.put _ _ _ _, bR3l.out.other (Nat.ne_of_lt bR3t.out.lt) _ _ _ _, bBl.out.other (Nat.ne_of_lt bBt.out.lt) _ _ _ _, below_putV hWl hWt.size _ _ _ _⟩) | (refine ⟨wz.heap.size, ?_, rfl, ?_⟩; (with_reducible rfl); exact ⟨bZl.out.put _ _ _ _, bR3l.out.other (Nat.ne_of_lt hR3.out.lt) _ _ _ _, bBl.out.other (Nat.ne_of_lt hB.out.lt) _ _ _ _, below_putV hWl hW.size _ _ _ _⟩)
  case rest =>
  obtain ⟨wm0, rfl⟩ : ∃ wy : World, wy = wc := ⟨_, rfl⟩
  obtain ⟨gM, rfl, rfl, iM, iR3, iB, iW⟩ := hcut
  clear hW hR3 hB
  have hW := iW
  clear iW
  have hM := Lib.hid iM
  clear iM
  have hR3 := Lib.hid iR3
  clear iR3
  have hB := Lib.hid iB
  clear iB
  go_upto_region 17 with fail
  go_cut [22, 23] from 125 to 131 (fun s20 s21 wx => ∃ g : Nat, s20 = .pointer (some ⟨g, 0, none⟩) ∧ s21 = .bool true ∧ Box wx (g) ⟨1, 0, 0, ByteArray.empty⟩ ∧ Box wx (w3.heap.size) ⟨1, 0, 0, ByteArray.empty⟩ ∧ Box wx (w.heap.size + 1) ⟨1, 0, 0, ByteArray.empty⟩ ∧ Box wx (gM) ⟨1, 0, 0, ByteArray.empty⟩ ∧ Below w.heap.size w wx)
  case first =>
    obtain ⟨k0, k1, k2, k3, _, _, _, _⟩ := hB.out
    have ka0 := fun o => (hB.out.alloc o).k0
    have ka1 := fun o => (hB.out.alloc o).k1
    have ka2 := fun o => (hB.out.alloc o).k2
    have ka3 := fun o => (hB.out.alloc o).k3
    have Hl := Hx0
    go_region_with (first | (go_at_call_of 27 (Value.int .i64 0); refine (lthree_0 _).mono ?_; rintro e wt ⟨rfl, hbt⟩; have bR3t := Lib.hid (Box.keep (by first | exact hR3.out.drew | exact (hR3.out.alloc _).drew) hbt); have bBt := Lib.hid (Box.keep (by first | exact hB.out.drew | exact (hB.out.alloc _).drew) hbt); have bMt := Lib.hid (Box.keep (by first | exact hM.out.drew | exact (hM.out.alloc _).drew) hbt); have hWt := keepB (by first | exact hW.drew | exact (hW.alloc hW.size _).drew) hbt (by have := hW.size; simp; omega); obtain ⟨t0, t1, t2, t3, _, _, _, _⟩ := bBt.out; have ta0 := (fun o => (bBt.out.alloc o).k0); have ta1 := (fun o => (bBt.out.alloc o).k1); have ta2 := (fun o => (bBt.out.alloc o).k2); have ta3 := (fun o => (bBt.out.alloc o).k3)) | (go_at_call_of 49 (Value.int .i64 14); refine (Hl.out _).mono ?_; rintro e wl ⟨rfl, hbl⟩; have bR3l := Lib.hid (Box.keep (by first | exact bR3t.out | exact bR3t.out.alloc _) hbl); have bBl := Lib.hid (Box.keep (by first | exact bBt.out | exact bBt.out.alloc _) hbl); have bMl := Lib.hid (Box.keep (by first | exact bMt.out | exact bMt.out.alloc _) hbl); have hWl := keepB (by first | exact hWt | exact hWt.alloc hWt.size _) hbl (by have := hWt.size; simp; omega); (first | (have bZl := Lib.hid (Box.keep (Box.new wt 0 0 0 ⟨#[]⟩ 23) hbl); obtain ⟨z0, z1, z2, z3, y0, y1, y2, y3⟩ := bZl.out) | (have bZl := Lib.hid (Box.keep (Box.keep (Box.new wm0 0 0 0 ⟨#[]⟩ 23).drew hbt) hbl); obtain ⟨z0, z1, z2, z3, y0, y1, y2, y3⟩ := bZl.out) | skip)))
    all_goals go_wp2_with fail
    all_goals go_meet
    all_goals first | (refine ⟨wl.heap.size, ?_, rfl, ?_⟩; (with_reducible rfl); exact ⟨Box.new wl _ _ _ _ _, bR3l.out.alloc _, bBl.out.alloc _, bMl.out.alloc _, hWl.alloc hWl.size _⟩) | (refine ⟨wt.heap.size, ?_, rfl, ?_⟩; (with_reducible rfl); exact ⟨bZl.out.put _ _ _ _, bR3l.out.other (Nat.ne_of_lt bR3t.out.lt) _ _ _ _, bBl.out.other (Nat.ne_of_lt bBt.out.lt) _ _ _ _, bMl.out.other (Nat.ne_of_lt bMt.out.lt) _ _ _ _, below_putV hWl hWt.size _ _ _ _⟩) | (refine ⟨wm0.heap.size, ?_, rfl, ?_⟩; (with_reducible rfl); exact ⟨bZl.out.put _ _ _ _, bR3l.out.other (Nat.ne_of_lt hR3.out.lt) _ _ _ _, bBl.out.other (Nat.ne_of_lt hB.out.lt) _ _ _ _, bMl.out.other (Nat.ne_of_lt hM.out.lt) _ _ _ _, below_putV hWl hW.size _ _ _ _⟩)
  case rest =>
  obtain ⟨wx0, rfl⟩ : ∃ wy : World, wy = wc := ⟨_, rfl⟩
  obtain ⟨gX, rfl, rfl, iX, iR3, iB, iM, iW⟩ := hcut
  clear hW hR3 hB hM
  have hW := iW
  clear iW
  have hX := Lib.hid iX
  clear iX
  have hR3 := Lib.hid iR3
  clear iR3
  have hB := Lib.hid iB
  clear iB
  have hM := Lib.hid iM
  clear iM
  obtain ⟨cR30, cR31, cR32, cR33, _, _, _, _⟩ := hR3.out
  obtain ⟨cB0, cB1, cB2, cB3, _, _, _, _⟩ := hB.out
  obtain ⟨cM0, cM1, cM2, cM3, _, _, _, _⟩ := hM.out
  obtain ⟨cX0, cX1, cX2, cX3, _, _, _, _⟩ := hX.out
  go_wp2_with fail
  clear cR30 cR31 cR32 cR33
  clear cB0 cB1 cB2 cB3
  clear cM0 cM1 cM2 cM3
  clear cX0 cX1 cX2 cX3
  clear hM hX
  rw [rounds_succ]
  go_upto_region 16 with fail
  go_cut [20, 21] from 118 to 124 (fun s20 s21 wx => ∃ g : Nat, s20 = .pointer (some ⟨g, 0, none⟩) ∧ s21 = .bool true ∧ Box wx (g) ⟨1, 0, 0, ByteArray.empty⟩ ∧ Box wx (w3.heap.size) ⟨1, 0, 0, ByteArray.empty⟩ ∧ Box wx (w.heap.size + 1) ⟨1, 0, 0, ByteArray.empty⟩ ∧ Below w.heap.size w wx)
  case first =>
    obtain ⟨k0, k1, k2, k3, _, _, _, _⟩ := hB.out
    have ka0 := fun o => (hB.out.alloc o).k0
    have ka1 := fun o => (hB.out.alloc o).k1
    have ka2 := fun o => (hB.out.alloc o).k2
    have ka3 := fun o => (hB.out.alloc o).k3
    have Hl := Hm1
    go_region_with (first | (go_at_call_of 27 (Value.int .i64 1); refine (lthree_1 _).mono ?_; rintro e wt ⟨rfl, hbt⟩; have bR3t := Lib.hid (Box.keep (by first | exact hR3.out.drew | exact (hR3.out.alloc _).drew) hbt); have bBt := Lib.hid (Box.keep (by first | exact hB.out.drew | exact (hB.out.alloc _).drew) hbt); have hWt := keepB (by first | exact hW.drew | exact (hW.alloc hW.size _).drew) hbt (by have := hW.size; simp; omega); obtain ⟨t0, t1, t2, t3, _, _, _, _⟩ := bBt.out; have ta0 := (fun o => (bBt.out.alloc o).k0); have ta1 := (fun o => (bBt.out.alloc o).k1); have ta2 := (fun o => (bBt.out.alloc o).k2); have ta3 := (fun o => (bBt.out.alloc o).k3)) | (go_at_call_of 49 (Value.int .i64 12); refine (Hl.out _).mono ?_; rintro e wl ⟨rfl, hbl⟩; have bR3l := Lib.hid (Box.keep (by first | exact bR3t.out | exact bR3t.out.alloc _) hbl); have bBl := Lib.hid (Box.keep (by first | exact bBt.out | exact bBt.out.alloc _) hbl); have hWl := keepB (by first | exact hWt | exact hWt.alloc hWt.size _) hbl (by have := hWt.size; simp; omega); (first | (have bZl := Lib.hid (Box.keep (Box.new wt 0 0 0 ⟨#[]⟩ 23) hbl); obtain ⟨z0, z1, z2, z3, y0, y1, y2, y3⟩ := bZl.out) | (have bZl := Lib.hid (Box.keep (Box.keep (Box.new wx0 0 0 0 ⟨#[]⟩ 23).drew hbt) hbl); obtain ⟨z0, z1, z2, z3, y0, y1, y2, y3⟩ := bZl.out) | skip)))
    all_goals go_wp2_with fail
    all_goals go_meet
    all_goals first | (refine ⟨wl.heap.size, ?_, rfl, ?_⟩; (with_reducible rfl); exact ⟨Box.new wl _ _ _ _ _, bR3l.out.alloc _, bBl.out.alloc _, hWl.alloc hWl.size _⟩) | (refine ⟨wt.heap.size, ?_, rfl, ?_⟩; (with_reducible rfl); exact ⟨bZl.out.put _ _ _ _, bR3l.out.other (Nat.ne_of_lt bR3t.out.lt) _ _ _ _, bBl.out.other (Nat.ne_of_lt bBt.out.lt) _ _ _ _, below_putV hWl hWt.size _ _ _ _⟩) | (refine ⟨wx0.heap.size, ?_, rfl, ?_⟩; (with_reducible rfl); exact ⟨bZl.out.put _ _ _ _, bR3l.out.other (Nat.ne_of_lt hR3.out.lt) _ _ _ _, bBl.out.other (Nat.ne_of_lt hB.out.lt) _ _ _ _, below_putV hWl hW.size _ _ _ _⟩)
  case rest =>
  obtain ⟨wm1, rfl⟩ : ∃ wy : World, wy = wc := ⟨_, rfl⟩
  obtain ⟨gM, rfl, rfl, iM, iR3, iB, iW⟩ := hcut
  clear hW hR3 hB
  have hW := iW
  clear iW
  have hM := Lib.hid iM
  clear iM
  have hR3 := Lib.hid iR3
  clear iR3
  have hB := Lib.hid iB
  clear iB
  go_upto_region 17 with fail
  go_cut [22, 23] from 125 to 131 (fun s20 s21 wx => ∃ g : Nat, s20 = .pointer (some ⟨g, 0, none⟩) ∧ s21 = .bool true ∧ Box wx (g) ⟨1, 1, 0, ByteArray.empty⟩ ∧ Box wx (w3.heap.size) ⟨1, 0, 0, ByteArray.empty⟩ ∧ Box wx (w.heap.size + 1) ⟨1, 0, 0, ByteArray.empty⟩ ∧ Box wx (gM) ⟨1, 0, 0, ByteArray.empty⟩ ∧ Below w.heap.size w wx)
  case first =>
    obtain ⟨k0, k1, k2, k3, _, _, _, _⟩ := hB.out
    have ka0 := fun o => (hB.out.alloc o).k0
    have ka1 := fun o => (hB.out.alloc o).k1
    have ka2 := fun o => (hB.out.alloc o).k2
    have ka3 := fun o => (hB.out.alloc o).k3
    have Hl := Hx1
    go_region_with (first | (go_at_call_of 27 (Value.int .i64 1); refine (lthree_1 _).mono ?_; rintro e wt ⟨rfl, hbt⟩; have bR3t := Lib.hid (Box.keep (by first | exact hR3.out.drew | exact (hR3.out.alloc _).drew) hbt); have bBt := Lib.hid (Box.keep (by first | exact hB.out.drew | exact (hB.out.alloc _).drew) hbt); have bMt := Lib.hid (Box.keep (by first | exact hM.out.drew | exact (hM.out.alloc _).drew) hbt); have hWt := keepB (by first | exact hW.drew | exact (hW.alloc hW.size _).drew) hbt (by have := hW.size; simp; omega); obtain ⟨t0, t1, t2, t3, _, _, _, _⟩ := bBt.out; have ta0 := (fun o => (bBt.out.alloc o).k0); have ta1 := (fun o => (bBt.out.alloc o).k1); have ta2 := (fun o => (bBt.out.alloc o).k2); have ta3 := (fun o => (bBt.out.alloc o).k3)) | (go_at_call_of 49 (Value.int .i64 14); refine (Hl.out _).mono ?_; rintro e wl ⟨rfl, hbl⟩; have bR3l := Lib.hid (Box.keep (by first | exact bR3t.out | exact bR3t.out.alloc _) hbl); have bBl := Lib.hid (Box.keep (by first | exact bBt.out | exact bBt.out.alloc _) hbl); have bMl := Lib.hid (Box.keep (by first | exact bMt.out | exact bMt.out.alloc _) hbl); have hWl := keepB (by first | exact hWt | exact hWt.alloc hWt.size _) hbl (by have := hWt.size; simp; omega); (first | (have bZl := Lib.hid (Box.keep (Box.new wt 0 0 0 ⟨#[]⟩ 23) hbl); obtain ⟨z0, z1, z2, z3, y0, y1, y2, y3⟩ := bZl.out) | (have bZl := Lib.hid (Box.keep (Box.keep (Box.new wm1 0 0 0 ⟨#[]⟩ 23).drew hbt) hbl); obtain ⟨z0, z1, z2, z3, y0, y1, y2, y3⟩ := bZl.out) | skip)))
    all_goals go_wp2_with fail
    all_goals go_meet
    all_goals first | (refine ⟨wl.heap.size, ?_, rfl, ?_⟩; (with_reducible rfl); exact ⟨Box.new wl _ _ _ _ _, bR3l.out.alloc _, bBl.out.alloc _, bMl.out.alloc _, hWl.alloc hWl.size _⟩) | (refine ⟨wt.heap.size, ?_, rfl, ?_⟩; (with_reducible rfl); exact ⟨bZl.out.put _ _ _ _, bR3l.out.other (Nat.ne_of_lt bR3t.out.lt) _ _ _ _, bBl.out.other (Nat.ne_of_lt bBt.out.lt) _ _ _ _, bMl.out.other (Nat.ne_of_lt bMt.out.lt) _ _ _ _, below_putV hWl hWt.size _ _ _ _⟩) | (refine ⟨wm1.heap.size, ?_, rfl, ?_⟩; (with_reducible rfl); exact ⟨bZl.out.put _ _ _ _, bR3l.out.other (Nat.ne_of_lt hR3.out.lt) _ _ _ _, bBl.out.other (Nat.ne_of_lt hB.out.lt) _ _ _ _, bMl.out.other (Nat.ne_of_lt hM.out.lt) _ _ _ _, below_putV hWl hW.size _ _ _ _⟩)
  case rest =>
  obtain ⟨wx1, rfl⟩ : ∃ wy : World, wy = wc := ⟨_, rfl⟩
  obtain ⟨gX, rfl, rfl, iX, iR3, iB, iM, iW⟩ := hcut
  clear hW hR3 hB hM
  have hW := iW
  clear iW
  have hX := Lib.hid iX
  clear iX
  have hR3 := Lib.hid iR3
  clear iR3
  have hB := Lib.hid iB
  clear iB
  have hM := Lib.hid iM
  clear iM
  obtain ⟨cR30, cR31, cR32, cR33, _, _, _, _⟩ := hR3.out
  obtain ⟨cB0, cB1, cB2, cB3, _, _, _, _⟩ := hB.out
  obtain ⟨cM0, cM1, cM2, cM3, _, _, _, _⟩ := hM.out
  obtain ⟨cX0, cX1, cX2, cX3, _, _, _, _⟩ := hX.out
  go_wp2_with fail
  clear cR30 cR31 cR32 cR33
  clear cB0 cB1 cB2 cB3
  clear cM0 cM1 cM2 cM3
  clear cX0 cX1 cX2 cX3
  clear hM hX
  rw [rounds_succ]
  obtain ⟨cR30, cR31, cR32, cR33, _, _, _, _⟩ := hR3.out
  obtain ⟨cB0, cB1, cB2, cB3, _, _, _, _⟩ := hB.out
  go_wp2_with fail
  go_region_held3 (fun w' => w'.cell? ⟨w3.heap.size, 0, none⟩ = some (.int .i64 1) ∧ w'.cell? ⟨w.heap.size + 1, 0, none⟩ = some (.int .i64 1) ∧ w'.cell? ⟨w.heap.size + 1, 1, none⟩ = some (.int .i64 0) ∧ w'.cell? ⟨w.heap.size + 1, 2, none⟩ = some (.int .i64 0) ∧ w'.cell? ⟨w.heap.size + 1, 3, none⟩ = some (.string ByteArray.empty) ∧ Below w.heap.size w w')
    (first | (refine ⟨?_, ?_, ?_, ?_, ?_, ?_⟩ <;> first | (exact hW.drew) | (simp [*]; done)) | (go_split_ands; refine ⟨?_, ?_, ?_, ?_, ?_, ?_⟩ <;> first | exact keep1 (by assumption) hbk | exact keepB (by assumption) hbk (by have := Below.size (by assumption : Below w.heap.size w _); omega) | exact keep1 (by assumption) ((Below.refl _ _).alloc (Nat.le_refl _) _) | exact keepB (by assumption) ((Below.refl _ _).alloc (Nat.le_refl _) _) (by have := Below.size (by assumption : Below w.heap.size w _); omega)))
    (first | (go_at_call_of 27 (Value.int .i64 0); refine (lthree_0 _).mono ?_; rintro e wt ⟨rfl, hbk⟩))
  go_split_ands
  go_wp2
  go_ret
  exact ⟨rfl, by assumption⟩
end Go.Proofs.YtdcbanfakcgokaaDoor.Va
