/-
  The law ValueRing: every call returns true and leaves what was there as it was.
-/
import Derived.Test.YtdcbanfakcgokaaDoorRin
import Derived.Deep.DeepCutAuto
namespace Go.Proofs.YtdcbanfakcgokaaDoor.Va
open Go.RowKit

set_option maxRecDepth 100000 in
set_option maxHeartbeats 8000000 in
theorem vring_of (a b c d e f a1 a2 b1 b2 c1 c2 m n o mn p q : Int) (w : World) (hmn : wrap64 (m * n) = mn)
    (hg1 : ∀ w, Calls Tryd.prog 18 #[.int .i64 a, .int .i64 b, .int .i64 255] w (Ans (V.mk 3 a1 a2 ByteArray.empty).v w))
    (hg2 : ∀ w, Calls Tryd.prog 18 #[.int .i64 c, .int .i64 d, .int .i64 255] w (Ans (V.mk 3 b1 b2 ByteArray.empty).v w))
    (hg3 : ∀ w, Calls Tryd.prog 18 #[.int .i64 e, .int .i64 f, .int .i64 255] w (Ans (V.mk 3 c1 c2 ByteArray.empty).v w))
    (hr1 : ∀ w, Calls Tryd.prog 19 #[(V.mk 3 a1 a2 ByteArray.empty).v, (V.mk 3 b1 b2 ByteArray.empty).v, (V.mk 3 c1 c2 ByteArray.empty).v] w (Ans (.bool true) w))
    (hn1 : ∀ w, Calls Tryd.prog 20 #[(V.mk 3 a1 a2 ByteArray.empty).v, (V.mk 3 b1 b2 ByteArray.empty).v] w (Ans (.bool true) w))
    (hk1 : ∀ w, Calls Tryd.prog 21 #[.int .i64 a, .int .i64 1048575] w fun e w' => e = .returned (.int .i64 m) ∧ w' = w)
    (hk2 : ∀ w, Calls Tryd.prog 21 #[.int .i64 c, .int .i64 1048575] w fun e w' => e = .returned (.int .i64 n) ∧ w' = w)
    (hk3 : ∀ w, Calls Tryd.prog 21 #[.int .i64 e, .int .i64 1048575] w fun e w' => e = .returned (.int .i64 o) ∧ w' = w)
    (hr2 : ∀ w, Calls Tryd.prog 19 #[(V.mk 2 m 0 ByteArray.empty).v, (V.mk 2 n 0 ByteArray.empty).v, (V.mk 2 o 0 ByteArray.empty).v] w (Ans (.bool true) w))
    (hd1 : ∀ w, Calls Tryd.prog 22 #[.int .i64 3, (V.mk 2 m 0 ByteArray.empty).v, (V.mk 2 n 0 ByteArray.empty).v] w (Ans (.tuple #[(V.mk 2 mn 0 ByteArray.empty).v, .bool true]) w))
    (hk4 : ∀ w, Calls Tryd.prog 21 #[.int .i64 a, .int .i64 255] w fun e w' => e = .returned (.int .i64 a1) ∧ w' = w)
    (hd2 : ∀ w, Calls Tryd.prog 22 #[.int .i64 3, (V.mk 3 a1 a2 ByteArray.empty).v, (V.mk 2 a1 0 ByteArray.empty).v] w (Ans (.tuple #[(V.mk 3 p q ByteArray.empty).v, .bool true]) w))
    (hd3 : ∀ w, Calls Tryd.prog 22 #[.int .i64 3, (V.mk 3 a1 a2 ByteArray.empty).v, (V.mk 3 a1 0 ByteArray.empty).v] w (Ans (.tuple #[(V.mk 3 p q ByteArray.empty).v, .bool true]) w))
    : Calls Tryd.prog 5 #[.int .i64 a, .int .i64 b, .int .i64 c, .int .i64 d, .int .i64 e, .int .i64 f] w (Ans (.bool true) w) := by
  unfold V.v at *
  have Hg1 := Lib.hid hg1
  clear hg1
  have Hg2 := Lib.hid hg2
  clear hg2
  have Hg3 := Lib.hid hg3
  clear hg3
  have Hr1 := Lib.hid hr1
  clear hr1
  have Hn1 := Lib.hid hn1
  clear hn1
  have Hk1 := Lib.hid hk1
  clear hk1
  have Hk2 := Lib.hid hk2
  clear hk2
  have Hk3 := Lib.hid hk3
  clear hk3
  have Hr2 := Lib.hid hr2
  clear hr2
  have Hd1 := Lib.hid hd1
  clear hd1
  have Hk4 := Lib.hid hk4
  clear hk4
  have Hd2 := Lib.hid hd2
  clear hd2
  have Hd3 := Lib.hid hd3
  clear hd3
  have hmn' : IntKind.i64.wrap (m * n) = mn := by rw [IntKind.wrap_i64]; unfold wrap64 at hmn; exact hmn
  have eq := eql_val
  have nq := neq_val
  have es := V.eqB_self
  have em : V.eqB (V.mk 2 mn 0 ByteArray.empty) (V.mk 2 mn 0 ⟨#[]⟩) = true := V.eqB_self _
  go_enter Tryd.func5, Tryd.ntmps5
  go_wp2_with fail
  refine (Hg1.out _).mono ?_
  rintro e w1 ⟨rfl, hb1⟩
  have B1 : Below w.heap.size w w1 := hb1
  go_wp2_with fail
  refine (Hg2.out _).mono ?_
  rintro e w2 ⟨rfl, hb2⟩
  have bX := (Box.new w1 3 a1 a2 ByteArray.empty 23).keep hb2
  have B2 : Below w.heap.size w w2 := (B1.alloc B1.size _).trans (hb2.mono (by have := B1.size; simp; omega))
  clear hb2 B1
  go_wp2_with fail
  refine (Hg3.out _).mono ?_
  rintro e w3 ⟨rfl, hb3⟩
  have bX := (bX.alloc _).keep hb3
  have bY := (Box.new w2 3 b1 b2 ByteArray.empty 23).keep hb3
  have B3 : Below w.heap.size w w3 := (B2.alloc B2.size _).trans (hb3.mono (by have := B2.size; simp; omega))
  clear hb3 B2
  have qX0 := fun o => (bX.alloc o).k0
  have qX1 := fun o => (bX.alloc o).k1
  have qX2 := fun o => (bX.alloc o).k2
  have qX3 := fun o => (bX.alloc o).k3
  have qY0 := fun o => (bY.alloc o).k0
  have qY1 := fun o => (bY.alloc o).k1
  have qY2 := fun o => (bY.alloc o).k2
  have qY3 := fun o => (bY.alloc o).k3
  go_wp2_with fail
  refine (Hr1.out _).mono ?_
  rintro e w4 ⟨rfl, hb4⟩
  clear qX0 qX1 qX2 qX3
  clear qY0 qY1 qY2 qY3
  have bX := (bX.alloc _).keep hb4
  have bY := (bY.alloc _).keep hb4
  have B4 : Below w.heap.size w w4 := (B3.alloc B3.size _).trans (hb4.mono (by have := B3.size; simp; omega))
  clear hb4 B3
  have qX0 := bX.k0
  have qX1 := bX.k1
  have qX2 := bX.k2
  have qX3 := bX.k3
  have qY0 := bY.k0
  have qY1 := bY.k1
  have qY2 := bY.k2
  have qY3 := bY.k3
  go_wp2_with fail
  refine (Hn1.out _).mono ?_
  rintro e w5 ⟨rfl, hb5⟩
  clear qX0 qX1 qX2 qX3
  clear qY0 qY1 qY2 qY3
  have bX := bX.keep hb5
  clear bY
  have B5 : Below w.heap.size w w5 := B4.trans (hb5.mono B4.size)
  clear hb5 B4
  go_wp2_with fail
  refine (Hk1.out _).mono ?_
  rintro e w5 ⟨rfl, rfl⟩
  go_wp2_with fail
  refine (Hk2.out _).mono ?_
  rintro e wk ⟨rfl, rfl⟩
  go_wp2_with fail
  refine (Hk3.out _).mono ?_
  rintro e wk ⟨rfl, rfl⟩
  go_wp2_with fail
  refine (Hr2.out _).mono ?_
  rintro e w6 ⟨rfl, hb6⟩
  have bX := (((bX.alloc _).alloc _).alloc _).keep hb6
  have bM := (((Box.new w5 2 m 0 ByteArray.empty 23).alloc _).alloc _).keep hb6
  have bN := ((Box.new (w5.alloc _) 2 n 0 ByteArray.empty 23).alloc _).keep hb6
  simp only [World.size_alloc] at bN
  have B6 : Below w.heap.size w w6 := (((B5.alloc B5.size _).alloc (by have := B5.size; simp; omega) _).alloc (by have := B5.size; simp; omega) _).trans (hb6.mono (by have := B5.size; simp; omega))
  clear hb6 B5
  have qM0 := bM.k0
  have qM1 := bM.k1
  have qM2 := bM.k2
  have qM3 := bM.k3
  have qN0 := bN.k0
  have qN1 := bN.k1
  have qN2 := bN.k2
  have qN3 := bN.k3
  go_wp2_with fail
  refine (Hd1.out _).mono ?_
  rintro e w7 ⟨rfl, hb7⟩
  clear qM0 qM1 qM2 qM3
  clear qN0 qN1 qN2 qN3
  have bX := bX.keep hb7
  have bM := bM.keep hb7
  have bN := bN.keep hb7
  have B7 : Below w.heap.size w w7 := B6.trans (hb7.mono B6.size)
  clear hb7 B6
  go_upto_region 14 with fail
  have hX := Lib.hid (bX.alloc (.cells #[.int .i64 2, .int .i64 mn, .int .i64 0, .string ByteArray.empty] 23))
  clear bX
  have hM := Lib.hid (bM.alloc (.cells #[.int .i64 2, .int .i64 mn, .int .i64 0, .string ByteArray.empty] 23))
  clear bM
  have hN := Lib.hid (bN.alloc (.cells #[.int .i64 2, .int .i64 mn, .int .i64 0, .string ByteArray.empty] 23))
  clear bN
  have hR := Lib.hid (Box.new w7 2 mn 0 ByteArray.empty 23)
  have hW := B7.alloc B7.size (.cells #[.int .i64 2, .int .i64 mn, .int .i64 0, .string ByteArray.empty] 23)
  clear B7
  generalize w7.alloc (.cells #[.int .i64 2, .int .i64 mn, .int .i64 0, .string ByteArray.empty] 23) = wz at *
  generalize w7.heap.size = gR at *
  generalize w1.heap.size = gX at *
  go_cut [23, 24] from 73 to 81 (fun s20 s21 wx => ∃ g : Nat, s20 = .pointer (some ⟨g, 0, none⟩) ∧ s21 = .bool true ∧ Box wx (g) ⟨3, p, q, ByteArray.empty⟩ ∧ Box wx (gX) ⟨3, a1, a2, ByteArray.empty⟩ ∧ Box wx (w5.heap.size) ⟨2, m, 0, ByteArray.empty⟩ ∧ Box wx (w5.heap.size + 1) ⟨2, n, 0, ByteArray.empty⟩ ∧ Box wx (gR) ⟨2, mn, 0, ByteArray.empty⟩ ∧ Below w.heap.size w wx)
  case first =>
    obtain ⟨k0, k1, k2, k3, _, _, _, _⟩ := hX.out
    have ka0 := fun o => (hX.out.alloc o).k0
    have ka1 := fun o => (hX.out.alloc o).k1
    have ka2 := fun o => (hX.out.alloc o).k2
    have ka3 := fun o => (hX.out.alloc o).k3
    have Hl := Hd2
    have Hk := Hk4
    go_region_with (first | (go_at_call_of 21 (Value.int .i64 a); refine (Hk.out _).mono ?_; rintro e wt ⟨rfl, rfl⟩) | (go_at_call_of 22 (Value.int .i64 3); refine (Hl.out _).mono ?_; rintro e wl ⟨rfl, hbl⟩; have bXl := Lib.hid (Box.keep (by first | exact hX.out | exact hX.out.drew | exact (hX.out.alloc _).drew | exact hX.out.drew.alloc _) hbl); have bMl := Lib.hid (Box.keep (by first | exact hM.out | exact hM.out.drew | exact (hM.out.alloc _).drew | exact hM.out.drew.alloc _) hbl); have bNl := Lib.hid (Box.keep (by first | exact hN.out | exact hN.out.drew | exact (hN.out.alloc _).drew | exact hN.out.drew.alloc _) hbl); have bRl := Lib.hid (Box.keep (by first | exact hR.out | exact hR.out.drew | exact (hR.out.alloc _).drew | exact hR.out.drew.alloc _) hbl); have hWl := keepB (by first | exact hW.drew | exact (hW.alloc hW.size _).drew | exact hW.drew.alloc hW.size _) hbl (by have := hW.size; simp; omega); (first | (have bZl := Lib.hid (Box.keep (Box.new wz 0 0 0 ⟨#[]⟩ 23).drew hbl); obtain ⟨z0, z1, z2, z3, y0, y1, y2, y3⟩ := bZl.out) | skip)))
    all_goals go_wp2_with fail
    all_goals go_meet
    all_goals first | (refine ⟨wl.heap.size, ?_, rfl, ?_⟩; (with_reducible rfl); exact ⟨Box.new wl _ _ _ _ _, bXl.out.alloc _, bMl.out.alloc _, bNl.out.alloc _, bRl.out.alloc _, hWl.alloc hWl.size _⟩) | (refine ⟨wz.heap.size, ?_, rfl, ?_⟩; (with_reducible rfl); exact ⟨bZl.out.put _ _ _ _, bXl.out.other (Nat.ne_of_lt hX.out.lt) _ _ _ _, bMl.out.other (Nat.ne_of_lt hM.out.lt) _ _ _ _, bNl.out.other (Nat.ne_of_lt hN.out.lt) _ _ _ _, bRl.out.other (Nat.ne_of_lt hR.out.lt) _ _ _ _, below_putV hWl hW.size _ _ _ _⟩)
  case rest =>
  obtain ⟨wv, rfl⟩ : ∃ wy : World, wy = wc := ⟨_, rfl⟩
  obtain ⟨gV, rfl, rfl, iV, iX, iM, iN, iR, iW⟩ := hcut
  clear hW hX hM hN hR
  have hW := iW
  clear iW
  have hV := Lib.hid iV
  clear iV
  have hX := Lib.hid iX
  clear iX
  have hM := Lib.hid iM
  clear iM
  have hN := Lib.hid iN
  clear iN
  have hR := Lib.hid iR
  clear iR
  go_upto_region 15 with fail
  go_cut [25, 26] from 82 to 90 (fun s20 s21 wx => ∃ g : Nat, s20 = .pointer (some ⟨g, 0, none⟩) ∧ s21 = .bool true ∧ Box wx (g) ⟨3, p, q, ByteArray.empty⟩ ∧ Box wx (gX) ⟨3, a1, a2, ByteArray.empty⟩ ∧ Box wx (w5.heap.size) ⟨2, m, 0, ByteArray.empty⟩ ∧ Box wx (w5.heap.size + 1) ⟨2, n, 0, ByteArray.empty⟩ ∧ Box wx (gR) ⟨2, mn, 0, ByteArray.empty⟩ ∧ Box wx (gV) ⟨3, p, q, ByteArray.empty⟩ ∧ Below w.heap.size w wx)
  case first =>
    obtain ⟨k0, k1, k2, k3, _, _, _, _⟩ := hX.out
    have ka0 := fun o => (hX.out.alloc o).k0
    have ka1 := fun o => (hX.out.alloc o).k1
    have ka2 := fun o => (hX.out.alloc o).k2
    have ka3 := fun o => (hX.out.alloc o).k3
    have Hl := Hd3
    have Hk := Hk4
    go_region_with (first | (go_at_call_of 21 (Value.int .i64 a); refine (Hk.out _).mono ?_; rintro e wt ⟨rfl, rfl⟩) | (go_at_call_of 22 (Value.int .i64 3); refine (Hl.out _).mono ?_; rintro e wl ⟨rfl, hbl⟩; have bXl := Lib.hid (Box.keep (by first | exact hX.out | exact hX.out.drew | exact (hX.out.alloc _).drew | exact hX.out.drew.alloc _) hbl); have bMl := Lib.hid (Box.keep (by first | exact hM.out | exact hM.out.drew | exact (hM.out.alloc _).drew | exact hM.out.drew.alloc _) hbl); have bNl := Lib.hid (Box.keep (by first | exact hN.out | exact hN.out.drew | exact (hN.out.alloc _).drew | exact hN.out.drew.alloc _) hbl); have bRl := Lib.hid (Box.keep (by first | exact hR.out | exact hR.out.drew | exact (hR.out.alloc _).drew | exact hR.out.drew.alloc _) hbl); have bVl := Lib.hid (Box.keep (by first | exact hV.out | exact hV.out.drew | exact (hV.out.alloc _).drew | exact hV.out.drew.alloc _) hbl); have hWl := keepB (by first | exact hW.drew | exact (hW.alloc hW.size _).drew | exact hW.drew.alloc hW.size _) hbl (by have := hW.size; simp; omega); (first | (have bZl := Lib.hid (Box.keep (Box.new wv 0 0 0 ⟨#[]⟩ 23).drew hbl); obtain ⟨z0, z1, z2, z3, y0, y1, y2, y3⟩ := bZl.out) | skip)))
    all_goals go_wp2_with fail
    all_goals go_meet
    all_goals first | (refine ⟨wl.heap.size, ?_, rfl, ?_⟩; (with_reducible rfl); exact ⟨Box.new wl _ _ _ _ _, bXl.out.alloc _, bMl.out.alloc _, bNl.out.alloc _, bRl.out.alloc _, bVl.out.alloc _, hWl.alloc hWl.size _⟩) | (refine ⟨wv.heap.size, ?_, rfl, ?_⟩; (with_reducible rfl); exact ⟨bZl.out.put _ _ _ _, bXl.out.other (Nat.ne_of_lt hX.out.lt) _ _ _ _, bMl.out.other (Nat.ne_of_lt hM.out.lt) _ _ _ _, bNl.out.other (Nat.ne_of_lt hN.out.lt) _ _ _ _, bRl.out.other (Nat.ne_of_lt hR.out.lt) _ _ _ _, bVl.out.other (Nat.ne_of_lt hV.out.lt) _ _ _ _, below_putV hWl hW.size _ _ _ _⟩)
  case rest =>
  obtain ⟨wu, rfl⟩ : ∃ wy : World, wy = wc := ⟨_, rfl⟩
  obtain ⟨gU, rfl, rfl, iU, iX, iM, iN, iR, iV, iW⟩ := hcut
  clear hW hX hM hN hR hV
  have hW := iW
  clear iW
  have hU := Lib.hid iU
  clear iU
  have hX := Lib.hid iX
  clear iX
  have hM := Lib.hid iM
  clear iM
  have hN := Lib.hid iN
  clear iN
  have hR := Lib.hid iR
  clear iR
  have hV := Lib.hid iV
  clear iV
  obtain ⟨cM0, cM1, cM2, cM3, _, _, _, _⟩ := hM.out
  obtain ⟨cN0, cN1, cN2, cN3, _, _, _, _⟩ := hN.out
  obtain ⟨cR0, cR1, cR2, cR3, _, _, _, _⟩ := hR.out
  obtain ⟨cV0, cV1, cV2, cV3, _, _, _, _⟩ := hV.out
  obtain ⟨cU0, cU1, cU2, cU3, _, _, _, _⟩ := hU.out
  go_wp2_with fail
  go_ret
  exact ⟨rfl, hW⟩

theorem tmod_bound (n : Int) (m : Nat) (hm : 0 < m) : (n.tmod m).natAbs ≤ m - 1 := by
  rw [Int.natAbs_tmod]
  have := Nat.mod_lt n.natAbs (show 0 < (m : Int).natAbs by omega)
  omega

theorem walk_ring (a b c d e f : Int) (w : World) (_ha0 : -9223372036854775808 ≤ a) (_ha1 : a ≤ 9223372036854775807) (_hb0 : -9223372036854775808 ≤ b) (_hb1 : b ≤ 9223372036854775807) (_hc0 : -9223372036854775808 ≤ c) (_hc1 : c ≤ 9223372036854775807) (_hd0 : -9223372036854775808 ≤ d) (_hd1 : d ≤ 9223372036854775807) (_he0 : -9223372036854775808 ≤ e) (_he1 : e ≤ 9223372036854775807) (_hf0 : -9223372036854775808 ≤ f) (_hf1 : f ≤ 9223372036854775807) :
    Calls Tryd.prog 5 #[.int .i64 a, .int .i64 b, .int .i64 c, .int .i64 d, .int .i64 e, .int .i64 f] w fun e w' => e = .returned (.bool true) ∧ Below w.heap.size w w' := by
  have A1 := tmod_bound a 256 (by decide)
  have A2 := tmod_bound b 256 (by decide)
  have B1 := tmod_bound c 256 (by decide)
  have B2 := tmod_bound d 256 (by decide)
  have C1 := tmod_bound e 256 (by decide)
  have C2 := tmod_bound f 256 (by decide)
  have M := tmod_bound a 1048576 (by decide)
  have N := tmod_bound c 1048576 (by decide)
  have O := tmod_bound e 1048576 (by decide)
  have m1 : (a.tmod 1048576 * c.tmod 1048576).natAbs ≤ 1048575 * 1048575 := mulb _ _ M N
  have m2 : (a.tmod 256 * a.tmod 256).natAbs ≤ 255 * 255 := mulb _ _ A1 A1
  have m3 : (b.tmod 256 * a.tmod 256).natAbs ≤ 255 * 255 := mulb _ _ A2 A1
  have i64_of : ∀ {n : Int}, n.natAbs ≤ 9223372036854775807 → I64 n := fun h => by unfold I64; omega
  have PA1 : Part (a.tmod 256) := part_of (Nat.le_trans A1 (by decide))
  have PA2 : Part (b.tmod 256) := part_of (Nat.le_trans A2 (by decide))
  exact vring_of a b c d e f _ _ _ _ _ _ _ _ _ _ _ _ w (by have := m1; unfold wrap64; omega)
    (fun w => gauss_255 a b w) (fun w => gauss_255 c d w) (fun w => gauss_255 e f w)
    (fun w => ring_pln _ _ _ _ _ _ A1 A2 B1 B2 C1 C2 w) (fun w => norms_pln _ _ _ _ A1 A2 B1 B2 w)
    (fun w => cut_1048575 a w) (fun w => cut_1048575 c w) (fun w => cut_1048575 e w)
    (fun w => ring_whl _ _ _ M N O w)
    (fun w => does_ww_mul _ _ (a.tmod 1048576 * c.tmod 1048576) rfl (i64_of (Nat.le_trans M (by decide))) (i64_of (Nat.le_trans N (by decide))) (i64_of (Nat.le_trans m1 (by decide))) w)
    (fun w => cut_255 a w)
    (fun w => does_pw_mul _ _ _ (a.tmod 256 * a.tmod 256) (b.tmod 256 * a.tmod 256) rfl rfl PA1 PA2 PA1 (part_of (Nat.le_trans m2 (by decide))) (part_of (Nat.le_trans m3 (by decide))) w)
    (fun w => does_pp_mul _ _ _ 0 _ _ (by rw [Int.mul_zero]; omega) (by rw [Int.mul_zero]; omega) PA1 PA2 PA1 (part_of (by decide)) (part_of (Nat.le_trans m2 (by decide))) (part_of (Nat.le_trans m3 (by decide))) w)
end Go.Proofs.YtdcbanfakcgokaaDoor.Va
