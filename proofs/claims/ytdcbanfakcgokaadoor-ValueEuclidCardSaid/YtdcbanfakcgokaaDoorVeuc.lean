/-
  The law ValueEuclid: every call returns true and leaves what was there as it was.
-/
import Derived.Test.YtdcbanfakcgokaaDoorWhl
import Derived.Test.YtdcbanfakcgokaaDoorEuc
import Derived.Test.YtdcbanfakcgokaaDoorRin
namespace Go.Proofs.YtdcbanfakcgokaaDoor.Va
open Go.RowKit

theorem size_ans_pos (n : Int) (h : ¬ n < 0) (w : World) : Calls Tryd.prog 48 #[.int .i64 n] w (Ans (.int .i64 n) w) :=
  (size_pos n h w).mono fun e w' ⟨h1, h2⟩ => ⟨h1, by rw [h2]; exact Below.refl _ _⟩
theorem size_ans_neg (n : Int) (h : n < 0) (h' : -9223372036854775808 < n) (w : World) : Calls Tryd.prog 48 #[.int .i64 n] w (Ans (.int .i64 (-n)) w) :=
  (size_neg n h h' w).mono fun e w' ⟨h1, h2⟩ => ⟨h1, by rw [h2]; exact Below.refl _ _⟩

theorem lwholes_any (a b : Int) (ha : I64 a) (hb : I64 b) (w : World) : Calls Tryd.prog 25 #[.int .i64 a, .int .i64 b] w (Ans (.bool true) w) := by
  by_cases h0 : b = 0
  · subst h0
    exact wholes_b0 a w (fun w => Binary_ww_err 4 a 0 12 (by decide) (by decide) (by decide) w (fun w => wholes_zero 4 a (.inl rfl) w))
      (fun w => Binary_ww_err 5 a 0 12 (by decide) (by decide) (by decide) w (fun w => wholes_zero 5 a (.inr rfl) w))
  by_cases hx : a = -9223372036854775808 ∧ b = -1
  · obtain ⟨rfl, rfl⟩ := hx
    exact wholes_over w (fun w => Binary_ww_err 4 _ (-1) 11 (by decide) (by decide) (by decide) w (fun w => wholes_div_over w))
      (fun w => Binary_ww 5 (-9223372036854775808) (-1) (by decide) (by decide) 0 w (fun w => wholes_mod (-9223372036854775808) (-1) (by decide) w))
  have e := Int.mul_tdiv_add_tmod a b
  have em : b * a.tdiv b = a.tdiv b * b := Int.mul_comm _ _
  have hr : (a.tmod b).natAbs < b.natAbs := by rw [Int.natAbs_tmod]; exact Nat.mod_lt _ (by omega)
  have hr' : (a.tmod b).natAbs ≤ a.natAbs := by rw [Int.natAbs_tmod]; exact Nat.mod_le _ _
  have hs : (0 ≤ a → 0 ≤ a.tmod b) ∧ (a < 0 → a.tmod b ≤ 0) := by
    refine ⟨fun h => Int.tmod_nonneg b h, fun h => ?_⟩
    have := Int.tmod_nonneg b (show 0 ≤ -a by omega)
    rw [Int.neg_tmod] at this
    omega
  obtain ⟨hs1, hs2⟩ := hs
  have ha' := ha
  have hb' := hb
  unfold I64 at ha' hb'
  refine wholes_gen a b (a.tdiv b) (a.tmod b) (a.tdiv b * b) w
    (fun w => Binary_ww 4 a b (by decide) (by decide) _ w (fun w => wholes_div a b ha hb h0 hx w))
    (fun w => Binary_ww 5 a b (by decide) (by decide) _ w (fun w => wholes_mod a b h0 w)) (by simp [h0]) ?_ ?_ ?_ ?_ ?_
  · by_cases hm : a = -9223372036854775808
    · exact .inr ⟨by simp [hm], by have : ¬ b = -1 := fun h => hx ⟨hm, h⟩; simp [this]⟩
    · exact .inl (by simp [hm])
  · rw [em] at e
    generalize a.tdiv b * b = z at *
    generalize a.tmod b = r at *
    unfold wrap64; omega
  · rw [em] at e
    generalize a.tdiv b * b = z at *
    generalize a.tmod b = r at *
    unfold wrap64; omega
  · by_cases hz : a.tmod b = 0
    · exact .inl (by simp [hz])
    · refine .inr ?_
      by_cases h : a < 0
      · exact .inl ⟨by simp [hz], by have := hs2 h; omega, h⟩
      · exact .inr ⟨by simp [hz], by have := hs1 (by omega); omega, h⟩
  · by_cases hm : b = -9223372036854775808
    · exact .inl (by simp [hm])
    · refine .inr ⟨by simp [hm], ?_⟩
      have hw : wrap64 (-(a.tmod b)) = -(a.tmod b) := by
        generalize a.tmod b = r at *
        unfold wrap64; omega
      by_cases h : b < 0
      · exact ⟨-b, _, fun w => size_ans_neg b h (by omega) w, hw, by omega, by omega⟩
      · exact ⟨b, _, fun w => size_ans_pos b h w, hw, by omega, by omega⟩

/-! ### the Gaussian integers -/
theorem near_two {p n : Int} (hn : 0 < n) : -n ≤ 2 * p - 2 * (n * ((2 * p + n) / (2 * n))) ∧ 2 * p - 2 * (n * ((2 * p + n) / (2 * n))) ≤ n := by
  have h1 := Int.mul_ediv_add_emod (2 * p + n) (2 * n)
  have h2 := Int.emod_nonneg (2 * p + n) (show 2 * n ≠ 0 by omega)
  have h3 := Int.emod_lt_of_pos (2 * p + n) (show 0 < 2 * n by omega)
  rw [Int.mul_assoc] at h1
  omega
theorem near_small {p n : Int} (hn : 0 < n) (hp : -(16777216 * n) ≤ p ∧ p ≤ 16777216 * n) : -16777217 ≤ (2 * p + n) / (2 * n) ∧ (2 * p + n) / (2 * n) ≤ 16777217 := by
  constructor
  · refine (Int.le_ediv_iff_mul_le (by omega)).2 ?_
    omega
  · refine Int.le_of_lt_add_one ((Int.ediv_lt_iff_lt_mul (by omega)).2 ?_)
    omega
theorem small_bound {a b c d : Int} (ha : a.natAbs ≤ 16777216) (hb : b.natAbs ≤ 16777216) : -(16777216 * (c * c + d * d)) ≤ a * c + b * d ∧ a * c + b * d ≤ 16777216 * (c * c + d * d) := by
  have h1 : (a * c).natAbs ≤ 16777216 * c.natAbs := by rw [Int.natAbs_mul]; exact Nat.mul_le_mul_right _ ha
  have h2 : (b * d).natAbs ≤ 16777216 * d.natAbs := by rw [Int.natAbs_mul]; exact Nat.mul_le_mul_right _ hb
  have h3 := sq_ge c
  have h4 := sq_ge d
  omega
theorem sq_bound {K n : Int} (h : -n ≤ K ∧ K ≤ n) : K * K ≤ n * n := by
  have h1 : (K * K).natAbs ≤ n.natAbs * n.natAbs := by rw [Int.natAbs_mul]; exact Nat.mul_le_mul (by omega) (by omega)
  rw [← Int.natAbs_mul] at h1
  have h2 : 0 ≤ n * n := by
    rcases Int.le_total 0 n with g | g
    · exact Int.mul_nonneg g g
    · exact Int.mul_nonneg_of_nonpos_of_nonpos g g
  omega
theorem sq_le {x y : Int} {A : Nat} (h : x * x + y * y ≤ (A : Int) * A) : x.natAbs ≤ A := by
  have h1 : 0 ≤ y * y := by
    rcases Int.le_total 0 y with g | g
    · exact Int.mul_nonneg g g
    · exact Int.mul_nonneg_of_nonpos_of_nonpos g g
  rcases Nat.lt_or_ge A x.natAbs with g | g
  · exfalso
    have h2 : (A + 1) * (A + 1) ≤ x.natAbs * x.natAbs := Nat.mul_le_mul g g
    rw [← Int.natAbs_mul] at h2
    have h3 : (A + 1) * (A + 1) = A * A + 2 * A + 1 := by grind
    have h4 : ((A * A : Nat) : Int) = (A : Int) * A := by simp
    have h5 : 0 ≤ x * x := by
      rcases Int.le_total 0 x with g | g
      · exact Int.mul_nonneg g g
      · exact Int.mul_nonneg_of_nonpos_of_nonpos g g
    omega
  · exact g
theorem norm_half {a b c d n N M : Int} (hn : n = c * c + d * d) (hn0 : 0 < n) (h1 : -n ≤ 2 * (a * c + b * d) - 2 * (n * N) ∧ 2 * (a * c + b * d) - 2 * (n * N) ≤ n)
    (h2 : -n ≤ 2 * (b * c - a * d) - 2 * (n * M) ∧ 2 * (b * c - a * d) - 2 * (n * M) ≤ n) :
    2 * ((a - (c * N - d * M)) * (a - (c * N - d * M)) + (b - (c * M + d * N)) * (b - (c * M + d * N))) ≤ n := by
  have s1 := sq_bound h1
  have s2 := sq_bound h2
  have e : (4 * ((a - (c * N - d * M)) * (a - (c * N - d * M)) + (b - (c * M + d * N)) * (b - (c * M + d * N)))) * n =
      (2 * (a * c + b * d) - 2 * (n * N)) * (2 * (a * c + b * d) - 2 * (n * N)) + (2 * (b * c - a * d) - 2 * (n * M)) * (2 * (b * c - a * d) - 2 * (n * M)) := by
    subst hn; grind
  generalize (a - (c * N - d * M)) * (a - (c * N - d * M)) + (b - (c * M + d * N)) * (b - (c * M + d * N)) = S at *
  have h : (4 * S) * n ≤ (2 * n) * n := by
    have : (2 * n) * n = n * n + n * n := by grind
    omega
  have := Int.le_of_mul_le_mul_right h hn0
  omega

theorem law_euclid (a b c d a1 a2 c1 c2 : Int) (ha : I64 a) (hc : I64 c) (A1 : a1.natAbs ≤ 16777216) (A2 : a2.natAbs ≤ 16777216) (C1 : c1.natAbs ≤ 16777216) (C2 : c2.natAbs ≤ 16777216) (h0 : ¬ (c1 = 0 ∧ c2 = 0))
    (g1 : ∀ w, Calls Tryd.prog 18 #[.int .i64 a, .int .i64 b, .int .i64 16777216] w (Ans (P a1 a2).v w))
    (g2 : ∀ w, Calls Tryd.prog 18 #[.int .i64 c, .int .i64 d, .int .i64 16777216] w (Ans (P c1 c2).v w)) (w : World) :
    Calls Tryd.prog 6 #[.int .i64 a, .int .i64 b, .int .i64 c, .int .i64 d] w (Ans (.bool true) w) := by
  obtain ⟨n, hn⟩ : ∃ n, n = c1 * c1 + c2 * c2 := ⟨_, rfl⟩
  obtain ⟨p, hp⟩ : ∃ p, p = a1 * c1 + a2 * c2 := ⟨_, rfl⟩
  obtain ⟨q, hq⟩ : ∃ q, q = a2 * c1 - a1 * c2 := ⟨_, rfl⟩
  obtain ⟨N, hN⟩ : ∃ N, N = (2 * p + n) / (2 * n) := ⟨_, rfl⟩
  obtain ⟨M, hM⟩ : ∃ M, M = (2 * q + n) / (2 * n) := ⟨_, rfl⟩
  have hc1 := sq_ge c1
  have hc2 := sq_ge c2
  have hn0 : 0 < n := by omega
  have b1 := small_bound (c := c1) (d := c2) A1 A2
  have b2 := small_bound (a := a2) (b := -a1) (c := c1) (d := c2) A2 (by omega)
  have e0 : -a1 * c2 = -(a1 * c2) := Int.neg_mul _ _
  rw [e0, ← hn] at b2
  rw [← hn, ← hp] at b1
  have hNb := near_small hn0 b1
  have hMb := near_small (p := q) hn0 (by omega)
  have hh := norm_half (a := a1) (b := a2) (N := N) (M := M) hn hn0 (by rw [← hp, hN]; exact near_two hn0) (by rw [← hq, hM]; exact near_two hn0)
  rw [← hN] at hNb
  rw [← hM] at hMb
  obtain ⟨r1, hr1⟩ : ∃ r1, r1 = a1 - (c1 * N - c2 * M) := ⟨_, rfl⟩
  obtain ⟨r2, hr2⟩ : ∃ r2, r2 = a2 - (c1 * M + c2 * N) := ⟨_, rfl⟩
  have m1 : (c1 * c1).natAbs ≤ 16777216 * 16777216 := mulb _ _ C1 C1
  have m2 : (c2 * c2).natAbs ≤ 16777216 * 16777216 := mulb _ _ C2 C2
  rw [← hr1, ← hr2] at hh
  have hnb : n ≤ 562949953421312 := by omega
  have R1 : r1.natAbs ≤ 16777216 := sq_le (y := r2) (by omega)
  have R2 : r2.natAbs ≤ 16777216 := sq_le (y := r1) (by omega)
  have pa1 : Part a1 := part_of (by omega)
  have pa2 : Part a2 := part_of (by omega)
  have pc1 : Part c1 := part_of (by omega)
  have pc2 : Part c2 := part_of (by omega)
  have pr1 : Part r1 := part_of (by omega)
  have pr2 : Part r2 := part_of (by omega)
  have pN : Part N := by unfold Part; omega
  have pM : Part M := by unfold Part; omega
  have pt1 : Part (c1 * N - c2 * M) := part_of (by omega)
  have pt2 : Part (c1 * M + c2 * N) := part_of (by omega)
  have d1 : (c1 * N - c2 * M) * c1 + (c1 * M + c2 * N) * c2 = n * N := by rw [hn]; grind
  have d2 : (c1 * M + c2 * N) * c1 - (c1 * N - c2 * M) * c2 = n * M := by rw [hn]; grind
  have hz : (c1 == 0) = false ∨ ((c1 == 0) = true ∧ (c2 == 0) = false) := by
    by_cases h : c1 = 0
    · exact .inr ⟨by simp [h], by have : ¬ c2 = 0 := fun g => h0 ⟨h, g⟩; simp [this]⟩
    · exact .inl (by simp [h])
  have hs0 : 0 ≤ r1 * r1 + r2 * r2 := by have := sq_ge r1; have := sq_ge r2; omega
  exact euclid_of a b c d a1 a2 c1 c2 r1 r2 (r1 * r1 + r2 * r2) (c1 * c1 + c2 * c2) (c1 * N - c2 * M) (c1 * M + c2 * N) N M (2 * (r1 * r1 + r2 * r2)) w hz (by unfold wrap64; omega) (by omega)
    g1 g2
    (fun w => Binary_pp 5 a1 a2 c1 c2 r1 r2 (by decide) (by decide) pa1 pa2 pc1 pc2 w (fun w => by
      have := planes_mod _ _ _ _ _ _ a1 a2 c1 c2 n p q N M (takes_pln a1 a2 pa1 pa2) (takes_pln c1 c2 pc1 pc2) hn hp hq h0 hn0 hN hM w
      rw [← hr1, ← hr2, wthD_in pr1 pr2] at this
      exact this))
    (fun w => norm_pln _ _ pr1 pr2 w)
    (fun w => norm_pln _ _ pc1 pc2 w)
    (fun w => does_pp_sub _ _ _ _ _ _ (by omega) (by omega) pa1 pa2 pr1 pr2 pt1 pt2 w)
    (fun w => does_of 4 (P _ _) (P c1 c2) 3 N M (.inr rfl) w (fun w => Binary_pp 4 _ _ c1 c2 N M (by decide) (by decide) pt1 pt2 pc1 pc2 w (fun w => by
      have := planes_div _ _ _ _ _ _ _ _ c1 c2 n (n * N) (n * M) (takes_pln _ _ pt1 pt2) (takes_pln c1 c2 pc1 pc2) hn d1.symm d2.symm h0 hn0 ⟨Int.mul_tmod_right _ _, Int.mul_tmod_right _ _⟩ w
      rw [Int.mul_tdiv_cancel_left _ (by omega), Int.mul_tdiv_cancel_left _ (by omega)] at this
      exact this)))
    (fun w => does_pp_mul _ _ _ _ _ _ (by grind) (by grind) pN pM pc1 pc2 pt1 pt2 w)
    (fun w => does_pp_add _ _ _ _ _ _ (by omega) (by omega) pt1 pt2 pr1 pr2 pa1 pa2 w)
    (fun w => lwholes_any a c ha hc w)

theorem law_euclid0 (a b c d a1 a2 : Int) (A1 : a1.natAbs ≤ 16777216) (A2 : a2.natAbs ≤ 16777216)
    (g1 : ∀ w, Calls Tryd.prog 18 #[.int .i64 a, .int .i64 b, .int .i64 16777216] w (Ans (P a1 a2).v w))
    (g2 : ∀ w, Calls Tryd.prog 18 #[.int .i64 c, .int .i64 d, .int .i64 16777216] w (Ans (P 0 0).v w)) (w : World) :
    Calls Tryd.prog 6 #[.int .i64 a, .int .i64 b, .int .i64 c, .int .i64 d] w (Ans (.bool true) w) := by
  have pa1 : Part a1 := part_of (by omega)
  have pa2 : Part a2 := part_of (by omega)
  have p0 : Part 0 := part_of (by decide)
  exact euclid_zero a b c d a1 a2 w g1 g2
    (fun w => Binary_pp_err 5 a1 a2 0 0 12 (by decide) (by decide) (by decide) pa1 pa2 p0 p0 w (fun w => planes_zero 5 (.inr rfl) _ _ _ _ _ _ a1 a2 0 0 (takes_pln a1 a2 pa1 pa2) (takes_pln 0 0 p0 p0) ⟨rfl, rfl⟩ w))
    (fun w => Binary_pp_err 4 a1 a2 0 0 12 (by decide) (by decide) (by decide) pa1 pa2 p0 p0 w (fun w => planes_zero 4 (.inl rfl) _ _ _ _ _ _ a1 a2 0 0 (takes_pln a1 a2 pa1 pa2) (takes_pln 0 0 p0 p0) ⟨rfl, rfl⟩ w))

theorem tmod_small24 (n : Int) : (n.tmod 16777217).natAbs ≤ 16777216 := by
  rw [Int.natAbs_tmod]
  have := Nat.mod_lt n.natAbs (show 0 < (16777217 : Int).natAbs by decide)
  have e : (16777217 : Int).natAbs = 16777217 := rfl
  omega

theorem walk_euclid (a b c d : Int) (w : World) (ha0 : -9223372036854775808 ≤ a) (ha1 : a ≤ 9223372036854775807) (_hb0 : -9223372036854775808 ≤ b) (_hb1 : b ≤ 9223372036854775807) (hc0 : -9223372036854775808 ≤ c) (hc1 : c ≤ 9223372036854775807) (_hd0 : -9223372036854775808 ≤ d) (_hd1 : d ≤ 9223372036854775807) :
    Calls Tryd.prog 6 #[.int .i64 a, .int .i64 b, .int .i64 c, .int .i64 d] w fun e w' => e = .returned (.bool true) ∧ Below w.heap.size w w' := by
  have g1 := fun w => gauss_16777216 a b w
  have g2 := fun w => gauss_16777216 c d w
  by_cases h0 : c.tmod 16777217 = 0 ∧ d.tmod 16777217 = 0
  · rw [h0.1, h0.2] at g2
    exact law_euclid0 a b c d _ _ (tmod_small24 a) (tmod_small24 b) g1 g2 w
  · exact law_euclid a b c d _ _ _ _ ⟨ha0, ha1⟩ ⟨hc0, hc1⟩ (tmod_small24 a) (tmod_small24 b) (tmod_small24 c) (tmod_small24 d) h0 g1 g2 w
end Go.Proofs.YtdcbanfakcgokaaDoor.Va
