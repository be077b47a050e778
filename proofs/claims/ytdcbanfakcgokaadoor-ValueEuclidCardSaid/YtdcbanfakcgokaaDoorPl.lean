/-
  value.planes: sums, differences, products, quotients and rests of complex numbers of whole parts.
-/
import Derived.Test.YtdcbanfakcgokaaDoorCpx
import Derived.Test.YtdcbanfakcgokaaDoorUn
namespace Go.Proofs.YtdcbanfakcgokaaDoor.Va
open Go.RowKit
open Go.Proofs.YtdcbanfakcgokaaDoor.Flt (IsW)

theorem wthD_form (a b : Int) : ∃ v e, wthD a b = .tuple #[v, .int .i64 e] := by
  unfold wthD; split
  · exact ⟨_, _, rfl⟩
  · exact ⟨_, _, rfl⟩

/-- A part: from -2^25 to 2^25. -/
def Part (a : Int) : Prop := -33554432 ≤ a ∧ a ≤ 33554432

theorem prod_bound {a b : Int} (ha : Part a) (hb : Part b) : -1125899906842624 ≤ a * b ∧ a * b ≤ 1125899906842624 := by
  obtain ⟨a0, a1⟩ := ha
  obtain ⟨b0, b1⟩ := hb
  have h : (a * b).natAbs ≤ 33554432 * 33554432 := by
    rw [Int.natAbs_mul]; exact Nat.mul_le_mul (by omega) (by omega)
  omega

/-- A value that field takes for the complex number a + b i. -/
structure Takes (v : Value) (x y : Nat) (a b : Int) : Prop where
  calls : ∀ w, Calls Tryd.prog 79 #[v] w (Ans (.tuple #[.complex .f64 x y, .bool true]) w)
  re : IsW x a
  im : IsW y b
  pa : Part a
  pb : Part b

theorem takes_whl (n : Int) (hn : Part n) : Takes (Dat.v (.whl n)) (FloatKind.f64.nearest n) 0 n 0 :=
  ⟨fun w => field_whl n hn w, Flt.isW_nearest n (by have := hn.1; have := hn.2; omega), Flt.isW_zero, hn, by unfold Part; omega⟩
theorem takes_pln (a b : Int) (ha : Part a) (hb : Part b) : Takes (Dat.v (.pln a b)) (FloatKind.f64.nearest a) (FloatKind.f64.nearest b) a b :=
  ⟨fun w => field_pln a b w, Flt.isW_nearest a (by have := ha.1; have := ha.2; omega), Flt.isW_nearest b (by have := hb.1; have := hb.2; omega), ha, hb⟩

set_option maxRecDepth 100000 in
set_option maxHeartbeats 800000 in
theorem planes_add (vx vy : Value) (x y u z : Nat) (a b c d : Int) (hx : Takes vx x y a b) (hy : Takes vy u z c d) (w : World) :
    Calls Tryd.prog 66 #[.int .i64 1, vx, vy] w (Ans (wthD (a + c) (b + d)) w) := by
  have Hx := Lib.hid hx.calls
  have Hy := Lib.hid hy.calls
  obtain ⟨a0, a1⟩ := hx.pa
  obtain ⟨b0, b1⟩ := hx.pb
  obtain ⟨c0, c1⟩ := hy.pa
  obtain ⟨d0, d1⟩ := hy.pb
  obtain ⟨re, im, e, h1, h2⟩ := Flt.isW_csum hx.re hx.im hy.re hy.im (by omega) (by omega)
  have hop := fun W => run_complex_sum (P := Tryd.prog) W .add (.inl rfl) 123 .f64 x y u z re im e
  have hw := fun w => within_any re im _ _ h1 h2 (by omega) (by omega) w
  obtain ⟨v, ee, hv⟩ := wthD_form (a + c) (b + d)
  rw [hv] at hw ⊢
  have Hw := Lib.hid hw
  clear hw hv h1 h2 e hx hy a0 a1 b0 b1 c0 c1 d0 d1
  go_enter Tryd.func66, Tryd.ntmps66
  go_wp2_with fail
  refine (Hx.out _).mono ?_
  rintro e w1 ⟨rfl, hb1⟩
  go_wp2_with fail
  refine (Hy.out _).mono ?_
  rintro e w2 ⟨rfl, hb2⟩
  go_wp2_with fail
  refine (Hw.out _).mono ?_
  rintro e w3 ⟨rfl, rfl⟩
  go_wp2_with fail
  go_ret2
  exact ⟨rfl, hb1.trans (hb2.mono hb1.size)⟩
set_option maxRecDepth 100000 in
set_option maxHeartbeats 800000 in
theorem planes_sub (vx vy : Value) (x y u z : Nat) (a b c d : Int) (hx : Takes vx x y a b) (hy : Takes vy u z c d) (w : World) :
    Calls Tryd.prog 66 #[.int .i64 2, vx, vy] w (Ans (wthD (a - c) (b - d)) w) := by
  have Hx := Lib.hid hx.calls
  have Hy := Lib.hid hy.calls
  obtain ⟨a0, a1⟩ := hx.pa
  obtain ⟨b0, b1⟩ := hx.pb
  obtain ⟨c0, c1⟩ := hy.pa
  obtain ⟨d0, d1⟩ := hy.pb
  obtain ⟨re, im, e, h1, h2⟩ := Flt.isW_cdiff hx.re hx.im hy.re hy.im (by omega) (by omega)
  have hop := fun W => run_complex_sum (P := Tryd.prog) W .sub (.inr rfl) 123 .f64 x y u z re im e
  have hw := fun w => within_any re im _ _ h1 h2 (by omega) (by omega) w
  obtain ⟨v, ee, hv⟩ := wthD_form (a - c) (b - d)
  rw [hv] at hw ⊢
  have Hw := Lib.hid hw
  clear hw hv h1 h2 e hx hy a0 a1 b0 b1 c0 c1 d0 d1
  go_enter Tryd.func66, Tryd.ntmps66
  go_wp2_with fail
  refine (Hx.out _).mono ?_
  rintro e w1 ⟨rfl, hb1⟩
  go_wp2_with fail
  refine (Hy.out _).mono ?_
  rintro e w2 ⟨rfl, hb2⟩
  go_wp2_with fail
  refine (Hw.out _).mono ?_
  rintro e w3 ⟨rfl, rfl⟩
  go_wp2_with fail
  go_ret2
  exact ⟨rfl, hb1.trans (hb2.mono hb1.size)⟩
set_option maxRecDepth 100000 in
set_option maxHeartbeats 800000 in
theorem planes_mul (vx vy : Value) (x y u z : Nat) (a b c d : Int) (hx : Takes vx x y a b) (hy : Takes vy u z c d) (w : World) :
    Calls Tryd.prog 66 #[.int .i64 3, vx, vy] w (Ans (wthD (a * c - b * d) (a * d + b * c)) w) := by
  have Hx := Lib.hid hx.calls
  have Hy := Lib.hid hy.calls
  have p1 := prod_bound hx.pa hy.pa
  have p2 := prod_bound hx.pb hy.pb
  have p3 := prod_bound hx.pa hy.pb
  have p4 := prod_bound hx.pb hy.pa
  obtain ⟨re, im, e, h1, h2⟩ := Flt.isW_cmul hx.re hx.im hy.re hy.im (by omega) (by omega) (by omega) (by omega) (by omega) (by omega)
  have hop := fun W => run_complex_mul (P := Tryd.prog) W 123 x y u z re im e
  have hw := fun w => within_any re im _ _ h1 h2 (by omega) (by omega) w
  obtain ⟨v, ee, hv⟩ := wthD_form (a * c - b * d) (a * d + b * c)
  rw [hv] at hw ⊢
  have Hw := Lib.hid hw
  clear hw hv h1 h2 e hx hy p1 p2 p3 p4
  go_enter Tryd.func66, Tryd.ntmps66
  go_wp2_with fail
  refine (Hx.out _).mono ?_
  rintro e w1 ⟨rfl, hb1⟩
  go_wp2_with fail
  refine (Hy.out _).mono ?_
  rintro e w2 ⟨rfl, hb2⟩
  go_wp2_with fail
  refine (Hw.out _).mono ?_
  rintro e w3 ⟨rfl, rfl⟩
  go_wp2_with fail
  go_ret2
  exact ⟨rfl, hb1.trans (hb2.mono hb1.size)⟩

theorem eq_zero_word {x : Nat} {a : Int} (hx : IsW x a) : (FloatKind.f64.format.order x 0 == some .eq) = decide (a = 0) := by
  have h : FloatKind.f64.format.order x 0 = some (compare a 0) := Flt.isF_order hx.1 Flt.isW_zero.1
  rw [h]
  simp only [compare, compareOfLessAndEq]
  by_cases c1 : a < 0
  · rw [if_pos c1, decide_eq_false (by omega)]; rfl
  · rw [if_neg c1]
    by_cases c2 : a = 0
    · rw [if_pos c2, decide_eq_true c2]; rfl
    · rw [if_neg c2, decide_eq_false c2]; rfl

theorem neg_word (z : Nat) (W : World) : (Op.unary .neg (.float .f64 z)).run Tryd.prog W = .ok (.float .f64 (Op.negFloat .f64 z)) W := rfl

set_option maxRecDepth 100000 in
set_option maxHeartbeats 800000 in
/-- By 0: ErrZero, of a quotient and of a rest. -/
theorem planes_zero (op : Int) (hop : op = 4 ∨ op = 5) (vx vy : Value) (x y u z : Nat) (a b c d : Int) (hx : Takes vx x y a b) (hy : Takes vy u z c d) (h0 : c = 0 ∧ d = 0) (w : World) :
    Calls Tryd.prog 66 #[.int .i64 op, vx, vy] w (Ans (.tuple #[.nilIface, .int .i64 12]) w) := by
  have Hx := Lib.hid hx.calls
  have Hy := Lib.hid hy.calls
  have e1 := eq_zero_word hy.re
  have e2 := eq_zero_word hy.im
  rw [decide_eq_true h0.1] at e1
  rw [decide_eq_true h0.2] at e2
  clear hx hy h0
  rcases hop with rfl | rfl
  all_goals
    go_enter Tryd.func66, Tryd.ntmps66
    go_wp2_with fail
    refine (Hx.out _).mono ?_
    rintro e w1 ⟨rfl, hb1⟩
    go_wp2_with fail
    refine (Hy.out _).mono ?_
    rintro e w2 ⟨rfl, hb2⟩
    go_wp2_with fail
    go_ret2
    exact ⟨rfl, hb1.trans (hb2.mono hb1.size)⟩

/-- The divisor's norm, and the dividend times the divisor's conjugate, in words. -/
theorem conj_words {x y u z : Nat} {a b c d : Int} (hx : IsW x a) (hxi : IsW y b) (hy : IsW u c) (hyi : IsW z d) (ha : Part a) (hb : Part b) (hc : Part c) (hd : Part d) :
    ∃ re im, cMulBits x y u (Op.negFloat .f64 z) = some (re, im) ∧ IsW re (a * c + b * d) ∧ IsW im (b * c - a * d) := by
  have p1 := prod_bound ha hc
  have p2 := prod_bound hb hd
  have p3 := prod_bound ha hd
  have p4 := prod_bound hb hc
  have n1 : a * -d = -(a * d) := Int.mul_neg a d
  have n2 : b * -d = -(b * d) := Int.mul_neg b d
  obtain ⟨re, im, e, h1, h2⟩ := Flt.isW_cmul hx hxi hy (Flt.isW_neg hyi) (by omega) (by rw [n2]; omega) (by rw [n1]; omega) (by omega) (by rw [n2]; omega) (by rw [n1]; omega)
  refine ⟨re, im, e, ?_, ?_⟩
  · rw [show a * c + b * d = a * c - b * -d by rw [n2]; omega]; exact h1
  · rw [show b * c - a * d = a * -d + b * c by rw [n1]; omega]; exact h2

set_option maxRecDepth 100000 in
set_option maxHeartbeats 1600000 in
/-- A quotient that is no whole number. -/
theorem planes_inexact (vx vy : Value) (x y u z : Nat) (a b c d n p q : Int) (hx : Takes vx x y a b) (hy : Takes vy u z c d) (hn : n = c * c + d * d) (hp : p = a * c + b * d) (hq : q = b * c - a * d) (h0 : ¬ (c = 0 ∧ d = 0))
    (hn0 : 0 < n) (hm : p.tmod n ≠ 0 ∨ q.tmod n ≠ 0) (w : World) :
    Calls Tryd.prog 66 #[.int .i64 4, vx, vy] w (Ans (.tuple #[.nilIface, .int .i64 13]) w) := by
  have Hx := Lib.hid hx.calls
  have Hy := Lib.hid hy.calls
  have e1 := eq_zero_word hy.re
  have e2 := eq_zero_word hy.im
  have p1 := prod_bound hx.pa hy.pa
  have p2 := prod_bound hx.pb hy.pb
  have p3 := prod_bound hx.pa hy.pb
  have p4 := prod_bound hx.pb hy.pa
  have p5 := prod_bound hy.pa hy.pa
  have p6 := prod_bound hy.pb hy.pb
  obtain ⟨re, im, o1, w1, w2⟩ := conj_words hx.re hx.im hy.re hy.im hx.pa hx.pb hy.pa hy.pb
  obtain ⟨re', im', o2, w3, w4⟩ := conj_words hy.re hy.im hy.re hy.im hy.pa hy.pb hy.pa hy.pb
  rw [← hp] at w1
  rw [← hq] at w2
  rw [← hn] at w3
  have hop1 := fun W => run_complex_mul (P := Tryd.prog) W 123 x y u (Op.negFloat .f64 z) re im o1
  have hop2 := fun W => run_complex_mul (P := Tryd.prog) W 123 u z u (Op.negFloat .f64 z) re' im' o2
  have v1 := conv_int w1 (by omega)
  have v2 := conv_int w2 (by omega)
  have v3 := conv_int w3 (by omega)
  have hne : ¬ n = 0 := by omega
  have hneg := fun W => neg_word z W
  clear w1 w2 w3 w4 o1 o2 hx hy hp hq hn
  have ez : ((FloatKind.f64.format.order u 0 == some .eq) = false) ∨ ((FloatKind.f64.format.order u 0 == some .eq) = true ∧ (FloatKind.f64.format.order z 0 == some .eq) = false) := by
    rw [e1, e2]
    by_cases hc : c = 0
    · have hd : ¬ d = 0 := fun h => h0 ⟨hc, h⟩
      exact .inr ⟨decide_eq_true hc, decide_eq_false hd⟩
    · exact .inl (decide_eq_false hc)
  clear e1 e2 h0 p1 p2 p3 p4 p5 p6
  have hg : (¬ p.tmod n = 0) ∨ (p.tmod n = 0 ∧ ¬ q.tmod n = 0) := by
    by_cases hp : p.tmod n = 0
    · exact .inr ⟨hp, by simpa [hp] using hm⟩
    · exact .inl hp
  clear hm hn0
  rcases ez with z1 | ⟨z1, z2⟩ <;> rcases hg with g1 | ⟨g1, g2⟩
  all_goals
    go_enter Tryd.func66, Tryd.ntmps66
    go_wp2_with fail
    refine (Hx.out _).mono ?_
    rintro e w1 ⟨rfl, hb1⟩
    go_wp2_with fail
    refine (Hy.out _).mono ?_
    rintro e w2 ⟨rfl, hb2⟩
    go_wp2_with fail
    go_ret2
    exact ⟨rfl, hb1.trans (hb2.mono hb1.size)⟩

set_option maxRecDepth 100000 in
set_option maxHeartbeats 1600000 in
/-- A quotient that is a whole number. -/
theorem planes_div (vx vy : Value) (x y u z : Nat) (a b c d n p q : Int) (hx : Takes vx x y a b) (hy : Takes vy u z c d) (hn : n = c * c + d * d) (hp : p = a * c + b * d) (hq : q = b * c - a * d) (h0 : ¬ (c = 0 ∧ d = 0))
    (hn0 : 0 < n) (hm : p.tmod n = 0 ∧ q.tmod n = 0) (w : World) :
    Calls Tryd.prog 66 #[.int .i64 4, vx, vy] w (Ans (.tuple #[Dat.v (.pln (p.tdiv n) (q.tdiv n)), .int .i64 0]) w) := by
  have Hx := Lib.hid hx.calls
  have Hy := Lib.hid hy.calls
  have e1 := eq_zero_word hy.re
  have e2 := eq_zero_word hy.im
  have p1 := prod_bound hx.pa hy.pa
  have p2 := prod_bound hx.pb hy.pb
  have p3 := prod_bound hx.pa hy.pb
  have p4 := prod_bound hx.pb hy.pa
  have p5 := prod_bound hy.pa hy.pa
  have p6 := prod_bound hy.pb hy.pb
  obtain ⟨re, im, o1, w1, w2⟩ := conj_words hx.re hx.im hy.re hy.im hx.pa hx.pb hy.pa hy.pb
  obtain ⟨re', im', o2, w3, w4⟩ := conj_words hy.re hy.im hy.re hy.im hy.pa hy.pb hy.pa hy.pb
  rw [← hp] at w1
  rw [← hq] at w2
  rw [← hn] at w3
  have hop1 := fun W => run_complex_mul (P := Tryd.prog) W 123 x y u (Op.negFloat .f64 z) re im o1
  have hop2 := fun W => run_complex_mul (P := Tryd.prog) W 123 u z u (Op.negFloat .f64 z) re' im' o2
  have v1 := conv_int w1 (by omega)
  have v2 := conv_int w2 (by omega)
  have v3 := conv_int w3 (by omega)
  have hne : ¬ n = 0 := by omega
  have hneg := fun W => neg_word z W
  have HPQ := Lib.hid (show (-2251799813685248 ≤ p ∧ p ≤ 2251799813685248) ∧ (-2251799813685248 ≤ q ∧ q ≤ 2251799813685248) by rw [hp, hq]; omega)
  clear w1 w2 w3 w4 o1 o2 hx hy hp hq hn
  have ez : ((FloatKind.f64.format.order u 0 == some .eq) = false) ∨ ((FloatKind.f64.format.order u 0 == some .eq) = true ∧ (FloatKind.f64.format.order z 0 == some .eq) = false) := by
    rw [e1, e2]
    by_cases hc : c = 0
    · have hd : ¬ d = 0 := fun h => h0 ⟨hc, h⟩
      exact .inr ⟨decide_eq_true hc, decide_eq_false hd⟩
    · exact .inl (decide_eq_false hc)
  have hP : -2251799813685248 ≤ p ∧ p ≤ 2251799813685248 := HPQ.out.1
  have hQ : -2251799813685248 ≤ q ∧ q ≤ 2251799813685248 := HPQ.out.2
  clear e1 e2 h0 p1 p2 p3 p4 p5 p6 HPQ
  obtain ⟨m1, m2⟩ := hm
  have Bp := tdiv_small p n
  have Bq := tdiv_small q n
  have W1 : wrap64 (p.tdiv n) = p.tdiv n := by unfold wrap64; omega
  have W2 : wrap64 (q.tdiv n) = q.tdiv n := by unfold wrap64; omega
  have HW := Lib.hid (And.intro W1 W2)
  clear W1 W2 Bp Bq hP hQ hn0
  rcases ez with z1 | ⟨z1, z2⟩
  all_goals
    go_enter Tryd.func66, Tryd.ntmps66
    go_wp2_with fail
    refine (Hx.out _).mono ?_
    rintro e w1 ⟨rfl, hb1⟩
    go_wp2_with fail
    refine (Hy.out _).mono ?_
    rintro e w2 ⟨rfl, hb2⟩
    go_wp2_with fail
    go_quiet (fail)
    go_wp2
    go_ret2
    refine ⟨ret2 ?_ rfl, ?_⟩
    · show Value.iface 94 (.agg #[.int .i64 (wrap64 _), .int .i64 (wrap64 _)]) = _
      rw [HW.out.1, HW.out.2]
      rfl
    · first | exact (hb1.trans (hb2.mono hb1.size)).drew | exact below_drewN (hb1.trans (hb2.mono hb1.size)) _

/-- The rest's own bounds: a part of the nearest quotient is no greater than a part and one. -/
theorem near_bound {p n : Int} (hn : 0 < n) (hp : -(33554432 * n) ≤ p ∧ p ≤ 33554432 * n) : -33554433 ≤ (2 * p + n) / (2 * n) ∧ (2 * p + n) / (2 * n) ≤ 33554433 := by
  constructor
  · refine (Int.le_ediv_iff_mul_le (by omega)).2 ?_
    omega
  · refine Int.le_of_lt_add_one ((Int.ediv_lt_iff_lt_mul (by omega)).2 ?_)
    omega
theorem sq_ge (c : Int) : (c.natAbs : Int) ≤ c * c := by
  rcases Int.natAbs_eq c with h | h
  · by_cases h0 : c.natAbs = 0
    · have : c = 0 := by omega
      subst this; decide
    · have h1 : (1 : Int) ≤ (c.natAbs : Int) := by omega
      rw [show c * c = (c.natAbs : Int) * (c.natAbs : Int) by rw [← h]]
      have := Int.mul_le_mul_of_nonneg_left h1 (by omega : (0 : Int) ≤ (c.natAbs : Int))
      omega
  · have e : c * c = (c.natAbs : Int) * (c.natAbs : Int) := by
      rw [h]; simp [Int.neg_mul, Int.mul_neg]
    rw [e]
    by_cases h0 : c.natAbs = 0
    · rw [h0]; decide
    · have h1 : (1 : Int) ≤ (c.natAbs : Int) := by omega
      have := Int.mul_le_mul_of_nonneg_left h1 (by omega : (0 : Int) ≤ (c.natAbs : Int))
      omega
theorem part_bound {a b c d : Int} (ha : Part a) (hb : Part b) : -(33554432 * (c * c + d * d)) ≤ a * c + b * d ∧ a * c + b * d ≤ 33554432 * (c * c + d * d) := by
  obtain ⟨a0, a1⟩ := ha
  obtain ⟨b0, b1⟩ := hb
  have h1 : (a * c).natAbs ≤ 33554432 * c.natAbs := by rw [Int.natAbs_mul]; exact Nat.mul_le_mul_right _ (by omega)
  have h2 : (b * d).natAbs ≤ 33554432 * d.natAbs := by rw [Int.natAbs_mul]; exact Nat.mul_le_mul_right _ (by omega)
  have h3 := sq_ge c
  have h4 := sq_ge d
  omega
theorem prod_wide {a b : Int} (ha : Part a) (hb : -33554433 ≤ b ∧ b ≤ 33554433) : -1125899940397056 ≤ a * b ∧ a * b ≤ 1125899940397056 := by
  obtain ⟨a0, a1⟩ := ha
  have h : (a * b).natAbs ≤ 33554432 * 33554433 := by
    rw [Int.natAbs_mul]; exact Nat.mul_le_mul (by omega) (by omega)
  omega

set_option maxRecDepth 100000 in
set_option maxHeartbeats 1600000 in
/-- The rest. -/
theorem planes_mod (vx vy : Value) (x y u z : Nat) (a b c d n p q N M : Int) (hx : Takes vx x y a b) (hy : Takes vy u z c d) (hn : n = c * c + d * d) (hp : p = a * c + b * d) (hq : q = b * c - a * d) (h0 : ¬ (c = 0 ∧ d = 0))
    (hn0 : 0 < n) (hN : N = (2 * p + n) / (2 * n)) (hM : M = (2 * q + n) / (2 * n)) (w : World) :
    Calls Tryd.prog 66 #[.int .i64 5, vx, vy] w (Ans (wthD (a - (c * N - d * M)) (b - (c * M + d * N))) w) := by
  have Hx := Lib.hid hx.calls
  have Hy := Lib.hid hy.calls
  have e1 := eq_zero_word hy.re
  have e2 := eq_zero_word hy.im
  have p1 := prod_bound hx.pa hy.pa
  have p2 := prod_bound hx.pb hy.pb
  have p3 := prod_bound hx.pa hy.pb
  have p4 := prod_bound hx.pb hy.pa
  have p5 := prod_bound hy.pa hy.pa
  have p6 := prod_bound hy.pb hy.pb
  obtain ⟨re, im, o1, w1, w2⟩ := conj_words hx.re hx.im hy.re hy.im hx.pa hx.pb hy.pa hy.pb
  obtain ⟨re', im', o2, w3, w4⟩ := conj_words hy.re hy.im hy.re hy.im hy.pa hy.pb hy.pa hy.pb
  rw [← hp] at w1
  rw [← hq] at w2
  rw [← hn] at w3
  have hop1 := fun W => run_complex_mul (P := Tryd.prog) W 123 x y u (Op.negFloat .f64 z) re im o1
  have hop2 := fun W => run_complex_mul (P := Tryd.prog) W 123 u z u (Op.negFloat .f64 z) re' im' o2
  have v1 := conv_int w1 (by omega)
  have v2 := conv_int w2 (by omega)
  have v3 := conv_int w3 (by omega)
  have hne : ¬ n = 0 := by omega
  have hneg := fun W => neg_word z W
  have hpq : (-2251799813685248 ≤ p ∧ p ≤ 2251799813685248) ∧ (-2251799813685248 ≤ q ∧ q ≤ 2251799813685248) ∧ n ≤ 2251799813685248 := by rw [hp, hq, hn]; omega
  have bN := near_bound hn0 (p := p) (by rw [hp, hn]; exact part_bound hx.pa hx.pb)
  have bM := near_bound hn0 (p := q) (by
    rw [hq, hn]
    have hna : Part (-a) := by have := hx.pa; unfold Part at *; omega
    have := part_bound (c := c) (d := d) hx.pb hna
    rw [Int.neg_mul] at this
    rw [Int.sub_eq_add_neg]
    exact this)
  rw [← hN] at bN
  rw [← hM] at bM
  have near1 := fun w => nearest_any p n (by omega) (by omega) w
  have near2 := fun w => nearest_any q n (by omega) (by omega) w
  rw [← hN] at near1
  rw [← hM] at near2
  have r1 := prod_wide hy.pa bN
  have r2 := prod_wide hy.pb bM
  have r3 := prod_wide hy.pa bM
  have r4 := prod_wide hy.pb bN
  have k1 : IsW (floatOfInt .f64 N) N := Flt.isW_nearest N (by omega)
  have k2 : IsW (floatOfInt .f64 M) M := Flt.isW_nearest M (by omega)
  obtain ⟨re2, im2, o3, x1, x2⟩ := Flt.isW_cmul hy.re hy.im k1 k2 (by omega) (by omega) (by omega) (by omega) (by omega) (by omega)
  obtain ⟨ha0, ha1⟩ := hx.pa
  obtain ⟨hb0, hb1⟩ := hx.pb
  obtain ⟨re3, im3, o4, x3, x4⟩ := Flt.isW_cdiff hx.re hx.im x1 x2 (by omega) (by omega)
  have hop3 := fun W => run_complex_mul (P := Tryd.prog) W 123 u z _ _ re2 im2 o3
  have hop4 := fun W => run_complex_sum (P := Tryd.prog) W .sub (.inr rfl) 123 .f64 x y re2 im2 re3 im3 o4
  have hw := fun w => within_any re3 im3 _ _ x3 x4 (by omega) (by omega) w
  obtain ⟨v, ee, hv⟩ := wthD_form (a - (c * N - d * M)) (b - (c * M + d * N))
  rw [hv] at hw ⊢
  have Hw := Lib.hid hw
  have N1 := Lib.hid near1
  have N2 := Lib.hid near2
  clear hw near1 near2 hv x1 x2 x3 x4 o3 o4 k1 k2 r1 r2 r3 r4 bN bM hN hM ha0 ha1 hb0 hb1
  clear w1 w2 w3 w4 o1 o2 hx hy hp hq hn hpq
  have ez : ((FloatKind.f64.format.order u 0 == some .eq) = false) ∨ ((FloatKind.f64.format.order u 0 == some .eq) = true ∧ (FloatKind.f64.format.order z 0 == some .eq) = false) := by
    rw [e1, e2]
    by_cases hc : c = 0
    · have hd : ¬ d = 0 := fun h => h0 ⟨hc, h⟩
      exact .inr ⟨decide_eq_true hc, decide_eq_false hd⟩
    · exact .inl (decide_eq_false hc)
  clear e1 e2 h0 p1 p2 p3 p4 p5 p6 hn0
  rcases ez with z1 | ⟨z1, z2⟩
  all_goals
    go_enter Tryd.func66, Tryd.ntmps66
    go_wp2_with fail
    refine (Hx.out _).mono ?_
    rintro e w1 ⟨rfl, hb1⟩
    go_wp2_with fail
    refine (Hy.out _).mono ?_
    rintro e w2 ⟨rfl, hb2⟩
    go_wp2_with fail
    refine (N1.out _).mono ?_
    rintro e w3 ⟨rfl, rfl⟩
    go_wp2_with fail
    refine (N2.out _).mono ?_
    rintro e w3 ⟨rfl, rfl⟩
    go_wp2_with fail
    refine (Hw.out _).mono ?_
    rintro e w3 ⟨rfl, rfl⟩
    go_wp2_with fail
    go_ret2
    exact ⟨rfl, hb1.trans (hb2.mono hb1.size)⟩
end Go.Proofs.YtdcbanfakcgokaaDoor.Va
