/-
  The float64 words of whole numbers: sums, differences and products of numbers below 2 to the 53rd are exact.
-/
import GoSem.Op.Unary
import Derived.Laws.FloatArith
import Derived.Laws.ComplexArith
namespace Go.Proofs.YtdcbanfakcgokaaDoor.Flt
open Ieee Go

/-- How far below 1 the last digit of the least number lies. -/
def Bz : Nat := 1074
theorem Bz_eq : Bz = 1074 := rfl
theorem p52 : (4503599627370496 : Nat) = 2 ^ 52 := by decide
theorem p53 : (9007199254740992 : Nat) = 2 ^ 53 := by decide

theorem log2_mul_pow (m e : Nat) (hm : m ≠ 0) : (m * 2 ^ e).log2 = m.log2 + e := by
  have h1 : 2 ^ m.log2 ≤ m := Nat.log2_self_le hm
  have h2 : m < 2 ^ (m.log2 + 1) := Nat.lt_log2_self
  have hp : 0 < 2 ^ e := Nat.two_pow_pos e
  have hne : m * 2 ^ e ≠ 0 := Nat.mul_ne_zero hm (by omega)
  refine (Nat.log2_eq_iff hne).2 ⟨?_, ?_⟩
  · rw [Nat.pow_add]; exact Nat.mul_le_mul_right _ h1
  · rw [show m.log2 + e + 1 = (m.log2 + 1) + e by omega, Nat.pow_add]
    exact Nat.mul_lt_mul_of_pos_right h2 hp

/-- A magnitude with its sign. -/
def sgn (s : Bool) (k : Nat) : Int := if s then -(k : Int) else (k : Int)
theorem sgn_abs (s : Bool) (k : Nat) : (sgn s k).natAbs = k := by unfold sgn; cases s <;> simp
theorem signed_eq (s : Bool) (m e : Nat) : signed s m e = sgn s (m * 2 ^ e) := by
  unfold signed sgn; rw [Nat.shiftLeft_eq]
theorem sgn_mul (s t : Bool) (a b : Nat) : sgn (s ^^ t) (a * b) = sgn s a * sgn t b := by
  unfold sgn; cases s <;> cases t <;> simp [Int.neg_mul, Int.mul_neg]
theorem sgn_not (s : Bool) (a : Nat) : sgn (!s) a = - sgn s a := by unfold sgn; cases s <;> simp
theorem sgn_scale (s : Bool) (a b : Nat) : sgn s (a * b) = sgn s a * (b : Int) := by
  unfold sgn; cases s <;> simp [Int.neg_mul]

/-- What a word stands for: the whole number n (0 has two words). -/
def IsF (b : Nat) (n : Int) : Prop :=
  ∃ (s : Bool) (m : Nat) (e : Nat), Ieee.double.read b = .number s m ((e : Int) - Bz) ∧ m < 9007199254740992 ∧ sgn s (m * 2 ^ e) = n * (2 ^ Bz : Nat)

theorem cut_exact (s : Bool) (K d : Nat) (hK : K ≠ 0) : Toward.even.cut s (K * 2 ^ d) d = K := by
  have hp : 0 < 2 ^ d := Nat.two_pow_pos d
  have hl : min d ((K * 2 ^ d).log2 + 2) = d := by rw [log2_mul_pow _ _ hK]; omega
  unfold Toward.cut
  simp only [hl, Nat.one_shiftLeft]
  have h1 : K * 2 ^ d / 2 ^ d = K := Nat.mul_div_cancel _ hp
  have h2 : K * 2 ^ d % 2 ^ d = 0 := Nat.mul_mod_left _ _
  rw [h1, h2]
  have h3 : (2 ^ d == 2 * 0) = false := by simp
  simp [h3]

theorem norm_num (N : Nat) (hN : N ≠ 0) (hle : N ≤ 9007199254740992) : ∃ K, 4503599627370496 ≤ K ∧ K < 9007199254740992 ∧ N.log2 ≤ 53 ∧ K * 2 ^ (N.log2 + (Bz - 52)) = N * 2 ^ Bz := by
  have h1 : 2 ^ N.log2 ≤ N := Nat.log2_self_le hN
  have h2 : N < 2 ^ (N.log2 + 1) := Nat.lt_log2_self
  have hB := Bz_eq
  have hl : N.log2 ≤ 53 := by
    have : N.log2 < 54 := (Nat.log2_lt hN).2 (Nat.lt_of_le_of_lt hle (by decide))
    omega
  by_cases h : N.log2 ≤ 52
  · refine ⟨N * 2 ^ (52 - N.log2), ?_, ?_, hl, ?_⟩
    · have : 2 ^ 52 = 2 ^ N.log2 * 2 ^ (52 - N.log2) := by rw [← Nat.pow_add, show N.log2 + (52 - N.log2) = 52 by omega]
      rw [p52, this]; exact Nat.mul_le_mul_right _ h1
    · have : 2 ^ 53 = 2 ^ (N.log2 + 1) * 2 ^ (52 - N.log2) := by rw [← Nat.pow_add, show N.log2 + 1 + (52 - N.log2) = 53 by omega]
      rw [p53, this]; exact Nat.mul_lt_mul_of_pos_right h2 (Nat.two_pow_pos _)
    · rw [Nat.mul_assoc, ← Nat.pow_add, show 52 - N.log2 + (N.log2 + (Bz - 52)) = Bz by omega]
  · have e53 : N.log2 = 53 := by omega
    have : N = 2 ^ 53 := by rw [e53] at h1; rw [← p53] at *; omega
    refine ⟨4503599627370496, Nat.le_refl _, by decide, hl, ?_⟩
    rw [e53, this, p52, ← Nat.pow_add, ← Nat.pow_add, show 52 + (53 + (Bz - 52)) = 53 + Bz by omega]

theorem infRung_eq : Ieee.double.infRung = 9218868437227405312 := by decide
theorem signWeight_eq : Ieee.double.signWeight = 9223372036854775808 := by decide
theorem binade_eq : Ieee.double.binade = 4503599627370496 := by decide
theorem leastPlace_eq : Ieee.double.leastPlace = -(Bz : Int) := by decide

theorem number_congr {s : Bool} {m m' : Nat} {e e' : Int} (h1 : m = m') (h2 : e = e') : Datum.number s m e = .number s m' e' := by rw [h1, h2]

theorem read_word (s : Bool) (L K : Nat) (h1 : 4503599627370496 ≤ K) (h2 : K < 9007199254740992) (hL : L ≤ 53) :
    Ieee.double.read (Ieee.double.word s (min ((L + (Bz - 52)) * 4503599627370496 + K) 9218868437227405312)) = .number s K (((L + (Bz - 52) : Nat) : Int) - Bz) := by
  have hB := Bz_eq
  generalize hQ : L + (Bz - 52) = Q
  have hQ' : Q ≤ 1075 := by omega
  have hmin : min (Q * 4503599627370496 + K) 9218868437227405312 = Q * 4503599627370496 + K := Nat.min_eq_left (by omega)
  unfold Format.read Format.word
  rw [infRung_eq, signWeight_eq, binade_eq, leastPlace_eq, hmin]
  have hq : (Q * 4503599627370496 + K) / 4503599627370496 = Q + 1 := by omega
  have hm : (Q * 4503599627370496 + K) % 4503599627370496 = K - 4503599627370496 := by omega
  cases s
  · have e1 : (Q * 4503599627370496 + K) / 9223372036854775808 = 0 := by omega
    have e2 : (Q * 4503599627370496 + K) % 9223372036854775808 = Q * 4503599627370496 + K := by omega
    simp only [Bool.false_eq_true, if_false]
    rw [e1, e2, if_neg (by omega), if_pos (by omega), hq, hm]
    exact number_congr (by omega) (by omega)
  · have e1 : (9223372036854775808 + (Q * 4503599627370496 + K)) / 9223372036854775808 = 1 := by omega
    have e2 : (9223372036854775808 + (Q * 4503599627370496 + K)) % 9223372036854775808 = Q * 4503599627370496 + K := by omega
    simp only [if_true]
    rw [e1, e2, if_neg (by omega), if_pos (by omega), hq, hm]
    exact number_congr (by omega) (by omega)

theorem read_zero (s : Bool) : Ieee.double.read (Ieee.double.word s 0) = .number s 0 (-(Bz : Int)) := by
  cases s <;> decide

/-- A whole number of at most 53 digits is written without a loss. -/
theorem write_exact (s : Bool) (mag E N : Nat) (hN : N ≠ 0) (hle : N ≤ 9007199254740992) (h : mag * 2 ^ E = N * 2 ^ Bz) :
    ∃ K e, Ieee.double.read (Ieee.double.nearest s mag ((E : Int) - Bz)) = .number s K (((e : Nat) : Int) - Bz) ∧ K < 9007199254740992 ∧ K * 2 ^ e = N * 2 ^ Bz := by
  obtain ⟨K, h1, h2, hl, hK⟩ := norm_num N hN hle
  have hB := Bz_eq
  have hm0 : mag ≠ 0 := by
    rintro rfl
    have : 0 < N * 2 ^ Bz := Nat.mul_pos (by omega) (Nat.two_pow_pos _)
    omega
  have hlog : mag.log2 + E = N.log2 + Bz := by rw [← log2_mul_pow _ _ hm0, h, log2_mul_pow _ _ hN]
  have hlast : max ((E : Int) - Bz + mag.log2 - ((52 : Nat) : Int)) (-(Bz : Int)) = (N.log2 : Int) - 52 := by omega
  refine ⟨K, N.log2 + (Bz - 52), ?_, h2, hK⟩
  unfold Format.nearest
  rw [if_neg hm0]
  simp only [leastPlace_eq, show Ieee.double.fractionBits = 52 from rfl, binade_eq, infRung_eq]
  rw [hlast]
  have hkept : Toward.even.cut s (mag <<< ((E : Int) - Bz - ((N.log2 : Int) - 52)).toNat) (((N.log2 : Int) - 52) - ((E : Int) - Bz)).toNat = K := by
    by_cases hc : N.log2 + (Bz - 52) ≤ E
    · rw [show (((N.log2 : Int) - 52) - ((E : Int) - Bz)).toNat = 0 by omega, show ((E : Int) - Bz - ((N.log2 : Int) - 52)).toNat = E - (N.log2 + (Bz - 52)) by omega, Nat.shiftLeft_eq]
      have : K = mag * 2 ^ (E - (N.log2 + (Bz - 52))) := by
        have hpos : 0 < 2 ^ (N.log2 + (Bz - 52)) := Nat.two_pow_pos _
        refine Nat.eq_of_mul_eq_mul_right hpos ?_
        rw [hK, ← h, Nat.mul_assoc, ← Nat.pow_add, Nat.sub_add_cancel hc]
      rw [← this]
      have := cut_exact s K 0 (by omega)
      simpa using this
    · have : mag = K * 2 ^ (N.log2 + (Bz - 52) - E) := by
        have hpos : 0 < 2 ^ E := Nat.two_pow_pos _
        refine Nat.eq_of_mul_eq_mul_right hpos ?_
        rw [h, ← hK, Nat.mul_assoc, ← Nat.pow_add, Nat.sub_add_cancel (by omega)]
      rw [show (((N.log2 : Int) - 52) - ((E : Int) - Bz)).toNat = N.log2 + (Bz - 52) - E by omega, show ((E : Int) - Bz - ((N.log2 : Int) - 52)).toNat = 0 by omega, Nat.shiftLeft_zero, this]
      exact cut_exact s K _ (by omega)
  rw [hkept, show ((N.log2 : Int) - 52 - -(Bz : Int)).toNat = N.log2 + (Bz - 52) by omega]
  exact read_word s _ K h1 h2 hl

/-- What is written of a datum that stands for n. -/
theorem isF_write (s : Bool) (mag E : Nat) (n : Int) (hn : n.natAbs ≤ 9007199254740992) (h : sgn s (mag * 2 ^ E) = n * (2 ^ Bz : Nat)) :
    IsF (Ieee.double.nearest s mag ((E : Int) - Bz)) n := by
  have habs : mag * 2 ^ E = n.natAbs * 2 ^ Bz := by
    have := congrArg Int.natAbs h
    rwa [sgn_abs, Int.natAbs_mul, Int.natAbs_natCast] at this
  by_cases h0 : n = 0
  · subst h0
    have hm : mag = 0 := by
      have hpos : 0 < 2 ^ E := Nat.two_pow_pos _
      have : mag * 2 ^ E = 0 := by rw [habs]; simp
      rcases Nat.mul_eq_zero.1 this with h | h
      · exact h
      · omega
    subst hm
    refine ⟨s, 0, 0, ?_, by decide, by cases s <;> simp [sgn]⟩
    unfold Format.nearest
    rw [if_pos rfl, read_zero]
    exact number_congr rfl (by omega)
  · obtain ⟨K, e, hr, hK, he⟩ := write_exact s mag E n.natAbs (by omega) hn habs
    exact ⟨s, K, e, hr, hK, by rw [he, ← habs]; exact h⟩

theorem isF_nearest (n : Int) (hn : n.natAbs ≤ 9007199254740992) : IsF (FloatKind.f64.nearest n) n := by
  have e : FloatKind.f64.nearest n = Ieee.double.nearest (decide (n < 0)) n.natAbs (((Bz : Nat) : Int) - Bz) := by
    rw [Int.sub_self]; rfl
  rw [e]
  refine isF_write _ _ _ _ hn ?_
  rw [sgn_scale]
  congr 1
  unfold sgn
  by_cases h : n < 0 <;> simp [h] <;> omega

/-- The data of two whole numbers added. -/
theorem isF_sum {x : Nat} {a b : Int} (hx : IsF x a) (d : Datum) (t : Bool) (n j : Nat) (hd : d = .number t n ((j : Int) - Bz)) (hb : sgn t (n * 2 ^ j) = b * (2 ^ Bz : Nat)) (hab : (a + b).natAbs ≤ 9007199254740992) :
    ∃ r, ((Ieee.double.read x).sum d).map Ieee.double.write = some r ∧ IsF r (a + b) := by
  obtain ⟨s, m, i, hr, _, ha⟩ := hx
  subst hd
  rw [hr]
  simp only [Datum.sum, Option.map_some, Format.write]
  refine ⟨_, rfl, ?_⟩
  have hbase : min ((i : Int) - Bz) ((j : Int) - Bz) = ((min i j : Nat) : Int) - Bz := by omega
  rw [hbase]
  have e1 : ((i : Int) - Bz - (((min i j : Nat) : Int) - Bz)).toNat = i - min i j := by omega
  have e2 : ((j : Int) - Bz - (((min i j : Nat) : Int) - Bz)).toNat = j - min i j := by omega
  rw [e1, e2, signed_eq, signed_eq]
  generalize ht : sgn s (m * 2 ^ (i - min i j)) + sgn t (n * 2 ^ (j - min i j)) = total
  refine isF_write _ _ _ _ hab ?_
  have hs : sgn (if total = 0 then s && t else decide (total < 0)) (total.natAbs) = total := by
    unfold sgn
    by_cases h0 : total = 0
    · subst h0; simp
    · by_cases h : total < 0 <;> simp [h0, h] <;> omega
  rw [sgn_scale, hs, ← ht, Int.add_mul, ← sgn_scale, ← sgn_scale, Nat.mul_assoc, Nat.mul_assoc, ← Nat.pow_add, ← Nat.pow_add, Nat.sub_add_cancel (Nat.min_le_left _ _), Nat.sub_add_cancel (Nat.min_le_right _ _), ha, hb, Int.add_mul]

theorem isF_add {x y : Nat} {a b : Int} (hx : IsF x a) (hy : IsF y b) (hab : (a + b).natAbs ≤ 9007199254740992) : ∃ r, Ieee.double.add x y = some r ∧ IsF r (a + b) := by
  obtain ⟨t, n, j, hr, _, hb⟩ := hy
  exact isF_sum hx _ t n j hr hb hab

theorem isF_sub {x y : Nat} {a b : Int} (hx : IsF x a) (hy : IsF y b) (hab : (a - b).natAbs ≤ 9007199254740992) : ∃ r, Ieee.double.sub x y = some r ∧ IsF r (a - b) := by
  obtain ⟨t, n, j, hr, _, hb⟩ := hy
  have := isF_sum (b := -b) hx (Ieee.double.read y).opposite (!t) n j (by rw [hr]; rfl) (by rw [sgn_not, hb, Int.neg_mul]) (by rw [← Int.sub_eq_add_neg]; exact hab)
  rwa [← Int.sub_eq_add_neg] at this

/-- A number but 0 has its digits from the place -52 on. -/
theorem isF_high {s : Bool} {m e : Nat} {n : Int} (h0 : n ≠ 0) (hm : m < 9007199254740992) (h : sgn s (m * 2 ^ e) = n * (2 ^ Bz : Nat)) : Bz ≤ e + 53 := by
  have habs : m * 2 ^ e = n.natAbs * 2 ^ Bz := by
    have := congrArg Int.natAbs h
    rwa [sgn_abs, Int.natAbs_mul, Int.natAbs_natCast] at this
  have h1 : 2 ^ Bz ≤ m * 2 ^ e := by rw [habs]; exact Nat.le_mul_of_pos_left _ (by omega)
  have h2 : m * 2 ^ e < 2 ^ (53 + e) := by
    rw [Nat.pow_add, ← p53]; exact Nat.mul_lt_mul_of_pos_right hm (Nat.two_pow_pos _)
  have := (Nat.pow_lt_pow_iff_right (by decide : 1 < 2)).1 (Nat.lt_of_le_of_lt h1 h2)
  omega

theorem isF_mul {x y : Nat} {a b : Int} (hx : IsF x a) (hy : IsF y b) (hab : (a * b).natAbs ≤ 9007199254740992) : ∃ r, Ieee.double.mul x y = some r ∧ IsF r (a * b) := by
  obtain ⟨s, m, i, hr, hm, ha⟩ := hx
  obtain ⟨t, n, j, hr', hn, hb⟩ := hy
  have hB := Bz_eq
  have hprod : sgn (s ^^ t) (m * n * 2 ^ (i + j)) = a * b * (2 ^ Bz : Nat) * (2 ^ Bz : Nat) := by
    have e1 : m * n * 2 ^ (i + j) = (m * 2 ^ i) * (n * 2 ^ j) := by
      rw [Nat.pow_add]; generalize 2 ^ i = p; generalize 2 ^ j = q
      rw [Nat.mul_assoc, Nat.mul_assoc]; congr 1
      rw [← Nat.mul_assoc, Nat.mul_comm n p, Nat.mul_assoc]
    rw [e1, sgn_mul, ha, hb]
    generalize ((2 ^ Bz : Nat) : Int) = z
    rw [Int.mul_assoc, Int.mul_assoc, Int.mul_assoc]; congr 1
    rw [← Int.mul_assoc, Int.mul_comm z b, Int.mul_assoc]
  unfold Format.mul
  rw [hr, hr']
  simp only [Datum.product, Option.map_some, Format.write]
  refine ⟨_, rfl, ?_⟩
  by_cases h0 : a * b = 0
  · have hz : m * n = 0 := by
      have := congrArg Int.natAbs hprod
      rw [sgn_abs, h0] at this
      simp only [Int.zero_mul, Int.natAbs_zero] at this
      rcases Nat.mul_eq_zero.1 this with h | h
      · exact h
      · have := Nat.two_pow_pos (i + j); omega
    rw [hz, h0]
    refine ⟨(s ^^ t), 0, 0, ?_, by decide, by cases (s ^^ t) <;> simp [sgn]⟩
    unfold Format.nearest
    rw [if_pos rfl, read_zero]
    exact number_congr rfl (by omega)
  · have ha0 : a ≠ 0 := by rintro rfl; simp at h0
    have hb0 : b ≠ 0 := by rintro rfl; simp at h0
    have l1 := isF_high ha0 hm ha
    have l2 := isF_high hb0 hn hb
    have hE : (i : Int) - Bz + ((j : Int) - Bz) = ((i + j - Bz : Nat) : Int) - Bz := by omega
    rw [hE]
    refine isF_write _ _ _ _ hab ?_
    have hpos : (0 : Int) < ((2 ^ Bz : Nat) : Int) := by exact_mod_cast Nat.two_pow_pos Bz
    refine Int.eq_of_mul_eq_mul_right (Int.ne_of_gt hpos) ?_
    rw [← hprod, ← sgn_scale, Nat.mul_assoc, ← Nat.pow_add, Nat.sub_add_cancel (by omega)]

theorem signed_zero (s : Bool) (m : Nat) : signed s m 0 = sgn s m := by rw [signed_eq]; simp

/-- A whole number's word, taken as an int: that number. -/
theorem isF_toInt {x : Nat} {a : Int} (hx : IsF x a) : (FloatKind.f64.decode x).toInt .zero = some a := by
  obtain ⟨s, m, e, hr, hm, ha⟩ := hx
  have hd : FloatKind.f64.decode x = .number s m ((e : Int) - Bz) := hr
  have hB := Bz_eq
  rw [hd]
  simp only [Datum.toInt, Datum.integral, signed_zero]
  congr 1
  have hpos : (0 : Int) < ((2 ^ Bz : Nat) : Int) := by exact_mod_cast Nat.two_pow_pos Bz
  refine Int.eq_of_mul_eq_mul_right (Int.ne_of_gt hpos) ?_
  rw [← ha, ← sgn_scale]
  refine congrArg (sgn s) ?_
  by_cases hc : Bz ≤ e
  · rw [show ((e : Int) - Bz).toNat = e - Bz by omega, show (-((e : Int) - Bz)).toNat = 0 by omega]
    have h1 : Toward.zero.cut s (m <<< (e - Bz)) 0 = m * 2 ^ (e - Bz) := by
      unfold Toward.cut
      simp [Nat.shiftLeft_eq]
    rw [h1, Nat.mul_assoc, ← Nat.pow_add, Nat.sub_add_cancel hc]
  · rw [show ((e : Int) - Bz).toNat = 0 by omega, show (-((e : Int) - Bz)).toNat = Bz - e by omega, Nat.shiftLeft_zero]
    -- the places below 1 are empty
    have habs : m * 2 ^ e = a.natAbs * 2 ^ Bz := by
      have := congrArg Int.natAbs ha
      rwa [sgn_abs, Int.natAbs_mul, Int.natAbs_natCast] at this
    have hme : m = a.natAbs * 2 ^ (Bz - e) := by
      have hp : 0 < 2 ^ e := Nat.two_pow_pos e
      refine Nat.eq_of_mul_eq_mul_right hp ?_
      rw [habs, Nat.mul_assoc, ← Nat.pow_add, Nat.sub_add_cancel (by omega)]
    have h1 : Toward.zero.cut s m (Bz - e) = a.natAbs := by
      unfold Toward.cut
      by_cases h0 : a.natAbs = 0
      · rw [hme, h0]; simp
      · have hl : min (Bz - e) (m.log2 + 2) = Bz - e := by rw [hme, log2_mul_pow _ _ h0]; omega
        have hp : 0 < 2 ^ (Bz - e) := Nat.two_pow_pos _
        simp only [hl, Nat.one_shiftLeft]
        rw [hme, Nat.mul_div_cancel _ hp]
        simp
    rw [h1, habs]

theorem compare_scale {A B a b p z : Int} (hmin : 0 < p) (hpos : 0 < z) (hA : A * p = a * z) (hBb : B * p = b * z) : compare A B = compare a b := by
  have lt : ∀ {u v : Int} , u < v ↔ u * z < v * z := fun {u v} => ⟨fun h => Int.mul_lt_mul_of_pos_right h hpos, fun h => Int.lt_of_mul_lt_mul_right h (Int.le_of_lt hpos)⟩
  have lt' : ∀ {u v : Int} , u < v ↔ u * p < v * p := fun {u v} => ⟨fun h => Int.mul_lt_mul_of_pos_right h hmin, fun h => Int.lt_of_mul_lt_mul_right h (Int.le_of_lt hmin)⟩
  have h1 : A < B ↔ a < b := by rw [lt', hA, hBb, ← lt]
  have h2 : B < A ↔ b < a := by rw [lt', hA, hBb, ← lt]
  simp only [compare, compareOfLessAndEq]
  by_cases c1 : a < b
  · rw [if_pos c1, if_pos (h1.2 c1)]
  · rw [if_neg c1, if_neg (fun h => c1 (h1.1 h))]
    by_cases c2 : b < a
    · have c2' := h2.2 c2
      rw [if_neg (by omega), if_neg (by omega)]
    · have n1 : ¬ A < B := fun h => c1 (h1.1 h)
      have n2 : ¬ B < A := fun h => c2 (h2.1 h)
      rw [if_pos (by omega), if_pos (by omega)]

/-- How two whole numbers' words stand to each other. -/
theorem isF_order {x y : Nat} {a b : Int} (hx : IsF x a) (hy : IsF y b) : Ieee.double.order x y = some (compare a b) := by
  obtain ⟨s, m, i, hr, _, ha⟩ := hx
  obtain ⟨t, n, j, hr', _, hb⟩ := hy
  unfold Format.order
  rw [hr, hr']
  simp only [Datum.order]
  have hbase : min ((i : Int) - Bz) ((j : Int) - Bz) = ((min i j : Nat) : Int) - Bz := by omega
  have e1 : ((i : Int) - Bz - (((min i j : Nat) : Int) - Bz)).toNat = i - min i j := by omega
  have e2 : ((j : Int) - Bz - (((min i j : Nat) : Int) - Bz)).toNat = j - min i j := by omega
  rw [hbase, e1, e2, signed_eq, signed_eq]
  have hpos : (0 : Int) < ((2 ^ Bz : Nat) : Int) := by exact_mod_cast Nat.two_pow_pos Bz
  have hmin : (0 : Int) < ((2 ^ min i j : Nat) : Int) := by exact_mod_cast Nat.two_pow_pos _
  have hA : sgn s (m * 2 ^ (i - min i j)) * ((2 ^ min i j : Nat) : Int) = a * ((2 ^ Bz : Nat) : Int) := by
    rw [← sgn_scale, Nat.mul_assoc, ← Nat.pow_add, Nat.sub_add_cancel (Nat.min_le_left _ _), ha]
  have hBb : sgn t (n * 2 ^ (j - min i j)) * ((2 ^ min i j : Nat) : Int) = b * ((2 ^ Bz : Nat) : Int) := by
    rw [← sgn_scale, Nat.mul_assoc, ← Nat.pow_add, Nat.sub_add_cancel (Nat.min_le_right _ _), hb]
  exact congrArg some (compare_scale hmin hpos hA hBb)

/-- A word of 64 bits that stands for n. -/
def IsW (b : Nat) (n : Int) : Prop := IsF b n ∧ b < 18446744073709551616

theorem wf_lt {b : Nat} (h : (Lit.float .f64 b).wf = true) : b < 18446744073709551616 := by
  have e : (2 : Nat) ^ 64 = 18446744073709551616 := by decide
  simp only [Lit.wf, decide_eq_true_eq] at h
  simpa [FloatKind.format, Ieee.Format.width, Ieee.double, e] using h

theorem isW_nearest (n : Int) (hn : n.natAbs ≤ 9007199254740992) : IsW (FloatKind.f64.nearest n) n :=
  ⟨isF_nearest n hn, wf_lt (encode_wf .f64 _)⟩
theorem nearest_zero : FloatKind.f64.nearest 0 = 0 := by decide
theorem isW_zero : IsW 0 0 := by have := isW_nearest 0 (by decide); rwa [nearest_zero] at this
theorem nearest_most : FloatKind.f64.nearest 33554432 = 4719772409484279808 := by decide
theorem isW_most : IsW 4719772409484279808 33554432 := by have := isW_nearest 33554432 (by decide); rwa [nearest_most] at this

theorem isW_add {x y : Nat} {a b : Int} (hx : IsW x a) (hy : IsW y b) (hab : (a + b).natAbs ≤ 9007199254740992) : ∃ r, floatBits .add .f64 x y = some r ∧ IsW r (a + b) := by
  obtain ⟨r, h1, h2⟩ := isF_add hx.1 hy.1 hab
  have h : floatBits .add .f64 x y = some r := h1
  exact ⟨r, h, h2, wf_lt (floatBits_wf h)⟩
theorem isW_sub {x y : Nat} {a b : Int} (hx : IsW x a) (hy : IsW y b) (hab : (a - b).natAbs ≤ 9007199254740992) : ∃ r, floatBits .sub .f64 x y = some r ∧ IsW r (a - b) := by
  obtain ⟨r, h1, h2⟩ := isF_sub hx.1 hy.1 hab
  have h : floatBits .sub .f64 x y = some r := h1
  exact ⟨r, h, h2, wf_lt (floatBits_wf h)⟩
theorem isW_mul {x y : Nat} {a b : Int} (hx : IsW x a) (hy : IsW y b) (hab : (a * b).natAbs ≤ 9007199254740992) : ∃ r, floatBits .mul .f64 x y = some r ∧ IsW r (a * b) := by
  obtain ⟨r, h1, h2⟩ := isF_mul hx.1 hy.1 hab
  have h : floatBits .mul .f64 x y = some r := h1
  exact ⟨r, h, h2, wf_lt (floatBits_wf h)⟩

/-- The sum, the difference, the product of two complex numbers of whole parts. -/
theorem isW_csum {x y u v : Nat} {a b c d : Int} (hx : IsW x a) (hy : IsW y b) (hu : IsW u c) (hv : IsW v d) (h1 : (a + c).natAbs ≤ 9007199254740992) (h2 : (b + d).natAbs ≤ 9007199254740992) :
    ∃ re im, cSumBits .add .f64 x y u v = some (re, im) ∧ IsW re (a + c) ∧ IsW im (b + d) := by
  obtain ⟨re, e1, r1⟩ := isW_add hx hu h1
  obtain ⟨im, e2, r2⟩ := isW_add hy hv h2
  exact ⟨re, im, by simp [cSumBits, e1, e2], r1, r2⟩
theorem isW_cdiff {x y u v : Nat} {a b c d : Int} (hx : IsW x a) (hy : IsW y b) (hu : IsW u c) (hv : IsW v d) (h1 : (a - c).natAbs ≤ 9007199254740992) (h2 : (b - d).natAbs ≤ 9007199254740992) :
    ∃ re im, cSumBits .sub .f64 x y u v = some (re, im) ∧ IsW re (a - c) ∧ IsW im (b - d) := by
  obtain ⟨re, e1, r1⟩ := isW_sub hx hu h1
  obtain ⟨im, e2, r2⟩ := isW_sub hy hv h2
  exact ⟨re, im, by simp [cSumBits, e1, e2], r1, r2⟩
theorem isW_cmul {x y u v : Nat} {a b c d : Int} (hx : IsW x a) (hy : IsW y b) (hu : IsW u c) (hv : IsW v d)
    (h1 : (a * c).natAbs ≤ 9007199254740992) (h2 : (b * d).natAbs ≤ 9007199254740992) (h3 : (a * d).natAbs ≤ 9007199254740992) (h4 : (b * c).natAbs ≤ 9007199254740992)
    (h5 : (a * c - b * d).natAbs ≤ 9007199254740992) (h6 : (a * d + b * c).natAbs ≤ 9007199254740992) :
    ∃ re im, cMulBits x y u v = some (re, im) ∧ IsW re (a * c - b * d) ∧ IsW im (a * d + b * c) := by
  obtain ⟨r1, e1, w1⟩ := isW_mul hx hu h1
  obtain ⟨r2, e2, w2⟩ := isW_mul hy hv h2
  obtain ⟨r3, e3, w3⟩ := isW_mul hx hv h3
  obtain ⟨r4, e4, w4⟩ := isW_mul hy hu h4
  obtain ⟨re, e5, w5⟩ := isW_sub w1 w2 h5
  obtain ⟨im, e6, w6⟩ := isW_add w3 w4 h6
  exact ⟨re, im, by simp [cMulBits, e1, e2, e3, e4, e5, e6], w5, w6⟩

theorem xor_low (b : Nat) (hb : b < 2 ^ 63) : b ^^^ 2 ^ 63 = 2 ^ 63 + b := by
  apply Nat.eq_of_testBit_eq
  intro i
  rw [Nat.testBit_xor, Nat.testBit_two_pow]
  by_cases h1 : i < 63
  · rw [Nat.testBit_two_pow_add_gt h1]
    have : decide (63 = i) = false := by simp; omega
    rw [this]; simp
  · by_cases h2 : i = 63
    · subst h2
      rw [Nat.testBit_two_pow_add_eq]; simp
    · have h3 : b < 2 ^ i := Nat.lt_of_lt_of_le hb (Nat.pow_le_pow_right (by decide) (by omega))
      have h4 : 2 ^ 63 + b < 2 ^ i := Nat.lt_of_lt_of_le (by omega : 2 ^ 63 + b < 2 ^ 64) (Nat.pow_le_pow_right (by decide) (by omega))
      rw [Nat.testBit_lt_two_pow h3, Nat.testBit_lt_two_pow h4]
      have : decide (63 = i) = false := by simp; omega
      rw [this]; rfl

theorem negFloat_eq (b : Nat) (hb : b < 18446744073709551616) : Op.negFloat .f64 b = if b < 9223372036854775808 then b + 9223372036854775808 else b - 9223372036854775808 := by
  have e : Op.negFloat .f64 b = b ^^^ 2 ^ 63 := rfl
  have p : (2 : Nat) ^ 63 = 9223372036854775808 := by decide
  rw [e]
  by_cases h : b < 9223372036854775808
  · rw [if_pos h, xor_low b (by rw [p]; exact h), p, Nat.add_comm]
  · rw [if_neg h]
    obtain ⟨c, rfl⟩ : ∃ c, b = 2 ^ 63 + c := ⟨b - 2 ^ 63, by rw [p]; omega⟩
    have hc : c < 2 ^ 63 := by rw [p] at *; omega
    rw [← xor_low c hc, Nat.xor_assoc, Nat.xor_self, Nat.xor_zero]
    rw [xor_low c hc, p]; omega

/-- A word's reading by its sign and its rung. -/
theorem read_neg (b : Nat) (hb : b < 18446744073709551616) : Ieee.double.read (Op.negFloat .f64 b) = (Ieee.double.read b).opposite := by
  rw [negFloat_eq b hb]
  unfold Format.read
  rw [signWeight_eq]
  by_cases h : b < 9223372036854775808
  · rw [if_pos h]
    have e1 : (b + 9223372036854775808) / 9223372036854775808 = 1 := by omega
    have e2 : (b + 9223372036854775808) % 9223372036854775808 = b := by omega
    have e3 : b / 9223372036854775808 = 0 := by omega
    have e4 : b % 9223372036854775808 = b := by omega
    rw [e1, e2, e3, e4]
    simp only [Nat.reduceMod, beq_self_eq_true, Nat.zero_mod]
    repeat' split
    all_goals simp_all [Datum.opposite]
  · rw [if_neg h]
    have e1 : (b - 9223372036854775808) / 9223372036854775808 = 0 := by omega
    have e2 : (b - 9223372036854775808) % 9223372036854775808 = b % 9223372036854775808 := by omega
    have e3 : b / 9223372036854775808 = 1 := by omega
    rw [e1, e2, e3]
    simp only [Nat.reduceMod, beq_self_eq_true, Nat.zero_mod]
    repeat' split
    all_goals simp_all [Datum.opposite]

theorem isW_neg {x : Nat} {a : Int} (hx : IsW x a) : IsW (Op.negFloat .f64 x) (-a) := by
  obtain ⟨⟨s, m, e, hr, hm, ha⟩, hb⟩ := hx
  refine ⟨⟨!s, m, e, by rw [read_neg x hb, hr]; rfl, hm, by rw [sgn_not, ha, Int.neg_mul]⟩, ?_⟩
  rw [negFloat_eq x hb]
  split <;> omega

/-- Without the sign. -/
theorem isW_abs {x : Nat} {a : Int} (hx : IsW x a) : IsW (x % 9223372036854775808) (a.natAbs : Int) := by
  obtain ⟨⟨s, m, e, hr, hm, ha⟩, hb⟩ := hx
  have hx' : Ieee.double.read (x % 9223372036854775808) = .number false m ((e : Int) - Bz) := by
    unfold Format.read at hr ⊢
    rw [signWeight_eq] at hr ⊢
    have e1 : x % 9223372036854775808 / 9223372036854775808 = 0 := by omega
    rw [e1, Nat.mod_mod]
    generalize hn : (x / 9223372036854775808 % 2 == 1) = neg at hr
    revert hr
    simp only [Nat.zero_mod]
    repeat' split
    all_goals simp_all
  refine ⟨⟨false, m, e, hx', hm, ?_⟩, by omega⟩
  have habs := congrArg Int.natAbs ha
  rw [sgn_abs, Int.natAbs_mul, Int.natAbs_natCast] at habs
  rw [← Int.natCast_mul, ← habs]
  rfl
end Go.Proofs.YtdcbanfakcgokaaDoor.Flt
