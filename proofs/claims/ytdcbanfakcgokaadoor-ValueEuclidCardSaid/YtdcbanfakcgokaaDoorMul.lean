/-
  value.size, math/bits.Mul64 and value.times: the product of two ints, if an int holds it.
-/
import Derived.Test.YtdcbanfakcgokaaDoorUn
import Derived.Lib.Mul64
import Derived.Laws.Bits64b
namespace Go.Proofs.YtdcbanfakcgokaaDoor.Va
open Go.RowKit Go.Lib

namespace Mul64
theorem maskN (a : Nat) (ha : a < 18446744073709551616) : bits .and .u64 (a : Int) 4294967295 = ((a % 4294967296 : Nat) : Int) := by
  have h := bits_and_u64_nat a 4294967295 ha (by omega)
  have e : a &&& 4294967295 = a % 4294967296 := Nat.and_two_pow_sub_one_eq_mod a 32
  rw [e] at h
  exact h
theorem divN (a : Nat) : (a : Int) / 4294967296 = ((a / 4294967296 : Nat) : Int) := by omega
theorem mulN (a b : Nat) : (a : Int) * (b : Int) = ((a * b : Nat) : Int) := (Int.natCast_mul a b).symm
theorem addN (a b : Nat) : (a : Int) + (b : Int) = ((a + b : Nat) : Int) := (Int.natCast_add a b).symm
theorem wrapN (a : Nat) (ha : a < 18446744073709551616) : IntKind.u64.wrap (a : Int) = (a : Int) := by rw [IntKind.wrap_u64]; omega
theorem wrapM (a : Nat) : IntKind.u64.wrap (a : Int) = ((a % 18446744073709551616 : Nat) : Int) := by rw [IntKind.wrap_u64]; omega
end Mul64

set_option maxHeartbeats 1000000 in
theorem Mul64_any (x y : Nat) (hx : x < 18446744073709551616) (hy : y < 18446744073709551616) (w : World) :
    Calls Tryd.prog 85 #[.int .u64 x, .int .u64 y] w fun e w' => e = .returned (.tuple #[.int .u64 ((x * y / 18446744073709551616 : Nat) : Int), .int .u64 ((x * y % 18446744073709551616 : Nat) : Int)]) ∧ w' = w := by
  obtain ⟨bd, bt, bw, hhi⟩ := Lib.mul64_hi x y hx hy
  have ba := Lib.half_mul_le (a := x / 4294967296) (b := y / 4294967296) (by omega) (by omega)
  have bb := Lib.half_mul_le (a := x / 4294967296) (b := y % 4294967296) (by omega) (by omega)
  have bc := Lib.half_mul_le (a := x % 4294967296) (b := y / 4294967296) (by omega) (by omega)
  have ba' : x / 4294967296 * (y / 4294967296) < 18446744073709551616 := by omega
  have bb' : x / 4294967296 * (y % 4294967296) < 18446744073709551616 := by omega
  have bc' : x % 4294967296 * (y / 4294967296) < 18446744073709551616 := by omega
  have bh1 : x / 4294967296 * (y / 4294967296) + (x / 4294967296 * (y % 4294967296) + x % 4294967296 * (y % 4294967296) / 4294967296) / 4294967296 < 18446744073709551616 := by omega
  have bh : x / 4294967296 * (y / 4294967296) + (x / 4294967296 * (y % 4294967296) + x % 4294967296 * (y % 4294967296) / 4294967296) / 4294967296 + ((x / 4294967296 * (y % 4294967296) + x % 4294967296 * (y % 4294967296) / 4294967296) % 4294967296 + x % 4294967296 * (y / 4294967296)) / 4294967296 < 18446744073709551616 := by omega
  go_enter Tryd.func85, Tryd.ntmps85
  go_wp2
  simp only [Mul64.maskN x hx, Mul64.maskN y hy, Mul64.divN, Mul64.mulN, Mul64.addN, Mul64.wrapN _ bd, Mul64.wrapN _ bb', Mul64.wrapN _ bt, Mul64.maskN _ bt, Mul64.wrapN _ bc', Mul64.wrapN _ bw, Mul64.wrapN _ ba', Mul64.wrapN _ bh1, Mul64.wrapN _ bh, Mul64.wrapM (x * y)]
  rw [hhi]
  go_ret2
  exact ⟨rfl, rfl⟩


theorem ret1 {a b : Value} (h : a = b) : Ending.returned a = .returned b := by rw [h]
theorem intv {k : IntKind} {a b : Int} (h : a = b) : Value.int k a = .int k b := by rw [h]

theorem size_any (n : Int) (h0 : -9223372036854775808 ≤ n) (h1 : n ≤ 9223372036854775807) (w : World) :
    Calls Tryd.prog 86 #[.int .i64 n] w fun e w' => e = .returned (.int .u64 (n.natAbs : Int)) ∧ w = w' := by
  by_cases hn : n < 0
  · go_enter Tryd.func86, Tryd.ntmps86
    go_wp2
    go_ret
    exact ⟨ret1 (intv (by rw [IntKind.wrap_u64, IntKind.wrap_u64]; omega)), rfl⟩
  · go_enter Tryd.func86, Tryd.ntmps86
    go_wp2
    go_ret
    exact ⟨ret1 (intv (by omega)), rfl⟩

set_option maxHeartbeats 4000000 in
/-- Go's own tests on the two halves of the product. -/
theorem times_of (a b hi lo : Int) (p q : Nat) (c1 c2 c3 sa sb r : Bool) (w : World)
    (hs : ∀ w, Calls Tryd.prog 86 #[.int .i64 a] w fun e w' => e = .returned (.int .u64 p) ∧ w = w')
    (hs' : ∀ w, Calls Tryd.prog 86 #[.int .i64 b] w fun e w' => e = .returned (.int .u64 q) ∧ w = w')
    (hm : ∀ w, Calls Tryd.prog 85 #[.int .u64 p, .int .u64 q] w fun e w' => e = .returned (.tuple #[.int .u64 hi, .int .u64 lo]) ∧ w' = w)
    (h1 : (hi != 0) = c1) (h2 : decide ((9223372036854775808 : Int) < lo) = c2) (h3 : (lo == (9223372036854775808 : Int)) = c3) (h4 : decide (a < 0) = sa) (h4' : decide (b < 0) = sb)
    (h5 : (c1 || c2 || (c3 && !(sa != sb))) = r) :
    Calls Tryd.prog 78 #[.int .i64 a, .int .i64 b] w fun e w' => e = .returned (if r then .tuple #[.nilIface, .int .i64 11] else if (sa != sb) then .tuple #[.iface 92 (.int .i64 (wrap64 (IntKind.u64.wrap (-lo)))), .int .i64 0] else .tuple #[.iface 92 (.int .i64 (wrap64 lo)), .int .i64 0]) ∧ w = w' := by
  have Hs := Lib.hid hs
  have Hs' := Lib.hid hs'
  have Hm := Lib.hid hm
  clear hs hs' hm
  subst h5
  cases c1 <;> cases c2 <;> cases c3 <;> cases sa <;> cases sb
  all_goals
    go_enter Tryd.func78, Tryd.ntmps78
    go_wp2_with fail
    refine (Hs.out _).mono ?_
    rintro e w1 ⟨rfl, rfl⟩
    go_wp2_with fail
    refine (Hs'.out _).mono ?_
    rintro e w1 ⟨rfl, rfl⟩
    go_wp2_with fail
    refine (Hm.out _).mono ?_
    rintro e w1 ⟨rfl, rfl⟩
    go_wp2_with fail
    go_ret2
    exact ⟨rfl, rfl⟩

theorem natAbs_mul_bound {a b : Int} (ha : -9223372036854775808 ≤ a ∧ a ≤ 9223372036854775807) (hb : -9223372036854775808 ≤ b ∧ b ≤ 9223372036854775807) : a.natAbs < 18446744073709551616 ∧ b.natAbs < 18446744073709551616 := by omega

/-- The product fits: it is the answer. -/
theorem times_yes (a b : Int) (ha : -9223372036854775808 ≤ a ∧ a ≤ 9223372036854775807) (hb : -9223372036854775808 ≤ b ∧ b ≤ 9223372036854775807) (hp : -9223372036854775808 ≤ a * b ∧ a * b ≤ 9223372036854775807) (w : World) :
    Calls Tryd.prog 78 #[.int .i64 a, .int .i64 b] w fun e w' => e = .returned (.tuple #[Dat.v (.whl (a * b)), .int .i64 0]) ∧ w = w' := by
  obtain ⟨ba, bb⟩ := natAbs_mul_bound ha hb
  have habs : (a * b).natAbs = a.natAbs * b.natAbs := Int.natAbs_mul a b
  have hsign : (a * b < 0 → (decide (a < 0) != decide (b < 0)) = true) ∧ (0 < a * b → (decide (a < 0) != decide (b < 0)) = false) := by
    rcases Int.lt_trichotomy a 0 with h1 | h1 | h1 <;> rcases Int.lt_trichotomy b 0 with h2 | h2 | h2
    · have := Int.mul_pos_of_neg_of_neg h1 h2; simp [h1, h2]; omega
    · subst h2; simp
    · have := Int.mul_neg_of_neg_of_pos h1 h2; have n2 : ¬ b < 0 := by omega
      simp [h1, n2]; omega
    · subst h1; simp
    · subst h1; simp
    · subst h1; simp
    · have := Int.mul_neg_of_pos_of_neg h1 h2; have n1 : ¬ a < 0 := by omega
      simp [h2, n1]; omega
    · subst h2; simp
    · have := Int.mul_pos h1 h2; have n1 : ¬ a < 0 := by omega
      have n2 : ¬ b < 0 := by omega
      simp [n1, n2]; omega
  generalize hprod : a * b = pr at *
  generalize hq : a.natAbs * b.natAbs = q at *
  have h := times_of a b ((q / 18446744073709551616 : Nat) : Int) ((q % 18446744073709551616 : Nat) : Int) a.natAbs b.natAbs _ _ _ (decide (a < 0)) (decide (b < 0)) _ w (size_any a ha.1 ha.2) (size_any b hb.1 hb.2) (by rw [← hq]; exact Mul64_any a.natAbs b.natAbs ba bb) rfl rfl rfl rfl rfl rfl
  refine h.mono fun e w' ⟨he, hw⟩ => ⟨?_, hw⟩
  rw [he]
  have e1 : (((q / 18446744073709551616 : Nat) : Int) != 0) = false := by simp; omega
  have e2 : decide ((9223372036854775808 : Int) < ((q % 18446744073709551616 : Nat) : Int)) = false := by simp; omega
  rw [e1, e2]
  cases hm : (decide (a < 0) != decide (b < 0)) with
  | true =>
    have : ¬ 0 < pr := fun hh => by rw [hsign.2 hh] at hm; cases hm
    simp only [Bool.or_self, Bool.not_true, Bool.and_false, Bool.false_eq_true, if_false, if_true]
    refine congrArg Ending.returned (congrArg (fun v => Value.tuple #[Value.iface 92 v, .int .i64 0]) (intv ?_))
    rw [IntKind.wrap_u64]
    unfold wrap64
    omega
  | false =>
    have : ¬ pr < 0 := fun hh => by rw [hsign.1 hh] at hm; cases hm
    have e3 : (((q % 18446744073709551616 : Nat) : Int) == (9223372036854775808 : Int)) = false := by simp; omega
    rw [e3]
    simp only [Bool.or_self, Bool.not_false, Bool.and_true, Bool.false_eq_true, if_false]
    refine congrArg Ending.returned (congrArg (fun v => Value.tuple #[Value.iface 92 v, .int .i64 0]) (intv ?_))
    unfold wrap64
    omega
end Go.Proofs.YtdcbanfakcgokaaDoor.Va
