/-
  value.field, value.within, value.nearest: complex numbers of whole parts as the language's own.
-/
import Derived.Test.YtdcbanfakcgokaaDoorOpen
import Derived.Test.YtdcbanfakcgokaaDoorFlt
import Derived.Laws.FloatArith
import Derived.Laws.ComplexArith
namespace Go.Proofs.YtdcbanfakcgokaaDoor.Va
open Go.RowKit
open Go.Proofs.YtdcbanfakcgokaaDoor.Flt (IsW)

theorem ret1' {a b : Value} (h : a = b) : Ending.returned a = .returned b := by rw [h]

set_option maxRecDepth 100000 in
theorem field_whl (n : Int) (hn : -33554432 ≤ n ∧ n ≤ 33554432) (w : World) :
    Calls Tryd.prog 79 #[Dat.v (.whl n)] w fun e w' => e = .returned (.tuple #[.complex .f64 (FloatKind.f64.nearest n) 0, .bool true]) ∧ Below w.heap.size w w' := by
  have f1 := as_whl (.whl n)
  simp only [Dat.t, Dat.x, Dat.asWhl] at f1
  have Hn := Lib.hid hn
  clear hn
  unfold Dat.v Dat.t Dat.x
  go_enter Tryd.func79, Tryd.ntmps79
  go_wp2_with (go_at_call 53; refine (inPart_yes n _ Hn.out).mono ?_; rintro e w1 ⟨rfl, rfl⟩)
  go_ret2
  exact ⟨rfl, Below.refl _ _⟩

set_option maxRecDepth 100000 in
theorem field_pln (a b : Int) (w : World) :
    Calls Tryd.prog 79 #[Dat.v (.pln a b)] w fun e w' => e = .returned (.tuple #[.complex .f64 (FloatKind.f64.nearest a) (FloatKind.f64.nearest b), .bool true]) ∧ Below w.heap.size w w' := by
  have f1 := as_whl (.pln a b)
  have f2 := as_pln (.pln a b)
  simp only [Dat.t, Dat.x, Dat.asWhl, Dat.asPln] at f1 f2
  unfold Dat.v Dat.t Dat.x
  go_enter Tryd.func79, Tryd.ntmps79
  go_wp2_with fail
  go_ret2
  exact ⟨rfl, (by repeat (first | exact Below.refl _ _ | assumption | refine Below.alloc ?_ (by simp; try omega) _ | refine Below.drew ?_ | refine Below.setCell ?_ (by simp; try omega) _))⟩

theorem bits_call (b : Nat) (W : World) : (callFunc 94 #[.float .f64 b]).run Tryd.prog W = .ok (.value (.int .u64 b)) W := by kernel_rfl
theorem frombits_call (n : Int) (W : World) : (callFunc 93 #[.int .u64 n]).run Tryd.prog W = .ok (.value (.float .f64 n.toNat)) W := by kernel_rfl

theorem clear_sign (b : Nat) (hb : b < 18446744073709551616) : bits .andNot .u64 (b : Int) 9223372036854775808 = ((b % 9223372036854775808 : Nat) : Int) := by
  have h := u64_andNot_nat b 9223372036854775808 hb (by omega)
  have e : b &&& (18446744073709551615 - 9223372036854775808) = b % 9223372036854775808 := Nat.and_two_pow_sub_one_eq_mod b 63
  rw [e] at h
  exact h

set_option maxRecDepth 100000 in
theorem abs_any (b : Nat) (hb : b < 18446744073709551616) (w : World) :
    Calls Tryd.prog 87 #[.float .f64 b] w fun e w' => e = .returned (.float .f64 (b % 9223372036854775808)) ∧ w = w' := by
  have h1 := bits_call b
  have h2 := frombits_call
  have h3 := clear_sign b hb
  go_enter Tryd.func87, Tryd.ntmps87
  go_wp2_with fail
  go_ret
  exact ⟨rfl, rfl⟩

theorem conv_int {b : Nat} {n : Int} (h : IsW b n) (h0 : -9223372036854775808 ≤ n ∧ n ≤ 9223372036854775807) (W : World) : (convert 127 2 (.float .f64 b)).run Tryd.prog W = .ok (.int .i64 n) W := by
  have h1 := Flt.isF_toInt h.1
  have e : (convert 127 2 (.float .f64 b)).run Tryd.prog W = (Conv.floatToInt .f64 b .i64).run Tryd.prog W := by kernel_rfl
  have hm : IntKind.i64.min ≤ n ∧ n ≤ IntKind.i64.max := h0
  rw [e]
  simp [Conv.floatToInt, h1, hm]
  intro hc
  omega

theorem floor_of {N D q r : Int} (h : N = D * q + r) (h0 : 0 ≤ r) (h1 : r < D) : N / D = q := by
  rw [h, Int.mul_comm, Int.add_comm, Int.add_mul_ediv_right _ _ (by omega), Int.ediv_eq_zero_of_lt h0 h1]
  omega
theorem tdiv_small (N D : Int) : -(N.natAbs : Int) ≤ N.tdiv D ∧ N.tdiv D ≤ (N.natAbs : Int) := by
  have h : (N.tdiv D).natAbs ≤ N.natAbs := by
    rw [Int.natAbs_tdiv]; exact Nat.div_le_self _ _
  omega
theorem floor_neg {N D : Int} (hD : 0 < D) (h : N.tmod D < 0) : N / D = N.tdiv D - 1 := by
  have e := Int.mul_tdiv_add_tmod N D
  have b : -D < N.tmod D := Int.neg_lt_of_neg_lt (by
    have := Int.tmod_lt_of_pos (-N) hD
    rw [Int.neg_tmod] at this
    exact this)
  exact floor_of (r := N.tmod D + D) (by rw [Int.mul_sub, Int.mul_one]; omega) (by omega) (by omega)
theorem floor_pos {N D : Int} (hD : 0 < D) (h : 0 ≤ N.tmod D) : N / D = N.tdiv D := by
  have e := Int.mul_tdiv_add_tmod N D
  exact floor_of (r := N.tmod D) (by omega) h (Int.tmod_lt_of_pos N hD)

set_option maxRecDepth 100000 in
theorem nearest_any (n d : Int) (hn : -4503599627370496 ≤ n ∧ n ≤ 4503599627370496) (hd : 0 < d ∧ d ≤ 4503599627370496) (w : World) :
    Calls Tryd.prog 81 #[.int .i64 n, .int .i64 d] w fun e w' => e = .returned (.int .i64 ((2 * n + d) / (2 * d))) ∧ w = w' := by
  obtain ⟨n0, n1⟩ := hn
  obtain ⟨d0, d1⟩ := hd
  go_enter Tryd.func81, Tryd.ntmps81
  go_wp2_with fail
  · go_ret
    have hlt : (2 * n + d).tmod (2 * d) < 0 := by assumption
    refine ⟨ret1' ?_, rfl⟩
    have hs := tdiv_small (2 * n + d) (2 * d)
    rw [floor_neg (by omega) hlt]
    show Value.int .i64 (wrap64 _) = _
    unfold wrap64
    exact congrArg (Value.int .i64) (by omega)
  · go_ret
    have hge : 0 ≤ (2 * n + d).tmod (2 * d) := by assumption
    refine ⟨ret1' ?_, rfl⟩
    rw [floor_pos (by omega) hge]
    rfl

/-- A complex number of whole parts as a datum, if its parts are not too great. -/
def wthD (a b : Int) : Value := if -33554432 ≤ a ∧ a ≤ 33554432 ∧ -33554432 ≤ b ∧ b ≤ 33554432 then .tuple #[Dat.v (.pln a b), .int .i64 0] else .tuple #[.nilIface, .int .i64 11]

theorem gt_most {x : Nat} {a : Int} (hx : IsW x a) : (FloatKind.f64.format.order (x % 9223372036854775808) 4719772409484279808 == some .gt) = decide (33554432 < (a.natAbs : Int)) := by
  have h : FloatKind.f64.format.order (x % 9223372036854775808) 4719772409484279808 = some (compare (a.natAbs : Int) 33554432) := Flt.isF_order (Flt.isW_abs hx).1 Flt.isW_most.1
  rw [h]
  by_cases c : 33554432 < (a.natAbs : Int)
  · have : compare (a.natAbs : Int) 33554432 = .gt := by simp only [compare, compareOfLessAndEq]; rw [if_neg (by omega), if_neg (by omega)]
    rw [this, decide_eq_true c]; rfl
  · have : compare (a.natAbs : Int) 33554432 ≠ .gt := by
      simp only [compare, compareOfLessAndEq]
      by_cases c1 : (a.natAbs : Int) < 33554432
      · rw [if_pos c1]; decide
      · rw [if_neg c1, if_pos (by omega)]; decide
    rw [decide_eq_false c]
    cases hc : compare (a.natAbs : Int) 33554432 <;> simp_all

set_option maxRecDepth 100000 in
set_option maxHeartbeats 800000 in
theorem within_any (x y : Nat) (a b : Int) (hx : IsW x a) (hy : IsW y b) (ha : a.natAbs ≤ 9007199254740992) (hb : b.natAbs ≤ 9007199254740992) (w : World) :
    Calls Tryd.prog 80 #[.complex .f64 x y] w fun e w' => e = .returned (wthD a b) ∧ w = w' := by
  have g1 := gt_most hx
  have g2 := gt_most hy
  have c1 := conv_int hx (by omega)
  have c2 := conv_int hy (by omega)
  have A1 := Lib.hid (fun w => abs_any x hx.2 w)
  have A2 := Lib.hid (fun w => abs_any y hy.2 w)
  have Hx := Lib.hid (And.intro hx ha)
  have Hy := Lib.hid (And.intro hy hb)
  clear hx hy ha hb
  by_cases h1 : 33554432 < (a.natAbs : Int)
  · rw [decide_eq_true h1] at g1
    go_enter Tryd.func80, Tryd.ntmps80
    go_wp2_with fail
    refine (A1.out _).mono ?_
    rintro e w1 ⟨rfl, rfl⟩
    go_wp2_with fail
    go_ret2
    exact ⟨by unfold wthD; rw [if_neg (by omega)]; rfl, rfl⟩
  · by_cases h2 : 33554432 < (b.natAbs : Int)
    · rw [decide_eq_false h1] at g1
      rw [decide_eq_true h2] at g2
      go_enter Tryd.func80, Tryd.ntmps80
      go_wp2_with fail
      refine (A1.out _).mono ?_
      rintro e w1 ⟨rfl, rfl⟩
      go_wp2_with fail
      refine (A2.out _).mono ?_
      rintro e w1 ⟨rfl, rfl⟩
      go_wp2_with fail
      go_ret2
      exact ⟨by unfold wthD; rw [if_neg (by omega)]; rfl, rfl⟩
    · rw [decide_eq_false h1] at g1
      rw [decide_eq_false h2] at g2
      go_enter Tryd.func80, Tryd.ntmps80
      go_wp2_with fail
      refine (A1.out _).mono ?_
      rintro e w1 ⟨rfl, rfl⟩
      go_wp2_with fail
      refine (A2.out _).mono ?_
      rintro e w1 ⟨rfl, rfl⟩
      go_wp2_with fail
      go_ret2
      exact ⟨by unfold wthD; rw [if_pos (by omega)]; rfl, rfl⟩
end Go.Proofs.YtdcbanfakcgokaaDoor.Va
