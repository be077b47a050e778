/-
  Texts of this claim, joined in build order (Log, Un, Mul, Flt, Cpx, Pl, Bin, Ar, Uny).
-/
import Derived.Test.YtmbgjhmjmomnoaaGreatDoorUn1
import Derived.Lib.Mul64
import Derived.Laws.Bits64b
import GoSem.Op.Unary
import Derived.Laws.FloatArith
import Derived.Laws.ComplexArith
import Derived.Lib.OthersKept
/-
  value.logic and the operation not: what three-valued logic answers.
-/
namespace Go.Proofs.YtmbgjhmjmomnoaaGreatDoor.Va
open Go.RowKit

/-- What and (12), or (13), xor (14) make of -1, 0, 1. -/
def logI (op a b : Int) : Int := if op = 12 then min a b else if op = 13 then max a b else -a * b
def logD (c : Int) : Dat := if c = 0 then .nul else .tru (decide (0 < c))

set_option maxRecDepth 100000 in
theorem logic_ok (op : Int) (x y : Dat) (hop : op = 12 ∨ op = 13 ∨ op = 14) (hx : x.three.2 = true) (hy : y.three.2 = true) (w : World) :
    Calls Tryz.prog 49 #[.int .i64 op, x.v, y.v] w fun e w' => e = .returned (.tuple #[(logD (logI op x.three.1 y.three.1)).v, .int .i64 0]) ∧ Below w.heap.size w w' := by
  have h3x := three_any x
  have h3y := three_any y
  rw [hx] at h3x
  rw [hy] at h3y
  have hxr : x.three.1 = -1 ∨ x.three.1 = 0 ∨ x.three.1 = 1 := by cases x <;> simp [Dat.three]; split <;> simp
  have hyr : y.three.1 = -1 ∨ y.three.1 = 0 ∨ y.three.1 = 1 := by cases y <;> simp [Dat.three]; split <;> simp
  generalize x.three.1 = a at *
  generalize y.three.1 = b at *
  clear hx hy
  unfold Dat.v at *
  generalize x.t = tx at *
  generalize x.x = xx at *
  generalize y.t = ty at *
  generalize y.x = yx at *
  have Hx := Lib.hid h3x
  have Hy := Lib.hid h3y
  clear h3x h3y
  rcases hop with rfl | rfl | rfl <;> rcases hxr with rfl | rfl | rfl <;> rcases hyr with rfl | rfl | rfl
  all_goals
    go_enter Tryz.func49, Tryz.ntmps49
    go_wp2_with fail
    refine (Hx.out _).mono ?_
    rintro e w1 ⟨rfl, hb1⟩
    go_wp2_with fail
    refine (Hy.out _).mono ?_
    rintro e w2 ⟨rfl, hb2⟩
    go_wp2
    go_ret2
    exact ⟨rfl, hb1.trans (hb2.mono hb1.size)⟩
end Go.Proofs.YtmbgjhmjmomnoaaGreatDoor.Va

/-
  value.Unary: what it answers, out of what value.open and the kind's own method answer.
-/
namespace Go.Proofs.YtmbgjhmjmomnoaaGreatDoor.Va
open Go.RowKit

set_option maxRecDepth 100000 in
theorem answer_err (xv : Value) (e : Int) (he : (e != 0) = true) (w : World) : Calls Tryz.prog 43 #[xv, .int .i64 e] w fun e' w' => e' = .returned (.tuple #[V.null.v, .int .i64 e]) ∧ Below w.heap.size w w' := by
  go_enter Tryz.func43, Tryz.ntmps43
  go_wp2
  refine bodyPost_ret (v := .tuple #[V.null.v, .int .i64 e]) (by simp [results, Tryz.results43, go_sem]; try rfl) rfl ⟨rfl, ?_⟩
  exact (by repeat (first | exact Below.refl _ _ | assumption | refine Below.alloc ?_ (by simp; try omega) _ | refine Below.drew ?_ | refine Below.setCell ?_ (by simp; try omega) _))

/-- The number of the method unary of its type. -/
def Dat.funary : Dat → FuncId
  | .nul => 228 | .tru _ => 222 | .whl _ => 233 | .pln _ _ => 240 | .wrd _ => 244 | .nod _ => 252 | .edg _ => 257
theorem meth_unary (d : Dat) (k : Nat) (W : World) : (method (k + 1) d.t d.x "trellis/value.unary").run Tryz.prog W = .ok (d.funary, d.x) W := by
  cases d <;> kernel_rfl
theorem callFunc_unary (d : Dat) (op : Int) (W : World) : (callFunc d.funary #[d.x, .int .i64 op]).run Tryz.prog W = .ok (.enter d.funary #[d.x, .int .i64 op]) W := by
  cases d <;> kernel_rfl

/-- What a call answers that makes memory at most. -/
def Ans (v : Value) (w : World) (e : Ending) (w' : World) : Prop := e = .returned v ∧ Below w.heap.size w w'
theorem Ans.mk {v : Value} {w : World} {e : Ending} {w' : World} (h1 : e = .returned v) (h2 : Below w.heap.size w w') : Ans v w e w' := ⟨h1, h2⟩

set_option maxRecDepth 100000 in
theorem Unary_of (op : Int) (x : V) (d : Dat) (rv : Value) (ee : Int) (o : V) (w : World) (h1 : (op < 1) = False) (h2 : (8 < op) = False)
    (hopen : ∀ w, Calls Tryz.prog 33 #[x.v] w (Ans (.tuple #[d.v, .bool true]) w))
    (hun : ∀ w, Calls Tryz.prog d.funary #[d.x, .int .i64 op] w (Ans (.tuple #[rv, .int .i64 ee]) w))
    (hans : ∀ w, Calls Tryz.prog 43 #[rv, .int .i64 ee] w (Ans (.tuple #[o.v, .int .i64 ee]) w)) :
    Calls Tryz.prog 22 #[.int .i64 op, x.v] w (Ans (.tuple #[o.v, .int .i64 ee]) w) := by
  have hm := meth_unary d
  have hc := callFunc_unary d op
  unfold Dat.v at *
  generalize d.t = tt at *
  generalize d.x = xx at *
  generalize d.funary = ff at *
  obtain ⟨k, a, b, s⟩ := x
  obtain ⟨ok, oa, ob, os⟩ := o
  unfold V.v at *
  have Ho := Lib.hid hopen
  have Hu := Lib.hid hun
  have Ha := Lib.hid hans
  clear hopen hun hans
  go_enter Tryz.func22, Tryz.ntmps22
  go_wp2_with fail
  refine (Ho.out _).mono ?_
  rintro e w1 ⟨rfl, hb1⟩
  obtain ⟨c1, f1⟩ := bcell hb1
  go_wp2_with fail
  refine (Hu.out _).mono ?_
  rintro e w2 ⟨rfl, hb2⟩
  have hb12 := hb1.trans (hb2.mono hb1.size)
  clear c1 f1
  obtain ⟨c2, f2⟩ := bcell hb12
  go_wp2_with fail
  refine (Ha.out _).mono ?_
  rintro e w3 ⟨rfl, hb3⟩
  have hb13 := hb12.trans (hb3.mono hb12.size)
  clear c2 f2
  obtain ⟨c3, f3⟩ := bcell hb13
  have z3 : w.heap.size + 2 ≤ w3.heap.size := by have := hb13.size; simpa using this
  go_wp2
  have hb' : Below w.heap.size w w3 := (((Below.refl _ w).alloc (Nat.le_refl _) _).alloc (by simp) _).trans (hb13.mono (by simp; try omega))
  refine bodyPost_ret (v := .tuple #[(V.mk ok oa ob os).v, .int .i64 ee]) (by simp [results, Tryz.results22, go_sem, c3]; try rfl) rfl ⟨rfl, ?_⟩
  exact (by repeat (first | exact Below.refl _ _ | assumption | refine Below.alloc ?_ (by simp; try omega) _ | refine Below.drew ?_ | refine Below.setCell ?_ (by simp; try omega) _))

/-! ### not, of three values -/
theorem unary_nul (op : Int) (w : World) : Calls Tryz.prog 228 #[.agg #[], .int .i64 op] w (Ans (.tuple #[Dat.v .nul, .int .i64 0]) w) := by
  go_enter Tryz.func228, Tryz.ntmps228
  go_wp2
  go_ret2
  exact ⟨rfl, (by repeat (first | exact Below.refl _ _ | assumption | refine Below.alloc ?_ (by simp; try omega) _ | refine Below.drew ?_ | refine Below.setCell ?_ (by simp; try omega) _))⟩
theorem unary_not (b : Bool) (w : World) : Calls Tryz.prog 222 #[.bool b, .int .i64 2] w (Ans (.tuple #[Dat.v (.tru !b), .int .i64 0]) w) := by
  go_enter Tryz.func222, Tryz.ntmps222
  go_wp2
  go_ret2
  exact ⟨rfl, (by repeat (first | exact Below.refl _ _ | assumption | refine Below.alloc ?_ (by simp; try omega) _ | refine Below.drew ?_ | refine Below.setCell ?_ (by simp; try omega) _))⟩
theorem unary_tru_no (b : Bool) (op : Int) (h : (op == 2) = false) (w : World) : Calls Tryz.prog 222 #[.bool b, .int .i64 op] w (Ans (.tuple #[.nilIface, .int .i64 10]) w) := by
  go_enter Tryz.func222, Tryz.ntmps222
  go_wp2
  go_ret2
  exact ⟨rfl, (by repeat (first | exact Below.refl _ _ | assumption | refine Below.alloc ?_ (by simp; try omega) _ | refine Below.drew ?_ | refine Below.setCell ?_ (by simp; try omega) _))⟩

theorem openA_nul (w : World) : Calls Tryz.prog 33 #[(Dat.val .nul).v] w (Ans (.tuple #[Dat.v .nul, .bool true]) w) := by
  have := open_nul 0 0 ByteArray.empty w
  rw [V.eqB_self] at this
  exact this
theorem openA_tru (b : Bool) (w : World) : Calls Tryz.prog 33 #[(Dat.val (.tru b)).v] w (Ans (.tuple #[Dat.v (.tru b), .bool true]) w) := by
  cases b
  · have := open_tru0 0 0 ByteArray.empty w rfl
    rw [V.eqB_self] at this
    exact this
  · have := open_tru1 1 0 ByteArray.empty w rfl
    rw [V.eqB_self] at this
    exact this
theorem openA_whl (n : Int) (w : World) : Calls Tryz.prog 33 #[(Dat.val (.whl n)).v] w (Ans (.tuple #[Dat.v (.whl n), .bool true]) w) := by
  have := open_whl n 0 ByteArray.empty w
  rw [V.eqB_self] at this
  exact this
theorem openA_pln (a b : Int) (ha : -33554432 ≤ a ∧ a ≤ 33554432) (hb : -33554432 ≤ b ∧ b ≤ 33554432) (w : World) : Calls Tryz.prog 33 #[(Dat.val (.pln a b)).v] w (Ans (.tuple #[Dat.v (.pln a b), .bool true]) w) := by
  have := open_pln a b ByteArray.empty w ha hb
  rw [V.eqB_self] at this
  exact this

theorem answerA (d : Dat) (w : World) : Calls Tryz.prog 43 #[d.v, .int .i64 0] w (Ans (.tuple #[d.val.v, .int .i64 0]) w) := answer_ok d w

/-- One of false, true, null. -/
def K3 (d : Dat) : Prop := d = .nul ∨ ∃ b, d = .tru b
def Dat.no : Dat → Dat
  | .tru b => .tru !b
  | d => d
theorem K3.no {d : Dat} (h : K3 d) : K3 d.no := by
  rcases h with rfl | ⟨b, rfl⟩
  · exact .inl rfl
  · exact .inr ⟨_, rfl⟩
theorem openA_K3 {d : Dat} (h : K3 d) (w : World) : Calls Tryz.prog 33 #[d.val.v] w (Ans (.tuple #[d.v, .bool true]) w) := by
  rcases h with rfl | ⟨b, rfl⟩
  · exact openA_nul w
  · exact openA_tru b w
theorem Unary_not {d : Dat} (h : K3 d) (w : World) : Calls Tryz.prog 22 #[.int .i64 2, d.val.v] w (Ans (.tuple #[d.no.val.v, .int .i64 0]) w) := by
  refine Unary_of 2 d.val d d.no.v 0 d.no.val w (by simp) (by simp) (openA_K3 h) (fun w => ?_) (answerA d.no)
  rcases h with rfl | ⟨b, rfl⟩
  · exact unary_nul 2 w
  · exact unary_not b w
end Go.Proofs.YtmbgjhmjmomnoaaGreatDoor.Va

/-
  value.size, math/bits.Mul64 and value.times: the product of two ints, if an int holds it.
-/
namespace Go.Proofs.YtmbgjhmjmomnoaaGreatDoor.Va
open Go.RowKit Go.Lib

namespace Mul64
theorem maskN (a : Nat) (ha : a < 18446744073709551616) : bits .and .u64 (a : Int) 4294967295 = ((a % 4294967296 : Nat) : Int) := by
  have h := bits_and_u64_nat a 4294967295 ha (by omega)
  have e : a &&& 4294967295 = a % 4294967296 := Nat.and_two_pow_sub_one_eq_mod a 32
  rw [e] at h
  exact h
theorem divN (a : Nat) : (a : Int) / 4294967296 = ((a / 4294967296 : Nat) : Int) := by omega
theorem mulN (a b : Nat) : (a : Int) * (b : Int) = ((a * b : Nat) : Int) := (Int.natCast_mul a b).symm
theorem addN (a b : Nat) : (a : Int) + (b : Int) = ((a + b : Nat) : Int) := (Int.natCast_add a b).symm
theorem wrapN (a : Nat) (ha : a < 18446744073709551616) : IntKind.u64.wrap (a : Int) = (a : Int) := by rw [IntKind.wrap_u64]; omega
theorem wrapM (a : Nat) : IntKind.u64.wrap (a : Int) = ((a % 18446744073709551616 : Nat) : Int) := by rw [IntKind.wrap_u64]; omega
end Mul64

set_option maxHeartbeats 1000000 in
theorem Mul64_any (x y : Nat) (hx : x < 18446744073709551616) (hy : y < 18446744073709551616) (w : World) :
    Calls Tryz.prog 150 #[.int .u64 x, .int .u64 y] w fun e w' => e = .returned (.tuple #[.int .u64 ((x * y / 18446744073709551616 : Nat) : Int), .int .u64 ((x * y % 18446744073709551616 : Nat) : Int)]) ∧ w' = w := by
  obtain ⟨bd, bt, bw, hhi⟩ := Lib.mul64_hi x y hx hy
  have ba := Lib.half_mul_le (a := x / 4294967296) (b := y / 4294967296) (by omega) (by omega)
  have bb := Lib.half_mul_le (a := x / 4294967296) (b := y % 4294967296) (by omega) (by omega)
  have bc := Lib.half_mul_le (a := x % 4294967296) (b := y / 4294967296) (by omega) (by omega)
  have ba' : x / 4294967296 * (y / 4294967296) < 18446744073709551616 := by omega
  have bb' : x / 4294967296 * (y % 4294967296) < 18446744073709551616 := by omega
  have bc' : x % 4294967296 * (y / 4294967296) < 18446744073709551616 := by omega
  have bh1 : x / 4294967296 * (y / 4294967296) + (x / 4294967296 * (y % 4294967296) + x % 4294967296 * (y % 4294967296) / 4294967296) / 4294967296 < 18446744073709551616 := by omega
  have bh : x / 4294967296 * (y / 4294967296) + (x / 4294967296 * (y % 4294967296) + x % 4294967296 * (y % 4294967296) / 4294967296) / 4294967296 + ((x / 4294967296 * (y % 4294967296) + x % 4294967296 * (y % 4294967296) / 4294967296) % 4294967296 + x % 4294967296 * (y / 4294967296)) / 4294967296 < 18446744073709551616 := by omega
  go_enter Tryz.func150, Tryz.ntmps150
  go_wp2
  simp only [Mul64.maskN x hx, Mul64.maskN y hy, Mul64.divN, Mul64.mulN, Mul64.addN, Mul64.wrapN _ bd, Mul64.wrapN _ bb', Mul64.wrapN _ bt, Mul64.maskN _ bt, Mul64.wrapN _ bc', Mul64.wrapN _ bw, Mul64.wrapN _ ba', Mul64.wrapN _ bh1, Mul64.wrapN _ bh, Mul64.wrapM (x * y)]
  rw [hhi]
  go_ret2
  exact ⟨rfl, rfl⟩


theorem ret1 {a b : Value} (h : a = b) : Ending.returned a = .returned b := by rw [h]
theorem intv {k : IntKind} {a b : Int} (h : a = b) : Value.int k a = .int k b := by rw [h]

theorem size_any (n : Int) (h0 : -9223372036854775808 ≤ n) (h1 : n ≤ 9223372036854775807) (w : World) :
    Calls Tryz.prog 151 #[.int .i64 n] w fun e w' => e = .returned (.int .u64 (n.natAbs : Int)) ∧ w = w' := by
  by_cases hn : n < 0
  · go_enter Tryz.func151, Tryz.ntmps151
    go_wp2
    go_ret
    exact ⟨ret1 (intv (by rw [IntKind.wrap_u64, IntKind.wrap_u64]; omega)), rfl⟩
  · go_enter Tryz.func151, Tryz.ntmps151
    go_wp2
    go_ret
    exact ⟨ret1 (intv (by omega)), rfl⟩

set_option maxHeartbeats 4000000 in
/-- Go's own tests on the two halves of the product. -/
theorem times_of (a b hi lo : Int) (p q : Nat) (c1 c2 c3 sa sb r : Bool) (w : World)
    (hs : ∀ w, Calls Tryz.prog 151 #[.int .i64 a] w fun e w' => e = .returned (.int .u64 p) ∧ w = w')
    (hs' : ∀ w, Calls Tryz.prog 151 #[.int .i64 b] w fun e w' => e = .returned (.int .u64 q) ∧ w = w')
    (hm : ∀ w, Calls Tryz.prog 150 #[.int .u64 p, .int .u64 q] w fun e w' => e = .returned (.tuple #[.int .u64 hi, .int .u64 lo]) ∧ w' = w)
    (h1 : (hi != 0) = c1) (h2 : decide ((9223372036854775808 : Int) < lo) = c2) (h3 : (lo == (9223372036854775808 : Int)) = c3) (h4 : decide (a < 0) = sa) (h4' : decide (b < 0) = sb)
    (h5 : (c1 || c2 || (c3 && !(sa != sb))) = r) :
    Calls Tryz.prog 133 #[.int .i64 a, .int .i64 b] w fun e w' => e = .returned (if r then .tuple #[.nilIface, .int .i64 11] else if (sa != sb) then .tuple #[.iface 105 (.int .i64 (wrap64 (IntKind.u64.wrap (-lo)))), .int .i64 0] else .tuple #[.iface 105 (.int .i64 (wrap64 lo)), .int .i64 0]) ∧ w = w' := by
  have Hs := Lib.hid hs
  have Hs' := Lib.hid hs'
  have Hm := Lib.hid hm
  clear hs hs' hm
  subst h5
  cases c1 <;> cases c2 <;> cases c3 <;> cases sa <;> cases sb
  all_goals
    go_enter Tryz.func133, Tryz.ntmps133
    go_wp2_with fail
    refine (Hs.out _).mono ?_
    rintro e w1 ⟨rfl, rfl⟩
    go_wp2_with fail
    refine (Hs'.out _).mono ?_
    rintro e w1 ⟨rfl, rfl⟩
    go_wp2_with fail
    refine (Hm.out _).mono ?_
    rintro e w1 ⟨rfl, rfl⟩
    go_wp2_with fail
    go_ret2
    exact ⟨rfl, rfl⟩

theorem natAbs_mul_bound {a b : Int} (ha : -9223372036854775808 ≤ a ∧ a ≤ 9223372036854775807) (hb : -9223372036854775808 ≤ b ∧ b ≤ 9223372036854775807) : a.natAbs < 18446744073709551616 ∧ b.natAbs < 18446744073709551616 := by omega

/-- The product fits: it is the answer. -/
theorem times_yes (a b : Int) (ha : -9223372036854775808 ≤ a ∧ a ≤ 9223372036854775807) (hb : -9223372036854775808 ≤ b ∧ b ≤ 9223372036854775807) (hp : -9223372036854775808 ≤ a * b ∧ a * b ≤ 9223372036854775807) (w : World) :
    Calls Tryz.prog 133 #[.int .i64 a, .int .i64 b] w fun e w' => e = .returned (.tuple #[Dat.v (.whl (a * b)), .int .i64 0]) ∧ w = w' := by
  obtain ⟨ba, bb⟩ := natAbs_mul_bound ha hb
  have habs : (a * b).natAbs = a.natAbs * b.natAbs := Int.natAbs_mul a b
  have hsign : (a * b < 0 → (decide (a < 0) != decide (b < 0)) = true) ∧ (0 < a * b → (decide (a < 0) != decide (b < 0)) = false) := by
    rcases Int.lt_trichotomy a 0 with h1 | h1 | h1 <;> rcases Int.lt_trichotomy b 0 with h2 | h2 | h2
    · have := Int.mul_pos_of_neg_of_neg h1 h2; simp [h1, h2]; omega
    · subst h2; simp
    · have := Int.mul_neg_of_neg_of_pos h1 h2; have n2 : ¬ b < 0 := by omega
      simp [h1, n2]; omega
    · subst h1; simp
    · subst h1; simp
    · subst h1; simp
    · have := Int.mul_neg_of_pos_of_neg h1 h2; have n1 : ¬ a < 0 := by omega
      simp [h2, n1]; omega
    · subst h2; simp
    · have := Int.mul_pos h1 h2; have n1 : ¬ a < 0 := by omega
      have n2 : ¬ b < 0 := by omega
      simp [n1, n2]; omega
  generalize hprod : a * b = pr at *
  generalize hq : a.natAbs * b.natAbs = q at *
  have h := times_of a b ((q / 18446744073709551616 : Nat) : Int) ((q % 18446744073709551616 : Nat) : Int) a.natAbs b.natAbs _ _ _ (decide (a < 0)) (decide (b < 0)) _ w (size_any a ha.1 ha.2) (size_any b hb.1 hb.2) (by rw [← hq]; exact Mul64_any a.natAbs b.natAbs ba bb) rfl rfl rfl rfl rfl rfl
  refine h.mono fun e w' ⟨he, hw⟩ => ⟨?_, hw⟩
  rw [he]
  have e1 : (((q / 18446744073709551616 : Nat) : Int) != 0) = false := by simp; omega
  have e2 : decide ((9223372036854775808 : Int) < ((q % 18446744073709551616 : Nat) : Int)) = false := by simp; omega
  rw [e1, e2]
  cases hm : (decide (a < 0) != decide (b < 0)) with
  | true =>
    have : ¬ 0 < pr := fun hh => by rw [hsign.2 hh] at hm; cases hm
    simp only [Bool.or_self, Bool.not_true, Bool.and_false, Bool.false_eq_true, if_false, if_true]
    refine congrArg Ending.returned (congrArg (fun v => Value.tuple #[Value.iface 105 v, .int .i64 0]) (intv ?_))
    rw [IntKind.wrap_u64]
    unfold wrap64
    omega
  | false =>
    have : ¬ pr < 0 := fun hh => by rw [hsign.1 hh] at hm; cases hm
    have e3 : (((q % 18446744073709551616 : Nat) : Int) == (9223372036854775808 : Int)) = false := by simp; omega
    rw [e3]
    simp only [Bool.or_self, Bool.not_false, Bool.and_true, Bool.false_eq_true, if_false]
    refine congrArg Ending.returned (congrArg (fun v => Value.tuple #[Value.iface 105 v, .int .i64 0]) (intv ?_))
    unfold wrap64
    omega
end Go.Proofs.YtmbgjhmjmomnoaaGreatDoor.Va

/-
  The float64 words of whole numbers: sums, differences and products of numbers below 2 to the 53rd are exact.
-/
namespace Go.Proofs.YtmbgjhmjmomnoaaGreatDoor.Flt
open Ieee Go

/-- How far below 1 the last digit of the least number lies. -/
def Bz : Nat := 1074
theorem Bz_eq : Bz = 1074 := rfl
theorem p52 : (4503599627370496 : Nat) = 2 ^ 52 := by decide
theorem p53 : (9007199254740992 : Nat) = 2 ^ 53 := by decide

theorem log2_mul_pow (m e : Nat) (hm : m ≠ 0) : (m * 2 ^ e).log2 = m.log2 + e := by
  have h1 : 2 ^ m.log2 ≤ m := Nat.log2_self_le hm
  have h2 : m < 2 ^ (m.log2 + 1) := Nat.lt_log2_self
  have hp : 0 < 2 ^ e := Nat.two_pow_pos e
  have hne : m * 2 ^ e ≠ 0 := Nat.mul_ne_zero hm (by omega)
  refine (Nat.log2_eq_iff hne).2 ⟨?_, ?_⟩
  · rw [Nat.pow_add]; exact Nat.mul_le_mul_right _ h1
  · rw [show m.log2 + e + 1 = (m.log2 + 1) + e by omega, Nat.pow_add]
    exact Nat.mul_lt_mul_of_pos_right h2 hp

/-- A magnitude with its sign. -/
def sgn (s : Bool) (k : Nat) : Int := if s then -(k : Int) else (k : Int)
theorem sgn_abs (s : Bool) (k : Nat) : (sgn s k).natAbs = k := by unfold sgn; cases s <;> simp
theorem signed_eq (s : Bool) (m e : Nat) : signed s m e = sgn s (m * 2 ^ e) := by
  unfold signed sgn; rw [Nat.shiftLeft_eq]
theorem sgn_mul (s t : Bool) (a b : Nat) : sgn (s ^^ t) (a * b) = sgn s a * sgn t b := by
  unfold sgn; cases s <;> cases t <;> simp [Int.neg_mul, Int.mul_neg]
theorem sgn_not (s : Bool) (a : Nat) : sgn (!s) a = - sgn s a := by unfold sgn; cases s <;> simp
theorem sgn_scale (s : Bool) (a b : Nat) : sgn s (a * b) = sgn s a * (b : Int) := by
  unfold sgn; cases s <;> simp [Int.neg_mul]

/-- What a word stands for: the whole number n (0 has two words). -/
def IsF (b : Nat) (n : Int) : Prop :=
  ∃ (s : Bool) (m : Nat) (e : Nat), Ieee.double.read b = .number s m ((e : Int) - Bz) ∧ m < 9007199254740992 ∧ sgn s (m * 2 ^ e) = n * (2 ^ Bz : Nat)

theorem cut_exact (s : Bool) (K d : Nat) (hK : K ≠ 0) : Toward.even.cut s (K * 2 ^ d) d = K := by
  have hp : 0 < 2 ^ d := Nat.two_pow_pos d
  have hl : min d ((K * 2 ^ d).log2 + 2) = d := by rw [log2_mul_pow _ _ hK]; omega
  unfold Toward.cut
  simp only [hl, Nat.one_shiftLeft]
  have h1 : K * 2 ^ d / 2 ^ d = K := Nat.mul_div_cancel _ hp
  have h2 : K * 2 ^ d % 2 ^ d = 0 := Nat.mul_mod_left _ _
  rw [h1, h2]
  have h3 : (2 ^ d == 2 * 0) = false := by simp
  simp [h3]

theorem norm_num (N : Nat) (hN : N ≠ 0) (hle : N ≤ 9007199254740992) : ∃ K, 4503599627370496 ≤ K ∧ K < 9007199254740992 ∧ N.log2 ≤ 53 ∧ K * 2 ^ (N.log2 + (Bz - 52)) = N * 2 ^ Bz := by
  have h1 : 2 ^ N.log2 ≤ N := Nat.log2_self_le hN
  have h2 : N < 2 ^ (N.log2 + 1) := Nat.lt_log2_self
  have hB := Bz_eq
  have hl : N.log2 ≤ 53 := by
    have : N.log2 < 54 := (Nat.log2_lt hN).2 (Nat.lt_of_le_of_lt hle (by decide))
    omega
  by_cases h : N.log2 ≤ 52
  · refine ⟨N * 2 ^ (52 - N.log2), ?_, ?_, hl, ?_⟩
    · have : 2 ^ 52 = 2 ^ N.log2 * 2 ^ (52 - N.log2) := by rw [← Nat.pow_add, show N.log2 + (52 - N.log2) = 52 by omega]
      rw [p52, this]; exact Nat.mul_le_mul_right _ h1
    · have : 2 ^ 53 = 2 ^ (N.log2 + 1) * 2 ^ (52 - N.log2) := by rw [← Nat.pow_add, show N.log2 + 1 + (52 - N.log2) = 53 by omega]
      rw [p53, this]; exact Nat.mul_lt_mul_of_pos_right h2 (Nat.two_pow_pos _)
    · rw [Nat.mul_assoc, ← Nat.pow_add, show 52 - N.log2 + (N.log2 + (Bz - 52)) = Bz by omega]
  · have e53 : N.log2 = 53 := by omega
    have : N = 2 ^ 53 := by rw [e53] at h1; rw [← p53] at *; omega
    refine ⟨4503599627370496, Nat.le_refl _, by decide, hl, ?_⟩
    rw [e53, this, p52, ← Nat.pow_add, ← Nat.pow_add, show 52 + (53 + (Bz - 52)) = 53 + Bz by omega]

theorem infRung_eq : Ieee.double.infRung = 9218868437227405312 := by decide
theorem signWeight_eq : Ieee.double.signWeight = 9223372036854775808 := by decide
theorem binade_eq : Ieee.double.binade = 4503599627370496 := by decide
theorem leastPlace_eq : Ieee.double.leastPlace = -(Bz : Int) := by decide

theorem number_congr {s : Bool} {m m' : Nat} {e e' : Int} (h1 : m = m') (h2 : e = e') : Datum.number s m e = .number s m' e' := by rw [h1, h2]

theorem read_word (s : Bool) (L K : Nat) (h1 : 4503599627370496 ≤ K) (h2 : K < 9007199254740992) (hL : L ≤ 53) :
    Ieee.double.read (Ieee.double.word s (min ((L + (Bz - 52)) * 4503599627370496 + K) 9218868437227405312)) = .number s K (((L + (Bz - 52) : Nat) : Int) - Bz) := by
  have hB := Bz_eq
  generalize hQ : L + (Bz - 52) = Q
  have hQ' : Q ≤ 1075 := by omega
  have hmin : min (Q * 4503599627370496 + K) 9218868437227405312 = Q * 4503599627370496 + K := Nat.min_eq_left (by omega)
  unfold Format.read Format.word
  rw [infRung_eq, signWeight_eq, binade_eq, leastPlace_eq, hmin]
  have hq : (Q * 4503599627370496 + K) / 4503599627370496 = Q + 1 := by omega
  have hm : (Q * 4503599627370496 + K) % 4503599627370496 = K - 4503599627370496 := by omega
  cases s
  · have e1 : (Q * 4503599627370496 + K) / 9223372036854775808 = 0 := by omega
    have e2 : (Q * 4503599627370496 + K) % 9223372036854775808 = Q * 4503599627370496 + K := by omega
    simp only [Bool.false_eq_true, if_false]
    rw [e1, e2, if_neg (by omega), if_pos (by omega), hq, hm]
    exact number_congr (by omega) (by omega)
  · have e1 : (9223372036854775808 + (Q * 4503599627370496 + K)) / 9223372036854775808 = 1 := by omega
    have e2 : (9223372036854775808 + (Q * 4503599627370496 + K)) % 9223372036854775808 = Q * 4503599627370496 + K := by omega
    simp only [if_true]
    rw [e1, e2, if_neg (by omega), if_pos (by omega), hq, hm]
    exact number_congr (by omega) (by omega)

theorem read_zero (s : Bool) : Ieee.double.read (Ieee.double.word s 0) = .number s 0 (-(Bz : Int)) := by
  cases s <;> decide

/-- A whole number of at most 53 digits is written without a loss. -/
theorem write_exact (s : Bool) (mag E N : Nat) (hN : N ≠ 0) (hle : N ≤ 9007199254740992) (h : mag * 2 ^ E = N * 2 ^ Bz) :
    ∃ K e, Ieee.double.read (Ieee.double.nearest s mag ((E : Int) - Bz)) = .number s K (((e : Nat) : Int) - Bz) ∧ K < 9007199254740992 ∧ K * 2 ^ e = N * 2 ^ Bz := by
  obtain ⟨K, h1, h2, hl, hK⟩ := norm_num N hN hle
  have hB := Bz_eq
  have hm0 : mag ≠ 0 := by
    rintro rfl
    have : 0 < N * 2 ^ Bz := Nat.mul_pos (by omega) (Nat.two_pow_pos _)
    omega
  have hlog : mag.log2 + E = N.log2 + Bz := by rw [← log2_mul_pow _ _ hm0, h, log2_mul_pow _ _ hN]
  have hlast : max ((E : Int) - Bz + mag.log2 - ((52 : Nat) : Int)) (-(Bz : Int)) = (N.log2 : Int) - 52 := by omega
  refine ⟨K, N.log2 + (Bz - 52), ?_, h2, hK⟩
  unfold Format.nearest
  rw [if_neg hm0]
  simp only [leastPlace_eq, show Ieee.double.fractionBits = 52 from rfl, binade_eq, infRung_eq]
  rw [hlast]
  have hkept : Toward.even.cut s (mag <<< ((E : Int) - Bz - ((N.log2 : Int) - 52)).toNat) (((N.log2 : Int) - 52) - ((E : Int) - Bz)).toNat = K := by
    by_cases hc : N.log2 + (Bz - 52) ≤ E
    · rw [show (((N.log2 : Int) - 52) - ((E : Int) - Bz)).toNat = 0 by omega, show ((E : Int) - Bz - ((N.log2 : Int) - 52)).toNat = E - (N.log2 + (Bz - 52)) by omega, Nat.shiftLeft_eq]
      have : K = mag * 2 ^ (E - (N.log2 + (Bz - 52))) := by
        have hpos : 0 < 2 ^ (N.log2 + (Bz - 52)) := Nat.two_pow_pos _
        refine Nat.eq_of_mul_eq_mul_right hpos ?_
        rw [hK, ← h, Nat.mul_assoc, ← Nat.pow_add, Nat.sub_add_cancel hc]
      rw [← this]
      have := cut_exact s K 0 (by omega)
      simpa using this
    · have : mag = K * 2 ^ (N.log2 + (Bz - 52) - E) := by
        have hpos : 0 < 2 ^ E := Nat.two_pow_pos _
        refine Nat.eq_of_mul_eq_mul_right hpos ?_
        rw [h, ← hK, Nat.mul_assoc, ← Nat.pow_add, Nat.sub_add_cancel (by omega)]
      rw [show (((N.log2 : Int) - 52) - ((E : Int) - Bz)).toNat = N.log2 + (Bz - 52) - E by omega, show ((E : Int) - Bz - ((N.log2 : Int) - 52)).toNat = 0 by omega, Nat.shiftLeft_zero, this]
      exact cut_exact s K _ (by omega)
  rw [hkept, show ((N.log2 : Int) - 52 - -(Bz : Int)).toNat = N.log2 + (Bz - 52) by omega]
  exact read_word s _ K h1 h2 hl

/-- What is written of a datum that stands for n. -/
theorem isF_write (s : Bool) (mag E : Nat) (n : Int) (hn : n.natAbs ≤ 9007199254740992) (h : sgn s (mag * 2 ^ E) = n * (2 ^ Bz : Nat)) :
    IsF (Ieee.double.nearest s mag ((E : Int) - Bz)) n := by
  have habs : mag * 2 ^ E = n.natAbs * 2 ^ Bz := by
    have := congrArg Int.natAbs h
    rwa [sgn_abs, Int.natAbs_mul, Int.natAbs_natCast] at this
  by_cases h0 : n = 0
  · subst h0
    have hm : mag = 0 := by
      have hpos : 0 < 2 ^ E := Nat.two_pow_pos _
      have : mag * 2 ^ E = 0 := by rw [habs]; simp
      rcases Nat.mul_eq_zero.1 this with h | h
      · exact h
      · omega
    subst hm
    refine ⟨s, 0, 0, ?_, by decide, by cases s <;> simp [sgn]⟩
    unfold Format.nearest
    rw [if_pos rfl, read_zero]
    exact number_congr rfl (by omega)
  · obtain ⟨K, e, hr, hK, he⟩ := write_exact s mag E n.natAbs (by omega) hn habs
    exact ⟨s, K, e, hr, hK, by rw [he, ← habs]; exact h⟩

theorem isF_nearest (n : Int) (hn : n.natAbs ≤ 9007199254740992) : IsF (FloatKind.f64.nearest n) n := by
  have e : FloatKind.f64.nearest n = Ieee.double.nearest (decide (n < 0)) n.natAbs (((Bz : Nat) : Int) - Bz) := by
    rw [Int.sub_self]; rfl
  rw [e]
  refine isF_write _ _ _ _ hn ?_
  rw [sgn_scale]
  congr 1
  unfold sgn
  by_cases h : n < 0 <;> simp [h] <;> omega

/-- The data of two whole numbers added. -/
theorem isF_sum {x : Nat} {a b : Int} (hx : IsF x a) (d : Datum) (t : Bool) (n j : Nat) (hd : d = .number t n ((j : Int) - Bz)) (hb : sgn t (n * 2 ^ j) = b * (2 ^ Bz : Nat)) (hab : (a + b).natAbs ≤ 9007199254740992) :
    ∃ r, ((Ieee.double.read x).sum d).map Ieee.double.write = some r ∧ IsF r (a + b) := by
  obtain ⟨s, m, i, hr, _, ha⟩ := hx
  subst hd
  rw [hr]
  simp only [Datum.sum, Option.map_some, Format.write]
  refine ⟨_, rfl, ?_⟩
  have hbase : min ((i : Int) - Bz) ((j : Int) - Bz) = ((min i j : Nat) : Int) - Bz := by omega
  rw [hbase]
  have e1 : ((i : Int) - Bz - (((min i j : Nat) : Int) - Bz)).toNat = i - min i j := by omega
  have e2 : ((j : Int) - Bz - (((min i j : Nat) : Int) - Bz)).toNat = j - min i j := by omega
  rw [e1, e2, signed_eq, signed_eq]
  generalize ht : sgn s (m * 2 ^ (i - min i j)) + sgn t (n * 2 ^ (j - min i j)) = total
  refine isF_write _ _ _ _ hab ?_
  have hs : sgn (if total = 0 then s && t else decide (total < 0)) (total.natAbs) = total := by
    unfold sgn
    by_cases h0 : total = 0
    · subst h0; simp
    · by_cases h : total < 0 <;> simp [h0, h] <;> omega
  rw [sgn_scale, hs, ← ht, Int.add_mul, ← sgn_scale, ← sgn_scale, Nat.mul_assoc, Nat.mul_assoc, ← Nat.pow_add, ← Nat.pow_add, Nat.sub_add_cancel (Nat.min_le_left _ _), Nat.sub_add_cancel (Nat.min_le_right _ _), ha, hb, Int.add_mul]

theorem isF_add {x y : Nat} {a b : Int} (hx : IsF x a) (hy : IsF y b) (hab : (a + b).natAbs ≤ 9007199254740992) : ∃ r, Ieee.double.add x y = some r ∧ IsF r (a + b) := by
  obtain ⟨t, n, j, hr, _, hb⟩ := hy
  exact isF_sum hx _ t n j hr hb hab

theorem isF_sub {x y : Nat} {a b : Int} (hx : IsF x a) (hy : IsF y b) (hab : (a - b).natAbs ≤ 9007199254740992) : ∃ r, Ieee.double.sub x y = some r ∧ IsF r (a - b) := by
  obtain ⟨t, n, j, hr, _, hb⟩ := hy
  have := isF_sum (b := -b) hx (Ieee.double.read y).opposite (!t) n j (by rw [hr]; rfl) (by rw [sgn_not, hb, Int.neg_mul]) (by rw [← Int.sub_eq_add_neg]; exact hab)
  rwa [← Int.sub_eq_add_neg] at this

/-- A number but 0 has its digits from the place -52 on. -/
theorem isF_high {s : Bool} {m e : Nat} {n : Int} (h0 : n ≠ 0) (hm : m < 9007199254740992) (h : sgn s (m * 2 ^ e) = n * (2 ^ Bz : Nat)) : Bz ≤ e + 53 := by
  have habs : m * 2 ^ e = n.natAbs * 2 ^ Bz := by
    have := congrArg Int.natAbs h
    rwa [sgn_abs, Int.natAbs_mul, Int.natAbs_natCast] at this
  have h1 : 2 ^ Bz ≤ m * 2 ^ e := by rw [habs]; exact Nat.le_mul_of_pos_left _ (by omega)
  have h2 : m * 2 ^ e < 2 ^ (53 + e) := by
    rw [Nat.pow_add, ← p53]; exact Nat.mul_lt_mul_of_pos_right hm (Nat.two_pow_pos _)
  have := (Nat.pow_lt_pow_iff_right (by decide : 1 < 2)).1 (Nat.lt_of_le_of_lt h1 h2)
  omega

theorem isF_mul {x y : Nat} {a b : Int} (hx : IsF x a) (hy : IsF y b) (hab : (a * b).natAbs ≤ 9007199254740992) : ∃ r, Ieee.double.mul x y = some r ∧ IsF r (a * b) := by
  obtain ⟨s, m, i, hr, hm, ha⟩ := hx
  obtain ⟨t, n, j, hr', hn, hb⟩ := hy
  have hB := Bz_eq
  have hprod : sgn (s ^^ t) (m * n * 2 ^ (i + j)) = a * b * (2 ^ Bz : Nat) * (2 ^ Bz : Nat) := by
    have e1 : m * n * 2 ^ (i + j) = (m * 2 ^ i) * (n * 2 ^ j) := by
      rw [Nat.pow_add]; generalize 2 ^ i = p; generalize 2 ^ j = q
      rw [Nat.mul_assoc, Nat.mul_assoc]; congr 1
      rw [← Nat.mul_assoc, Nat.mul_comm n p, Nat.mul_assoc]
    rw [e1, sgn_mul, ha, hb]
    generalize ((2 ^ Bz : Nat) : Int) = z
    rw [Int.mul_assoc, Int.mul_assoc, Int.mul_assoc]; congr 1
    rw [← Int.mul_assoc, Int.mul_comm z b, Int.mul_assoc]
  unfold Format.mul
  rw [hr, hr']
  simp only [Datum.product, Option.map_some, Format.write]
  refine ⟨_, rfl, ?_⟩
  by_cases h0 : a * b = 0
  · have hz : m * n = 0 := by
      have := congrArg Int.natAbs hprod
      rw [sgn_abs, h0] at this
      simp only [Int.zero_mul, Int.natAbs_zero] at this
      rcases Nat.mul_eq_zero.1 this with h | h
      · exact h
      · have := Nat.two_pow_pos (i + j); omega
    rw [hz, h0]
    refine ⟨(s ^^ t), 0, 0, ?_, by decide, by cases (s ^^ t) <;> simp [sgn]⟩
    unfold Format.nearest
    rw [if_pos rfl, read_zero]
    exact number_congr rfl (by omega)
  · have ha0 : a ≠ 0 := by rintro rfl; simp at h0
    have hb0 : b ≠ 0 := by rintro rfl; simp at h0
    have l1 := isF_high ha0 hm ha
    have l2 := isF_high hb0 hn hb
    have hE : (i : Int) - Bz + ((j : Int) - Bz) = ((i + j - Bz : Nat) : Int) - Bz := by omega
    rw [hE]
    refine isF_write _ _ _ _ hab ?_
    have hpos : (0 : Int) < ((2 ^ Bz : Nat) : Int) := by exact_mod_cast Nat.two_pow_pos Bz
    refine Int.eq_of_mul_eq_mul_right (Int.ne_of_gt hpos) ?_
    rw [← hprod, ← sgn_scale, Nat.mul_assoc, ← Nat.pow_add, Nat.sub_add_cancel (by omega)]

theorem signed_zero (s : Bool) (m : Nat) : signed s m 0 = sgn s m := by rw [signed_eq]; simp

/-- A whole number's word, taken as an int: that number. -/
theorem isF_toInt {x : Nat} {a : Int} (hx : IsF x a) : (FloatKind.f64.decode x).toInt .zero = some a := by
  obtain ⟨s, m, e, hr, hm, ha⟩ := hx
  have hd : FloatKind.f64.decode x = .number s m ((e : Int) - Bz) := hr
  have hB := Bz_eq
  rw [hd]
  simp only [Datum.toInt, Datum.integral, signed_zero]
  congr 1
  have hpos : (0 : Int) < ((2 ^ Bz : Nat) : Int) := by exact_mod_cast Nat.two_pow_pos Bz
  refine Int.eq_of_mul_eq_mul_right (Int.ne_of_gt hpos) ?_
  rw [← ha, ← sgn_scale]
  refine congrArg (sgn s) ?_
  by_cases hc : Bz ≤ e
  · rw [show ((e : Int) - Bz).toNat = e - Bz by omega, show (-((e : Int) - Bz)).toNat = 0 by omega]
    have h1 : Toward.zero.cut s (m <<< (e - Bz)) 0 = m * 2 ^ (e - Bz) := by
      unfold Toward.cut
      simp [Nat.shiftLeft_eq]
    rw [h1, Nat.mul_assoc, ← Nat.pow_add, Nat.sub_add_cancel hc]
  · rw [show ((e : Int) - Bz).toNat = 0 by omega, show (-((e : Int) - Bz)).toNat = Bz - e by omega, Nat.shiftLeft_zero]
    -- the places below 1 are empty
    have habs : m * 2 ^ e = a.natAbs * 2 ^ Bz := by
      have := congrArg Int.natAbs ha
      rwa [sgn_abs, Int.natAbs_mul, Int.natAbs_natCast] at this
    have hme : m = a.natAbs * 2 ^ (Bz - e) := by
      have hp : 0 < 2 ^ e := Nat.two_pow_pos e
      refine Nat.eq_of_mul_eq_mul_right hp ?_
      rw [habs, Nat.mul_assoc, ← Nat.pow_add, Nat.sub_add_cancel (by omega)]
    have h1 : Toward.zero.cut s m (Bz - e) = a.natAbs := by
      unfold Toward.cut
      by_cases h0 : a.natAbs = 0
      · rw [hme, h0]; simp
      · have hl : min (Bz - e) (m.log2 + 2) = Bz - e := by rw [hme, log2_mul_pow _ _ h0]; omega
        have hp : 0 < 2 ^ (Bz - e) := Nat.two_pow_pos _
        simp only [hl, Nat.one_shiftLeft]
        rw [hme, Nat.mul_div_cancel _ hp]
        simp
    rw [h1, habs]

theorem compare_scale {A B a b p z : Int} (hmin : 0 < p) (hpos : 0 < z) (hA : A * p = a * z) (hBb : B * p = b * z) : compare A B = compare a b := by
  have lt : ∀ {u v : Int} , u < v ↔ u * z < v * z := fun {u v} => ⟨fun h => Int.mul_lt_mul_of_pos_right h hpos, fun h => Int.lt_of_mul_lt_mul_right h (Int.le_of_lt hpos)⟩
  have lt' : ∀ {u v : Int} , u < v ↔ u * p < v * p := fun {u v} => ⟨fun h => Int.mul_lt_mul_of_pos_right h hmin, fun h => Int.lt_of_mul_lt_mul_right h (Int.le_of_lt hmin)⟩
  have h1 : A < B ↔ a < b := by rw [lt', hA, hBb, ← lt]
  have h2 : B < A ↔ b < a := by rw [lt', hA, hBb, ← lt]
  simp only [compare, compareOfLessAndEq]
  by_cases c1 : a < b
  · rw [if_pos c1, if_pos (h1.2 c1)]
  · rw [if_neg c1, if_neg (fun h => c1 (h1.1 h))]
    by_cases c2 : b < a
    · have c2' := h2.2 c2
      rw [if_neg (by omega), if_neg (by omega)]
    · have n1 : ¬ A < B := fun h => c1 (h1.1 h)
      have n2 : ¬ B < A := fun h => c2 (h2.1 h)
      rw [if_pos (by omega), if_pos (by omega)]

/-- How two whole numbers' words stand to each other. -/
theorem isF_order {x y : Nat} {a b : Int} (hx : IsF x a) (hy : IsF y b) : Ieee.double.order x y = some (compare a b) := by
  obtain ⟨s, m, i, hr, _, ha⟩ := hx
  obtain ⟨t, n, j, hr', _, hb⟩ := hy
  unfold Format.order
  rw [hr, hr']
  simp only [Datum.order]
  have hbase : min ((i : Int) - Bz) ((j : Int) - Bz) = ((min i j : Nat) : Int) - Bz := by omega
  have e1 : ((i : Int) - Bz - (((min i j : Nat) : Int) - Bz)).toNat = i - min i j := by omega
  have e2 : ((j : Int) - Bz - (((min i j : Nat) : Int) - Bz)).toNat = j - min i j := by omega
  rw [hbase, e1, e2, signed_eq, signed_eq]
  have hpos : (0 : Int) < ((2 ^ Bz : Nat) : Int) := by exact_mod_cast Nat.two_pow_pos Bz
  have hmin : (0 : Int) < ((2 ^ min i j : Nat) : Int) := by exact_mod_cast Nat.two_pow_pos _
  have hA : sgn s (m * 2 ^ (i - min i j)) * ((2 ^ min i j : Nat) : Int) = a * ((2 ^ Bz : Nat) : Int) := by
    rw [← sgn_scale, Nat.mul_assoc, ← Nat.pow_add, Nat.sub_add_cancel (Nat.min_le_left _ _), ha]
  have hBb : sgn t (n * 2 ^ (j - min i j)) * ((2 ^ min i j : Nat) : Int) = b * ((2 ^ Bz : Nat) : Int) := by
    rw [← sgn_scale, Nat.mul_assoc, ← Nat.pow_add, Nat.sub_add_cancel (Nat.min_le_right _ _), hb]
  exact congrArg some (compare_scale hmin hpos hA hBb)

/-- A word of 64 bits that stands for n. -/
def IsW (b : Nat) (n : Int) : Prop := IsF b n ∧ b < 18446744073709551616

theorem wf_lt {b : Nat} (h : (Lit.float .f64 b).wf = true) : b < 18446744073709551616 := by
  have e : (2 : Nat) ^ 64 = 18446744073709551616 := by decide
  simp only [Lit.wf, decide_eq_true_eq] at h
  simpa [FloatKind.format, Ieee.Format.width, Ieee.double, e] using h

theorem isW_nearest (n : Int) (hn : n.natAbs ≤ 9007199254740992) : IsW (FloatKind.f64.nearest n) n :=
  ⟨isF_nearest n hn, wf_lt (encode_wf .f64 _)⟩
theorem nearest_zero : FloatKind.f64.nearest 0 = 0 := by decide
theorem isW_zero : IsW 0 0 := by have := isW_nearest 0 (by decide); rwa [nearest_zero] at this
theorem nearest_most : FloatKind.f64.nearest 33554432 = 4719772409484279808 := by decide
theorem isW_most : IsW 4719772409484279808 33554432 := by have := isW_nearest 33554432 (by decide); rwa [nearest_most] at this

theorem isW_add {x y : Nat} {a b : Int} (hx : IsW x a) (hy : IsW y b) (hab : (a + b).natAbs ≤ 9007199254740992) : ∃ r, floatBits .add .f64 x y = some r ∧ IsW r (a + b) := by
  obtain ⟨r, h1, h2⟩ := isF_add hx.1 hy.1 hab
  have h : floatBits .add .f64 x y = some r := h1
  exact ⟨r, h, h2, wf_lt (floatBits_wf h)⟩
theorem isW_sub {x y : Nat} {a b : Int} (hx : IsW x a) (hy : IsW y b) (hab : (a - b).natAbs ≤ 9007199254740992) : ∃ r, floatBits .sub .f64 x y = some r ∧ IsW r (a - b) := by
  obtain ⟨r, h1, h2⟩ := isF_sub hx.1 hy.1 hab
  have h : floatBits .sub .f64 x y = some r := h1
  exact ⟨r, h, h2, wf_lt (floatBits_wf h)⟩
theorem isW_mul {x y : Nat} {a b : Int} (hx : IsW x a) (hy : IsW y b) (hab : (a * b).natAbs ≤ 9007199254740992) : ∃ r, floatBits .mul .f64 x y = some r ∧ IsW r (a * b) := by
  obtain ⟨r, h1, h2⟩ := isF_mul hx.1 hy.1 hab
  have h : floatBits .mul .f64 x y = some r := h1
  exact ⟨r, h, h2, wf_lt (floatBits_wf h)⟩

/-- The sum, the difference, the product of two complex numbers of whole parts. -/
theorem isW_csum {x y u v : Nat} {a b c d : Int} (hx : IsW x a) (hy : IsW y b) (hu : IsW u c) (hv : IsW v d) (h1 : (a + c).natAbs ≤ 9007199254740992) (h2 : (b + d).natAbs ≤ 9007199254740992) :
    ∃ re im, cSumBits .add .f64 x y u v = some (re, im) ∧ IsW re (a + c) ∧ IsW im (b + d) := by
  obtain ⟨re, e1, r1⟩ := isW_add hx hu h1
  obtain ⟨im, e2, r2⟩ := isW_add hy hv h2
  exact ⟨re, im, by simp [cSumBits, e1, e2], r1, r2⟩
theorem isW_cdiff {x y u v : Nat} {a b c d : Int} (hx : IsW x a) (hy : IsW y b) (hu : IsW u c) (hv : IsW v d) (h1 : (a - c).natAbs ≤ 9007199254740992) (h2 : (b - d).natAbs ≤ 9007199254740992) :
    ∃ re im, cSumBits .sub .f64 x y u v = some (re, im) ∧ IsW re (a - c) ∧ IsW im (b - d) := by
  obtain ⟨re, e1, r1⟩ := isW_sub hx hu h1
  obtain ⟨im, e2, r2⟩ := isW_sub hy hv h2
  exact ⟨re, im, by simp [cSumBits, e1, e2], r1, r2⟩
theorem isW_cmul {x y u v : Nat} {a b c d : Int} (hx : IsW x a) (hy : IsW y b) (hu : IsW u c) (hv : IsW v d)
    (h1 : (a * c).natAbs ≤ 9007199254740992) (h2 : (b * d).natAbs ≤ 9007199254740992) (h3 : (a * d).natAbs ≤ 9007199254740992) (h4 : (b * c).natAbs ≤ 9007199254740992)
    (h5 : (a * c - b * d).natAbs ≤ 9007199254740992) (h6 : (a * d + b * c).natAbs ≤ 9007199254740992) :
    ∃ re im, cMulBits x y u v = some (re, im) ∧ IsW re (a * c - b * d) ∧ IsW im (a * d + b * c) := by
  obtain ⟨r1, e1, w1⟩ := isW_mul hx hu h1
  obtain ⟨r2, e2, w2⟩ := isW_mul hy hv h2
  obtain ⟨r3, e3, w3⟩ := isW_mul hx hv h3
  obtain ⟨r4, e4, w4⟩ := isW_mul hy hu h4
  obtain ⟨re, e5, w5⟩ := isW_sub w1 w2 h5
  obtain ⟨im, e6, w6⟩ := isW_add w3 w4 h6
  exact ⟨re, im, by simp [cMulBits, e1, e2, e3, e4, e5, e6], w5, w6⟩

theorem xor_low (b : Nat) (hb : b < 2 ^ 63) : b ^^^ 2 ^ 63 = 2 ^ 63 + b := by
  apply Nat.eq_of_testBit_eq
  intro i
  rw [Nat.testBit_xor, Nat.testBit_two_pow]
  by_cases h1 : i < 63
  · rw [Nat.testBit_two_pow_add_gt h1]
    have : decide (63 = i) = false := by simp; omega
    rw [this]; simp
  · by_cases h2 : i = 63
    · subst h2
      rw [Nat.testBit_two_pow_add_eq]; simp
    · have h3 : b < 2 ^ i := Nat.lt_of_lt_of_le hb (Nat.pow_le_pow_right (by decide) (by omega))
      have h4 : 2 ^ 63 + b < 2 ^ i := Nat.lt_of_lt_of_le (by omega : 2 ^ 63 + b < 2 ^ 64) (Nat.pow_le_pow_right (by decide) (by omega))
      rw [Nat.testBit_lt_two_pow h3, Nat.testBit_lt_two_pow h4]
      have : decide (63 = i) = false := by simp; omega
      rw [this]; rfl

theorem negFloat_eq (b : Nat) (hb : b < 18446744073709551616) : Op.negFloat .f64 b = if b < 9223372036854775808 then b + 9223372036854775808 else b - 9223372036854775808 := by
  have e : Op.negFloat .f64 b = b ^^^ 2 ^ 63 := rfl
  have p : (2 : Nat) ^ 63 = 9223372036854775808 := by decide
  rw [e]
  by_cases h : b < 9223372036854775808
  · rw [if_pos h, xor_low b (by rw [p]; exact h), p, Nat.add_comm]
  · rw [if_neg h]
    obtain ⟨c, rfl⟩ : ∃ c, b = 2 ^ 63 + c := ⟨b - 2 ^ 63, by rw [p]; omega⟩
    have hc : c < 2 ^ 63 := by rw [p] at *; omega
    rw [← xor_low c hc, Nat.xor_assoc, Nat.xor_self, Nat.xor_zero]
    rw [xor_low c hc, p]; omega

/-- A word's reading by its sign and its rung. -/
theorem read_neg (b : Nat) (hb : b < 18446744073709551616) : Ieee.double.read (Op.negFloat .f64 b) = (Ieee.double.read b).opposite := by
  rw [negFloat_eq b hb]
  unfold Format.read
  rw [signWeight_eq]
  by_cases h : b < 9223372036854775808
  · rw [if_pos h]
    have e1 : (b + 9223372036854775808) / 9223372036854775808 = 1 := by omega
    have e2 : (b + 9223372036854775808) % 9223372036854775808 = b := by omega
    have e3 : b / 9223372036854775808 = 0 := by omega
    have e4 : b % 9223372036854775808 = b := by omega
    rw [e1, e2, e3, e4]
    simp only [Nat.reduceMod, beq_self_eq_true, Nat.zero_mod]
    repeat' split
    all_goals simp_all [Datum.opposite]
  · rw [if_neg h]
    have e1 : (b - 9223372036854775808) / 9223372036854775808 = 0 := by omega
    have e2 : (b - 9223372036854775808) % 9223372036854775808 = b % 9223372036854775808 := by omega
    have e3 : b / 9223372036854775808 = 1 := by omega
    rw [e1, e2, e3]
    simp only [Nat.reduceMod, beq_self_eq_true, Nat.zero_mod]
    repeat' split
    all_goals simp_all [Datum.opposite]

theorem isW_neg {x : Nat} {a : Int} (hx : IsW x a) : IsW (Op.negFloat .f64 x) (-a) := by
  obtain ⟨⟨s, m, e, hr, hm, ha⟩, hb⟩ := hx
  refine ⟨⟨!s, m, e, by rw [read_neg x hb, hr]; rfl, hm, by rw [sgn_not, ha, Int.neg_mul]⟩, ?_⟩
  rw [negFloat_eq x hb]
  split <;> omega

/-- Without the sign. -/
theorem isW_abs {x : Nat} {a : Int} (hx : IsW x a) : IsW (x % 9223372036854775808) (a.natAbs : Int) := by
  obtain ⟨⟨s, m, e, hr, hm, ha⟩, hb⟩ := hx
  have hx' : Ieee.double.read (x % 9223372036854775808) = .number false m ((e : Int) - Bz) := by
    unfold Format.read at hr ⊢
    rw [signWeight_eq] at hr ⊢
    have e1 : x % 9223372036854775808 / 9223372036854775808 = 0 := by omega
    rw [e1, Nat.mod_mod]
    generalize hn : (x / 9223372036854775808 % 2 == 1) = neg at hr
    revert hr
    simp only [Nat.zero_mod]
    repeat' split
    all_goals simp_all
  refine ⟨⟨false, m, e, hx', hm, ?_⟩, by omega⟩
  have habs := congrArg Int.natAbs ha
  rw [sgn_abs, Int.natAbs_mul, Int.natAbs_natCast] at habs
  rw [← Int.natCast_mul, ← habs]
  rfl
end Go.Proofs.YtmbgjhmjmomnoaaGreatDoor.Flt

/-
  value.field, value.within, value.nearest: complex numbers of whole parts as the language's own.
-/
namespace Go.Proofs.YtmbgjhmjmomnoaaGreatDoor.Va
open Go.RowKit
open Go.Proofs.YtmbgjhmjmomnoaaGreatDoor.Flt (IsW)

theorem ret1' {a b : Value} (h : a = b) : Ending.returned a = .returned b := by rw [h]

set_option maxRecDepth 100000 in
theorem field_whl (n : Int) (hn : -33554432 ≤ n ∧ n ≤ 33554432) (w : World) :
    Calls Tryz.prog 120 #[Dat.v (.whl n)] w fun e w' => e = .returned (.tuple #[.complex .f64 (FloatKind.f64.nearest n) 0, .bool true]) ∧ Below w.heap.size w w' := by
  have f1 := as_whl (.whl n)
  simp only [Dat.t, Dat.x, Dat.asWhl] at f1
  have Hn := Lib.hid hn
  clear hn
  unfold Dat.v Dat.t Dat.x
  go_enter Tryz.func120, Tryz.ntmps120
  go_wp2_with (go_at_call 87; refine (inPart_yes n _ Hn.out).mono ?_; rintro e w1 ⟨rfl, rfl⟩)
  go_ret2
  exact ⟨rfl, Below.refl _ _⟩

set_option maxRecDepth 100000 in
theorem field_pln (a b : Int) (w : World) :
    Calls Tryz.prog 120 #[Dat.v (.pln a b)] w fun e w' => e = .returned (.tuple #[.complex .f64 (FloatKind.f64.nearest a) (FloatKind.f64.nearest b), .bool true]) ∧ Below w.heap.size w w' := by
  have f1 := as_whl (.pln a b)
  have f2 := as_pln (.pln a b)
  simp only [Dat.t, Dat.x, Dat.asWhl, Dat.asPln] at f1 f2
  unfold Dat.v Dat.t Dat.x
  go_enter Tryz.func120, Tryz.ntmps120
  go_wp2_with fail
  go_ret2
  exact ⟨rfl, (by repeat (first | exact Below.refl _ _ | assumption | refine Below.alloc ?_ (by simp; try omega) _ | refine Below.drew ?_ | refine Below.setCell ?_ (by simp; try omega) _))⟩

theorem bits_call (b : Nat) (W : World) : (callFunc 146 #[.float .f64 b]).run Tryz.prog W = .ok (.value (.int .u64 b)) W := by kernel_rfl
theorem frombits_call (n : Int) (W : World) : (callFunc 145 #[.int .u64 n]).run Tryz.prog W = .ok (.value (.float .f64 n.toNat)) W := by kernel_rfl

theorem clear_sign (b : Nat) (hb : b < 18446744073709551616) : bits .andNot .u64 (b : Int) 9223372036854775808 = ((b % 9223372036854775808 : Nat) : Int) := by
  have h := u64_andNot_nat b 9223372036854775808 hb (by omega)
  have e : b &&& (18446744073709551615 - 9223372036854775808) = b % 9223372036854775808 := Nat.and_two_pow_sub_one_eq_mod b 63
  rw [e] at h
  exact h

set_option maxRecDepth 100000 in
theorem abs_any (b : Nat) (hb : b < 18446744073709551616) (w : World) :
    Calls Tryz.prog 121 #[.float .f64 b] w fun e w' => e = .returned (.float .f64 (b % 9223372036854775808)) ∧ w = w' := by
  have h1 := bits_call b
  have h2 := frombits_call
  have h3 := clear_sign b hb
  go_enter Tryz.func121, Tryz.ntmps121
  go_wp2_with fail
  go_ret
  exact ⟨rfl, rfl⟩

theorem conv_int {b : Nat} {n : Int} (h : IsW b n) (h0 : -9223372036854775808 ≤ n ∧ n ≤ 9223372036854775807) (W : World) : (convert 91 2 (.float .f64 b)).run Tryz.prog W = .ok (.int .i64 n) W := by
  have h1 := Flt.isF_toInt h.1
  have e : (convert 91 2 (.float .f64 b)).run Tryz.prog W = (Conv.floatToInt .f64 b .i64).run Tryz.prog W := by kernel_rfl
  have hm : IntKind.i64.min ≤ n ∧ n ≤ IntKind.i64.max := h0
  rw [e]
  simp [Conv.floatToInt, h1, hm]
  intro hc
  omega

theorem floor_of {N D q r : Int} (h : N = D * q + r) (h0 : 0 ≤ r) (h1 : r < D) : N / D = q := by
  rw [h, Int.mul_comm, Int.add_comm, Int.add_mul_ediv_right _ _ (by omega), Int.ediv_eq_zero_of_lt h0 h1]
  omega
theorem tdiv_small (N D : Int) : -(N.natAbs : Int) ≤ N.tdiv D ∧ N.tdiv D ≤ (N.natAbs : Int) := by
  have h : (N.tdiv D).natAbs ≤ N.natAbs := by
    rw [Int.natAbs_tdiv]; exact Nat.div_le_self _ _
  omega
theorem floor_neg {N D : Int} (hD : 0 < D) (h : N.tmod D < 0) : N / D = N.tdiv D - 1 := by
  have e := Int.mul_tdiv_add_tmod N D
  have b : -D < N.tmod D := Int.neg_lt_of_neg_lt (by
    have := Int.tmod_lt_of_pos (-N) hD
    rw [Int.neg_tmod] at this
    exact this)
  exact floor_of (r := N.tmod D + D) (by rw [Int.mul_sub, Int.mul_one]; omega) (by omega) (by omega)
theorem floor_pos {N D : Int} (hD : 0 < D) (h : 0 ≤ N.tmod D) : N / D = N.tdiv D := by
  have e := Int.mul_tdiv_add_tmod N D
  exact floor_of (r := N.tmod D) (by omega) h (Int.tmod_lt_of_pos N hD)

set_option maxRecDepth 100000 in
theorem nearest_any (n d : Int) (hn : -4503599627370496 ≤ n ∧ n ≤ 4503599627370496) (hd : 0 < d ∧ d ≤ 4503599627370496) (w : World) :
    Calls Tryz.prog 135 #[.int .i64 n, .int .i64 d] w fun e w' => e = .returned (.int .i64 ((2 * n + d) / (2 * d))) ∧ w = w' := by
  obtain ⟨n0, n1⟩ := hn
  obtain ⟨d0, d1⟩ := hd
  go_enter Tryz.func135, Tryz.ntmps135
  go_wp2_with fail
  · go_ret
    have hlt : (2 * n + d).tmod (2 * d) < 0 := by assumption
    refine ⟨ret1' ?_, rfl⟩
    have hs := tdiv_small (2 * n + d) (2 * d)
    rw [floor_neg (by omega) hlt]
    show Value.int .i64 (wrap64 _) = _
    unfold wrap64
    exact congrArg (Value.int .i64) (by omega)
  · go_ret
    have hge : 0 ≤ (2 * n + d).tmod (2 * d) := by assumption
    refine ⟨ret1' ?_, rfl⟩
    rw [floor_pos (by omega) hge]
    rfl

/-- A complex number of whole parts as a datum, if its parts are not too great. -/
def wthD (a b : Int) : Value := if -33554432 ≤ a ∧ a ≤ 33554432 ∧ -33554432 ≤ b ∧ b ≤ 33554432 then .tuple #[Dat.v (.pln a b), .int .i64 0] else .tuple #[.nilIface, .int .i64 11]

theorem gt_most {x : Nat} {a : Int} (hx : IsW x a) : (FloatKind.f64.format.order (x % 9223372036854775808) 4719772409484279808 == some .gt) = decide (33554432 < (a.natAbs : Int)) := by
  have h : FloatKind.f64.format.order (x % 9223372036854775808) 4719772409484279808 = some (compare (a.natAbs : Int) 33554432) := Flt.isF_order (Flt.isW_abs hx).1 Flt.isW_most.1
  rw [h]
  by_cases c : 33554432 < (a.natAbs : Int)
  · have : compare (a.natAbs : Int) 33554432 = .gt := by simp only [compare, compareOfLessAndEq]; rw [if_neg (by omega), if_neg (by omega)]
    rw [this, decide_eq_true c]; rfl
  · have : compare (a.natAbs : Int) 33554432 ≠ .gt := by
      simp only [compare, compareOfLessAndEq]
      by_cases c1 : (a.natAbs : Int) < 33554432
      · rw [if_pos c1]; decide
      · rw [if_neg c1, if_pos (by omega)]; decide
    rw [decide_eq_false c]
    cases hc : compare (a.natAbs : Int) 33554432 <;> simp_all

set_option maxRecDepth 100000 in
set_option maxHeartbeats 800000 in
theorem within_any (x y : Nat) (a b : Int) (hx : IsW x a) (hy : IsW y b) (ha : a.natAbs ≤ 9007199254740992) (hb : b.natAbs ≤ 9007199254740992) (w : World) :
    Calls Tryz.prog 134 #[.complex .f64 x y] w fun e w' => e = .returned (wthD a b) ∧ w = w' := by
  have g1 := gt_most hx
  have g2 := gt_most hy
  have c1 := conv_int hx (by omega)
  have c2 := conv_int hy (by omega)
  have A1 := Lib.hid (fun w => abs_any x hx.2 w)
  have A2 := Lib.hid (fun w => abs_any y hy.2 w)
  have Hx := Lib.hid (And.intro hx ha)
  have Hy := Lib.hid (And.intro hy hb)
  clear hx hy ha hb
  by_cases h1 : 33554432 < (a.natAbs : Int)
  · rw [decide_eq_true h1] at g1
    go_enter Tryz.func134, Tryz.ntmps134
    go_wp2_with fail
    refine (A1.out _).mono ?_
    rintro e w1 ⟨rfl, rfl⟩
    go_wp2_with fail
    go_ret2
    exact ⟨by unfold wthD; rw [if_neg (by omega)]; rfl, rfl⟩
  · by_cases h2 : 33554432 < (b.natAbs : Int)
    · rw [decide_eq_false h1] at g1
      rw [decide_eq_true h2] at g2
      go_enter Tryz.func134, Tryz.ntmps134
      go_wp2_with fail
      refine (A1.out _).mono ?_
      rintro e w1 ⟨rfl, rfl⟩
      go_wp2_with fail
      refine (A2.out _).mono ?_
      rintro e w1 ⟨rfl, rfl⟩
      go_wp2_with fail
      go_ret2
      exact ⟨by unfold wthD; rw [if_neg (by omega)]; rfl, rfl⟩
    · rw [decide_eq_false h1] at g1
      rw [decide_eq_false h2] at g2
      go_enter Tryz.func134, Tryz.ntmps134
      go_wp2_with fail
      refine (A1.out _).mono ?_
      rintro e w1 ⟨rfl, rfl⟩
      go_wp2_with fail
      refine (A2.out _).mono ?_
      rintro e w1 ⟨rfl, rfl⟩
      go_wp2_with fail
      go_ret2
      exact ⟨by unfold wthD; rw [if_pos (by omega)]; rfl, rfl⟩
end Go.Proofs.YtmbgjhmjmomnoaaGreatDoor.Va

/-
  value.planes: sums, differences, products, quotients and rests of complex numbers of whole parts.
-/
namespace Go.Proofs.YtmbgjhmjmomnoaaGreatDoor.Va
open Go.RowKit
open Go.Proofs.YtmbgjhmjmomnoaaGreatDoor.Flt (IsW)

theorem wthD_form (a b : Int) : ∃ v e, wthD a b = .tuple #[v, .int .i64 e] := by
  unfold wthD; split
  · exact ⟨_, _, rfl⟩
  · exact ⟨_, _, rfl⟩

/-- A part: from -2^25 to 2^25. -/
def Part (a : Int) : Prop := -33554432 ≤ a ∧ a ≤ 33554432

theorem prod_bound {a b : Int} (ha : Part a) (hb : Part b) : -1125899906842624 ≤ a * b ∧ a * b ≤ 1125899906842624 := by
  obtain ⟨a0, a1⟩ := ha
  obtain ⟨b0, b1⟩ := hb
  have h : (a * b).natAbs ≤ 33554432 * 33554432 := by
    rw [Int.natAbs_mul]; exact Nat.mul_le_mul (by omega) (by omega)
  omega

/-- A value that field takes for the complex number a + b i. -/
structure Takes (v : Value) (x y : Nat) (a b : Int) : Prop where
  calls : ∀ w, Calls Tryz.prog 120 #[v] w (Ans (.tuple #[.complex .f64 x y, .bool true]) w)
  re : IsW x a
  im : IsW y b
  pa : Part a
  pb : Part b

theorem takes_whl (n : Int) (hn : Part n) : Takes (Dat.v (.whl n)) (FloatKind.f64.nearest n) 0 n 0 :=
  ⟨fun w => field_whl n hn w, Flt.isW_nearest n (by have := hn.1; have := hn.2; omega), Flt.isW_zero, hn, by unfold Part; omega⟩
theorem takes_pln (a b : Int) (ha : Part a) (hb : Part b) : Takes (Dat.v (.pln a b)) (FloatKind.f64.nearest a) (FloatKind.f64.nearest b) a b :=
  ⟨fun w => field_pln a b w, Flt.isW_nearest a (by have := ha.1; have := ha.2; omega), Flt.isW_nearest b (by have := hb.1; have := hb.2; omega), ha, hb⟩

set_option maxRecDepth 100000 in
set_option maxHeartbeats 800000 in
theorem planes_add (vx vy : Value) (x y u z : Nat) (a b c d : Int) (hx : Takes vx x y a b) (hy : Takes vy u z c d) (w : World) :
    Calls Tryz.prog 103 #[.int .i64 1, vx, vy] w (Ans (wthD (a + c) (b + d)) w) := by
  have Hx := Lib.hid hx.calls
  have Hy := Lib.hid hy.calls
  obtain ⟨a0, a1⟩ := hx.pa
  obtain ⟨b0, b1⟩ := hx.pb
  obtain ⟨c0, c1⟩ := hy.pa
  obtain ⟨d0, d1⟩ := hy.pb
  obtain ⟨re, im, e, h1, h2⟩ := Flt.isW_csum hx.re hx.im hy.re hy.im (by omega) (by omega)
  have hop := fun W => run_complex_sum (P := Tryz.prog) W .add (.inl rfl) 86 .f64 x y u z re im e
  have hw := fun w => within_any re im _ _ h1 h2 (by omega) (by omega) w
  obtain ⟨v, ee, hv⟩ := wthD_form (a + c) (b + d)
  rw [hv] at hw ⊢
  have Hw := Lib.hid hw
  clear hw hv h1 h2 e hx hy a0 a1 b0 b1 c0 c1 d0 d1
  go_enter Tryz.func103, Tryz.ntmps103
  go_wp2_with fail
  refine (Hx.out _).mono ?_
  rintro e w1 ⟨rfl, hb1⟩
  go_wp2_with fail
  refine (Hy.out _).mono ?_
  rintro e w2 ⟨rfl, hb2⟩
  go_wp2_with fail
  refine (Hw.out _).mono ?_
  rintro e w3 ⟨rfl, rfl⟩
  go_wp2_with fail
  go_ret2
  exact ⟨rfl, hb1.trans (hb2.mono hb1.size)⟩
set_option maxRecDepth 100000 in
set_option maxHeartbeats 800000 in
theorem planes_sub (vx vy : Value) (x y u z : Nat) (a b c d : Int) (hx : Takes vx x y a b) (hy : Takes vy u z c d) (w : World) :
    Calls Tryz.prog 103 #[.int .i64 2, vx, vy] w (Ans (wthD (a - c) (b - d)) w) := by
  have Hx := Lib.hid hx.calls
  have Hy := Lib.hid hy.calls
  obtain ⟨a0, a1⟩ := hx.pa
  obtain ⟨b0, b1⟩ := hx.pb
  obtain ⟨c0, c1⟩ := hy.pa
  obtain ⟨d0, d1⟩ := hy.pb
  obtain ⟨re, im, e, h1, h2⟩ := Flt.isW_cdiff hx.re hx.im hy.re hy.im (by omega) (by omega)
  have hop := fun W => run_complex_sum (P := Tryz.prog) W .sub (.inr rfl) 86 .f64 x y u z re im e
  have hw := fun w => within_any re im _ _ h1 h2 (by omega) (by omega) w
  obtain ⟨v, ee, hv⟩ := wthD_form (a - c) (b - d)
  rw [hv] at hw ⊢
  have Hw := Lib.hid hw
  clear hw hv h1 h2 e hx hy a0 a1 b0 b1 c0 c1 d0 d1
  go_enter Tryz.func103, Tryz.ntmps103
  go_wp2_with fail
  refine (Hx.out _).mono ?_
  rintro e w1 ⟨rfl, hb1⟩
  go_wp2_with fail
  refine (Hy.out _).mono ?_
  rintro e w2 ⟨rfl, hb2⟩
  go_wp2_with fail
  refine (Hw.out _).mono ?_
  rintro e w3 ⟨rfl, rfl⟩
  go_wp2_with fail
  go_ret2
  exact ⟨rfl, hb1.trans (hb2.mono hb1.size)⟩
set_option maxRecDepth 100000 in
set_option maxHeartbeats 800000 in
theorem planes_mul (vx vy : Value) (x y u z : Nat) (a b c d : Int) (hx : Takes vx x y a b) (hy : Takes vy u z c d) (w : World) :
    Calls Tryz.prog 103 #[.int .i64 3, vx, vy] w (Ans (wthD (a * c - b * d) (a * d + b * c)) w) := by
  have Hx := Lib.hid hx.calls
  have Hy := Lib.hid hy.calls
  have p1 := prod_bound hx.pa hy.pa
  have p2 := prod_bound hx.pb hy.pb
  have p3 := prod_bound hx.pa hy.pb
  have p4 := prod_bound hx.pb hy.pa
  obtain ⟨re, im, e, h1, h2⟩ := Flt.isW_cmul hx.re hx.im hy.re hy.im (by omega) (by omega) (by omega) (by omega) (by omega) (by omega)
  have hop := fun W => run_complex_mul (P := Tryz.prog) W 86 x y u z re im e
  have hw := fun w => within_any re im _ _ h1 h2 (by omega) (by omega) w
  obtain ⟨v, ee, hv⟩ := wthD_form (a * c - b * d) (a * d + b * c)
  rw [hv] at hw ⊢
  have Hw := Lib.hid hw
  clear hw hv h1 h2 e hx hy p1 p2 p3 p4
  go_enter Tryz.func103, Tryz.ntmps103
  go_wp2_with fail
  refine (Hx.out _).mono ?_
  rintro e w1 ⟨rfl, hb1⟩
  go_wp2_with fail
  refine (Hy.out _).mono ?_
  rintro e w2 ⟨rfl, hb2⟩
  go_wp2_with fail
  refine (Hw.out _).mono ?_
  rintro e w3 ⟨rfl, rfl⟩
  go_wp2_with fail
  go_ret2
  exact ⟨rfl, hb1.trans (hb2.mono hb1.size)⟩

theorem eq_zero_word {x : Nat} {a : Int} (hx : IsW x a) : (FloatKind.f64.format.order x 0 == some .eq) = decide (a = 0) := by
  have h : FloatKind.f64.format.order x 0 = some (compare a 0) := Flt.isF_order hx.1 Flt.isW_zero.1
  rw [h]
  simp only [compare, compareOfLessAndEq]
  by_cases c1 : a < 0
  · rw [if_pos c1, decide_eq_false (by omega)]; rfl
  · rw [if_neg c1]
    by_cases c2 : a = 0
    · rw [if_pos c2, decide_eq_true c2]; rfl
    · rw [if_neg c2, decide_eq_false c2]; rfl

theorem neg_word (z : Nat) (W : World) : (Op.unary .neg (.float .f64 z)).run Tryz.prog W = .ok (.float .f64 (Op.negFloat .f64 z)) W := rfl

set_option maxRecDepth 100000 in
set_option maxHeartbeats 800000 in
/-- By 0: ErrZero, of a quotient and of a rest. -/
theorem planes_zero (op : Int) (hop : op = 4 ∨ op = 5) (vx vy : Value) (x y u z : Nat) (a b c d : Int) (hx : Takes vx x y a b) (hy : Takes vy u z c d) (h0 : c = 0 ∧ d = 0) (w : World) :
    Calls Tryz.prog 103 #[.int .i64 op, vx, vy] w (Ans (.tuple #[.nilIface, .int .i64 12]) w) := by
  have Hx := Lib.hid hx.calls
  have Hy := Lib.hid hy.calls
  have e1 := eq_zero_word hy.re
  have e2 := eq_zero_word hy.im
  rw [decide_eq_true h0.1] at e1
  rw [decide_eq_true h0.2] at e2
  clear hx hy h0
  rcases hop with rfl | rfl
  all_goals
    go_enter Tryz.func103, Tryz.ntmps103
    go_wp2_with fail
    refine (Hx.out _).mono ?_
    rintro e w1 ⟨rfl, hb1⟩
    go_wp2_with fail
    refine (Hy.out _).mono ?_
    rintro e w2 ⟨rfl, hb2⟩
    go_wp2_with fail
    go_ret2
    exact ⟨rfl, hb1.trans (hb2.mono hb1.size)⟩

/-- The divisor's norm, and the dividend times the divisor's conjugate, in words. -/
theorem conj_words {x y u z : Nat} {a b c d : Int} (hx : IsW x a) (hxi : IsW y b) (hy : IsW u c) (hyi : IsW z d) (ha : Part a) (hb : Part b) (hc : Part c) (hd : Part d) :
    ∃ re im, cMulBits x y u (Op.negFloat .f64 z) = some (re, im) ∧ IsW re (a * c + b * d) ∧ IsW im (b * c - a * d) := by
  have p1 := prod_bound ha hc
  have p2 := prod_bound hb hd
  have p3 := prod_bound ha hd
  have p4 := prod_bound hb hc
  have n1 : a * -d = -(a * d) := Int.mul_neg a d
  have n2 : b * -d = -(b * d) := Int.mul_neg b d
  obtain ⟨re, im, e, h1, h2⟩ := Flt.isW_cmul hx hxi hy (Flt.isW_neg hyi) (by omega) (by rw [n2]; omega) (by rw [n1]; omega) (by omega) (by rw [n2]; omega) (by rw [n1]; omega)
  refine ⟨re, im, e, ?_, ?_⟩
  · rw [show a * c + b * d = a * c - b * -d by rw [n2]; omega]; exact h1
  · rw [show b * c - a * d = a * -d + b * c by rw [n1]; omega]; exact h2

set_option maxRecDepth 100000 in
set_option maxHeartbeats 1600000 in
/-- A quotient that is no whole number. -/
theorem planes_inexact (vx vy : Value) (x y u z : Nat) (a b c d n p q : Int) (hx : Takes vx x y a b) (hy : Takes vy u z c d) (hn : n = c * c + d * d) (hp : p = a * c + b * d) (hq : q = b * c - a * d) (h0 : ¬ (c = 0 ∧ d = 0))
    (hn0 : 0 < n) (hm : p.tmod n ≠ 0 ∨ q.tmod n ≠ 0) (w : World) :
    Calls Tryz.prog 103 #[.int .i64 4, vx, vy] w (Ans (.tuple #[.nilIface, .int .i64 13]) w) := by
  have Hx := Lib.hid hx.calls
  have Hy := Lib.hid hy.calls
  have e1 := eq_zero_word hy.re
  have e2 := eq_zero_word hy.im
  have p1 := prod_bound hx.pa hy.pa
  have p2 := prod_bound hx.pb hy.pb
  have p3 := prod_bound hx.pa hy.pb
  have p4 := prod_bound hx.pb hy.pa
  have p5 := prod_bound hy.pa hy.pa
  have p6 := prod_bound hy.pb hy.pb
  obtain ⟨re, im, o1, w1, w2⟩ := conj_words hx.re hx.im hy.re hy.im hx.pa hx.pb hy.pa hy.pb
  obtain ⟨re', im', o2, w3, w4⟩ := conj_words hy.re hy.im hy.re hy.im hy.pa hy.pb hy.pa hy.pb
  rw [← hp] at w1
  rw [← hq] at w2
  rw [← hn] at w3
  have hop1 := fun W => run_complex_mul (P := Tryz.prog) W 86 x y u (Op.negFloat .f64 z) re im o1
  have hop2 := fun W => run_complex_mul (P := Tryz.prog) W 86 u z u (Op.negFloat .f64 z) re' im' o2
  have v1 := conv_int w1 (by omega)
  have v2 := conv_int w2 (by omega)
  have v3 := conv_int w3 (by omega)
  have hne : ¬ n = 0 := by omega
  have hneg := fun W => neg_word z W
  clear w1 w2 w3 w4 o1 o2 hx hy hp hq hn
  have ez : ((FloatKind.f64.format.order u 0 == some .eq) = false) ∨ ((FloatKind.f64.format.order u 0 == some .eq) = true ∧ (FloatKind.f64.format.order z 0 == some .eq) = false) := by
    rw [e1, e2]
    by_cases hc : c = 0
    · have hd : ¬ d = 0 := fun h => h0 ⟨hc, h⟩
      exact .inr ⟨decide_eq_true hc, decide_eq_false hd⟩
    · exact .inl (decide_eq_false hc)
  clear e1 e2 h0 p1 p2 p3 p4 p5 p6
  have hg : (¬ p.tmod n = 0) ∨ (p.tmod n = 0 ∧ ¬ q.tmod n = 0) := by
    by_cases hp : p.tmod n = 0
    · exact .inr ⟨hp, by simpa [hp] using hm⟩
    · exact .inl hp
  clear hm hn0
  rcases ez with z1 | ⟨z1, z2⟩ <;> rcases hg with g1 | ⟨g1, g2⟩
  all_goals
    go_enter Tryz.func103, Tryz.ntmps103
    go_wp2_with fail
    refine (Hx.out _).mono ?_
    rintro e w1 ⟨rfl, hb1⟩
    go_wp2_with fail
    refine (Hy.out _).mono ?_
    rintro e w2 ⟨rfl, hb2⟩
    go_wp2_with fail
    go_ret2
    exact ⟨rfl, hb1.trans (hb2.mono hb1.size)⟩

set_option maxRecDepth 100000 in
set_option maxHeartbeats 1600000 in
/-- A quotient that is a whole number. -/
theorem planes_div (vx vy : Value) (x y u z : Nat) (a b c d n p q : Int) (hx : Takes vx x y a b) (hy : Takes vy u z c d) (hn : n = c * c + d * d) (hp : p = a * c + b * d) (hq : q = b * c - a * d) (h0 : ¬ (c = 0 ∧ d = 0))
    (hn0 : 0 < n) (hm : p.tmod n = 0 ∧ q.tmod n = 0) (w : World) :
    Calls Tryz.prog 103 #[.int .i64 4, vx, vy] w (Ans (.tuple #[Dat.v (.pln (p.tdiv n) (q.tdiv n)), .int .i64 0]) w) := by
  have Hx := Lib.hid hx.calls
  have Hy := Lib.hid hy.calls
  have e1 := eq_zero_word hy.re
  have e2 := eq_zero_word hy.im
  have p1 := prod_bound hx.pa hy.pa
  have p2 := prod_bound hx.pb hy.pb
  have p3 := prod_bound hx.pa hy.pb
  have p4 := prod_bound hx.pb hy.pa
  have p5 := prod_bound hy.pa hy.pa
  have p6 := prod_bound hy.pb hy.pb
  obtain ⟨re, im, o1, w1, w2⟩ := conj_words hx.re hx.im hy.re hy.im hx.pa hx.pb hy.pa hy.pb
  obtain ⟨re', im', o2, w3, w4⟩ := conj_words hy.re hy.im hy.re hy.im hy.pa hy.pb hy.pa hy.pb
  rw [← hp] at w1
  rw [← hq] at w2
  rw [← hn] at w3
  have hop1 := fun W => run_complex_mul (P := Tryz.prog) W 86 x y u (Op.negFloat .f64 z) re im o1
  have hop2 := fun W => run_complex_mul (P := Tryz.prog) W 86 u z u (Op.negFloat .f64 z) re' im' o2
  have v1 := conv_int w1 (by omega)
  have v2 := conv_int w2 (by omega)
  have v3 := conv_int w3 (by omega)
  have hne : ¬ n = 0 := by omega
  have hneg := fun W => neg_word z W
  have HPQ := Lib.hid (show (-2251799813685248 ≤ p ∧ p ≤ 2251799813685248) ∧ (-2251799813685248 ≤ q ∧ q ≤ 2251799813685248) by rw [hp, hq]; omega)
  clear w1 w2 w3 w4 o1 o2 hx hy hp hq hn
  have ez : ((FloatKind.f64.format.order u 0 == some .eq) = false) ∨ ((FloatKind.f64.format.order u 0 == some .eq) = true ∧ (FloatKind.f64.format.order z 0 == some .eq) = false) := by
    rw [e1, e2]
    by_cases hc : c = 0
    · have hd : ¬ d = 0 := fun h => h0 ⟨hc, h⟩
      exact .inr ⟨decide_eq_true hc, decide_eq_false hd⟩
    · exact .inl (decide_eq_false hc)
  have hP : -2251799813685248 ≤ p ∧ p ≤ 2251799813685248 := HPQ.out.1
  have hQ : -2251799813685248 ≤ q ∧ q ≤ 2251799813685248 := HPQ.out.2
  clear e1 e2 h0 p1 p2 p3 p4 p5 p6 HPQ
  obtain ⟨m1, m2⟩ := hm
  have Bp := tdiv_small p n
  have Bq := tdiv_small q n
  have W1 : wrap64 (p.tdiv n) = p.tdiv n := by unfold wrap64; omega
  have W2 : wrap64 (q.tdiv n) = q.tdiv n := by unfold wrap64; omega
  have HW := Lib.hid (And.intro W1 W2)
  clear W1 W2 Bp Bq hP hQ hn0
  rcases ez with z1 | ⟨z1, z2⟩
  all_goals
    go_enter Tryz.func103, Tryz.ntmps103
    go_wp2_with fail
    refine (Hx.out _).mono ?_
    rintro e w1 ⟨rfl, hb1⟩
    go_wp2_with fail
    refine (Hy.out _).mono ?_
    rintro e w2 ⟨rfl, hb2⟩
    go_wp2_with fail
    go_quiet (fail)
    go_wp2
    go_ret2
    refine ⟨ret2 ?_ rfl, ?_⟩
    · show Value.iface 108 (.agg #[.int .i64 (wrap64 _), .int .i64 (wrap64 _)]) = _
      rw [HW.out.1, HW.out.2]
      rfl
    · first | exact (hb1.trans (hb2.mono hb1.size)).drew | exact below_drewN (hb1.trans (hb2.mono hb1.size)) _

/-- The rest's own bounds: a part of the nearest quotient is no greater than a part and one. -/
theorem near_bound {p n : Int} (hn : 0 < n) (hp : -(33554432 * n) ≤ p ∧ p ≤ 33554432 * n) : -33554433 ≤ (2 * p + n) / (2 * n) ∧ (2 * p + n) / (2 * n) ≤ 33554433 := by
  constructor
  · refine (Int.le_ediv_iff_mul_le (by omega)).2 ?_
    omega
  · refine Int.le_of_lt_add_one ((Int.ediv_lt_iff_lt_mul (by omega)).2 ?_)
    omega
theorem sq_ge (c : Int) : (c.natAbs : Int) ≤ c * c := by
  rcases Int.natAbs_eq c with h | h
  · by_cases h0 : c.natAbs = 0
    · have : c = 0 := by omega
      subst this; decide
    · have h1 : (1 : Int) ≤ (c.natAbs : Int) := by omega
      rw [show c * c = (c.natAbs : Int) * (c.natAbs : Int) by rw [← h]]
      have := Int.mul_le_mul_of_nonneg_left h1 (by omega : (0 : Int) ≤ (c.natAbs : Int))
      omega
  · have e : c * c = (c.natAbs : Int) * (c.natAbs : Int) := by
      rw [h]; simp [Int.neg_mul, Int.mul_neg]
    rw [e]
    by_cases h0 : c.natAbs = 0
    · rw [h0]; decide
    · have h1 : (1 : Int) ≤ (c.natAbs : Int) := by omega
      have := Int.mul_le_mul_of_nonneg_left h1 (by omega : (0 : Int) ≤ (c.natAbs : Int))
      omega
theorem part_bound {a b c d : Int} (ha : Part a) (hb : Part b) : -(33554432 * (c * c + d * d)) ≤ a * c + b * d ∧ a * c + b * d ≤ 33554432 * (c * c + d * d) := by
  obtain ⟨a0, a1⟩ := ha
  obtain ⟨b0, b1⟩ := hb
  have h1 : (a * c).natAbs ≤ 33554432 * c.natAbs := by rw [Int.natAbs_mul]; exact Nat.mul_le_mul_right _ (by omega)
  have h2 : (b * d).natAbs ≤ 33554432 * d.natAbs := by rw [Int.natAbs_mul]; exact Nat.mul_le_mul_right _ (by omega)
  have h3 := sq_ge c
  have h4 := sq_ge d
  omega
theorem prod_wide {a b : Int} (ha : Part a) (hb : -33554433 ≤ b ∧ b ≤ 33554433) : -1125899940397056 ≤ a * b ∧ a * b ≤ 1125899940397056 := by
  obtain ⟨a0, a1⟩ := ha
  have h : (a * b).natAbs ≤ 33554432 * 33554433 := by
    rw [Int.natAbs_mul]; exact Nat.mul_le_mul (by omega) (by omega)
  omega

set_option maxRecDepth 100000 in
set_option maxHeartbeats 1600000 in
/-- The rest. -/
theorem planes_mod (vx vy : Value) (x y u z : Nat) (a b c d n p q N M : Int) (hx : Takes vx x y a b) (hy : Takes vy u z c d) (hn : n = c * c + d * d) (hp : p = a * c + b * d) (hq : q = b * c - a * d) (h0 : ¬ (c = 0 ∧ d = 0))
    (hn0 : 0 < n) (hN : N = (2 * p + n) / (2 * n)) (hM : M = (2 * q + n) / (2 * n)) (w : World) :
    Calls Tryz.prog 103 #[.int .i64 5, vx, vy] w (Ans (wthD (a - (c * N - d * M)) (b - (c * M + d * N))) w) := by
  have Hx := Lib.hid hx.calls
  have Hy := Lib.hid hy.calls
  have e1 := eq_zero_word hy.re
  have e2 := eq_zero_word hy.im
  have p1 := prod_bound hx.pa hy.pa
  have p2 := prod_bound hx.pb hy.pb
  have p3 := prod_bound hx.pa hy.pb
  have p4 := prod_bound hx.pb hy.pa
  have p5 := prod_bound hy.pa hy.pa
  have p6 := prod_bound hy.pb hy.pb
  obtain ⟨re, im, o1, w1, w2⟩ := conj_words hx.re hx.im hy.re hy.im hx.pa hx.pb hy.pa hy.pb
  obtain ⟨re', im', o2, w3, w4⟩ := conj_words hy.re hy.im hy.re hy.im hy.pa hy.pb hy.pa hy.pb
  rw [← hp] at w1
  rw [← hq] at w2
  rw [← hn] at w3
  have hop1 := fun W => run_complex_mul (P := Tryz.prog) W 86 x y u (Op.negFloat .f64 z) re im o1
  have hop2 := fun W => run_complex_mul (P := Tryz.prog) W 86 u z u (Op.negFloat .f64 z) re' im' o2
  have v1 := conv_int w1 (by omega)
  have v2 := conv_int w2 (by omega)
  have v3 := conv_int w3 (by omega)
  have hne : ¬ n = 0 := by omega
  have hneg := fun W => neg_word z W
  have hpq : (-2251799813685248 ≤ p ∧ p ≤ 2251799813685248) ∧ (-2251799813685248 ≤ q ∧ q ≤ 2251799813685248) ∧ n ≤ 2251799813685248 := by rw [hp, hq, hn]; omega
  have bN := near_bound hn0 (p := p) (by rw [hp, hn]; exact part_bound hx.pa hx.pb)
  have bM := near_bound hn0 (p := q) (by
    rw [hq, hn]
    have hna : Part (-a) := by have := hx.pa; unfold Part at *; omega
    have := part_bound (c := c) (d := d) hx.pb hna
    rw [Int.neg_mul] at this
    rw [Int.sub_eq_add_neg]
    exact this)
  rw [← hN] at bN
  rw [← hM] at bM
  have near1 := fun w => nearest_any p n (by omega) (by omega) w
  have near2 := fun w => nearest_any q n (by omega) (by omega) w
  rw [← hN] at near1
  rw [← hM] at near2
  have r1 := prod_wide hy.pa bN
  have r2 := prod_wide hy.pb bM
  have r3 := prod_wide hy.pa bM
  have r4 := prod_wide hy.pb bN
  have k1 : IsW (floatOfInt .f64 N) N := Flt.isW_nearest N (by omega)
  have k2 : IsW (floatOfInt .f64 M) M := Flt.isW_nearest M (by omega)
  obtain ⟨re2, im2, o3, x1, x2⟩ := Flt.isW_cmul hy.re hy.im k1 k2 (by omega) (by omega) (by omega) (by omega) (by omega) (by omega)
  obtain ⟨ha0, ha1⟩ := hx.pa
  obtain ⟨hb0, hb1⟩ := hx.pb
  obtain ⟨re3, im3, o4, x3, x4⟩ := Flt.isW_cdiff hx.re hx.im x1 x2 (by omega) (by omega)
  have hop3 := fun W => run_complex_mul (P := Tryz.prog) W 86 u z _ _ re2 im2 o3
  have hop4 := fun W => run_complex_sum (P := Tryz.prog) W .sub (.inr rfl) 86 .f64 x y re2 im2 re3 im3 o4
  have hw := fun w => within_any re3 im3 _ _ x3 x4 (by omega) (by omega) w
  obtain ⟨v, ee, hv⟩ := wthD_form (a - (c * N - d * M)) (b - (c * M + d * N))
  rw [hv] at hw ⊢
  have Hw := Lib.hid hw
  have N1 := Lib.hid near1
  have N2 := Lib.hid near2
  clear hw near1 near2 hv x1 x2 x3 x4 o3 o4 k1 k2 r1 r2 r3 r4 bN bM hN hM ha0 ha1 hb0 hb1
  clear w1 w2 w3 w4 o1 o2 hx hy hp hq hn hpq
  have ez : ((FloatKind.f64.format.order u 0 == some .eq) = false) ∨ ((FloatKind.f64.format.order u 0 == some .eq) = true ∧ (FloatKind.f64.format.order z 0 == some .eq) = false) := by
    rw [e1, e2]
    by_cases hc : c = 0
    · have hd : ¬ d = 0 := fun h => h0 ⟨hc, h⟩
      exact .inr ⟨decide_eq_true hc, decide_eq_false hd⟩
    · exact .inl (decide_eq_false hc)
  clear e1 e2 h0 p1 p2 p3 p4 p5 p6 hn0
  rcases ez with z1 | ⟨z1, z2⟩
  all_goals
    go_enter Tryz.func103, Tryz.ntmps103
    go_wp2_with fail
    refine (Hx.out _).mono ?_
    rintro e w1 ⟨rfl, hb1⟩
    go_wp2_with fail
    refine (Hy.out _).mono ?_
    rintro e w2 ⟨rfl, hb2⟩
    go_wp2_with fail
    refine (N1.out _).mono ?_
    rintro e w3 ⟨rfl, rfl⟩
    go_wp2_with fail
    refine (N2.out _).mono ?_
    rintro e w3 ⟨rfl, rfl⟩
    go_wp2_with fail
    refine (Hw.out _).mono ?_
    rintro e w3 ⟨rfl, rfl⟩
    go_wp2_with fail
    go_ret2
    exact ⟨rfl, hb1.trans (hb2.mono hb1.size)⟩
end Go.Proofs.YtmbgjhmjmomnoaaGreatDoor.Va

/-
  value.Binary: its roads to logic and to arithmetic: what it answers, out of what the callees answer.
-/
namespace Go.Proofs.YtmbgjhmjmomnoaaGreatDoor.Va
open Go.RowKit

set_option maxRecDepth 100000 in
set_option maxHeartbeats 400000 in
theorem Binary_log_of (op : Int) (x y : V) (dx dy : Dat) (rv : Value) (ee : Int) (o : V) (w : World) (hop : op = 12 ∨ op = 13 ∨ op = 14)
    (hox : ∀ w, Calls Tryz.prog 33 #[x.v] w (Ans (.tuple #[dx.v, .bool true]) w))
    (hoy : ∀ w, Calls Tryz.prog 33 #[y.v] w (Ans (.tuple #[dy.v, .bool true]) w))
    (hlog : ∀ w, Calls Tryz.prog 49 #[.int .i64 op, dx.v, dy.v] w (Ans (.tuple #[rv, .int .i64 ee]) w))
    (hans : ∀ w, Calls Tryz.prog 43 #[rv, .int .i64 ee] w (Ans (.tuple #[o.v, .int .i64 ee]) w)) :
    Calls Tryz.prog 24 #[.int .i64 op, x.v, y.v] w (Ans (.tuple #[o.v, .int .i64 ee]) w) := by
  generalize dx.v = vx at *
  generalize dy.v = vy at *
  obtain ⟨k, a, b, s⟩ := x
  obtain ⟨k', a', b', s'⟩ := y
  obtain ⟨ok, oa, ob, os⟩ := o
  unfold V.v at *
  have Hx := Lib.hid hox
  have Hy := Lib.hid hoy
  have Hl := Lib.hid hlog
  have Ha := Lib.hid hans
  clear hox hoy hlog hans
  rcases hop with rfl | rfl | rfl
  all_goals
    go_enter Tryz.func24, Tryz.ntmps24
    go_wp2_with fail
    refine (Hx.out _).mono ?_
    rintro e w1 ⟨rfl, hb1⟩
    obtain ⟨c1, f1⟩ := bcell hb1
    go_wp2_with fail
    refine (Hy.out _).mono ?_
    rintro e w2 ⟨rfl, hb2⟩
    have hb12 := hb1.trans (hb2.mono hb1.size)
    clear c1 f1
    obtain ⟨c2, f2⟩ := bcell hb12
    go_wp2_with fail
    refine (Hl.out _).mono ?_
    rintro e w3 ⟨rfl, hb3⟩
    have hb13 := hb12.trans (hb3.mono hb12.size)
    clear c2 f2
    go_wp2_with fail
    refine (Ha.out _).mono ?_
    rintro e w4 ⟨rfl, hb4⟩
    have hb14 := hb13.trans (hb4.mono hb13.size)
    obtain ⟨c4, f4⟩ := bcell hb14
    have z4 : w.heap.size + 3 ≤ w4.heap.size := by have := hb14.size; simpa using this
    go_wp2
    have hb' : Below w.heap.size w w4 := ((((Below.refl _ w).alloc (Nat.le_refl _) _).alloc (by simp) _).alloc (by simp; try omega) _).trans (hb14.mono (by simp; try omega))
    refine bodyPost_ret (v := .tuple #[(V.mk ok oa ob os).v, .int .i64 ee]) (by simp [results, Tryz.results24, go_sem, c4]; try rfl) rfl ⟨rfl, ?_⟩
    exact (by repeat (first | exact Below.refl _ _ | assumption | refine Below.alloc ?_ (by simp; try omega) _ | refine Below.drew ?_ | refine Below.setCell ?_ (by simp; try omega) _))

set_option maxRecDepth 100000 in
set_option maxHeartbeats 400000 in
theorem Binary_arith_of (op : Int) (x y : V) (dx dy : Dat) (rv : Value) (ee : Int) (o : V) (w : World) (hlo : 1 ≤ op) (hhi : op ≤ 5)
    (hkx : (x.k == 0) = false) (hky : (y.k == 0) = false)
    (hox : ∀ w, Calls Tryz.prog 33 #[x.v] w (Ans (.tuple #[dx.v, .bool true]) w))
    (hoy : ∀ w, Calls Tryz.prog 33 #[y.v] w (Ans (.tuple #[dy.v, .bool true]) w))
    (hlog : ∀ w, Calls Tryz.prog 55 #[.int .i64 op, dx.v, dy.v] w (Ans (.tuple #[rv, .int .i64 ee]) w))
    (hans : ∀ w, Calls Tryz.prog 43 #[rv, .int .i64 ee] w (Ans (.tuple #[o.v, .int .i64 ee]) w)) :
    Calls Tryz.prog 24 #[.int .i64 op, x.v, y.v] w (Ans (.tuple #[o.v, .int .i64 ee]) w) := by
  generalize dx.v = vx at *
  generalize dy.v = vy at *
  obtain ⟨k, a, b, s⟩ := x
  obtain ⟨k', a', b', s'⟩ := y
  obtain ⟨ok, oa, ob, os⟩ := o
  unfold V.v at *
  simp only at hkx hky
  have e6 : (op == 6) = false := by simp; omega
  have e7 : (op == 7) = false := by simp; omega
  have e8 : (op == 8) = false := by simp; omega
  have e9 : (op == 9) = false := by simp; omega
  have e10 : (op == 10) = false := by simp; omega
  have e11 : (op == 11) = false := by simp; omega
  have e12 : (op == 12) = false := by simp; omega
  have e13 : (op == 13) = false := by simp; omega
  have e14 : (op == 14) = false := by simp; omega
  have e15 : (op == 15) = false := by simp; omega
  have e16 : (op == 16) = false := by simp; omega
  have e17 : (op == 17) = false := by simp; omega
  have e18 : (op == 18) = false := by simp; omega
  have l1 : decide (op < 1) = false := by simp; omega
  have l18 : decide (18 < op) = false := by simp; omega
  have Hx := Lib.hid hox
  have Hy := Lib.hid hoy
  have Hl := Lib.hid hlog
  have Ha := Lib.hid hans
  clear hox hoy hlog hans
  go_enter Tryz.func24, Tryz.ntmps24
  go_wp2_with fail
  refine (Hx.out _).mono ?_
  rintro e w1 ⟨rfl, hb1⟩
  obtain ⟨c1, f1⟩ := bcell hb1
  go_wp2_with fail
  refine (Hy.out _).mono ?_
  rintro e w2 ⟨rfl, hb2⟩
  have hb12 := hb1.trans (hb2.mono hb1.size)
  clear c1 f1
  obtain ⟨c2, f2⟩ := bcell hb12
  go_wp2_with fail
  refine (Hl.out _).mono ?_
  rintro e w3 ⟨rfl, hb3⟩
  have hb13 := hb12.trans (hb3.mono hb12.size)
  clear c2 f2
  go_wp2_with fail
  refine (Ha.out _).mono ?_
  rintro e w4 ⟨rfl, hb4⟩
  have hb14 := hb13.trans (hb4.mono hb13.size)
  obtain ⟨c4, f4⟩ := bcell hb14
  have z4 : w.heap.size + 3 ≤ w4.heap.size := by have := hb14.size; simpa using this
  go_wp2
  have hb' : Below w.heap.size w w4 := ((((Below.refl _ w).alloc (Nat.le_refl _) _).alloc (by simp) _).alloc (by simp; try omega) _).trans (hb14.mono (by simp; try omega))
  refine bodyPost_ret (v := .tuple #[(V.mk ok oa ob os).v, .int .i64 ee]) (by simp [results, Tryz.results24, go_sem, c4]; try rfl) rfl ⟨rfl, ?_⟩
  exact (by repeat (first | exact Below.refl _ _ | assumption | refine Below.alloc ?_ (by simp; try omega) _ | refine Below.drew ?_ | refine Below.setCell ?_ (by simp; try omega) _))

theorem Binary_K3 (op : Int) (hop : op = 12 ∨ op = 13 ∨ op = 14) {x y : Dat} (hx : K3 x) (hy : K3 y) (w : World) :
    Calls Tryz.prog 24 #[.int .i64 op, x.val.v, y.val.v] w (Ans (.tuple #[(logD (logI op x.three.1 y.three.1)).val.v, .int .i64 0]) w) := by
  have h3 : ∀ {d : Dat}, K3 d → d.three.2 = true := by rintro d (rfl | ⟨b, rfl⟩) <;> rfl
  exact Binary_log_of op _ _ x y _ 0 _ w hop (openA_K3 hx) (openA_K3 hy) (fun w => logic_ok op x y hop (h3 hx) (h3 hy) w) (answerA _)
end Go.Proofs.YtmbgjhmjmomnoaaGreatDoor.Va

/-
  value.wholes, value.arithmetic, and the operations on one number: what they answer.
-/
namespace Go.Proofs.YtmbgjhmjmomnoaaGreatDoor.Va
open Go.RowKit

/-- An int64. -/
def I64 (a : Int) : Prop := -9223372036854775808 ≤ a ∧ a ≤ 9223372036854775807

set_option maxRecDepth 100000 in
theorem wholes_add (a b : Int) (ha : I64 a) (hb : I64 b) (hs : I64 (a + b)) (w : World) :
    Calls Tryz.prog 102 #[.int .i64 1, .int .i64 a, .int .i64 b] w (Ans (.tuple #[Dat.v (.whl (a + b)), .int .i64 0]) w) := by
  obtain ⟨a0, a1⟩ := ha
  obtain ⟨b0, b1⟩ := hb
  obtain ⟨s0, s1⟩ := hs
  by_cases h : 0 < b
  · have h' : a < a + b := by omega
    go_enter Tryz.func102, Tryz.ntmps102
    go_wp2_with fail
    go_ret2
    exact ⟨rfl, Below.refl _ _⟩
  · have h' : ¬ a < a + b := by omega
    go_enter Tryz.func102, Tryz.ntmps102
    go_wp2_with fail
    go_ret2
    exact ⟨rfl, Below.refl _ _⟩
set_option maxRecDepth 100000 in
theorem wholes_sub (a b : Int) (ha : I64 a) (hb : I64 b) (hs : I64 (a - b)) (w : World) :
    Calls Tryz.prog 102 #[.int .i64 2, .int .i64 a, .int .i64 b] w (Ans (.tuple #[Dat.v (.whl (a - b)), .int .i64 0]) w) := by
  obtain ⟨a0, a1⟩ := ha
  obtain ⟨b0, b1⟩ := hb
  obtain ⟨s0, s1⟩ := hs
  by_cases h : 0 < b
  · have h' : a - b < a := by omega
    go_enter Tryz.func102, Tryz.ntmps102
    go_wp2_with fail
    go_ret2
    exact ⟨rfl, Below.refl _ _⟩
  · have h' : ¬ a - b < a := by omega
    go_enter Tryz.func102, Tryz.ntmps102
    go_wp2_with fail
    go_ret2
    exact ⟨rfl, Below.refl _ _⟩
set_option maxRecDepth 100000 in
theorem wholes_mul (a b : Int) (ha : I64 a) (hb : I64 b) (hs : I64 (a * b)) (w : World) :
    Calls Tryz.prog 102 #[.int .i64 3, .int .i64 a, .int .i64 b] w (Ans (.tuple #[Dat.v (.whl (a * b)), .int .i64 0]) w) := by
  have H := Lib.hid (fun w => times_yes a b ha hb hs w)
  clear ha hb hs
  generalize a * b = p at *
  go_enter Tryz.func102, Tryz.ntmps102
  go_wp2_with fail
  refine (H.out _).mono ?_
  rintro e w1 ⟨rfl, rfl⟩
  go_wp2_with fail
  go_ret2
  exact ⟨rfl, Below.refl _ _⟩
set_option maxRecDepth 100000 in
theorem wholes_zero (op a : Int) (hop : op = 4 ∨ op = 5) (w : World) :
    Calls Tryz.prog 102 #[.int .i64 op, .int .i64 a, .int .i64 0] w (Ans (.tuple #[.nilIface, .int .i64 12]) w) := by
  rcases hop with rfl | rfl
  all_goals
    go_enter Tryz.func102, Tryz.ntmps102
    go_wp2_with fail
    go_ret2
    exact ⟨rfl, Below.refl _ _⟩
set_option maxRecDepth 100000 in
theorem wholes_div (a b : Int) (ha : I64 a) (hb : I64 b) (h0 : ¬ b = 0) (hx : ¬ (a = -9223372036854775808 ∧ b = -1)) (w : World) :
    Calls Tryz.prog 102 #[.int .i64 4, .int .i64 a, .int .i64 b] w (Ans (.tuple #[Dat.v (.whl (a.tdiv b)), .int .i64 0]) w) := by
  have hb0 : (b == 0) = false := by simp [h0]
  have ht := tdiv_small a b
  have hw : wrap64 (a.tdiv b) = a.tdiv b := by
    obtain ⟨a0, a1⟩ := ha
    by_cases hm : a = -9223372036854775808
    · have hb1 : ¬ b = -1 := fun h => hx ⟨hm, h⟩
      have hq : (a.tdiv b).natAbs = a.natAbs / b.natAbs := Int.natAbs_tdiv _ _
      by_cases hb2 : b = 1
      · subst hb2; rw [Int.tdiv_one]; unfold wrap64; omega
      · have : a.natAbs / b.natAbs ≤ a.natAbs / 2 := Nat.div_le_div_left (by omega) (by decide)
        unfold wrap64; omega
    · unfold wrap64; omega
  have HW := Lib.hid hw
  clear hw ht ha hb
  by_cases hm : a = -9223372036854775808
  · have e1 : (a == -9223372036854775808) = true := by simp [hm]
    have e2 : (b == -1) = false := by simp; exact fun h => hx ⟨hm, h⟩
    have HM := Lib.hid hm
    clear hm hx
    go_enter Tryz.func102, Tryz.ntmps102
    go_wp2_with fail
    go_ret2
    exact ⟨ret2 (by show Value.iface _ (.int .i64 (wrap64 _)) = _; rw [HW.out]; rfl) rfl, Below.refl _ _⟩
  · have e1 : (a == -9223372036854775808) = false := by simp [hm]
    clear hm hx
    go_enter Tryz.func102, Tryz.ntmps102
    go_wp2_with fail
    go_ret2
    exact ⟨ret2 (by show Value.iface _ (.int .i64 (wrap64 _)) = _; rw [HW.out]; rfl) rfl, Below.refl _ _⟩
set_option maxRecDepth 100000 in
theorem wholes_div_over (w : World) :
    Calls Tryz.prog 102 #[.int .i64 4, .int .i64 (-9223372036854775808), .int .i64 (-1)] w (Ans (.tuple #[.nilIface, .int .i64 11]) w) := by
  go_enter Tryz.func102, Tryz.ntmps102
  go_wp2_with fail
  go_ret2
  exact ⟨rfl, Below.refl _ _⟩
theorem tmod_small (a b : Int) : -(a.natAbs : Int) ≤ a.tmod b ∧ a.tmod b ≤ (a.natAbs : Int) := by
  have h : (a.tmod b).natAbs ≤ a.natAbs := by
    rw [Int.natAbs_tmod]; exact Nat.mod_le _ _
  omega
set_option maxRecDepth 100000 in
theorem wholes_mod (a b : Int) (h0 : ¬ b = 0) (w : World) :
    Calls Tryz.prog 102 #[.int .i64 5, .int .i64 a, .int .i64 b] w (Ans (.tuple #[Dat.v (.whl (a.tmod b)), .int .i64 0]) w) := by
  have hb0 : (b == 0) = false := by simp [h0]
  go_enter Tryz.func102, Tryz.ntmps102
  go_wp2_with fail
  go_ret2
  exact ⟨rfl, Below.refl _ _⟩

/-! ### arithmetic -/
set_option maxRecDepth 100000 in
theorem arith_ww (op a b : Int) (v : Value) (e : Int) (w : World) (h : ∀ w, Calls Tryz.prog 102 #[.int .i64 op, .int .i64 a, .int .i64 b] w (Ans (.tuple #[v, .int .i64 e]) w)) :
    Calls Tryz.prog 55 #[.int .i64 op, Dat.v (.whl a), Dat.v (.whl b)] w (Ans (.tuple #[v, .int .i64 e]) w) := by
  have f1 := as_wrd (.whl a)
  have f2 := as_whl (.whl a)
  have f3 := as_whl (.whl b)
  simp only [Dat.t, Dat.x, Dat.asWrd, Dat.asWhl] at f1 f2 f3
  have H := Lib.hid h
  clear h
  unfold Dat.v Dat.t Dat.x
  go_enter Tryz.func55, Tryz.ntmps55
  go_wp2_with fail
  refine (H.out _).mono ?_
  rintro e w1 ⟨rfl, hb1⟩
  go_wp2_with fail
  go_ret2
  exact ⟨rfl, hb1⟩
set_option maxRecDepth 100000 in
theorem arith_wp (op a c d : Int) (v : Value) (e : Int) (w : World) (h : ∀ w, Calls Tryz.prog 103 #[.int .i64 op, Dat.v (.whl a), Dat.v (.pln c d)] w (Ans (.tuple #[v, .int .i64 e]) w)) :
    Calls Tryz.prog 55 #[.int .i64 op, Dat.v (.whl a), Dat.v (.pln c d)] w (Ans (.tuple #[v, .int .i64 e]) w) := by
  have f1 := as_wrd (.whl a)
  have f2 := as_whl (.whl a)
  have f3 := as_whl (.pln c d)
  have f4 := as_pln (.pln c d)
  simp only [Dat.t, Dat.x, Dat.asWrd, Dat.asWhl, Dat.asPln] at f1 f2 f3 f4
  unfold Dat.v Dat.t Dat.x at h ⊢
  have H := Lib.hid h
  clear h
  go_enter Tryz.func55, Tryz.ntmps55
  go_wp2_with fail
  refine (H.out _).mono ?_
  rintro e w1 ⟨rfl, hb1⟩
  go_wp2_with fail
  go_ret2
  exact ⟨rfl, ((Below.refl _ _).alloc (Nat.le_refl _) _).trans (hb1.mono (by simp))⟩
set_option maxRecDepth 100000 in
theorem arith_pw (op a b c : Int) (v : Value) (e : Int) (w : World) (h : ∀ w, Calls Tryz.prog 103 #[.int .i64 op, Dat.v (.pln a b), Dat.v (.whl c)] w (Ans (.tuple #[v, .int .i64 e]) w)) :
    Calls Tryz.prog 55 #[.int .i64 op, Dat.v (.pln a b), Dat.v (.whl c)] w (Ans (.tuple #[v, .int .i64 e]) w) := by
  have f1 := as_wrd (.pln a b)
  have f2 := as_whl (.pln a b)
  have f3 := as_pln (.pln a b)
  have f4 := as_whl (.whl c)
  have f5 := as_pln (.whl c)
  simp only [Dat.t, Dat.x, Dat.asWrd, Dat.asWhl, Dat.asPln] at f1 f2 f3 f4 f5
  unfold Dat.v Dat.t Dat.x at h ⊢
  have H := Lib.hid h
  clear h
  go_enter Tryz.func55, Tryz.ntmps55
  go_wp2_with fail
  refine (H.out _).mono ?_
  rintro e w1 ⟨rfl, hb1⟩
  go_wp2_with fail
  go_ret2
  exact ⟨rfl, ((Below.refl _ _).alloc (Nat.le_refl _) _).trans (hb1.mono (by simp))⟩
set_option maxRecDepth 100000 in
theorem arith_pp (op a b c d : Int) (v : Value) (e : Int) (w : World) (h : ∀ w, Calls Tryz.prog 103 #[.int .i64 op, Dat.v (.pln a b), Dat.v (.pln c d)] w (Ans (.tuple #[v, .int .i64 e]) w)) :
    Calls Tryz.prog 55 #[.int .i64 op, Dat.v (.pln a b), Dat.v (.pln c d)] w (Ans (.tuple #[v, .int .i64 e]) w) := by
  have f1 := as_wrd (.pln a b)
  have f2 := as_whl (.pln a b)
  have f3 := as_pln (.pln a b)
  have f4 := as_whl (.pln c d)
  have f5 := as_pln (.pln c d)
  simp only [Dat.t, Dat.x, Dat.asWrd, Dat.asWhl, Dat.asPln] at f1 f2 f3 f4 f5
  unfold Dat.v Dat.t Dat.x at h ⊢
  have H := Lib.hid h
  clear h
  go_enter Tryz.func55, Tryz.ntmps55
  go_wp2_with fail
  refine (H.out _).mono ?_
  rintro e w1 ⟨rfl, hb1⟩
  go_wp2_with fail
  go_ret2
  exact ⟨rfl, ((Below.refl _ _).alloc (Nat.le_refl _) _).trans (hb1.mono (by simp))⟩

/-! ### one number -/
set_option maxRecDepth 100000 in
theorem unary_pln_norm (a b : Int) (ha : Part a) (hb : Part b) (w : World) : Calls Tryz.prog 240 #[.agg #[.int .i64 a, .int .i64 b], .int .i64 6] w (Ans (.tuple #[Dat.v (.whl (a * a + b * b)), .int .i64 0]) w) := by
  have p1 := prod_bound ha ha
  have p2 := prod_bound hb hb
  have W1 : wrap64 (a * a) = a * a := by unfold wrap64; omega
  have W2 : wrap64 (b * b) = b * b := by unfold wrap64; omega
  have W3 : wrap64 (a * a + b * b) = a * a + b * b := by unfold wrap64; omega
  have HW := Lib.hid (And.intro W1 (And.intro W2 W3))
  clear W1 W2 W3 p1 p2
  go_enter Tryz.func240, Tryz.ntmps240
  go_wp2_with fail
  go_ret2
  exact ⟨ret2 (by show Value.iface _ (.int .i64 (wrap64 (wrap64 (a * a) + wrap64 (b * b)))) = _; rw [HW.out.1, HW.out.2.1, HW.out.2.2]; rfl) rfl, (by repeat (first | exact Below.refl _ _ | assumption | refine Below.alloc ?_ (by simp; try omega) _ | refine Below.drew ?_ | refine Below.setCell ?_ (by simp; try omega) _))⟩
set_option maxRecDepth 100000 in
theorem unary_pln_conj (a b : Int) (hb : Part b) (w : World) : Calls Tryz.prog 240 #[.agg #[.int .i64 a, .int .i64 b], .int .i64 5] w (Ans (.tuple #[Dat.v (.pln a (-b)), .int .i64 0]) w) := by
  obtain ⟨b0, b1⟩ := hb
  go_enter Tryz.func240, Tryz.ntmps240
  go_wp2_with fail
  go_ret2
  exact ⟨rfl, (by repeat (first | exact Below.refl _ _ | assumption | refine Below.alloc ?_ (by simp; try omega) _ | refine Below.drew ?_ | refine Below.setCell ?_ (by simp; try omega) _))⟩

/-! ### through Unary and Binary -/
theorem Unary_norm (a b : Int) (ha : Part a) (hb : Part b) (w : World) : Calls Tryz.prog 22 #[.int .i64 6, (Dat.val (.pln a b)).v] w (Ans (.tuple #[(Dat.val (.whl (a * a + b * b))).v, .int .i64 0]) w) :=
  Unary_of 6 _ (.pln a b) _ 0 _ w (by simp) (by simp) (openA_pln a b ha hb) (fun w => unary_pln_norm a b ha hb w) (answerA _)
theorem Unary_conj (a b : Int) (ha : Part a) (hb : Part b) (w : World) : Calls Tryz.prog 22 #[.int .i64 5, (Dat.val (.pln a b)).v] w (Ans (.tuple #[(Dat.val (.pln a (-b))).v, .int .i64 0]) w) :=
  Unary_of 5 _ (.pln a b) _ 0 _ w (by simp) (by simp) (openA_pln a b ha hb) (fun w => unary_pln_conj a b hb w) (answerA _)

/-- What wthD answers, as Binary tells it. -/
theorem Binary_ww (op a b : Int) (hlo : 1 ≤ op) (hhi : op ≤ 5) (r : Int) (w : World)
    (h : ∀ w, Calls Tryz.prog 102 #[.int .i64 op, .int .i64 a, .int .i64 b] w (Ans (.tuple #[Dat.v (.whl r), .int .i64 0]) w)) :
    Calls Tryz.prog 24 #[.int .i64 op, (Dat.val (.whl a)).v, (Dat.val (.whl b)).v] w (Ans (.tuple #[(Dat.val (.whl r)).v, .int .i64 0]) w) :=
  Binary_arith_of op _ _ (.whl a) (.whl b) _ 0 _ w hlo hhi rfl rfl (openA_whl a) (openA_whl b) (fun w => arith_ww op a b _ _ w h) (answerA _)
theorem Binary_ww_err (op a b e : Int) (hlo : 1 ≤ op) (hhi : op ≤ 5) (he : (e != 0) = true) (w : World)
    (h : ∀ w, Calls Tryz.prog 102 #[.int .i64 op, .int .i64 a, .int .i64 b] w (Ans (.tuple #[.nilIface, .int .i64 e]) w)) :
    Calls Tryz.prog 24 #[.int .i64 op, (Dat.val (.whl a)).v, (Dat.val (.whl b)).v] w (Ans (.tuple #[V.null.v, .int .i64 e]) w) :=
  Binary_arith_of op _ _ (.whl a) (.whl b) _ e _ w hlo hhi rfl rfl (openA_whl a) (openA_whl b) (fun w => arith_ww op a b _ _ w h) (fun w => answer_err _ _ he w)
theorem Binary_pp (op a b c d p q : Int) (hlo : 1 ≤ op) (hhi : op ≤ 5) (ha : Part a) (hb : Part b) (hc : Part c) (hd : Part d) (w : World)
    (h : ∀ w, Calls Tryz.prog 103 #[.int .i64 op, Dat.v (.pln a b), Dat.v (.pln c d)] w (Ans (.tuple #[Dat.v (.pln p q), .int .i64 0]) w)) :
    Calls Tryz.prog 24 #[.int .i64 op, (Dat.val (.pln a b)).v, (Dat.val (.pln c d)).v] w (Ans (.tuple #[(Dat.val (.pln p q)).v, .int .i64 0]) w) :=
  Binary_arith_of op _ _ (.pln a b) (.pln c d) _ 0 _ w hlo hhi rfl rfl (openA_pln a b ha hb) (openA_pln c d hc hd) (fun w => arith_pp op a b c d _ _ w h) (answerA _)
theorem Binary_pp_err (op a b c d e : Int) (hlo : 1 ≤ op) (hhi : op ≤ 5) (he : (e != 0) = true) (ha : Part a) (hb : Part b) (hc : Part c) (hd : Part d) (w : World)
    (h : ∀ w, Calls Tryz.prog 103 #[.int .i64 op, Dat.v (.pln a b), Dat.v (.pln c d)] w (Ans (.tuple #[.nilIface, .int .i64 e]) w)) :
    Calls Tryz.prog 24 #[.int .i64 op, (Dat.val (.pln a b)).v, (Dat.val (.pln c d)).v] w (Ans (.tuple #[V.null.v, .int .i64 e]) w) :=
  Binary_arith_of op _ _ (.pln a b) (.pln c d) _ e _ w hlo hhi rfl rfl (openA_pln a b ha hb) (openA_pln c d hc hd) (fun w => arith_pp op a b c d _ _ w h) (fun w => answer_err _ _ he w)
theorem Binary_pw (op a b c p q : Int) (hlo : 1 ≤ op) (hhi : op ≤ 5) (ha : Part a) (hb : Part b) (w : World)
    (h : ∀ w, Calls Tryz.prog 103 #[.int .i64 op, Dat.v (.pln a b), Dat.v (.whl c)] w (Ans (.tuple #[Dat.v (.pln p q), .int .i64 0]) w)) :
    Calls Tryz.prog 24 #[.int .i64 op, (Dat.val (.pln a b)).v, (Dat.val (.whl c)).v] w (Ans (.tuple #[(Dat.val (.pln p q)).v, .int .i64 0]) w) :=
  Binary_arith_of op _ _ (.pln a b) (.whl c) _ 0 _ w hlo hhi rfl rfl (openA_pln a b ha hb) (openA_whl c) (fun w => arith_pw op a b c _ _ w h) (answerA _)
theorem wthD_in {p q : Int} (hp : Part p) (hq : Part q) : wthD p q = .tuple #[Dat.v (.pln p q), .int .i64 0] := by
  unfold wthD Part at *
  rw [if_pos (by omega)]
end Go.Proofs.YtmbgjhmjmomnoaaGreatDoor.Va

/-
  The methods unary of package value's kinds: what each answers at every operation.
-/
namespace Go.Proofs.YtmbgjhmjmomnoaaGreatDoor.Va
open Go.RowKit

/-- An answer: a datum, or an error's number. -/
inductive Res where
  | ok (d : Dat)
  | err (e : Int)
def Res.rv : Res → Value
  | .ok d => d.v
  | .err _ => .nilIface
def Res.e : Res → Int
  | .ok _ => 0
  | .err e => e
def Res.v : Res → V
  | .ok d => d.val
  | .err _ => V.null
/-- No error has the number 0. -/
def Res.Good : Res → Prop
  | .ok _ => True
  | .err e => (e != 0) = true

theorem answer_res (r : Res) (hg : r.Good) (w : World) : Calls Tryz.prog 43 #[r.rv, .int .i64 r.e] w (Ans (.tuple #[r.v.v, .int .i64 r.e]) w) := by
  cases r with
  | ok d => exact answerA d w
  | err e => exact answer_err _ e hg w

/-- How many runes a string has, from place pos on. -/
def cnt (s : ByteArray) : Nat → Nat → Nat
  | 0, _ => 0
  | fuel + 1, pos => if pos < s.size then 1 + cnt s fuel (pos + (Utf8.decode s pos).2) else 0
def runes (s : ByteArray) : Nat := cnt s s.size 0
theorem cnt_end (s : ByteArray) (fuel pos : Nat) (h : ¬ pos < s.size) : cnt s fuel pos = 0 := by
  cases fuel with
  | zero => rfl
  | succ f => simp [cnt, h]

/-- What the kinds' methods unary answer. -/
def unI (op n : Int) : Res :=
  if op = 1 then if n = -9223372036854775808 then .err 11 else .ok (.whl (-n))
  else if op = 3 ∨ op = 5 then .ok (.whl n)
  else if op = 4 then .ok (.whl 0)
  else if op = 6 then if n * n ≤ 9223372036854775807 then .ok (.whl (n * n)) else .err 11
  else if op = 8 then if 0 ≤ n then .ok (.whl n) else if n = -9223372036854775808 then .err 11 else .ok (.whl (-n))
  else .err 10
def unC (op a b : Int) : Res :=
  if op = 1 then .ok (.pln (-a) (-b)) else if op = 3 then .ok (.whl a) else if op = 4 then .ok (.whl b) else if op = 5 then .ok (.pln a (-b)) else if op = 6 then .ok (.whl (a * a + b * b)) else .err 10
def Dat.un : Dat → Int → Res
  | .nul, _ => .ok .nul
  | .tru b, op => if op = 2 then .ok (.tru (!b)) else .err 10
  | .whl n, op => unI op n
  | .pln a b, op => unC op a b
  | .wrd s, op => if op = 7 then .ok (.whl (runes s)) else .err 10
  | .nod _, _ => .err 10
  | .edg _, _ => .err 10

theorem unI_good (op n : Int) : (unI op n).Good := by
  unfold unI
  repeat' split
  all_goals first | trivial | rfl
theorem unC_good (op a b : Int) : (unC op a b).Good := by
  unfold unC
  repeat' split
  all_goals first | trivial | rfl
theorem Dat.un_good (d : Dat) (op : Int) : (d.un op).Good := by
  cases d with
  | nul => trivial
  | tru b => show (if op = 2 then Res.ok (.tru (!b)) else Res.err 10).Good; split <;> first | trivial | rfl
  | whl n => exact unI_good op n
  | pln a b => exact unC_good op a b
  | wrd s => show (if op = 7 then Res.ok (.whl (runes s)) else Res.err 10).Good; split <;> first | trivial | rfl
  | nod n => rfl
  | edg n => rfl

/-! ### whole numbers -/
set_option maxHeartbeats 4000000 in
/-- The product does not fit. -/
theorem times_no (a b : Int) (ha : I64 a) (hb : I64 b) (hp : ¬ I64 (a * b)) (w : World) :
    Calls Tryz.prog 133 #[.int .i64 a, .int .i64 b] w fun e w' => e = .returned (.tuple #[.nilIface, .int .i64 11]) ∧ w = w' := by
  obtain ⟨ba, bb⟩ := natAbs_mul_bound ha hb
  have habs : (a * b).natAbs = a.natAbs * b.natAbs := Int.natAbs_mul a b
  have hsign : (decide (a < 0) != decide (b < 0)) = true → a * b ≤ 0 := by
    intro h
    by_cases h1 : a < 0
    · have h2 : ¬ b < 0 := fun h2 => by simp [h1, h2] at h
      have := Int.mul_nonneg (show 0 ≤ -a by omega) (show 0 ≤ b by omega)
      rw [Int.neg_mul] at this
      omega
    · have h2 : b < 0 := by
        by_cases h2 : b < 0
        · exact h2
        · simp [h1, h2] at h
      have := Int.mul_nonneg (show 0 ≤ a by omega) (show 0 ≤ -b by omega)
      rw [Int.mul_neg] at this
      omega
  have hq2 : a.natAbs * b.natAbs < 18446744073709551616 * 18446744073709551616 := Nat.mul_lt_mul'' ba bb
  unfold I64 at hp
  generalize hprod : a * b = pr at *
  generalize hq : a.natAbs * b.natAbs = q at *
  have h := times_of a b ((q / 18446744073709551616 : Nat) : Int) ((q % 18446744073709551616 : Nat) : Int) a.natAbs b.natAbs _ _ _ (decide (a < 0)) (decide (b < 0)) _ w (size_any a ha.1 ha.2) (size_any b hb.1 hb.2) (by rw [← hq]; exact Mul64_any a.natAbs b.natAbs ba bb) rfl rfl rfl rfl rfl rfl
  refine h.mono fun e w' ⟨he, hw⟩ => ⟨?_, hw⟩
  rw [he]
  have hcond : (((((q / 18446744073709551616 : Nat) : Int) != 0) || decide ((9223372036854775808 : Int) < ((q % 18446744073709551616 : Nat) : Int))) || ((((q % 18446744073709551616 : Nat) : Int) == (9223372036854775808 : Int)) && !(decide (a < 0) != decide (b < 0)))) = true := by
    by_cases e1 : q / 18446744073709551616 = 0
    · by_cases e2 : 9223372036854775808 < q % 18446744073709551616
      · have : decide ((9223372036854775808 : Int) < ((q % 18446744073709551616 : Nat) : Int)) = true := by rw [decide_eq_true]; omega
        rw [this]; simp
      · have hq3 : q = 9223372036854775808 := by omega
        have : (decide (a < 0) != decide (b < 0)) = false := by
          cases hm : (decide (a < 0) != decide (b < 0)) with
          | false => rfl
          | true => have := hsign hm; omega
        rw [this, hq3]; rfl
    · have : ((((q / 18446744073709551616 : Nat) : Int) != 0)) = true := by simp; omega
      rw [this]; rfl
  rw [hcond]
  rfl

theorem sq_nonneg (n : Int) : 0 ≤ n * n := by
  rcases Int.le_total 0 n with h | h
  · exact Int.mul_nonneg h h
  · have := Int.mul_nonneg (show 0 ≤ -n by omega) (show 0 ≤ -n by omega)
    rw [Int.neg_mul_neg] at this
    exact this

set_option maxRecDepth 100000 in
theorem unary_whl (op n : Int) (hn : I64 n) (w : World) : Calls Tryz.prog 233 #[.int .i64 n, .int .i64 op] w (Ans (.tuple #[(unI op n).rv, .int .i64 (unI op n).e]) w) := by
  have hsq := sq_nonneg n
  by_cases h1 : op = 1
  · subst h1
    by_cases hm : n = -9223372036854775808
    · subst hm
      rw [show unI 1 (-9223372036854775808) = .err 11 from rfl]
      go_enter Tryz.func233, Tryz.ntmps233
      go_wp2_with fail
      go_ret2
      exact ⟨rfl, (by repeat (first | exact Below.refl _ _ | assumption | refine Below.alloc ?_ (by simp; try omega) _ | refine Below.drew ?_ | refine Below.setCell ?_ (by simp; try omega) _))⟩
    · rw [show unI 1 n = .ok (.whl (-n)) from by unfold unI; rw [if_pos rfl, if_neg hm]]
      obtain ⟨n0, n1⟩ := hn
      clear hsq
      have hb : (n == -9223372036854775808) = false := by simpa using hm
      have hw : wrap64 (-n) = -n := by unfold wrap64; omega
      go_enter Tryz.func233, Tryz.ntmps233
      go_wp2_with fail
      go_ret2
      exact ⟨rfl, (by repeat (first | exact Below.refl _ _ | assumption | refine Below.alloc ?_ (by simp; try omega) _ | refine Below.drew ?_ | refine Below.setCell ?_ (by simp; try omega) _))⟩
  by_cases h3 : op = 3
  · subst h3
    rw [show unI 3 n = .ok (.whl n) from rfl]
    go_enter Tryz.func233, Tryz.ntmps233
    go_wp2_with fail
    go_ret2
    exact ⟨rfl, (by repeat (first | exact Below.refl _ _ | assumption | refine Below.alloc ?_ (by simp; try omega) _ | refine Below.drew ?_ | refine Below.setCell ?_ (by simp; try omega) _))⟩
  by_cases h5 : op = 5
  · subst h5
    rw [show unI 5 n = .ok (.whl n) from rfl]
    go_enter Tryz.func233, Tryz.ntmps233
    go_wp2_with fail
    go_ret2
    exact ⟨rfl, (by repeat (first | exact Below.refl _ _ | assumption | refine Below.alloc ?_ (by simp; try omega) _ | refine Below.drew ?_ | refine Below.setCell ?_ (by simp; try omega) _))⟩
  by_cases h4 : op = 4
  · subst h4
    rw [show unI 4 n = .ok (.whl 0) from rfl]
    go_enter Tryz.func233, Tryz.ntmps233
    go_wp2_with fail
    go_ret2
    exact ⟨rfl, (by repeat (first | exact Below.refl _ _ | assumption | refine Below.alloc ?_ (by simp; try omega) _ | refine Below.drew ?_ | refine Below.setCell ?_ (by simp; try omega) _))⟩
  by_cases h6 : op = 6
  · subst h6
    by_cases hm : n * n ≤ 9223372036854775807
    · rw [show unI 6 n = .ok (.whl (n * n)) from by unfold unI; rw [if_neg (by decide), if_neg (by decide), if_neg (by decide), if_pos rfl, if_pos hm]]
      have H := Lib.hid (fun w => times_yes n n hn hn (by constructor <;> omega) w)
      clear hn hm hsq
      generalize n * n = p at *
      go_enter Tryz.func233, Tryz.ntmps233
      go_wp2_with fail
      refine (H.out _).mono ?_
      rintro e w1 ⟨rfl, rfl⟩
      go_wp2_with fail
      go_ret2
      exact ⟨rfl, (by repeat (first | exact Below.refl _ _ | assumption | refine Below.alloc ?_ (by simp; try omega) _ | refine Below.drew ?_ | refine Below.setCell ?_ (by simp; try omega) _))⟩
    · rw [show unI 6 n = .err 11 from by unfold unI; rw [if_neg (by decide), if_neg (by decide), if_neg (by decide), if_pos rfl, if_neg hm]]
      have H := Lib.hid (fun w => times_no n n hn hn (fun h => hm h.2) w)
      clear hn hm hsq
      go_enter Tryz.func233, Tryz.ntmps233
      go_wp2_with fail
      refine (H.out _).mono ?_
      rintro e w1 ⟨rfl, rfl⟩
      go_wp2_with fail
      go_ret2
      exact ⟨rfl, (by repeat (first | exact Below.refl _ _ | assumption | refine Below.alloc ?_ (by simp; try omega) _ | refine Below.drew ?_ | refine Below.setCell ?_ (by simp; try omega) _))⟩
  by_cases h8 : op = 8
  · subst h8
    by_cases h0 : 0 ≤ n
    · rw [show unI 8 n = .ok (.whl n) from by unfold unI; rw [if_neg (by decide), if_neg (by decide), if_neg (by decide), if_neg (by decide), if_pos rfl, if_pos h0]]
      clear hsq
      go_enter Tryz.func233, Tryz.ntmps233
      go_wp2_with fail
      go_ret2
      exact ⟨rfl, (by repeat (first | exact Below.refl _ _ | assumption | refine Below.alloc ?_ (by simp; try omega) _ | refine Below.drew ?_ | refine Below.setCell ?_ (by simp; try omega) _))⟩
    by_cases hm : n = -9223372036854775808
    · subst hm
      rw [show unI 8 (-9223372036854775808) = .err 11 from rfl]
      clear hsq
      go_enter Tryz.func233, Tryz.ntmps233
      go_wp2_with fail
      go_ret2
      exact ⟨rfl, (by repeat (first | exact Below.refl _ _ | assumption | refine Below.alloc ?_ (by simp; try omega) _ | refine Below.drew ?_ | refine Below.setCell ?_ (by simp; try omega) _))⟩
    · rw [show unI 8 n = .ok (.whl (-n)) from by unfold unI; rw [if_neg (by decide), if_neg (by decide), if_neg (by decide), if_neg (by decide), if_pos rfl, if_neg h0, if_neg hm]]
      obtain ⟨n0, n1⟩ := hn
      clear hsq
      have hb : (n == -9223372036854775808) = false := by simpa using hm
      have hw : wrap64 (-n) = -n := by unfold wrap64; omega
      go_enter Tryz.func233, Tryz.ntmps233
      go_wp2_with fail
      go_ret2
      exact ⟨rfl, (by repeat (first | exact Below.refl _ _ | assumption | refine Below.alloc ?_ (by simp; try omega) _ | refine Below.drew ?_ | refine Below.setCell ?_ (by simp; try omega) _))⟩
  · rw [show unI op n = .err 10 from by unfold unI; rw [if_neg h1, if_neg (fun h => h.elim h3 h5), if_neg h4, if_neg h6, if_neg h8]]
    have b1 : (op == 1) = false := by simpa using h1
    have b3 : (op == 3) = false := by simpa using h3
    have b5 : (op == 5) = false := by simpa using h5
    have b4 : (op == 4) = false := by simpa using h4
    have b6 : (op == 6) = false := by simpa using h6
    have b8 : (op == 8) = false := by simpa using h8
    clear hsq h1 h3 h5 h4 h6 h8
    go_enter Tryz.func233, Tryz.ntmps233
    go_wp2_with fail
    go_ret2
    exact ⟨rfl, (by repeat (first | exact Below.refl _ _ | assumption | refine Below.alloc ?_ (by simp; try omega) _ | refine Below.drew ?_ | refine Below.setCell ?_ (by simp; try omega) _))⟩

/-! ### complex numbers -/
set_option maxRecDepth 100000 in
theorem unary_pln (op a b : Int) (ha : Part a) (hb : Part b) (w : World) : Calls Tryz.prog 240 #[.agg #[.int .i64 a, .int .i64 b], .int .i64 op] w (Ans (.tuple #[(unC op a b).rv, .int .i64 (unC op a b).e]) w) := by
  by_cases h6 : op = 6
  · subst h6
    exact unary_pln_norm a b ha hb w
  by_cases h5 : op = 5
  · subst h5
    exact unary_pln_conj a b hb w
  obtain ⟨a0, a1⟩ := ha
  obtain ⟨b0, b1⟩ := hb
  have wa : wrap64 (-a) = -a := by unfold wrap64; omega
  have wb : wrap64 (-b) = -b := by unfold wrap64; omega
  by_cases h1 : op = 1
  · subst h1
    rw [show unC 1 a b = .ok (.pln (-a) (-b)) from rfl]
    go_enter Tryz.func240, Tryz.ntmps240
    go_wp2_with fail
    go_ret2
    exact ⟨rfl, (by repeat (first | exact Below.refl _ _ | assumption | refine Below.alloc ?_ (by simp; try omega) _ | refine Below.drew ?_ | refine Below.setCell ?_ (by simp; try omega) _))⟩
  by_cases h3 : op = 3
  · subst h3
    rw [show unC 3 a b = .ok (.whl a) from rfl]
    go_enter Tryz.func240, Tryz.ntmps240
    go_wp2_with fail
    go_ret2
    exact ⟨rfl, (by repeat (first | exact Below.refl _ _ | assumption | refine Below.alloc ?_ (by simp; try omega) _ | refine Below.drew ?_ | refine Below.setCell ?_ (by simp; try omega) _))⟩
  by_cases h4 : op = 4
  · subst h4
    rw [show unC 4 a b = .ok (.whl b) from rfl]
    go_enter Tryz.func240, Tryz.ntmps240
    go_wp2_with fail
    go_ret2
    exact ⟨rfl, (by repeat (first | exact Below.refl _ _ | assumption | refine Below.alloc ?_ (by simp; try omega) _ | refine Below.drew ?_ | refine Below.setCell ?_ (by simp; try omega) _))⟩
  rw [show unC op a b = .err 10 from by unfold unC; rw [if_neg h1, if_neg h3, if_neg h4, if_neg h5, if_neg h6]]
  have b1 : (op == 1) = false := by simpa using h1
  have b3 : (op == 3) = false := by simpa using h3
  have b5 : (op == 5) = false := by simpa using h5
  have b4 : (op == 4) = false := by simpa using h4
  have b6 : (op == 6) = false := by simpa using h6
  clear h1 h3 h5 h4 h6
  go_enter Tryz.func240, Tryz.ntmps240
  go_wp2_with fail
  go_ret2
  exact ⟨rfl, (by repeat (first | exact Below.refl _ _ | assumption | refine Below.alloc ?_ (by simp; try omega) _ | refine Below.drew ?_ | refine Below.setCell ?_ (by simp; try omega) _))⟩

/-! ### bools, nodes, edges -/
theorem unary_nod (op n : Int) (w : World) : Calls Tryz.prog 252 #[.int .i64 n, .int .i64 op] w (Ans (.tuple #[.nilIface, .int .i64 10]) w) := by
  go_enter Tryz.func252, Tryz.ntmps252
  go_wp2
  go_ret2
  exact ⟨rfl, (by repeat (first | exact Below.refl _ _ | assumption | refine Below.alloc ?_ (by simp; try omega) _ | refine Below.drew ?_ | refine Below.setCell ?_ (by simp; try omega) _))⟩
theorem unary_edg (op n : Int) (w : World) : Calls Tryz.prog 257 #[.int .i64 n, .int .i64 op] w (Ans (.tuple #[.nilIface, .int .i64 10]) w) := by
  go_enter Tryz.func257, Tryz.ntmps257
  go_wp2
  go_ret2
  exact ⟨rfl, (by repeat (first | exact Below.refl _ _ | assumption | refine Below.alloc ?_ (by simp; try omega) _ | refine Below.drew ?_ | refine Below.setCell ?_ (by simp; try omega) _))⟩
end Go.Proofs.YtmbgjhmjmomnoaaGreatDoor.Va
