/-
  value.wholes, value.arithmetic, and the operations on one number: what they answer.
-/
import Derived.Test.YtdcbanfakcgokaaDoorMul
import Derived.Test.YtdcbanfakcgokaaDoorPl
import Derived.Test.YtdcbanfakcgokaaDoorBin
namespace Go.Proofs.YtdcbanfakcgokaaDoor.Va
open Go.RowKit

/-- An int64. -/
def I64 (a : Int) : Prop := -9223372036854775808 ≤ a ∧ a ≤ 9223372036854775807

set_option maxRecDepth 100000 in
theorem wholes_add (a b : Int) (ha : I64 a) (hb : I64 b) (hs : I64 (a + b)) (w : World) :
    Calls Tryd.prog 65 #[.int .i64 1, .int .i64 a, .int .i64 b] w (Ans (.tuple #[Dat.v (.whl (a + b)), .int .i64 0]) w) := by
  obtain ⟨a0, a1⟩ := ha
  obtain ⟨b0, b1⟩ := hb
  obtain ⟨s0, s1⟩ := hs
  by_cases h : 0 < b
  · have h' : a < a + b := by omega
    go_enter Tryd.func65, Tryd.ntmps65
    go_wp2_with fail
    go_ret2
    exact ⟨rfl, Below.refl _ _⟩
  · have h' : ¬ a < a + b := by omega
    go_enter Tryd.func65, Tryd.ntmps65
    go_wp2_with fail
    go_ret2
    exact ⟨rfl, Below.refl _ _⟩
set_option maxRecDepth 100000 in
theorem wholes_sub (a b : Int) (ha : I64 a) (hb : I64 b) (hs : I64 (a - b)) (w : World) :
    Calls Tryd.prog 65 #[.int .i64 2, .int .i64 a, .int .i64 b] w (Ans (.tuple #[Dat.v (.whl (a - b)), .int .i64 0]) w) := by
  obtain ⟨a0, a1⟩ := ha
  obtain ⟨b0, b1⟩ := hb
  obtain ⟨s0, s1⟩ := hs
  by_cases h : 0 < b
  · have h' : a - b < a := by omega
    go_enter Tryd.func65, Tryd.ntmps65
    go_wp2_with fail
    go_ret2
    exact ⟨rfl, Below.refl _ _⟩
  · have h' : ¬ a - b < a := by omega
    go_enter Tryd.func65, Tryd.ntmps65
    go_wp2_with fail
    go_ret2
    exact ⟨rfl, Below.refl _ _⟩
set_option maxRecDepth 100000 in
theorem wholes_mul (a b : Int) (ha : I64 a) (hb : I64 b) (hs : I64 (a * b)) (w : World) :
    Calls Tryd.prog 65 #[.int .i64 3, .int .i64 a, .int .i64 b] w (Ans (.tuple #[Dat.v (.whl (a * b)), .int .i64 0]) w) := by
  have H := Lib.hid (fun w => times_yes a b ha hb hs w)
  clear ha hb hs
  generalize a * b = p at *
  go_enter Tryd.func65, Tryd.ntmps65
  go_wp2_with fail
  refine (H.out _).mono ?_
  rintro e w1 ⟨rfl, rfl⟩
  go_wp2_with fail
  go_ret2
  exact ⟨rfl, Below.refl _ _⟩
set_option maxRecDepth 100000 in
theorem wholes_zero (op a : Int) (hop : op = 4 ∨ op = 5) (w : World) :
    Calls Tryd.prog 65 #[.int .i64 op, .int .i64 a, .int .i64 0] w (Ans (.tuple #[.nilIface, .int .i64 12]) w) := by
  rcases hop with rfl | rfl
  all_goals
    go_enter Tryd.func65, Tryd.ntmps65
    go_wp2_with fail
    go_ret2
    exact ⟨rfl, Below.refl _ _⟩
set_option maxRecDepth 100000 in
theorem wholes_div (a b : Int) (ha : I64 a) (hb : I64 b) (h0 : ¬ b = 0) (hx : ¬ (a = -9223372036854775808 ∧ b = -1)) (w : World) :
    Calls Tryd.prog 65 #[.int .i64 4, .int .i64 a, .int .i64 b] w (Ans (.tuple #[Dat.v (.whl (a.tdiv b)), .int .i64 0]) w) := by
  have hb0 : (b == 0) = false := by simp [h0]
  have ht := tdiv_small a b
  have hw : wrap64 (a.tdiv b) = a.tdiv b := by
    obtain ⟨a0, a1⟩ := ha
    by_cases hm : a = -9223372036854775808
    · have hb1 : ¬ b = -1 := fun h => hx ⟨hm, h⟩
      have hq : (a.tdiv b).natAbs = a.natAbs / b.natAbs := Int.natAbs_tdiv _ _
      by_cases hb2 : b = 1
      · subst hb2; rw [Int.tdiv_one]; unfold wrap64; omega
      · have : a.natAbs / b.natAbs ≤ a.natAbs / 2 := Nat.div_le_div_left (by omega) (by decide)
        unfold wrap64; omega
    · unfold wrap64; omega
  have HW := Lib.hid hw
  clear hw ht ha hb
  by_cases hm : a = -9223372036854775808
  · have e1 : (a == -9223372036854775808) = true := by simp [hm]
    have e2 : (b == -1) = false := by simp; exact fun h => hx ⟨hm, h⟩
    have HM := Lib.hid hm
    clear hm hx
    go_enter Tryd.func65, Tryd.ntmps65
    go_wp2_with fail
    go_ret2
    exact ⟨ret2 (by show Value.iface _ (.int .i64 (wrap64 _)) = _; rw [HW.out]; rfl) rfl, Below.refl _ _⟩
  · have e1 : (a == -9223372036854775808) = false := by simp [hm]
    clear hm hx
    go_enter Tryd.func65, Tryd.ntmps65
    go_wp2_with fail
    go_ret2
    exact ⟨ret2 (by show Value.iface _ (.int .i64 (wrap64 _)) = _; rw [HW.out]; rfl) rfl, Below.refl _ _⟩
set_option maxRecDepth 100000 in
theorem wholes_div_over (w : World) :
    Calls Tryd.prog 65 #[.int .i64 4, .int .i64 (-9223372036854775808), .int .i64 (-1)] w (Ans (.tuple #[.nilIface, .int .i64 11]) w) := by
  go_enter Tryd.func65, Tryd.ntmps65
  go_wp2_with fail
  go_ret2
  exact ⟨rfl, Below.refl _ _⟩
theorem tmod_small (a b : Int) : -(a.natAbs : Int) ≤ a.tmod b ∧ a.tmod b ≤ (a.natAbs : Int) := by
  have h : (a.tmod b).natAbs ≤ a.natAbs := by
    rw [Int.natAbs_tmod]; exact Nat.mod_le _ _
  omega
set_option maxRecDepth 100000 in
theorem wholes_mod (a b : Int) (h0 : ¬ b = 0) (w : World) :
    Calls Tryd.prog 65 #[.int .i64 5, .int .i64 a, .int .i64 b] w (Ans (.tuple #[Dat.v (.whl (a.tmod b)), .int .i64 0]) w) := by
  have hb0 : (b == 0) = false := by simp [h0]
  go_enter Tryd.func65, Tryd.ntmps65
  go_wp2_with fail
  go_ret2
  exact ⟨rfl, Below.refl _ _⟩

/-! ### arithmetic -/
set_option maxRecDepth 100000 in
theorem arith_ww (op a b : Int) (v : Value) (e : Int) (w : World) (h : ∀ w, Calls Tryd.prog 65 #[.int .i64 op, .int .i64 a, .int .i64 b] w (Ans (.tuple #[v, .int .i64 e]) w)) :
    Calls Tryd.prog 47 #[.int .i64 op, Dat.v (.whl a), Dat.v (.whl b)] w (Ans (.tuple #[v, .int .i64 e]) w) := by
  have f1 := as_wrd (.whl a)
  have f2 := as_whl (.whl a)
  have f3 := as_whl (.whl b)
  simp only [Dat.t, Dat.x, Dat.asWrd, Dat.asWhl] at f1 f2 f3
  have H := Lib.hid h
  clear h
  unfold Dat.v Dat.t Dat.x
  go_enter Tryd.func47, Tryd.ntmps47
  go_wp2_with fail
  refine (H.out _).mono ?_
  rintro e w1 ⟨rfl, hb1⟩
  go_wp2_with fail
  go_ret2
  exact ⟨rfl, hb1⟩
set_option maxRecDepth 100000 in
theorem arith_wp (op a c d : Int) (v : Value) (e : Int) (w : World) (h : ∀ w, Calls Tryd.prog 66 #[.int .i64 op, Dat.v (.whl a), Dat.v (.pln c d)] w (Ans (.tuple #[v, .int .i64 e]) w)) :
    Calls Tryd.prog 47 #[.int .i64 op, Dat.v (.whl a), Dat.v (.pln c d)] w (Ans (.tuple #[v, .int .i64 e]) w) := by
  have f1 := as_wrd (.whl a)
  have f2 := as_whl (.whl a)
  have f3 := as_whl (.pln c d)
  have f4 := as_pln (.pln c d)
  simp only [Dat.t, Dat.x, Dat.asWrd, Dat.asWhl, Dat.asPln] at f1 f2 f3 f4
  unfold Dat.v Dat.t Dat.x at h ⊢
  have H := Lib.hid h
  clear h
  go_enter Tryd.func47, Tryd.ntmps47
  go_wp2_with fail
  refine (H.out _).mono ?_
  rintro e w1 ⟨rfl, hb1⟩
  go_wp2_with fail
  go_ret2
  exact ⟨rfl, ((Below.refl _ _).alloc (Nat.le_refl _) _).trans (hb1.mono (by simp))⟩
set_option maxRecDepth 100000 in
theorem arith_pw (op a b c : Int) (v : Value) (e : Int) (w : World) (h : ∀ w, Calls Tryd.prog 66 #[.int .i64 op, Dat.v (.pln a b), Dat.v (.whl c)] w (Ans (.tuple #[v, .int .i64 e]) w)) :
    Calls Tryd.prog 47 #[.int .i64 op, Dat.v (.pln a b), Dat.v (.whl c)] w (Ans (.tuple #[v, .int .i64 e]) w) := by
  have f1 := as_wrd (.pln a b)
  have f2 := as_whl (.pln a b)
  have f3 := as_pln (.pln a b)
  have f4 := as_whl (.whl c)
  have f5 := as_pln (.whl c)
  simp only [Dat.t, Dat.x, Dat.asWrd, Dat.asWhl, Dat.asPln] at f1 f2 f3 f4 f5
  unfold Dat.v Dat.t Dat.x at h ⊢
  have H := Lib.hid h
  clear h
  go_enter Tryd.func47, Tryd.ntmps47
  go_wp2_with fail
  refine (H.out _).mono ?_
  rintro e w1 ⟨rfl, hb1⟩
  go_wp2_with fail
  go_ret2
  exact ⟨rfl, ((Below.refl _ _).alloc (Nat.le_refl _) _).trans (hb1.mono (by simp))⟩
set_option maxRecDepth 100000 in
theorem arith_pp (op a b c d : Int) (v : Value) (e : Int) (w : World) (h : ∀ w, Calls Tryd.prog 66 #[.int .i64 op, Dat.v (.pln a b), Dat.v (.pln c d)] w (Ans (.tuple #[v, .int .i64 e]) w)) :
    Calls Tryd.prog 47 #[.int .i64 op, Dat.v (.pln a b), Dat.v (.pln c d)] w (Ans (.tuple #[v, .int .i64 e]) w) := by
  have f1 := as_wrd (.pln a b)
  have f2 := as_whl (.pln a b)
  have f3 := as_pln (.pln a b)
  have f4 := as_whl (.pln c d)
  have f5 := as_pln (.pln c d)
  simp only [Dat.t, Dat.x, Dat.asWrd, Dat.asWhl, Dat.asPln] at f1 f2 f3 f4 f5
  unfold Dat.v Dat.t Dat.x at h ⊢
  have H := Lib.hid h
  clear h
  go_enter Tryd.func47, Tryd.ntmps47
  go_wp2_with fail
  refine (H.out _).mono ?_
  rintro e w1 ⟨rfl, hb1⟩
  go_wp2_with fail
  go_ret2
  exact ⟨rfl, ((Below.refl _ _).alloc (Nat.le_refl _) _).trans (hb1.mono (by simp))⟩

/-! ### one number -/
set_option maxRecDepth 100000 in
theorem unary_pln_norm (a b : Int) (ha : Part a) (hb : Part b) (w : World) : Calls Tryd.prog 132 #[.agg #[.int .i64 a, .int .i64 b], .int .i64 6] w (Ans (.tuple #[Dat.v (.whl (a * a + b * b)), .int .i64 0]) w) := by
  have p1 := prod_bound ha ha
  have p2 := prod_bound hb hb
  have W1 : wrap64 (a * a) = a * a := by unfold wrap64; omega
  have W2 : wrap64 (b * b) = b * b := by unfold wrap64; omega
  have W3 : wrap64 (a * a + b * b) = a * a + b * b := by unfold wrap64; omega
  have HW := Lib.hid (And.intro W1 (And.intro W2 W3))
  clear W1 W2 W3 p1 p2
  go_enter Tryd.func132, Tryd.ntmps132
  go_wp2_with fail
  go_ret2
  exact ⟨ret2 (by show Value.iface _ (.int .i64 (wrap64 (wrap64 (a * a) + wrap64 (b * b)))) = _; rw [HW.out.1, HW.out.2.1, HW.out.2.2]; rfl) rfl, (by repeat (first | exact Below.refl _ _ | assumption | refine Below.alloc ?_ (by simp; try omega) _ | refine Below.drew ?_ | refine Below.setCell ?_ (by simp; try omega) _))⟩
set_option maxRecDepth 100000 in
theorem unary_pln_conj (a b : Int) (hb : Part b) (w : World) : Calls Tryd.prog 132 #[.agg #[.int .i64 a, .int .i64 b], .int .i64 5] w (Ans (.tuple #[Dat.v (.pln a (-b)), .int .i64 0]) w) := by
  obtain ⟨b0, b1⟩ := hb
  go_enter Tryd.func132, Tryd.ntmps132
  go_wp2_with fail
  go_ret2
  exact ⟨rfl, (by repeat (first | exact Below.refl _ _ | assumption | refine Below.alloc ?_ (by simp; try omega) _ | refine Below.drew ?_ | refine Below.setCell ?_ (by simp; try omega) _))⟩

/-! ### through Unary and Binary -/
theorem Unary_norm (a b : Int) (ha : Part a) (hb : Part b) (w : World) : Calls Tryd.prog 39 #[.int .i64 6, (Dat.val (.pln a b)).v] w (Ans (.tuple #[(Dat.val (.whl (a * a + b * b))).v, .int .i64 0]) w) :=
  Unary_of 6 _ (.pln a b) _ 0 _ w (by simp) (by simp) (openA_pln a b ha hb) (fun w => unary_pln_norm a b ha hb w) (answerA _)
theorem Unary_conj (a b : Int) (ha : Part a) (hb : Part b) (w : World) : Calls Tryd.prog 39 #[.int .i64 5, (Dat.val (.pln a b)).v] w (Ans (.tuple #[(Dat.val (.pln a (-b))).v, .int .i64 0]) w) :=
  Unary_of 5 _ (.pln a b) _ 0 _ w (by simp) (by simp) (openA_pln a b ha hb) (fun w => unary_pln_conj a b hb w) (answerA _)

/-- What wthD answers, as Binary tells it. -/
theorem Binary_ww (op a b : Int) (hlo : 1 ≤ op) (hhi : op ≤ 5) (r : Int) (w : World)
    (h : ∀ w, Calls Tryd.prog 65 #[.int .i64 op, .int .i64 a, .int .i64 b] w (Ans (.tuple #[Dat.v (.whl r), .int .i64 0]) w)) :
    Calls Tryd.prog 23 #[.int .i64 op, (Dat.val (.whl a)).v, (Dat.val (.whl b)).v] w (Ans (.tuple #[(Dat.val (.whl r)).v, .int .i64 0]) w) :=
  Binary_arith_of op _ _ (.whl a) (.whl b) _ 0 _ w hlo hhi rfl rfl (openA_whl a) (openA_whl b) (fun w => arith_ww op a b _ _ w h) (answerA _)
theorem Binary_ww_err (op a b e : Int) (hlo : 1 ≤ op) (hhi : op ≤ 5) (he : (e != 0) = true) (w : World)
    (h : ∀ w, Calls Tryd.prog 65 #[.int .i64 op, .int .i64 a, .int .i64 b] w (Ans (.tuple #[.nilIface, .int .i64 e]) w)) :
    Calls Tryd.prog 23 #[.int .i64 op, (Dat.val (.whl a)).v, (Dat.val (.whl b)).v] w (Ans (.tuple #[V.null.v, .int .i64 e]) w) :=
  Binary_arith_of op _ _ (.whl a) (.whl b) _ e _ w hlo hhi rfl rfl (openA_whl a) (openA_whl b) (fun w => arith_ww op a b _ _ w h) (fun w => answer_err _ _ he w)
theorem Binary_pp (op a b c d p q : Int) (hlo : 1 ≤ op) (hhi : op ≤ 5) (ha : Part a) (hb : Part b) (hc : Part c) (hd : Part d) (w : World)
    (h : ∀ w, Calls Tryd.prog 66 #[.int .i64 op, Dat.v (.pln a b), Dat.v (.pln c d)] w (Ans (.tuple #[Dat.v (.pln p q), .int .i64 0]) w)) :
    Calls Tryd.prog 23 #[.int .i64 op, (Dat.val (.pln a b)).v, (Dat.val (.pln c d)).v] w (Ans (.tuple #[(Dat.val (.pln p q)).v, .int .i64 0]) w) :=
  Binary_arith_of op _ _ (.pln a b) (.pln c d) _ 0 _ w hlo hhi rfl rfl (openA_pln a b ha hb) (openA_pln c d hc hd) (fun w => arith_pp op a b c d _ _ w h) (answerA _)
theorem Binary_pp_err (op a b c d e : Int) (hlo : 1 ≤ op) (hhi : op ≤ 5) (he : (e != 0) = true) (ha : Part a) (hb : Part b) (hc : Part c) (hd : Part d) (w : World)
    (h : ∀ w, Calls Tryd.prog 66 #[.int .i64 op, Dat.v (.pln a b), Dat.v (.pln c d)] w (Ans (.tuple #[.nilIface, .int .i64 e]) w)) :
    Calls Tryd.prog 23 #[.int .i64 op, (Dat.val (.pln a b)).v, (Dat.val (.pln c d)).v] w (Ans (.tuple #[V.null.v, .int .i64 e]) w) :=
  Binary_arith_of op _ _ (.pln a b) (.pln c d) _ e _ w hlo hhi rfl rfl (openA_pln a b ha hb) (openA_pln c d hc hd) (fun w => arith_pp op a b c d _ _ w h) (fun w => answer_err _ _ he w)
theorem Binary_pw (op a b c p q : Int) (hlo : 1 ≤ op) (hhi : op ≤ 5) (ha : Part a) (hb : Part b) (w : World)
    (h : ∀ w, Calls Tryd.prog 66 #[.int .i64 op, Dat.v (.pln a b), Dat.v (.whl c)] w (Ans (.tuple #[Dat.v (.pln p q), .int .i64 0]) w)) :
    Calls Tryd.prog 23 #[.int .i64 op, (Dat.val (.pln a b)).v, (Dat.val (.whl c)).v] w (Ans (.tuple #[(Dat.val (.pln p q)).v, .int .i64 0]) w) :=
  Binary_arith_of op _ _ (.pln a b) (.whl c) _ 0 _ w hlo hhi rfl rfl (openA_pln a b ha hb) (openA_whl c) (fun w => arith_pw op a b c _ _ w h) (answerA _)
theorem wthD_in {p q : Int} (hp : Part p) (hq : Part q) : wthD p q = .tuple #[Dat.v (.pln p q), .int .i64 0] := by
  unfold wthD Part at *
  rw [if_pos (by omega)]
end Go.Proofs.YtdcbanfakcgokaaDoor.Va
