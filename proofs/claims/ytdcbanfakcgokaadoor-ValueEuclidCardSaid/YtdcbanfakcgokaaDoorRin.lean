/-
  The law's ring and norms, at complex numbers of small parts and at small whole numbers.
-/
import Derived.Test.YtdcbanfakcgokaaDoorRing
import Derived.Test.YtdcbanfakcgokaaDoorNorms
namespace Go.Proofs.YtdcbanfakcgokaaDoor.Va
open Go.RowKit

/-- A complex number of whole parts; a whole number. -/
def P (a b : Int) : V := V.mk 3 a b ByteArray.empty
def Z (a : Int) : V := V.mk 2 a 0 ByteArray.empty

theorem does_pp_add (a b c d p q : Int) (ep : p = a + c) (eq : q = b + d) (ha : Part a) (hb : Part b) (hc : Part c) (hd : Part d) (hp : Part p) (hq : Part q) (w : World) :
    Calls Tryd.prog 22 #[.int .i64 1, (P a b).v, (P c d).v] w (Ans (.tuple #[(P p q).v, .bool true]) w) :=
  does_of 1 (P a b) (P c d) 3 p q (.inr rfl) w (fun w => Binary_pp 1 a b c d p q (by decide) (by decide) ha hb hc hd w (fun w => by
    have := planes_add _ _ _ _ _ _ a b c d (takes_pln a b ha hb) (takes_pln c d hc hd) w
    rw [← ep, ← eq, wthD_in hp hq] at this
    exact this))
theorem does_pp_sub (a b c d p q : Int) (ep : p = a - c) (eq : q = b - d) (ha : Part a) (hb : Part b) (hc : Part c) (hd : Part d) (hp : Part p) (hq : Part q) (w : World) :
    Calls Tryd.prog 22 #[.int .i64 2, (P a b).v, (P c d).v] w (Ans (.tuple #[(P p q).v, .bool true]) w) :=
  does_of 2 (P a b) (P c d) 3 p q (.inr rfl) w (fun w => Binary_pp 2 a b c d p q (by decide) (by decide) ha hb hc hd w (fun w => by
    have := planes_sub _ _ _ _ _ _ a b c d (takes_pln a b ha hb) (takes_pln c d hc hd) w
    rw [← ep, ← eq, wthD_in hp hq] at this
    exact this))
theorem does_pp_mul (a b c d p q : Int) (ep : p = a * c - b * d) (eq : q = a * d + b * c) (ha : Part a) (hb : Part b) (hc : Part c) (hd : Part d) (hp : Part p) (hq : Part q) (w : World) :
    Calls Tryd.prog 22 #[.int .i64 3, (P a b).v, (P c d).v] w (Ans (.tuple #[(P p q).v, .bool true]) w) :=
  does_of 3 (P a b) (P c d) 3 p q (.inr rfl) w (fun w => Binary_pp 3 a b c d p q (by decide) (by decide) ha hb hc hd w (fun w => by
    have := planes_mul _ _ _ _ _ _ a b c d (takes_pln a b ha hb) (takes_pln c d hc hd) w
    rw [← ep, ← eq, wthD_in hp hq] at this
    exact this))
theorem does_pw_mul (a b c p q : Int) (ep : p = a * c) (eq : q = b * c) (ha : Part a) (hb : Part b) (hc : Part c) (hp : Part p) (hq : Part q) (w : World) :
    Calls Tryd.prog 22 #[.int .i64 3, (P a b).v, (Z c).v] w (Ans (.tuple #[(P p q).v, .bool true]) w) :=
  does_of 3 (P a b) (Z c) 3 p q (.inr rfl) w (fun w => Binary_pw 3 a b c p q (by decide) (by decide) ha hb w (fun w => by
    have := planes_mul _ _ _ _ _ _ a b c 0 (takes_pln a b ha hb) (takes_whl c hc) w
    rw [show a * c - b * 0 = p by rw [ep, Int.mul_zero]; omega, show a * 0 + b * c = q by rw [eq, Int.mul_zero]; omega, wthD_in hp hq] at this
    exact this))
theorem does_ww_add (a b c : Int) (ec : c = a + b) (ha : I64 a) (hb : I64 b) (hc : I64 c) (w : World) :
    Calls Tryd.prog 22 #[.int .i64 1, (Z a).v, (Z b).v] w (Ans (.tuple #[(Z c).v, .bool true]) w) :=
  does_of 1 (Z a) (Z b) 2 c 0 (.inl rfl) w (fun w => Binary_ww 1 a b (by decide) (by decide) c w (fun w => by subst ec; exact wholes_add a b ha hb hc w))
theorem does_ww_sub (a b c : Int) (ec : c = a - b) (ha : I64 a) (hb : I64 b) (hc : I64 c) (w : World) :
    Calls Tryd.prog 22 #[.int .i64 2, (Z a).v, (Z b).v] w (Ans (.tuple #[(Z c).v, .bool true]) w) :=
  does_of 2 (Z a) (Z b) 2 c 0 (.inl rfl) w (fun w => Binary_ww 2 a b (by decide) (by decide) c w (fun w => by subst ec; exact wholes_sub a b ha hb hc w))
theorem does_ww_mul (a b c : Int) (ec : c = a * b) (ha : I64 a) (hb : I64 b) (hc : I64 c) (w : World) :
    Calls Tryd.prog 22 #[.int .i64 3, (Z a).v, (Z b).v] w (Ans (.tuple #[(Z c).v, .bool true]) w) :=
  does_of 3 (Z a) (Z b) 2 c 0 (.inl rfl) w (fun w => Binary_ww 3 a b (by decide) (by decide) c w (fun w => by subst ec; exact wholes_mul a b ha hb hc w))

/-! ### bounds -/
theorem mulb {a b : Int} (A B : Nat) (ha : a.natAbs ≤ A) (hb : b.natAbs ≤ B) : (a * b).natAbs ≤ A * B := by
  rw [Int.natAbs_mul]; exact Nat.mul_le_mul ha hb
/-- |ac - bd| + |ad + bc|, where all four are at most 255: at most 2 255². -/
theorem cross {a b c d : Int} (ha : a.natAbs ≤ 255) (hb : b.natAbs ≤ 255) (hc : c.natAbs ≤ 255) (hd : d.natAbs ≤ 255) :
    (a * c - b * d).natAbs + (a * d + b * c).natAbs ≤ 130050 := by
  have e1 : (a * c - b * d) + (a * d + b * c) = a * (c + d) + b * (c - d) := by grind
  have e2 : (a * c - b * d) - (a * d + b * c) = a * (c - d) - b * (c + d) := by grind
  have m1 : (a * (c + d)).natAbs ≤ 255 * (c + d).natAbs := mulb 255 _ ha (Nat.le_refl _)
  have m2 : (b * (c - d)).natAbs ≤ 255 * (c - d).natAbs := mulb 255 _ hb (Nat.le_refl _)
  have m3 : (a * (c - d)).natAbs ≤ 255 * (c - d).natAbs := mulb 255 _ ha (Nat.le_refl _)
  have m4 : (b * (c + d)).natAbs ≤ 255 * (c + d).natAbs := mulb 255 _ hb (Nat.le_refl _)
  omega
/-- A product of three. -/
theorem triple {X Y c d : Int} (h : X.natAbs + Y.natAbs ≤ 130050) (hc : c.natAbs ≤ 255) (hd : d.natAbs ≤ 255) : Part (X * c - Y * d) ∧ Part (X * d + Y * c) := by
  have m1 : (X * c).natAbs ≤ X.natAbs * 255 := mulb _ 255 (Nat.le_refl _) hc
  have m2 : (Y * d).natAbs ≤ Y.natAbs * 255 := mulb _ 255 (Nat.le_refl _) hd
  have m3 : (X * d).natAbs ≤ X.natAbs * 255 := mulb _ 255 (Nat.le_refl _) hd
  have m4 : (Y * c).natAbs ≤ Y.natAbs * 255 := mulb _ 255 (Nat.le_refl _) hc
  unfold Part
  omega
theorem part_of {a : Int} (h : a.natAbs ≤ 33554432) : Part a := by unfold Part; omega

theorem ring_pln (a1 a2 b1 b2 c1 c2 : Int) (ha1 : a1.natAbs ≤ 255) (ha2 : a2.natAbs ≤ 255) (hb1 : b1.natAbs ≤ 255) (hb2 : b2.natAbs ≤ 255) (hc1 : c1.natAbs ≤ 255) (hc2 : c2.natAbs ≤ 255) (w : World) :
    Calls Tryd.prog 19 #[(P a1 a2).v, (P b1 b2).v, (P c1 c2).v] w (Ans (.bool true) w) := by
  have A1 : Part a1 := part_of (by omega)
  have A2 : Part a2 := part_of (by omega)
  have B1 : Part b1 := part_of (by omega)
  have B2 : Part b2 := part_of (by omega)
  have C1 : Part c1 := part_of (by omega)
  have C2 : Part c2 := part_of (by omega)
  have S1 : Part (b1 + c1) := part_of (by omega)
  have S2 : Part (b2 + c2) := part_of (by omega)
  have T1 : Part (a1 + b1) := part_of (by omega)
  have T2 : Part (a2 + b2) := part_of (by omega)
  have hab := cross ha1 ha2 hb1 hb2
  have hac := cross ha1 ha2 hc1 hc2
  have hbc := cross hb1 hb2 hc1 hc2
  have X1 : Part (a1 * b1 - a2 * b2) := part_of (by omega)
  have X2 : Part (a1 * b2 + a2 * b1) := part_of (by omega)
  have Y1 : Part (a1 * c1 - a2 * c2) := part_of (by omega)
  have Y2 : Part (a1 * c2 + a2 * c1) := part_of (by omega)
  have V1 : Part (b1 * c1 - b2 * c2) := part_of (by omega)
  have V2 : Part (b1 * c2 + b2 * c1) := part_of (by omega)
  have el1 : (a1 * b1 - a2 * b2) + (a1 * c1 - a2 * c2) = a1 * (b1 + c1) - a2 * (b2 + c2) := by grind
  have el2 : (a1 * b2 + a2 * b1) + (a1 * c2 + a2 * c1) = a1 * (b2 + c2) + a2 * (b1 + c1) := by grind
  have L1 : Part (a1 * (b1 + c1) - a2 * (b2 + c2)) := part_of (by rw [← el1]; omega)
  have L2 : Part (a1 * (b2 + c2) + a2 * (b1 + c1)) := part_of (by rw [← el2]; omega)
  obtain ⟨U1, U2⟩ := triple hab hc1 hc2
  exact ring_of (P a1 a2) (P b1 b2) (P c1 c2) (P (b1 + c1) (b2 + c2)) (P (a1 * (b1 + c1) - a2 * (b2 + c2)) (a1 * (b2 + c2) + a2 * (b1 + c1)))
    (P (a1 * b1 - a2 * b2) (a1 * b2 + a2 * b1)) (P (a1 * c1 - a2 * c2) (a1 * c2 + a2 * c1))
    (P ((a1 * b1 - a2 * b2) * c1 - (a1 * b2 + a2 * b1) * c2) ((a1 * b1 - a2 * b2) * c2 + (a1 * b2 + a2 * b1) * c1))
    (P (b1 * c1 - b2 * c2) (b1 * c2 + b2 * c1)) (P (a1 + b1) (a2 + b2)) w
    (fun w => does_pp_add _ _ _ _ _ _ rfl rfl B1 B2 C1 C2 S1 S2 w)
    (fun w => does_pp_mul _ _ _ _ _ _ rfl rfl A1 A2 S1 S2 L1 L2 w)
    (fun w => does_pp_mul _ _ _ _ _ _ rfl rfl A1 A2 B1 B2 X1 X2 w)
    (fun w => does_pp_mul _ _ _ _ _ _ rfl rfl A1 A2 C1 C2 Y1 Y2 w)
    (fun w => does_pp_add _ _ _ _ _ _ el1.symm el2.symm X1 X2 Y1 Y2 L1 L2 w)
    (fun w => does_pp_mul _ _ _ _ _ _ (by grind) (by grind) S1 S2 A1 A2 L1 L2 w)
    (fun w => does_pp_mul _ _ _ _ _ _ rfl rfl X1 X2 C1 C2 U1 U2 w)
    (fun w => does_pp_mul _ _ _ _ _ _ rfl rfl B1 B2 C1 C2 V1 V2 w)
    (fun w => does_pp_mul _ _ _ _ _ _ (by grind) (by grind) A1 A2 V1 V2 U1 U2 w)
    (fun w => does_pp_add _ _ _ _ _ _ rfl rfl A1 A2 B1 B2 T1 T2 w)
    (fun w => does_pp_add _ _ _ _ _ _ (by omega) (by omega) B1 B2 A1 A2 T1 T2 w)
    (fun w => does_pp_sub _ _ _ _ _ _ (by omega) (by omega) T1 T2 B1 B2 A1 A2 w)

theorem ring_whl (a b c : Int) (ha : a.natAbs ≤ 1048575) (hb : b.natAbs ≤ 1048575) (hc : c.natAbs ≤ 1048575) (w : World) :
    Calls Tryd.prog 19 #[(Z a).v, (Z b).v, (Z c).v] w (Ans (.bool true) w) := by
  have i64_of : ∀ {n : Int}, n.natAbs ≤ 9223372036854775807 → I64 n := fun h => by unfold I64; omega
  have A : I64 a := i64_of (by omega)
  have B : I64 b := i64_of (by omega)
  have C : I64 c := i64_of (by omega)
  have S : I64 (b + c) := i64_of (by omega)
  have T : I64 (a + b) := i64_of (by omega)
  have m1 : (a * b).natAbs ≤ 1048575 * 1048575 := mulb _ _ ha hb
  have m2 : (a * c).natAbs ≤ 1048575 * 1048575 := mulb _ _ ha hc
  have m3 : (b * c).natAbs ≤ 1048575 * 1048575 := mulb _ _ hb hc
  have m4 : (a * b * c).natAbs ≤ 1048575 * 1048575 * 1048575 := mulb _ _ m1 hc
  have X : I64 (a * b) := i64_of (by omega)
  have Y : I64 (a * c) := i64_of (by omega)
  have V : I64 (b * c) := i64_of (by omega)
  have U : I64 (a * b * c) := i64_of (by omega)
  have el : a * b + a * c = a * (b + c) := by grind
  have L : I64 (a * (b + c)) := by rw [← el]; exact i64_of (by omega)
  exact ring_of (Z a) (Z b) (Z c) (Z (b + c)) (Z (a * (b + c))) (Z (a * b)) (Z (a * c)) (Z (a * b * c)) (Z (b * c)) (Z (a + b)) w
    (fun w => does_ww_add _ _ _ rfl B C S w)
    (fun w => does_ww_mul _ _ _ rfl A S L w)
    (fun w => does_ww_mul _ _ _ rfl A B X w)
    (fun w => does_ww_mul _ _ _ rfl A C Y w)
    (fun w => does_ww_add _ _ _ el.symm X Y L w)
    (fun w => does_ww_mul _ _ _ (by grind) S A L w)
    (fun w => does_ww_mul _ _ _ rfl X C U w)
    (fun w => does_ww_mul _ _ _ rfl B C V w)
    (fun w => does_ww_mul _ _ _ (by grind) A V U w)
    (fun w => does_ww_add _ _ _ rfl A B T w)
    (fun w => does_ww_add _ _ _ (by omega) B A T w)
    (fun w => does_ww_sub _ _ _ (by omega) T B A w)

theorem norm_pln (a b : Int) (ha : Part a) (hb : Part b) (w : World) : Calls Tryd.prog 24 #[(P a b).v] w (Ans (.tuple #[.int .i64 (a * a + b * b), .bool true]) w) :=
  norm_of (P a b) _ w (fun w => Unary_norm a b ha hb w)

theorem norms_pln (a1 a2 b1 b2 : Int) (ha1 : a1.natAbs ≤ 255) (ha2 : a2.natAbs ≤ 255) (hb1 : b1.natAbs ≤ 255) (hb2 : b2.natAbs ≤ 255) (w : World) :
    Calls Tryd.prog 20 #[(P a1 a2).v, (P b1 b2).v] w (Ans (.bool true) w) := by
  have A1 : Part a1 := part_of (by omega)
  have A2 : Part a2 := part_of (by omega)
  have A3 : Part (-a2) := part_of (by omega)
  have B1 : Part b1 := part_of (by omega)
  have B2 : Part b2 := part_of (by omega)
  have hab := cross ha1 ha2 hb1 hb2
  have X1 : Part (a1 * b1 - a2 * b2) := part_of (by omega)
  have X2 : Part (a1 * b2 + a2 * b1) := part_of (by omega)
  have m1 : (a1 * a1).natAbs ≤ 255 * 255 := mulb _ _ ha1 ha1
  have m2 : (a2 * a2).natAbs ≤ 255 * 255 := mulb _ _ ha2 ha2
  have m3 : (b1 * b1).natAbs ≤ 255 * 255 := mulb _ _ hb1 hb1
  have m4 : (b2 * b2).natAbs ≤ 255 * 255 := mulb _ _ hb2 hb2
  have m5 : ((a1 * a1 + a2 * a2) * (b1 * b1 + b2 * b2)).natAbs ≤ 130050 * 130050 := mulb _ _ (by omega) (by omega)
  have N1 : Part (a1 * a1 + a2 * a2) := part_of (by omega)
  have N0 : Part 0 := part_of (by decide)
  have O1 : Part 1 := part_of (by decide)
  have O2 : Part (-1) := part_of (by decide)
  have hz : (a1 * a1 + a2 * a2) * (b1 * b1 + b2 * b2) = (a1 * b1 - a2 * b2) * (a1 * b1 - a2 * b2) + (a1 * b2 + a2 * b1) * (a1 * b2 + a2 * b1) := by grind
  exact norms_of (P a1 a2) (P b1 b2) (P (a1 * b1 - a2 * b2) (a1 * b2 + a2 * b1)) (P a1 (-a2)) (a1 * a1 + a2 * a2) (b1 * b1 + b2 * b2) _ w (by rw [← hz]; unfold wrap64; omega)
    (fun w => does_pp_mul _ _ _ _ _ _ rfl rfl A1 A2 B1 B2 X1 X2 w)
    (fun w => norm_pln _ _ A1 A2 w)
    (fun w => norm_pln _ _ B1 B2 w)
    (fun w => norm_pln _ _ X1 X2 w)
    (fun w => Unary_conj _ _ A1 A2 w)
    (fun w => does_pp_mul _ _ _ _ _ _ (by grind) (by grind) A1 A2 A1 A3 N1 N0 w)
    (fun w => does_pp_mul 0 1 0 1 (-1) 0 (by decide) (by decide) N0 O1 N0 O1 O2 N0 w)
end Go.Proofs.YtdcbanfakcgokaaDoor.Va
