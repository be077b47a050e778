/-
  value.open: what an api.Val stands for, and whether it is a value: by its kind (strings apart).
-/
import Derived.Test.YtmbgjhmjmomnoaaGreatDoorVb
namespace Go.Proofs.YtmbgjhmjmomnoaaGreatDoor.Va
open Go.RowKit

theorem inPart_any (n : Int) (w : World) : Calls Tryz.prog 87 #[.int .i64 n] w fun e w' => e = .returned (.bool (decide (-33554432 ≤ n ∧ n ≤ 33554432))) ∧ w = w' := by
  by_cases h1 : -33554432 ≤ n
  · by_cases h2 : n ≤ 33554432
    · go_enter Tryz.func87, Tryz.ntmps87
      go_wp2
      go_ret
      exact ⟨by rw [decide_eq_true ⟨h1, h2⟩]; rfl, rfl⟩
    · go_enter Tryz.func87, Tryz.ntmps87
      go_wp2
      go_ret
      exact ⟨by rw [decide_eq_false (by omega)]; rfl, rfl⟩
  · go_enter Tryz.func87, Tryz.ntmps87
    go_wp2
    go_ret
    exact ⟨by rw [decide_eq_false (by omega)]; rfl, rfl⟩
theorem inPart_yes (n : Int) (w : World) (h : -33554432 ≤ n ∧ n ≤ 33554432) : Calls Tryz.prog 87 #[.int .i64 n] w fun e w' => e = .returned (.bool true) ∧ w = w' :=
  (inPart_any n w).mono fun _ _ h' => by rw [decide_eq_true h] at h'; exact h'
theorem inPart_no (n : Int) (w : World) (h : ¬ (-33554432 ≤ n ∧ n ≤ 33554432)) : Calls Tryz.prog 87 #[.int .i64 n] w fun e w' => e = .returned (.bool false) ∧ w = w' :=
  (inPart_any n w).mono fun _ _ h' => by rw [decide_eq_false h] at h'; exact h'

set_option maxRecDepth 100000 in
theorem open_nul (a b : Int) (s : ByteArray) (w : World) : Calls Tryz.prog 33 #[.agg #[.int .i64 0, .int .i64 a, .int .i64 b, .string s]] w fun e w' => e = .returned (.tuple #[Dat.v (.nul), .bool (V.eqB (V.mk 0 0 0 ByteArray.empty) (V.mk 0 a b s))]) ∧ Below w.heap.size w w' := by
  have hm := meth_val (.nul)
  have hc := callFunc_val (.nul)
  have hv := val_any (.nul)
  have he := eql_val
  simp only [Dat.t, Dat.x, Dat.fval, Dat.val, V.v] at hm hc hv
  have Hv := Lib.hid hv
  clear hv
  unfold Dat.v Dat.t Dat.x
  go_enter Tryz.func33, Tryz.ntmps33
  go_wp2_with fail
  go_region_with (first | (go_at_call 229; refine (Hv.out _).mono ?_; rintro e w1 ⟨rfl, hb⟩; obtain ⟨h1, h2⟩ := bcell hb; have hz : w.heap.size + 1 ≤ w1.heap.size := by have := hb.size; simpa using this))
  all_goals
    go_wp2
    go_ret2
    refine ⟨rfl, ?_⟩
    have hb' : Below w.heap.size w w1 := (((Below.refl _ w).alloc (Nat.le_refl _) _).drew).trans (hb.mono (by simp))
    exact (by repeat (first | exact Below.refl _ _ | assumption | refine Below.alloc ?_ (by simp; try omega) _ | refine Below.drew ?_ | refine Below.setCell ?_ (by simp; try omega) _))

set_option maxRecDepth 100000 in
theorem open_tru1 (a b : Int) (s : ByteArray) (w : World) (h : a = 1) : Calls Tryz.prog 33 #[.agg #[.int .i64 1, .int .i64 a, .int .i64 b, .string s]] w fun e w' => e = .returned (.tuple #[Dat.v (.tru true), .bool (V.eqB (V.mk 1 1 0 ByteArray.empty) (V.mk 1 a b s))]) ∧ Below w.heap.size w w' := by
  subst h
  have hm := meth_val (.tru true)
  have hc := callFunc_val (.tru true)
  have hv := val_any (.tru true)
  have he := eql_val
  simp only [Dat.t, Dat.x, Dat.fval, Dat.val, V.v, if_true] at hm hc hv
  have Hv := Lib.hid hv
  clear hv
  unfold Dat.v Dat.t Dat.x
  go_enter Tryz.func33, Tryz.ntmps33
  go_wp2_with fail
  go_region_with (first | (go_at_call 51; refine (Hv.out _).mono ?_; rintro e w1 ⟨rfl, hb⟩; obtain ⟨h1, h2⟩ := bcell hb; have hz : w.heap.size + 1 ≤ w1.heap.size := by have := hb.size; simpa using this))
  all_goals
    go_wp2
    go_ret2
    refine ⟨rfl, ?_⟩
    have hb' : Below w.heap.size w w1 := (((Below.refl _ w).alloc (Nat.le_refl _) _).drew).trans (hb.mono (by simp))
    exact (by repeat (first | exact Below.refl _ _ | assumption | refine Below.alloc ?_ (by simp; try omega) _ | refine Below.drew ?_ | refine Below.setCell ?_ (by simp; try omega) _))

set_option maxRecDepth 100000 in
theorem open_tru0 (a b : Int) (s : ByteArray) (w : World) (h : (a == 1) = false) : Calls Tryz.prog 33 #[.agg #[.int .i64 1, .int .i64 a, .int .i64 b, .string s]] w fun e w' => e = .returned (.tuple #[Dat.v (.tru false), .bool (V.eqB (V.mk 1 0 0 ByteArray.empty) (V.mk 1 a b s))]) ∧ Below w.heap.size w w' := by
  have hm := meth_val (.tru false)
  have hc := callFunc_val (.tru false)
  have hv := val_any (.tru false)
  have he := eql_val
  simp only [Dat.t, Dat.x, Dat.fval, Dat.val, V.v, Bool.false_eq_true, if_false] at hm hc hv
  have Hv := Lib.hid hv
  clear hv
  unfold Dat.v Dat.t Dat.x
  go_enter Tryz.func33, Tryz.ntmps33
  go_wp2_with fail
  go_region_with (first | (go_at_call 51; refine (Hv.out _).mono ?_; rintro e w1 ⟨rfl, hb⟩; obtain ⟨h1, h2⟩ := bcell hb; have hz : w.heap.size + 1 ≤ w1.heap.size := by have := hb.size; simpa using this))
  all_goals
    go_wp2
    go_ret2
    refine ⟨rfl, ?_⟩
    have hb' : Below w.heap.size w w1 := (((Below.refl _ w).alloc (Nat.le_refl _) _).drew).trans (hb.mono (by simp))
    exact (by repeat (first | exact Below.refl _ _ | assumption | refine Below.alloc ?_ (by simp; try omega) _ | refine Below.drew ?_ | refine Below.setCell ?_ (by simp; try omega) _))

set_option maxRecDepth 100000 in
theorem open_whl (a b : Int) (s : ByteArray) (w : World) : Calls Tryz.prog 33 #[.agg #[.int .i64 2, .int .i64 a, .int .i64 b, .string s]] w fun e w' => e = .returned (.tuple #[Dat.v (.whl a), .bool (V.eqB (V.mk 2 a 0 ByteArray.empty) (V.mk 2 a b s))]) ∧ Below w.heap.size w w' := by
  have hm := meth_val (.whl a)
  have hc := callFunc_val (.whl a)
  have hv := val_any (.whl a)
  have he := eql_val
  simp only [Dat.t, Dat.x, Dat.fval, Dat.val, V.v] at hm hc hv
  have Hv := Lib.hid hv
  clear hv
  unfold Dat.v Dat.t Dat.x
  go_enter Tryz.func33, Tryz.ntmps33
  go_wp2_with fail
  go_region_with (first | (go_at_call 109; refine (Hv.out _).mono ?_; rintro e w1 ⟨rfl, hb⟩; obtain ⟨h1, h2⟩ := bcell hb; have hz : w.heap.size + 1 ≤ w1.heap.size := by have := hb.size; simpa using this))
  all_goals
    go_wp2
    go_ret2
    refine ⟨rfl, ?_⟩
    have hb' : Below w.heap.size w w1 := (((Below.refl _ w).alloc (Nat.le_refl _) _).drew).trans (hb.mono (by simp))
    exact (by repeat (first | exact Below.refl _ _ | assumption | refine Below.alloc ?_ (by simp; try omega) _ | refine Below.drew ?_ | refine Below.setCell ?_ (by simp; try omega) _))

set_option maxRecDepth 100000 in
theorem open_pln (a b : Int) (s : ByteArray) (w : World) (ha : -33554432 ≤ a ∧ a ≤ 33554432) (hb : -33554432 ≤ b ∧ b ≤ 33554432) : Calls Tryz.prog 33 #[.agg #[.int .i64 3, .int .i64 a, .int .i64 b, .string s]] w fun e w' => e = .returned (.tuple #[Dat.v (.pln a b), .bool (V.eqB (V.mk 3 a b ByteArray.empty) (V.mk 3 a b s))]) ∧ Below w.heap.size w w' := by
  have hm := meth_val (.pln a b)
  have hc := callFunc_val (.pln a b)
  have hv := val_any (.pln a b)
  have he := eql_val
  simp only [Dat.t, Dat.x, Dat.fval, Dat.val, V.v] at hm hc hv
  have Hv := Lib.hid hv
  clear hv
  unfold Dat.v Dat.t Dat.x
  have Ha := Lib.hid ha
  have Hb := Lib.hid hb
  clear ha hb
  go_enter Tryz.func33, Tryz.ntmps33
  go_wp2_with (first | (go_at_call_of 87 a; refine (inPart_yes a _ Ha.out).mono ?_; rintro e w1 ⟨rfl, rfl⟩) | (go_at_call_of 87 b; refine (inPart_yes b _ Hb.out).mono ?_; rintro e w1 ⟨rfl, rfl⟩))
  go_region_with (first | (go_at_call 123; refine (Hv.out _).mono ?_; rintro e w1 ⟨rfl, hb⟩; obtain ⟨h1, h2⟩ := bcell hb; have hz : w.heap.size + 1 ≤ w1.heap.size := by have := hb.size; simpa using this))
  all_goals
    go_wp2
    go_ret2
    refine ⟨rfl, ?_⟩
    have hb' : Below w.heap.size w w1 := (((Below.refl _ w).alloc (Nat.le_refl _) _).drew).trans (hb.mono (by simp))
    exact (by repeat (first | exact Below.refl _ _ | assumption | refine Below.alloc ?_ (by simp; try omega) _ | refine Below.drew ?_ | refine Below.setCell ?_ (by simp; try omega) _))

set_option maxRecDepth 100000 in
theorem open_nod (a b : Int) (s : ByteArray) (w : World) (h : (a == 0) = false) : Calls Tryz.prog 33 #[.agg #[.int .i64 5, .int .i64 a, .int .i64 b, .string s]] w fun e w' => e = .returned (.tuple #[Dat.v (.nod a), .bool (V.eqB (V.mk 5 a 0 ByteArray.empty) (V.mk 5 a b s))]) ∧ Below w.heap.size w w' := by
  have hm := meth_val (.nod a)
  have hc := callFunc_val (.nod a)
  have hv := val_any (.nod a)
  have he := eql_val
  simp only [Dat.t, Dat.x, Dat.fval, Dat.val, V.v] at hm hc hv
  have Hv := Lib.hid hv
  clear hv
  unfold Dat.v Dat.t Dat.x
  go_enter Tryz.func33, Tryz.ntmps33
  go_wp2_with fail
  go_region_with (first | (go_at_call 253; refine (Hv.out _).mono ?_; rintro e w1 ⟨rfl, hb⟩; obtain ⟨h1, h2⟩ := bcell hb; have hz : w.heap.size + 1 ≤ w1.heap.size := by have := hb.size; simpa using this))
  all_goals
    go_wp2
    go_ret2
    refine ⟨rfl, ?_⟩
    have hb' : Below w.heap.size w w1 := (((Below.refl _ w).alloc (Nat.le_refl _) _).drew).trans (hb.mono (by simp))
    exact (by repeat (first | exact Below.refl _ _ | assumption | refine Below.alloc ?_ (by simp; try omega) _ | refine Below.drew ?_ | refine Below.setCell ?_ (by simp; try omega) _))

set_option maxRecDepth 100000 in
theorem open_edg (a b : Int) (s : ByteArray) (w : World) (h : (a == 0) = false) : Calls Tryz.prog 33 #[.agg #[.int .i64 6, .int .i64 a, .int .i64 b, .string s]] w fun e w' => e = .returned (.tuple #[Dat.v (.edg a), .bool (V.eqB (V.mk 6 a 0 ByteArray.empty) (V.mk 6 a b s))]) ∧ Below w.heap.size w w' := by
  have hm := meth_val (.edg a)
  have hc := callFunc_val (.edg a)
  have hv := val_any (.edg a)
  have he := eql_val
  simp only [Dat.t, Dat.x, Dat.fval, Dat.val, V.v] at hm hc hv
  have Hv := Lib.hid hv
  clear hv
  unfold Dat.v Dat.t Dat.x
  go_enter Tryz.func33, Tryz.ntmps33
  go_wp2_with fail
  go_region_with (first | (go_at_call 258; refine (Hv.out _).mono ?_; rintro e w1 ⟨rfl, hb⟩; obtain ⟨h1, h2⟩ := bcell hb; have hz : w.heap.size + 1 ≤ w1.heap.size := by have := hb.size; simpa using this))
  all_goals
    go_wp2
    go_ret2
    refine ⟨rfl, ?_⟩
    have hb' : Below w.heap.size w w1 := (((Below.refl _ w).alloc (Nat.le_refl _) _).drew).trans (hb.mono (by simp))
    exact (by repeat (first | exact Below.refl _ _ | assumption | refine Below.alloc ?_ (by simp; try omega) _ | refine Below.drew ?_ | refine Below.setCell ?_ (by simp; try omega) _))

set_option maxRecDepth 100000 in
theorem open_nod0 (a b : Int) (s : ByteArray) (w : World) (h : a = 0) : Calls Tryz.prog 33 #[.agg #[.int .i64 5, .int .i64 a, .int .i64 b, .string s]] w fun e w' => e = .returned (.tuple #[.nilIface, .bool false]) ∧ Below w.heap.size w w' := by
  subst h
  go_enter Tryz.func33, Tryz.ntmps33
  go_wp2_with fail
  all_goals
    go_ret2
    exact ⟨rfl, (by repeat (first | exact Below.refl _ _ | assumption | refine Below.alloc ?_ (by simp; try omega) _ | refine Below.drew ?_ | refine Below.setCell ?_ (by simp; try omega) _))⟩

set_option maxRecDepth 100000 in
theorem open_edg0 (a b : Int) (s : ByteArray) (w : World) (h : a = 0) : Calls Tryz.prog 33 #[.agg #[.int .i64 6, .int .i64 a, .int .i64 b, .string s]] w fun e w' => e = .returned (.tuple #[.nilIface, .bool false]) ∧ Below w.heap.size w w' := by
  subst h
  go_enter Tryz.func33, Tryz.ntmps33
  go_wp2_with fail
  all_goals
    go_ret2
    exact ⟨rfl, (by repeat (first | exact Below.refl _ _ | assumption | refine Below.alloc ?_ (by simp; try omega) _ | refine Below.drew ?_ | refine Below.setCell ?_ (by simp; try omega) _))⟩

set_option maxRecDepth 100000 in
theorem open_pln_a (a b : Int) (s : ByteArray) (w : World) (ha : ¬ (-33554432 ≤ a ∧ a ≤ 33554432)) : Calls Tryz.prog 33 #[.agg #[.int .i64 3, .int .i64 a, .int .i64 b, .string s]] w fun e w' => e = .returned (.tuple #[.nilIface, .bool false]) ∧ Below w.heap.size w w' := by
  have Ha := Lib.hid ha
  clear ha
  go_enter Tryz.func33, Tryz.ntmps33
  go_wp2_with (go_at_call 87; refine (inPart_no a _ Ha.out).mono ?_; rintro e w1 ⟨rfl, rfl⟩)
  all_goals
    go_ret2
    exact ⟨rfl, (by repeat (first | exact Below.refl _ _ | assumption | refine Below.alloc ?_ (by simp; try omega) _ | refine Below.drew ?_ | refine Below.setCell ?_ (by simp; try omega) _))⟩

set_option maxRecDepth 100000 in
theorem open_pln_b (a b : Int) (s : ByteArray) (w : World) (ha : -33554432 ≤ a ∧ a ≤ 33554432) (hb : ¬ (-33554432 ≤ b ∧ b ≤ 33554432)) : Calls Tryz.prog 33 #[.agg #[.int .i64 3, .int .i64 a, .int .i64 b, .string s]] w fun e w' => e = .returned (.tuple #[.nilIface, .bool false]) ∧ Below w.heap.size w w' := by
  have Ha := Lib.hid ha
  have Hb := Lib.hid hb
  clear ha hb
  go_enter Tryz.func33, Tryz.ntmps33
  go_wp2_with (first | (go_at_call_of 87 a; refine (inPart_yes a _ Ha.out).mono ?_; rintro e w1 ⟨rfl, rfl⟩) | (go_at_call_of 87 b; refine (inPart_no b _ Hb.out).mono ?_; rintro e w1 ⟨rfl, rfl⟩))
  all_goals
    go_ret2
    exact ⟨rfl, (by repeat (first | exact Below.refl _ _ | assumption | refine Below.alloc ?_ (by simp; try omega) _ | refine Below.drew ?_ | refine Below.setCell ?_ (by simp; try omega) _))⟩

set_option maxRecDepth 100000 in
theorem open_no (a b : Int) (s : ByteArray) (k : Int) (w : World) (h0 : (k == 0) = false) (h1 : (k == 1) = false) (h2 : (k == 2) = false) (h3 : (k == 3) = false) (h4 : (k == 4) = false) (h5 : (k == 5) = false) (h6 : (k == 6) = false) : Calls Tryz.prog 33 #[.agg #[.int .i64 k, .int .i64 a, .int .i64 b, .string s]] w fun e w' => e = .returned (.tuple #[.nilIface, .bool false]) ∧ Below w.heap.size w w' := by
  go_enter Tryz.func33, Tryz.ntmps33
  go_wp2_with fail
  all_goals
    go_ret2
    exact ⟨rfl, (by repeat (first | exact Below.refl _ _ | assumption | refine Below.alloc ?_ (by simp; try omega) _ | refine Below.drew ?_ | refine Below.setCell ?_ (by simp; try omega) _))⟩
end Go.Proofs.YtmbgjhmjmomnoaaGreatDoor.Va
