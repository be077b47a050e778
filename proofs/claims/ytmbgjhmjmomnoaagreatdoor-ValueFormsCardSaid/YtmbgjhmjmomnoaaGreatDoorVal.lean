/-
  value.open at every api.Val; value.Valid, value.Storable: what each returns, where unicode/utf8's two tables hold what the library's text lays in them.
-/
import Derived.Test.YtmbgjhmjmomnoaaGreatDoorOpw
namespace Go.Proofs.YtmbgjhmjmomnoaaGreatDoor.Va
open Go.RowKit

/-- What an api.Val stands for, if its kind and its numbers allow one. -/
def V.dat (x : V) : Option Dat :=
  if x.k = 0 then some .nul
  else if x.k = 1 then some (.tru (x.a == 1))
  else if x.k = 2 then some (.whl x.a)
  else if x.k = 3 then if (-33554432 ≤ x.a ∧ x.a ≤ 33554432) ∧ (-33554432 ≤ x.b ∧ x.b ≤ 33554432) then some (.pln x.a x.b) else none
  else if x.k = 4 then if x.s.size ≤ 32 ∧ Lib.validD x.s.data.toList = true then some (.wrd x.s) else none
  else if x.k = 5 then if x.a = 0 then none else some (.nod x.a)
  else if x.k = 6 then if x.a = 0 then none else some (.edg x.a)
  else none

/-- Is it a value? -/
def V.ok (x : V) : Bool := match x.dat with | none => false | some d => V.eqB d.val x
/-- The datum that open hands out. -/
def V.opened (x : V) : Value := match x.dat with | none => .nilIface | some d => d.v

theorem V.ok_none {x : V} (h : x.dat = none) : x.ok = false := by unfold V.ok; rw [h]
theorem V.ok_some {x : V} {d : Dat} (h : x.dat = some d) : x.ok = V.eqB d.val x := by unfold V.ok; rw [h]
theorem V.opened_none {x : V} (h : x.dat = none) : x.opened = .nilIface := by unfold V.opened; rw [h]
theorem V.opened_some {x : V} {d : Dat} (h : x.dat = some d) : x.opened = d.v := by unfold V.opened; rw [h]

theorem open_some {x : V} {d : Dat} {w : World} (h : x.dat = some d) (hc : Calls Tryz.prog 33 #[x.v] w fun e w' => e = .returned (.tuple #[d.v, .bool (V.eqB d.val x)]) ∧ Below w.heap.size w w') : Calls Tryz.prog 33 #[x.v] w fun e w' => e = .returned (.tuple #[x.opened, .bool x.ok]) ∧ Below w.heap.size w w' := by
  rw [V.opened_some h, V.ok_some h]; exact hc
theorem open_none {x : V} {w : World} (h : x.dat = none) (hc : Calls Tryz.prog 33 #[x.v] w fun e w' => e = .returned (.tuple #[.nilIface, .bool false]) ∧ Below w.heap.size w w') : Calls Tryz.prog 33 #[x.v] w fun e w' => e = .returned (.tuple #[x.opened, .bool x.ok]) ∧ Below w.heap.size w w' := by
  rw [V.opened_none h, V.ok_none h]; exact hc

theorem open_any (x : V) (w : World) (hT : Tabs w) : Calls Tryz.prog 33 #[x.v] w fun e w' => e = .returned (.tuple #[x.opened, .bool x.ok]) ∧ Below w.heap.size w w' := by
  obtain ⟨k, a, b, s⟩ := x
  by_cases h0 : k = 0
  · subst h0
    exact open_some (x := ⟨0, a, b, s⟩) (d := .nul) (by unfold V.dat; exact if_pos rfl) (open_nul a b s w)
  by_cases h1 : k = 1
  · subst h1
    by_cases ha : a = 1
    · refine open_some (x := ⟨1, a, b, s⟩) (d := .tru true) ?_ (open_tru1 a b s w ha)
      unfold V.dat; rw [if_neg (by simp), if_pos rfl, ha]; rfl
    · have hb : (a == 1) = false := by simpa using ha
      refine open_some (x := ⟨1, a, b, s⟩) (d := .tru false) ?_ (open_tru0 a b s w hb)
      unfold V.dat; rw [if_neg (by simp), if_pos rfl]; simp only [hb]
  by_cases h2 : k = 2
  · subst h2
    refine open_some (x := ⟨2, a, b, s⟩) (d := .whl a) ?_ (open_whl a b s w)
    unfold V.dat; rw [if_neg (by simp), if_neg (by simp), if_pos rfl]
  by_cases h3 : k = 3
  · subst h3
    have e : V.dat ⟨3, a, b, s⟩ = if (-33554432 ≤ a ∧ a ≤ 33554432) ∧ (-33554432 ≤ b ∧ b ≤ 33554432) then some (.pln a b) else none := by
      unfold V.dat; rw [if_neg (by simp), if_neg (by simp), if_neg (by simp), if_pos rfl]
    by_cases ha : -33554432 ≤ a ∧ a ≤ 33554432
    · by_cases hb : -33554432 ≤ b ∧ b ≤ 33554432
      · exact open_some (x := ⟨3, a, b, s⟩) (d := .pln a b) (by rw [e, if_pos ⟨ha, hb⟩]) (open_pln a b s w ha hb)
      · exact open_none (x := ⟨3, a, b, s⟩) (by rw [e, if_neg (fun h => hb h.2)]) (open_pln_b a b s w ha hb)
    · exact open_none (x := ⟨3, a, b, s⟩) (by rw [e, if_neg (fun h => ha h.1)]) (open_pln_a a b s w ha)
  by_cases h4 : k = 4
  · subst h4
    have e : V.dat ⟨4, a, b, s⟩ = if s.size ≤ 32 ∧ Lib.validD s.data.toList = true then some (.wrd s) else none := by
      unfold V.dat; rw [if_neg (by simp), if_neg (by simp), if_neg (by simp), if_neg (by simp), if_pos rfl]
    by_cases ha : s.size ≤ 32
    · cases hb : Lib.validD s.data.toList with
      | true => exact open_some (x := ⟨4, a, b, s⟩) (d := .wrd s) (by rw [e, if_pos ⟨ha, hb⟩]) (open_wrd a b s w ha hb hT)
      | false => exact open_none (x := ⟨4, a, b, s⟩) (by rw [e, if_neg (fun h => by rw [hb] at h; exact absurd h.2 (by decide))]) (open_bad a b s w ha hb hT)
    · exact open_none (x := ⟨4, a, b, s⟩) (by rw [e, if_neg (fun h => ha h.1)]) (open_long a b s w ha)
  by_cases h5 : k = 5
  · subst h5
    have e : V.dat ⟨5, a, b, s⟩ = if a = 0 then none else some (.nod a) := by
      unfold V.dat; rw [if_neg (by simp), if_neg (by simp), if_neg (by simp), if_neg (by simp), if_neg (by simp), if_pos rfl]
    by_cases ha : a = 0
    · exact open_none (x := ⟨5, a, b, s⟩) (by rw [e, if_pos ha]) (open_nod0 a b s w ha)
    · exact open_some (x := ⟨5, a, b, s⟩) (d := .nod a) (by rw [e, if_neg ha]) (open_nod a b s w (by simpa using ha))
  by_cases h6 : k = 6
  · subst h6
    have e : V.dat ⟨6, a, b, s⟩ = if a = 0 then none else some (.edg a) := by
      unfold V.dat; rw [if_neg (by simp), if_neg (by simp), if_neg (by simp), if_neg (by simp), if_neg (by simp), if_neg (by simp), if_pos rfl]
    by_cases ha : a = 0
    · exact open_none (x := ⟨6, a, b, s⟩) (by rw [e, if_pos ha]) (open_edg0 a b s w ha)
    · exact open_some (x := ⟨6, a, b, s⟩) (d := .edg a) (by rw [e, if_neg ha]) (open_edg a b s w (by simpa using ha))
  refine open_none (x := ⟨k, a, b, s⟩) ?_ (open_no a b s k w (by simpa using h0) (by simpa using h1) (by simpa using h2) (by simpa using h3) (by simpa using h4) (by simpa using h5) (by simpa using h6))
  unfold V.dat
  rw [if_neg h0, if_neg h1, if_neg h2, if_neg h3, if_neg h4, if_neg h5, if_neg h6]

set_option maxRecDepth 100000 in
theorem valid_any (x : V) (w : World) (hT : Tabs w) : Calls Tryz.prog 38 #[x.v] w fun e w' => e = .returned (.bool x.ok) ∧ Below w.heap.size w w' := by
  have H := Lib.hid (fun (o : Obj) => open_any x (w.alloc o) (hT.below ((Below.refl _ _).alloc (Nat.le_refl _) o)))
  clear hT
  obtain ⟨k, a, b, s⟩ := x
  generalize V.ok _ = r at *
  generalize V.opened _ = q at *
  unfold V.v at *
  go_enter Tryz.func38, Tryz.ntmps38
  go_wp2_with (go_at_call 33; refine (H.out _).mono ?_; rintro e w1 ⟨rfl, hb⟩)
  have hb' : Below w.heap.size w w1 := ((Below.refl _ w).alloc (Nat.le_refl _) _).trans (hb.mono (by simp))
  go_ret
  exact ⟨rfl, hb'⟩

/-- Is it a value that a property can have? -/
def V.stor (x : V) : Bool := decide (1 ≤ x.k ∧ x.k ≤ 4) && x.ok

set_option maxRecDepth 100000 in
theorem storable_any (x : V) (w : World) (hT : Tabs w) : Calls Tryz.prog 39 #[x.v] w fun e w' => e = .returned (.bool x.stor) ∧ Below w.heap.size w w' := by
  have H := Lib.hid (fun (o : Obj) => valid_any x (w.alloc o) (hT.below ((Below.refl _ _).alloc (Nat.le_refl _) o)))
  clear hT
  obtain ⟨k, a, b, s⟩ := x
  by_cases h1 : 1 ≤ k
  · by_cases h2 : k ≤ 4
    · have e : V.stor ⟨k, a, b, s⟩ = V.ok ⟨k, a, b, s⟩ := by unfold V.stor; rw [decide_eq_true ⟨h1, h2⟩, Bool.true_and]
      rw [e]
      generalize V.ok _ = r at *
      unfold V.v at *
      go_enter Tryz.func39, Tryz.ntmps39
      go_wp2_with (go_at_call 38; refine (H.out _).mono ?_; rintro e w1 ⟨rfl, hb⟩)
      have hb' : Below w.heap.size w w1 := ((Below.refl _ w).alloc (Nat.le_refl _) _).trans (hb.mono (by simp))
      go_ret
      exact ⟨rfl, hb'⟩
    · have e : V.stor ⟨k, a, b, s⟩ = false := by unfold V.stor; rw [decide_eq_false (fun h => h2 h.2), Bool.false_and]
      rw [e]
      clear H
      unfold V.v at *
      go_enter Tryz.func39, Tryz.ntmps39
      go_wp2_with fail
      go_ret
      exact ⟨rfl, (by repeat (first | exact Below.refl _ _ | assumption | refine Below.alloc ?_ (by simp; try omega) _ | refine Below.drew ?_ | refine Below.setCell ?_ (by simp; try omega) _))⟩
  · have e : V.stor ⟨k, a, b, s⟩ = false := by unfold V.stor; rw [decide_eq_false (fun h => h1 h.1), Bool.false_and]
    rw [e]
    clear H
    unfold V.v at *
    go_enter Tryz.func39, Tryz.ntmps39
    go_wp2_with fail
    go_ret
    exact ⟨rfl, (by repeat (first | exact Below.refl _ _ | assumption | refine Below.alloc ?_ (by simp; try omega) _ | refine Below.drew ?_ | refine Below.setCell ?_ (by simp; try omega) _))⟩
end Go.Proofs.YtmbgjhmjmomnoaaGreatDoor.Va
