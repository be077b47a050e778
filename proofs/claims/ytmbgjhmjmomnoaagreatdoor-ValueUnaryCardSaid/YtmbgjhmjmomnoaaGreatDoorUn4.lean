/-
  Texts of this claim, joined in build order (Shv, Opw, Val, Unw, U8p, U8q, Ref, Prd, Run, Opr, Rop, Upto, Pl2, Shs).
-/
import Derived.Shelf.Unicode.ValidAny
import Derived.Test.YtmbgjhmjmomnoaaGreatDoorProg
import Derived.Test.YtmbgjhmjmomnoaaGreatDoorUn1
import Derived.Test.YtmbgjhmjmomnoaaGreatDoorUn3
import Derived.Lib.LaidU8T
import Derived.Test.YtmbgjhmjmomnoaaGreatDoorUn2
import Derived.Test.YtmbgjhmjmomnoaaGreatDoorPValueFormsx1
import Derived.Lib.DecodeN
import Derived.Lib.ValidU
import Derived.Lib.MapLaws
import Derived.Test.YtmbgjhmjmomnoaaGreatDoorPValueFormsx2
import Derived.Test.YtmbgjhmjmomnoaaGreatDoorPValueFormsx4
import Derived.Test.YtmbgjhmjmomnoaaGreatDoorQx6
import Derived.Test.YtmbgjhmjmomnoaaGreatDoorQx7
import Derived.Deep.MidRow
import Derived.Deep.Slices
import Derived.Carry
import Derived.OpenShut
import Derived.Deep.LoopGhost
import Derived.Test.YtmbgjhmjmomnoaaGreatDoorPValueFormsx0
import Derived.Shelf.LaysM
import Derived.Shelf.LaysC
import Derived.Shelf.Strings.Search3
import Derived.Shelf.Strings.Shaped
import Derived.Shelf.Strings.Prefix
import Derived.Ground.Names2Prog
/-
  DERIVED: THE SHELF's CONTRACTS AT THIS DUMP, IN PLAIN WORDS (tools/lay-plain.mjs out of 'YtmbgjhmjmomnoaaGreatDoorShv.lean', which tools/lay-shelf.mjs wrote): THE SAME DECLARATIONS UNDER THE SAME NAMES: 'import', 'namespace', 'open', 'def', 'theorem' AND NOTHING ELSE: no command of the shelf's: FOR A HAND-IN. Each laying: the table of numbers ('.._ren') and one theorem, a field a fact of the dump's own or the kernel's comparison; each contract: ONE APPLICATION.
-/
namespace Go.Proofs
open Go.Shelf
def Tryz.lays196_ren : Go.Shelf.Ren := ⟨fun | 196 => 88 | 259 => 126 | n => n, fun | 9 => 9 | 4 => 4 | 3 => 3 | 5 => 5 | 12 => 12 | 119 => 146 | 0 => 0 | 46 => 150 | 139 => 149 | 138 => 148 | 53 => 163 | n => n, fun | 3 => 0 | 4 => 1 | n => n⟩
theorem Tryz.lays196 : Go.Proofs.Lays.n196 Tryz.prog Tryz.lays196_ren := {
  mixed := by kernel_rfl
  f196 := Tryz.func88.trans (congrArg some (by kernel_rfl))
  f259 := Tryz.func126.trans (congrArg some (by kernel_rfl))
  t0 := Tryz.underlying0
  a0 := Tryz.isAgg0
  z0 := Tryz.sizeOf0
  v0 := Tryz.zeroValue0
  t3 := Tryz.underlying3
  a3 := Tryz.isAgg3
  z3 := Tryz.sizeOf3
  v3 := Tryz.zeroValue3
  t4 := Tryz.underlying4
  a4 := Tryz.isAgg4
  z4 := Tryz.sizeOf4
  v4 := Tryz.zeroValue4
  t5 := Tryz.underlying5
  a5 := Tryz.isAgg5
  z5 := Tryz.sizeOf5
  v5 := Tryz.zeroValue5
  t9 := Tryz.underlying9
  a9 := Tryz.isAgg9
  z9 := Tryz.sizeOf9
  v9 := Tryz.zeroValue9
  t12 := Tryz.underlying12
  a12 := Tryz.isAgg12
  z12 := Tryz.sizeOf12
  v12 := Tryz.zeroValue12
  t46 := Tryz.underlying150
  a46 := Tryz.isAgg150
  z46 := Tryz.sizeOf150
  v46 := Tryz.zeroValue150
  t53 := Tryz.underlying163
  a53 := Tryz.isAgg163
  z53 := Tryz.sizeOf163
  v53 := Tryz.zeroValue163
  t119 := Tryz.underlying146
  a119 := Tryz.isAgg146
  z119 := Tryz.sizeOf146
  t138 := Tryz.underlying148
  a138 := Tryz.isAgg148
  z138 := Tryz.sizeOf148
  v138 := Tryz.zeroValue148
  t139 := Tryz.underlying149
  a139 := Tryz.isAgg149
  z139 := Tryz.sizeOf149
  v139 := Tryz.zeroValue149
  g3 := by kernel_rfl
  g4 := by kernel_rfl }
end Go.Proofs

/-
  value.open of a string, and of every api.Val; value.Valid, value.Storable: what each returns.
-/
namespace Go.Proofs.YtmbgjhmjmomnoaaGreatDoor.Va
open Go.RowKit

/-- unicode/utf8's two tables hold what the library's text lays in them. -/
def Tabs (w : World) : Prop := Lib.Utf8Tabs (Tryz.lays196_ren.g 3) (Tryz.lays196_ren.g 4) w
theorem Tabs.below {W W' : World} (h : Tabs W) (hb : Below W.heap.size W W') : Tabs W' := Utf8Tabs_below h hb

theorem valid_string (s : ByteArray) (w : World) (hs : s.size ≤ 9223372036854775807) (hT : Tabs w) : Calls Tryz.prog 88 #[.string s] w fun e w' => e = .returned (.bool (Lib.validD s.data.toList)) ∧ Below w.heap.size w w' :=
  Any.utf8_ValidString Tryz.lays196 s w hs hT
theorem valid_string_yes (s : ByteArray) (w : World) (hs : s.size ≤ 32) (hv : Lib.validD s.data.toList = true) (hT : Tabs w) : Calls Tryz.prog 88 #[.string s] w fun e w' => e = .returned (.bool true) ∧ Below w.heap.size w w' :=
  (valid_string s w (by omega) hT).mono fun _ _ h => by rw [hv] at h; exact h
theorem valid_string_no (s : ByteArray) (w : World) (hs : s.size ≤ 32) (hv : Lib.validD s.data.toList = false) (hT : Tabs w) : Calls Tryz.prog 88 #[.string s] w fun e w' => e = .returned (.bool false) ∧ Below w.heap.size w w' :=
  (valid_string s w (by omega) hT).mono fun _ _ h => by rw [hv] at h; exact h

set_option maxRecDepth 100000 in
theorem open_long (a b : Int) (s : ByteArray) (w : World) (h : ¬ s.size ≤ 32) : Calls Tryz.prog 33 #[.agg #[.int .i64 4, .int .i64 a, .int .i64 b, .string s]] w fun e w' => e = .returned (.tuple #[.nilIface, .bool false]) ∧ Below w.heap.size w w' := by
  have hz : (32 : Int) < (s.size : Int) := by omega
  go_enter Tryz.func33, Tryz.ntmps33
  go_wp2_with fail
  all_goals
    go_ret2
    exact ⟨rfl, (by repeat (first | exact Below.refl _ _ | assumption | refine Below.alloc ?_ (by simp; try omega) _ | refine Below.drew ?_ | refine Below.setCell ?_ (by simp; try omega) _))⟩

set_option maxRecDepth 100000 in
theorem open_bad (a b : Int) (s : ByteArray) (w : World) (hs : s.size ≤ 32) (hv : Lib.validD s.data.toList = false) (hT : Tabs w) : Calls Tryz.prog 33 #[.agg #[.int .i64 4, .int .i64 a, .int .i64 b, .string s]] w fun e w' => e = .returned (.tuple #[.nilIface, .bool false]) ∧ Below w.heap.size w w' := by
  have hz : ¬ (32 : Int) < (s.size : Int) := by omega
  have Hv := Lib.hid (fun W h => valid_string_no s W hs hv h)
  have HT := Lib.hid (fun (o : Obj) => hT.below ((Below.refl _ _).alloc (Nat.le_refl _) o))
  clear hT hv
  go_enter Tryz.func33, Tryz.ntmps33
  go_wp2_with (go_at_call 88; refine (Hv.out _ (HT.out _)).mono ?_; rintro e w1 ⟨rfl, hb⟩; obtain ⟨h1, h2⟩ := bcell hb; have hz : w.heap.size + 1 ≤ w1.heap.size := by have := hb.size; simpa using this)
  all_goals
    go_ret2
    have hb' : Below w.heap.size w w1 := (((Below.refl _ w).alloc (Nat.le_refl _) _)).trans (hb.mono (by simp))
    exact ⟨rfl, (by repeat (first | exact Below.refl _ _ | assumption | refine Below.alloc ?_ (by simp; try omega) _ | refine Below.drew ?_ | refine Below.setCell ?_ (by simp; try omega) _))⟩

set_option maxRecDepth 100000 in
theorem open_wrd (a b : Int) (s : ByteArray) (w : World) (hs : s.size ≤ 32) (hv : Lib.validD s.data.toList = true) (hT : Tabs w) : Calls Tryz.prog 33 #[.agg #[.int .i64 4, .int .i64 a, .int .i64 b, .string s]] w fun e w' => e = .returned (.tuple #[Dat.v (.wrd s), .bool (V.eqB (V.mk 4 0 0 s) (V.mk 4 a b s))]) ∧ Below w.heap.size w w' := by
  have hz : ¬ (32 : Int) < (s.size : Int) := by omega
  have Hu := Lib.hid (fun W h => valid_string_yes s W hs hv h)
  have HT := Lib.hid (fun (o : Obj) => hT.below ((Below.refl _ _).alloc (Nat.le_refl _) o))
  clear hT hv
  have hm := meth_val (.wrd s)
  have hc := callFunc_val (.wrd s)
  have hv := val_any (.wrd s)
  have he := eql_val
  simp only [Dat.t, Dat.x, Dat.fval, Dat.val, V.v] at hm hc hv
  have Hv := Lib.hid hv
  clear hv
  unfold Dat.v Dat.t Dat.x
  go_enter Tryz.func33, Tryz.ntmps33
  go_wp2_with (go_at_call 88; refine (Hu.out _ (HT.out _)).mono ?_; rintro e w0 ⟨rfl, hb0⟩; have B0 := Lib.hid ((Box.new w 4 a b s _).keep hb0).drew; obtain ⟨c0, c1, c2, c3, f0, f1, f2, f3⟩ := (Box.new w 4 a b s _).keep hb0; have hz0 : w.heap.size + 1 ≤ w0.heap.size := (by have := hb0.size; simpa using this))
  go_region_with (first | (go_at_call 162; refine (Hv.out _).mono ?_; rintro e w1 ⟨rfl, hb⟩; obtain ⟨d0, d1, d2, d3, e0, e1, e2, e3⟩ := B0.out.keep hb; have hz1 : w.heap.size + 1 ≤ w1.heap.size := Nat.le_trans hz0 (by have := hb.size; simpa using this)))
  all_goals
    go_wp2
    go_ret2
    refine ⟨rfl, ?_⟩
    have hb' : Below w.heap.size w w1 := ((((Below.refl _ w).alloc (Nat.le_refl _) _)).trans (hb0.mono (by simp))).drew.trans (hb.mono (by simp; omega))
    exact (by repeat (first | exact Below.refl _ _ | assumption | refine Below.alloc ?_ (by simp; try omega) _ | refine Below.drew ?_ | refine Below.setCell ?_ (by simp; try omega) _))
end Go.Proofs.YtmbgjhmjmomnoaaGreatDoor.Va

/-
  value.open at every api.Val; value.Valid, value.Storable: what each returns, where unicode/utf8's two tables hold what the library's text lays in them.
-/
namespace Go.Proofs.YtmbgjhmjmomnoaaGreatDoor.Va
open Go.RowKit

/-- What an api.Val stands for, if its kind and its numbers allow one. -/
def V.dat (x : V) : Option Dat :=
  if x.k = 0 then some .nul
  else if x.k = 1 then some (.tru (x.a == 1))
  else if x.k = 2 then some (.whl x.a)
  else if x.k = 3 then if (-33554432 ≤ x.a ∧ x.a ≤ 33554432) ∧ (-33554432 ≤ x.b ∧ x.b ≤ 33554432) then some (.pln x.a x.b) else none
  else if x.k = 4 then if x.s.size ≤ 32 ∧ Lib.validD x.s.data.toList = true then some (.wrd x.s) else none
  else if x.k = 5 then if x.a = 0 then none else some (.nod x.a)
  else if x.k = 6 then if x.a = 0 then none else some (.edg x.a)
  else none

/-- Is it a value? -/
def V.ok (x : V) : Bool := match x.dat with | none => false | some d => V.eqB d.val x
/-- The datum that open hands out. -/
def V.opened (x : V) : Value := match x.dat with | none => .nilIface | some d => d.v

theorem V.ok_none {x : V} (h : x.dat = none) : x.ok = false := by unfold V.ok; rw [h]
theorem V.ok_some {x : V} {d : Dat} (h : x.dat = some d) : x.ok = V.eqB d.val x := by unfold V.ok; rw [h]
theorem V.opened_none {x : V} (h : x.dat = none) : x.opened = .nilIface := by unfold V.opened; rw [h]
theorem V.opened_some {x : V} {d : Dat} (h : x.dat = some d) : x.opened = d.v := by unfold V.opened; rw [h]

theorem open_some {x : V} {d : Dat} {w : World} (h : x.dat = some d) (hc : Calls Tryz.prog 33 #[x.v] w fun e w' => e = .returned (.tuple #[d.v, .bool (V.eqB d.val x)]) ∧ Below w.heap.size w w') : Calls Tryz.prog 33 #[x.v] w fun e w' => e = .returned (.tuple #[x.opened, .bool x.ok]) ∧ Below w.heap.size w w' := by
  rw [V.opened_some h, V.ok_some h]; exact hc
theorem open_none {x : V} {w : World} (h : x.dat = none) (hc : Calls Tryz.prog 33 #[x.v] w fun e w' => e = .returned (.tuple #[.nilIface, .bool false]) ∧ Below w.heap.size w w') : Calls Tryz.prog 33 #[x.v] w fun e w' => e = .returned (.tuple #[x.opened, .bool x.ok]) ∧ Below w.heap.size w w' := by
  rw [V.opened_none h, V.ok_none h]; exact hc

theorem open_any (x : V) (w : World) (hT : Tabs w) : Calls Tryz.prog 33 #[x.v] w fun e w' => e = .returned (.tuple #[x.opened, .bool x.ok]) ∧ Below w.heap.size w w' := by
  obtain ⟨k, a, b, s⟩ := x
  by_cases h0 : k = 0
  · subst h0
    exact open_some (x := ⟨0, a, b, s⟩) (d := .nul) (by unfold V.dat; exact if_pos rfl) (open_nul a b s w)
  by_cases h1 : k = 1
  · subst h1
    by_cases ha : a = 1
    · refine open_some (x := ⟨1, a, b, s⟩) (d := .tru true) ?_ (open_tru1 a b s w ha)
      unfold V.dat; rw [if_neg (by simp), if_pos rfl, ha]; rfl
    · have hb : (a == 1) = false := by simpa using ha
      refine open_some (x := ⟨1, a, b, s⟩) (d := .tru false) ?_ (open_tru0 a b s w hb)
      unfold V.dat; rw [if_neg (by simp), if_pos rfl]; simp only [hb]
  by_cases h2 : k = 2
  · subst h2
    refine open_some (x := ⟨2, a, b, s⟩) (d := .whl a) ?_ (open_whl a b s w)
    unfold V.dat; rw [if_neg (by simp), if_neg (by simp), if_pos rfl]
  by_cases h3 : k = 3
  · subst h3
    have e : V.dat ⟨3, a, b, s⟩ = if (-33554432 ≤ a ∧ a ≤ 33554432) ∧ (-33554432 ≤ b ∧ b ≤ 33554432) then some (.pln a b) else none := by
      unfold V.dat; rw [if_neg (by simp), if_neg (by simp), if_neg (by simp), if_pos rfl]
    by_cases ha : -33554432 ≤ a ∧ a ≤ 33554432
    · by_cases hb : -33554432 ≤ b ∧ b ≤ 33554432
      · exact open_some (x := ⟨3, a, b, s⟩) (d := .pln a b) (by rw [e, if_pos ⟨ha, hb⟩]) (open_pln a b s w ha hb)
      · exact open_none (x := ⟨3, a, b, s⟩) (by rw [e, if_neg (fun h => hb h.2)]) (open_pln_b a b s w ha hb)
    · exact open_none (x := ⟨3, a, b, s⟩) (by rw [e, if_neg (fun h => ha h.1)]) (open_pln_a a b s w ha)
  by_cases h4 : k = 4
  · subst h4
    have e : V.dat ⟨4, a, b, s⟩ = if s.size ≤ 32 ∧ Lib.validD s.data.toList = true then some (.wrd s) else none := by
      unfold V.dat; rw [if_neg (by simp), if_neg (by simp), if_neg (by simp), if_neg (by simp), if_pos rfl]
    by_cases ha : s.size ≤ 32
    · cases hb : Lib.validD s.data.toList with
      | true => exact open_some (x := ⟨4, a, b, s⟩) (d := .wrd s) (by rw [e, if_pos ⟨ha, hb⟩]) (open_wrd a b s w ha hb hT)
      | false => exact open_none (x := ⟨4, a, b, s⟩) (by rw [e, if_neg (fun h => by rw [hb] at h; exact absurd h.2 (by decide))]) (open_bad a b s w ha hb hT)
    · exact open_none (x := ⟨4, a, b, s⟩) (by rw [e, if_neg (fun h => ha h.1)]) (open_long a b s w ha)
  by_cases h5 : k = 5
  · subst h5
    have e : V.dat ⟨5, a, b, s⟩ = if a = 0 then none else some (.nod a) := by
      unfold V.dat; rw [if_neg (by simp), if_neg (by simp), if_neg (by simp), if_neg (by simp), if_neg (by simp), if_pos rfl]
    by_cases ha : a = 0
    · exact open_none (x := ⟨5, a, b, s⟩) (by rw [e, if_pos ha]) (open_nod0 a b s w ha)
    · exact open_some (x := ⟨5, a, b, s⟩) (d := .nod a) (by rw [e, if_neg ha]) (open_nod a b s w (by simpa using ha))
  by_cases h6 : k = 6
  · subst h6
    have e : V.dat ⟨6, a, b, s⟩ = if a = 0 then none else some (.edg a) := by
      unfold V.dat; rw [if_neg (by simp), if_neg (by simp), if_neg (by simp), if_neg (by simp), if_neg (by simp), if_neg (by simp), if_pos rfl]
    by_cases ha : a = 0
    · exact open_none (x := ⟨6, a, b, s⟩) (by rw [e, if_pos ha]) (open_edg0 a b s w ha)
    · exact open_some (x := ⟨6, a, b, s⟩) (d := .edg a) (by rw [e, if_neg ha]) (open_edg a b s w (by simpa using ha))
  refine open_none (x := ⟨k, a, b, s⟩) ?_ (open_no a b s k w (by simpa using h0) (by simpa using h1) (by simpa using h2) (by simpa using h3) (by simpa using h4) (by simpa using h5) (by simpa using h6))
  unfold V.dat
  rw [if_neg h0, if_neg h1, if_neg h2, if_neg h3, if_neg h4, if_neg h5, if_neg h6]

set_option maxRecDepth 100000 in
theorem valid_any (x : V) (w : World) (hT : Tabs w) : Calls Tryz.prog 38 #[x.v] w fun e w' => e = .returned (.bool x.ok) ∧ Below w.heap.size w w' := by
  have H := Lib.hid (fun (o : Obj) => open_any x (w.alloc o) (hT.below ((Below.refl _ _).alloc (Nat.le_refl _) o)))
  clear hT
  obtain ⟨k, a, b, s⟩ := x
  generalize V.ok _ = r at *
  generalize V.opened _ = q at *
  unfold V.v at *
  go_enter Tryz.func38, Tryz.ntmps38
  go_wp2_with (go_at_call 33; refine (H.out _).mono ?_; rintro e w1 ⟨rfl, hb⟩)
  have hb' : Below w.heap.size w w1 := ((Below.refl _ w).alloc (Nat.le_refl _) _).trans (hb.mono (by simp))
  go_ret
  exact ⟨rfl, hb'⟩

/-- Is it a value that a property can have? -/
def V.stor (x : V) : Bool := decide (1 ≤ x.k ∧ x.k ≤ 4) && x.ok

set_option maxRecDepth 100000 in
theorem storable_any (x : V) (w : World) (hT : Tabs w) : Calls Tryz.prog 39 #[x.v] w fun e w' => e = .returned (.bool x.stor) ∧ Below w.heap.size w w' := by
  have H := Lib.hid (fun (o : Obj) => valid_any x (w.alloc o) (hT.below ((Below.refl _ _).alloc (Nat.le_refl _) o)))
  clear hT
  obtain ⟨k, a, b, s⟩ := x
  by_cases h1 : 1 ≤ k
  · by_cases h2 : k ≤ 4
    · have e : V.stor ⟨k, a, b, s⟩ = V.ok ⟨k, a, b, s⟩ := by unfold V.stor; rw [decide_eq_true ⟨h1, h2⟩, Bool.true_and]
      rw [e]
      generalize V.ok _ = r at *
      unfold V.v at *
      go_enter Tryz.func39, Tryz.ntmps39
      go_wp2_with (go_at_call 38; refine (H.out _).mono ?_; rintro e w1 ⟨rfl, hb⟩)
      have hb' : Below w.heap.size w w1 := ((Below.refl _ w).alloc (Nat.le_refl _) _).trans (hb.mono (by simp))
      go_ret
      exact ⟨rfl, hb'⟩
    · have e : V.stor ⟨k, a, b, s⟩ = false := by unfold V.stor; rw [decide_eq_false (fun h => h2 h.2), Bool.false_and]
      rw [e]
      clear H
      unfold V.v at *
      go_enter Tryz.func39, Tryz.ntmps39
      go_wp2_with fail
      go_ret
      exact ⟨rfl, (by repeat (first | exact Below.refl _ _ | assumption | refine Below.alloc ?_ (by simp; try omega) _ | refine Below.drew ?_ | refine Below.setCell ?_ (by simp; try omega) _))⟩
  · have e : V.stor ⟨k, a, b, s⟩ = false := by unfold V.stor; rw [decide_eq_false (fun h => h1 h.1), Bool.false_and]
    rw [e]
    clear H
    unfold V.v at *
    go_enter Tryz.func39, Tryz.ntmps39
    go_wp2_with fail
    go_ret
    exact ⟨rfl, (by repeat (first | exact Below.refl _ _ | assumption | refine Below.alloc ?_ (by simp; try omega) _ | refine Below.drew ?_ | refine Below.setCell ?_ (by simp; try omega) _))⟩
end Go.Proofs.YtmbgjhmjmomnoaaGreatDoor.Va

/-
  The method unary of a string; value.Unary at every operation and every api.Val.
-/
namespace Go.Proofs.YtmbgjhmjmomnoaaGreatDoor.Va
open Go.RowKit

theorem width_pos (s : ByteArray) (pos : Nat) (h : pos < s.size) : 1 ≤ (Utf8.decode s pos).2 := by
  by_cases ha : (s[pos]'h).toNat < 128
  · rw [decode_ascii s pos h ha]
    exact Nat.le_refl _
  · exact (decode_high s pos h (by omega)).2

theorem width_le (s : ByteArray) (i : Nat) (h : i < s.size) : i + (Utf8.decode s i).2 ≤ s.size := by
  have hsz := Lib.size_eq s
  have hne : s.data.toList.drop i ≠ [] := by
    intro h'
    have := congrArg List.length h'
    simp only [List.length_drop, List.length_nil] at this
    omega
  have hle := Lib.decodeL_le _ hne
  rw [Lib.decodeL_drop s i] at hle
  simp only [List.length_drop] at hle
  omega

set_option maxRecDepth 100000 in
set_option maxHeartbeats 1600000 in
theorem unary_len (s : ByteArray) (hs : s.size ≤ 1099511627776) (w : World) : Calls Tryz.prog 244 #[.string s, .int .i64 7] w (Ans (.tuple #[Dat.v (.whl (runes s)), .int .i64 0]) w) := by
  go_enter Tryz.func244, Tryz.ntmps244
  go_wp2_with fail
  go_loopw [6] (fun i wr => ∃ pos fuel c : Nat, i = .int .i64 c ∧ wr.heap[w.heap.size]? = some (.stringIter s pos) ∧ Below w.heap.size w wr ∧ c + cnt s fuel pos = runes s ∧ s.size ≤ pos + fuel ∧ c ≤ pos ∧ pos ≤ s.size) (fun _ wr => s.size - wr.iterPos w.heap.size)
  case atStart =>
    refine ⟨0, s.size, 0, rfl, ?_, (Below.refl _ w).alloc (Nat.le_refl _) _, by unfold runes; omega, by omega, by omega, by omega⟩
    have := World.iter_heap w s 0
    simpa using this
  case round =>
    obtain ⟨pos, fuel, c, rfl, hit, hbw, hc, hfu, hcp, hps⟩ := hrel
    by_cases hp : pos < s.size
    · have hnx : ∀ ty, (Instr.next (.pointer (some ⟨w.heap.size, 0, none⟩)) true ty).run Tryz.prog wr = _ := fun ty => Lib.run_next_any_at wr w.heap.size s pos ty hit hp
      have hwd := width_pos s pos hp
      have hwl := width_le s pos hp
      have hit2 := Lib.iterAt_heap wr w.heap.size s pos (pos + (Utf8.decode s pos).2) hit
      have hbw2 := Lib.below_iterAt hbw (k := w.heap.size) (by omega) s (pos + (Utf8.decode s pos).2)
      obtain ⟨f, rfl⟩ : ∃ f, fuel = f + 1 := ⟨fuel - 1, by omega⟩
      have hcs : cnt s (f + 1) pos = 1 + cnt s f (pos + (Utf8.decode s pos).2) := by simp [cnt, hp]
      rw [hcs] at hc
      clear hcs
      go_wp2_with fail
      go_roundw
      case rel => exact ⟨pos + (Utf8.decode s pos).2, f, c + 1, by go_num, hit2, hbw2, by omega, by omega, by omega, by omega⟩
      case measure =>
        simp only [World.iterPos, hit2, hit]
        omega
    · have hnx : ∀ ty, (Instr.next (.pointer (some ⟨w.heap.size, 0, none⟩)) true ty).run Tryz.prog wr = _ := fun ty => Lib.run_next_end_at wr w.heap.size s pos ty hit hp
      have hc0 := cnt_end s fuel pos hp
      rw [hc0] at hc
      obtain rfl : c = runes s := by omega
      go_wp2_with fail
      go_ret2
      exact ⟨rfl, hbw⟩

/-- The numbers of a datum lie in their ranges. -/
def Dat.Wide : Dat → Prop
  | .whl n => I64 n
  | .pln a b => Part a ∧ Part b
  | .wrd s => s.size ≤ 32
  | _ => True

theorem un_any (d : Dat) (hd : d.Wide) (op : Int) (w : World) : Calls Tryz.prog d.funary #[d.x, .int .i64 op] w (Ans (.tuple #[(d.un op).rv, .int .i64 (d.un op).e]) w) := by
  cases d with
  | nul => exact unary_nul op w
  | tru b =>
    by_cases h : op = 2
    · subst h
      exact unary_not b w
    · have e : (Dat.tru b).un op = .err 10 := if_neg h
      rw [e]
      exact unary_tru_no b op (by simpa using h) w
  | whl n => exact unary_whl op n hd w
  | pln a b => exact unary_pln op a b hd.1 hd.2 w
  | wrd s =>
    have hd' : s.size ≤ 32 := hd
    by_cases h : op = 7
    · subst h
      exact unary_len s (by omega) w
    · have e : (Dat.wrd s).un op = .err 10 := if_neg h
      rw [e]
      have hb : (op == 7) = false := by simpa using h
      have hb' : (op != 7) = true := by simpa using h
      clear hd hd' e h
      go_enter Tryz.func244, Tryz.ntmps244
      go_wp2_with fail
      go_ret2
      exact ⟨rfl, (by repeat (first | exact Below.refl _ _ | assumption | refine Below.alloc ?_ (by simp; try omega) _ | refine Below.drew ?_ | refine Below.setCell ?_ (by simp; try omega) _))⟩
  | nod n => exact unary_nod op n w
  | edg n => exact unary_edg op n w

theorem V.dat_wide {x : V} {d : Dat} (hx : I64 x.a) (h : x.dat = some d) : d.Wide := by
  unfold V.dat at h
  split at h
  · obtain rfl := Option.some.inj h; trivial
  split at h
  · obtain rfl := Option.some.inj h; trivial
  split at h
  · obtain rfl := Option.some.inj h; exact hx
  split at h
  · split at h
    · rename_i hp
      obtain rfl := Option.some.inj h
      exact hp
    · cases h
  split at h
  · split at h
    · rename_i hp
      obtain rfl := Option.some.inj h
      exact hp.1
    · cases h
  split at h
  · split at h
    · cases h
    · obtain rfl := Option.some.inj h; trivial
  split at h
  · split at h
    · cases h
    · obtain rfl := Option.some.inj h; trivial
  · cases h

/-- What Unary answers. -/
def unV (op : Int) (x : V) : Res := match x.dat with | none => .err 16 | some d => d.un op
def unS (op : Int) (x : V) : Res := if op < 1 ∨ 8 < op then .err 1 else if x.ok = true then unV op x else .err 16
theorem unV_some {op : Int} {x : V} {d : Dat} (h : x.dat = some d) : unV op x = d.un op := by unfold unV; rw [h]

set_option maxRecDepth 100000 in
theorem Unary_any (op : Int) (x : V) (hx : I64 x.a) (w : World) (hT : Tabs w) : Calls Tryz.prog 22 #[.int .i64 op, x.v] w (Ans (.tuple #[(unS op x).v.v, .int .i64 (unS op x).e]) w) := by
  by_cases hop : op < 1 ∨ 8 < op
  · rw [show unS op x = .err 1 from if_pos hop]
    clear hT
    obtain ⟨k, a, b, s⟩ := x
    unfold V.v
    rcases hop with h | h
    · go_enter Tryz.func22, Tryz.ntmps22
      go_wp2_with fail
      refine bodyPost_ret (v := .tuple #[V.null.v, .int .i64 1]) (by simp [results, Tryz.results22, go_sem]; try rfl) rfl ⟨rfl, ?_⟩
      exact (by repeat (first | exact Below.refl _ _ | assumption | refine Below.alloc ?_ (by simp; try omega) _ | refine Below.drew ?_ | refine Below.setCell ?_ (by simp; try omega) _))
    · have h' : ¬ op < 1 := by omega
      go_enter Tryz.func22, Tryz.ntmps22
      go_wp2_with fail
      refine bodyPost_ret (v := .tuple #[V.null.v, .int .i64 1]) (by simp [results, Tryz.results22, go_sem]; try rfl) rfl ⟨rfl, ?_⟩
      exact (by repeat (first | exact Below.refl _ _ | assumption | refine Below.alloc ?_ (by simp; try omega) _ | refine Below.drew ?_ | refine Below.setCell ?_ (by simp; try omega) _))
  have h1 : ¬ op < 1 := fun h => hop (.inl h)
  have h2 : ¬ 8 < op := fun h => hop (.inr h)
  have HO := Lib.hid (fun (o o' : Obj) => open_any x ((w.alloc o).alloc o') (hT.below (((Below.refl _ _).alloc (Nat.le_refl _) o).alloc (by simp) o')))
  clear hT
  by_cases hk : x.ok = true
  · rw [show unS op x = unV op x from by unfold unS; rw [if_neg hop, if_pos hk]]
    rw [hk] at HO
    cases hd : x.dat with
    | none => rw [V.ok_none hd] at hk; cases hk
    | some d =>
      rw [unV_some hd]
      rw [V.opened_some hd] at HO
      have hg := d.un_good op
      have HU := Lib.hid (fun w => un_any d (V.dat_wide hx hd) op w)
      have HA := Lib.hid (fun w => answer_res (d.un op) hg w)
      clear hk hd hop hx hg
      have hm := meth_unary d
      have hc := callFunc_unary d op
      unfold Dat.v at *
      generalize d.un op = r at *
      generalize r.rv = rv at *
      generalize r.e = ee at *
      generalize r.v = o at *
      generalize d.t = tt at *
      generalize d.x = xx at *
      generalize d.funary = ff at *
      obtain ⟨k, a, b, s⟩ := x
      obtain ⟨ok, oa, ob, os⟩ := o
      unfold V.v at *
      go_enter Tryz.func22, Tryz.ntmps22
      go_wp2_with fail
      refine (HO.out _ _).mono ?_
      rintro e w1 ⟨rfl, hb1⟩
      obtain ⟨c1, f1⟩ := bcell hb1
      go_wp2_with fail
      refine (HU.out _).mono ?_
      rintro e w2 ⟨rfl, hb2⟩
      have hb12 := hb1.trans (hb2.mono hb1.size)
      clear c1 f1
      obtain ⟨c2, f2⟩ := bcell hb12
      go_wp2_with fail
      refine (HA.out _).mono ?_
      rintro e w3 ⟨rfl, hb3⟩
      have hb13 := hb12.trans (hb3.mono hb12.size)
      clear c2 f2
      obtain ⟨c3, f3⟩ := bcell hb13
      have z3 : w.heap.size + 2 ≤ w3.heap.size := by have := hb13.size; simpa using this
      go_wp2
      have hb' : Below w.heap.size w w3 := (((Below.refl _ w).alloc (Nat.le_refl _) _).alloc (by simp) _).trans (hb13.mono (by simp; try omega))
      refine bodyPost_ret (v := .tuple #[(V.mk ok oa ob os).v, .int .i64 ee]) (by simp [results, Tryz.results22, go_sem, c3]; try rfl) rfl ⟨rfl, ?_⟩
      exact (by repeat (first | exact Below.refl _ _ | assumption | refine Below.alloc ?_ (by simp; try omega) _ | refine Below.drew ?_ | refine Below.setCell ?_ (by simp; try omega) _))
  · rw [show unS op x = .err 16 from by unfold unS; rw [if_neg hop, if_neg hk]]
    rw [Bool.not_eq_true] at hk
    rw [hk] at HO
    generalize x.opened = q at *
    clear hop hx hk
    obtain ⟨k, a, b, s⟩ := x
    unfold V.v at *
    go_enter Tryz.func22, Tryz.ntmps22
    go_wp2_with fail
    refine (HO.out _ _).mono ?_
    rintro e w1 ⟨rfl, hb1⟩
    obtain ⟨c1, f1⟩ := bcell hb1
    have z3 : w.heap.size + 2 ≤ w1.heap.size := by have := hb1.size; simpa using this
    go_wp2_with fail
    have hb' : Below w.heap.size w w1 := (((Below.refl _ w).alloc (Nat.le_refl _) _).alloc (by simp) _).trans (hb1.mono (by simp; try omega))
    refine bodyPost_ret (v := .tuple #[V.null.v, .int .i64 16]) (by simp [results, Tryz.results22, go_sem, c1]; try rfl) rfl ⟨rfl, ?_⟩
    exact (by repeat (first | exact Below.refl _ _ | assumption | refine Below.alloc ?_ (by simp; try omega) _ | refine Below.drew ?_ | refine Below.setCell ?_ (by simp; try omega) _))
end Go.Proofs.YtmbgjhmjmomnoaaGreatDoor.Va

/-
  The document's point: it tells what the model's decoder tells.
-/
namespace Go.Proofs.YtmbgjhmjmomnoaaGreatDoor.Va
open Go.RowKit Go.Proofs.YtmbgjhmjmomnoaaGreatDoor.PValueForms Go.Proofs.YtmbgjhmjmomnoaaGreatDoorW.PrintWords

theorem bt_get (s : ByteArray) (i : Nat) (h : i < s.size) : bt s (i : Int) = ((s.get! i).toNat : Int) := by
  obtain ⟨d⟩ := s
  have h' : i < d.size := h
  have e : (i : Int).toNat = i := by omega
  unfold bt
  simp only [e]
  rw [dif_pos h]
  show ((d[i]'h').toNat : Int) = ((d[i]!).toNat : Int)
  rw [getElem!_pos d i h']

theorem l0_step (k : Nat) (s : ByteArray) (i j : Nat) (c n low : Int) (hs : s.size ≤ 1099511627776) (hi : i + j < s.size) (hj : (j : Int) < n) (hj3 : j ≤ 3) (hc : 0 ≤ c ∧ c ≤ 1073741824) :
    trellisref1_point.l0 (k + 1) s i c n low j = if 128 ≤ bt s ((i + j : Nat) : Int) ∧ bt s ((i + j : Nat) : Int) < 192 then trellisref1_point.l0 k s i (c * 64 + bt s ((i + j : Nat) : Int) - 128) n low ((j + 1 : Nat) : Int) else some (0, 0) := by
  have hb := bt_range s ((i + j : Nat) : Int)
  simp only [trellisref1_point.l0]
  rw [if_pos hj]
  have e : wrap64 ((i : Int) + (j : Int)) = ((i + j : Nat) : Int) := by unfold wrap64; omega
  rw [e, if_pos (by omega), if_pos (by omega)]
  generalize bt s ((i + j : Nat) : Int) = b at *
  have eb : wrap64 b = b := by unfold wrap64; omega
  have e1 : wrap64 (c * 64) = c * 64 := by unfold wrap64; omega
  have e2 : wrap64 (c * 64 + b) = c * 64 + b := by unfold wrap64; omega
  have e3 : wrap64 (c * 64 + b - 128) = c * 64 + b - 128 := by unfold wrap64; omega
  have e4 : wrap64 ((j : Int) + 1) = ((j + 1 : Nat) : Int) := by unfold wrap64; omega
  rw [eb, e1, e2, e3, e4]
  by_cases g1 : b < 128
  · rw [if_pos g1, if_neg (by omega)]
  · rw [if_neg g1]
    by_cases g2 : b ≥ 192
    · rw [if_pos g2, if_neg (by omega)]
    · rw [if_neg g2, if_pos (by omega)]
theorem l0_end (k : Nat) (s : ByteArray) (i : Int) (c n low : Int) :
    trellisref1_point.l0 (k + 1) s i c n low n = if c < low ∨ c > 1114111 ∨ (55296 ≤ c ∧ c < 57344) then some (0, 0) else some (c, n) := by
  simp only [trellisref1_point.l0]
  rw [if_neg (by omega)]
  by_cases g1 : c < low
  · rw [if_pos g1, if_pos (.inl g1)]
  · rw [if_neg g1]
    by_cases g2 : c > 1114111
    · rw [if_pos g2, if_pos (.inr (.inl g2))]
    · rw [if_neg g2]
      by_cases g3 : c ≥ 55296
      · rw [if_pos g3]
        by_cases g4 : c < 57344
        · rw [if_pos g4, if_pos (.inr (.inr ⟨g3, g4⟩))]
        · rw [if_neg g4, if_neg (by omega)]
      · rw [if_neg g3, if_neg (by omega)]

/-- What the document's point makes of the decoder's answer. -/
def ptOf (d : Nat × Nat) : Int × Int := if d.1 = 65533 ∧ d.2 = 1 then (0, 0) else ((d.1 : Int), (d.2 : Int))

theorem point_is (s : ByteArray) (hs : s.size ≤ 1099511627776) (i : Nat) (hi : i < s.size) (k : Nat) : trellisref1_point.f (k + 10) s i = some (ptOf (Utf8.decode s i)) := by
  rw [Lib.decode_at]
  have r0 : ((s.get! i).toNat : Int) < 256 := by have := (s.get! i).toNat_lt; omega
  have q0 := bt_get s i hi
  have q1 := fun h => bt_get s (i + 1) h
  have q2 := fun h => bt_get s (i + 2) h
  have q3 := fun h => bt_get s (i + 3) h
  have r1 := (s.get! (i + 1)).toNat_lt
  have r2 := (s.get! (i + 2)).toNat_lt
  have r3 := (s.get! (i + 3)).toNat_lt
  generalize (s.get! i).toNat = b0 at *
  generalize (s.get! (i + 1)).toNat = b1 at *
  generalize (s.get! (i + 2)).toNat = b2 at *
  generalize (s.get! (i + 3)).toNat = b3 at *
  simp only [trellisref1_point.f]
  rw [if_pos (by omega), if_pos (by omega), q0]
  have e0 : wrap64 (b0 : Int) = (b0 : Int) := by unfold wrap64; omega
  rw [e0]
  have eb : ∀ n : Int, 0 ≤ n → n ≤ 4 → wrap64 ((i : Int) + n) = (i : Int) + n := fun n h1 h2 => by unfold wrap64; omega
  by_cases h1 : b0 < 128
  · rw [if_pos (by omega)]
    simp only [Lib.decodeN, if_pos h1, ptOf]
    rw [if_neg (by omega)]; rfl
  rw [if_neg (by omega)]
  by_cases h2 : b0 < 192
  · rw [if_neg (by omega)]
    rw [show trellisref1_point.j0 (k + 10) s i b0 false = trellisref1_point.j1 (k + 9) s i b0 false by simp only [trellisref1_point.j0]; rw [if_neg (by simp), if_neg (by omega)]]
    rw [show trellisref1_point.j1 (k + 9) s i b0 false = some (0, 0) by simp only [trellisref1_point.j1]; rw [if_neg (by simp), if_neg (by omega)]]
    simp only [Lib.decodeN, if_neg h1]
    rw [if_neg (by omega), if_neg (by omega), if_neg (by omega)]; rfl
  rw [if_pos (by omega)]
  simp only [trellisref1_point.j0]
  by_cases h3 : b0 < 224
  · rw [decide_eq_true (by omega), if_pos rfl]
    have ew : wrap64 ((b0 : Int) - 192) = (b0 : Int) - 192 := by unfold wrap64; omega
    simp only [trellisref1_point.j2, ew, eb 2 (by omega) (by omega)]
    by_cases g : (i : Int) + 2 > (s.size : Int)
    · rw [if_pos g]
      simp only [Lib.decodeN, if_neg h1]
      rw [if_neg (by omega), if_neg (by omega), if_neg (by omega)]; rfl
    · rw [if_neg g]
      have l1 := l0_step (k + 7) s i 1 ((b0 : Int) - 192) 2 128 hs (by omega) (by omega) (by omega) (by omega)
      rw [show (1 : Int) = ((1 : Nat) : Int) from rfl, l1, q1 (by omega)]
      by_cases c1 : 128 ≤ (b1 : Int) ∧ (b1 : Int) < 192
      · rw [if_pos c1, show (((1 + 1 : Nat) : Int)) = 2 from rfl, l0_end]
        generalize hz : ((b0 : Int) - 192) * 64 + (b1 : Int) - 128 = z
        by_cases v : z < 128 ∨ z > 1114111 ∨ (55296 ≤ z ∧ z < 57344)
        · rw [if_pos v]
          simp only [Lib.decodeN, if_neg h1]
          rw [if_pos (by omega), if_neg (by omega)]; rfl
        · rw [if_neg v]
          simp only [Lib.decodeN, if_neg h1]
          rw [if_pos (by omega), if_pos (by omega)]
          simp only [ptOf]
          rw [if_neg (by omega)]
          refine congrArg some (Prod.ext ?_ rfl)
          show _ = ((_ : Nat) : Int)
          omega
      · rw [if_neg c1]
        simp only [Lib.decodeN, if_neg h1]
        rw [if_neg (by omega), if_neg (by omega), if_neg (by omega)]; rfl
  rw [decide_eq_false (by omega), if_neg (by simp), if_pos (by omega)]
  simp only [trellisref1_point.j1]
  by_cases h4 : b0 < 240
  · rw [decide_eq_true (by omega), if_pos rfl]
    have ew : wrap64 ((b0 : Int) - 224) = (b0 : Int) - 224 := by unfold wrap64; omega
    simp only [trellisref1_point.j2, ew, eb 3 (by omega) (by omega)]
    by_cases g : (i : Int) + 3 > (s.size : Int)
    · rw [if_pos g]
      simp only [Lib.decodeN, if_neg h1]
      rw [if_neg (by omega), if_neg (by omega), if_neg (by omega)]; rfl
    · rw [if_neg g]
      have l1 := l0_step (k + 6) s i 1 ((b0 : Int) - 224) 3 2048 hs (by omega) (by omega) (by omega) (by omega)
      rw [show (1 : Int) = ((1 : Nat) : Int) from rfl, l1, q1 (by omega)]
      by_cases c1 : 128 ≤ (b1 : Int) ∧ (b1 : Int) < 192
      · rw [if_pos c1, l0_step (k + 5) s i 2 _ 3 2048 hs (by omega) (by omega) (by omega) (by omega), q2 (by omega)]
        by_cases c2 : 128 ≤ (b2 : Int) ∧ (b2 : Int) < 192
        · rw [if_pos c2, show (((2 + 1 : Nat) : Int)) = 3 from rfl, l0_end]
          generalize hz : (((b0 : Int) - 224) * 64 + (b1 : Int) - 128) * 64 + (b2 : Int) - 128 = z
          by_cases v : z < 2048 ∨ z > 1114111 ∨ (55296 ≤ z ∧ z < 57344)
          · rw [if_pos v]
            simp only [Lib.decodeN, if_neg h1]
            rw [if_neg (by omega), if_pos (by omega), if_neg (by omega)]; rfl
          · rw [if_neg v]
            simp only [Lib.decodeN, if_neg h1]
            rw [if_neg (by omega), if_pos (by omega), if_pos (by omega)]
            simp only [ptOf]
            rw [if_neg (by omega)]
            refine congrArg some (Prod.ext ?_ rfl)
            show _ = ((_ : Nat) : Int)
            omega
        · rw [if_neg c2]
          simp only [Lib.decodeN, if_neg h1]
          rw [if_neg (by omega), if_neg (by omega), if_neg (by omega)]; rfl
      · rw [if_neg c1]
        simp only [Lib.decodeN, if_neg h1]
        rw [if_neg (by omega), if_neg (by omega), if_neg (by omega)]; rfl
  rw [decide_eq_false (by omega), if_neg (by simp), if_pos (by omega)]
  by_cases h5 : b0 < 248
  · rw [if_pos (by omega)]
    have ew : wrap64 ((b0 : Int) - 240) = (b0 : Int) - 240 := by unfold wrap64; omega
    simp only [trellisref1_point.j2, ew, eb 4 (by omega) (by omega)]
    by_cases g : (i : Int) + 4 > (s.size : Int)
    · rw [if_pos g]
      simp only [Lib.decodeN, if_neg h1]
      rw [if_neg (by omega), if_neg (by omega), if_neg (by omega)]; rfl
    · rw [if_neg g]
      have l1 := l0_step (k + 6) s i 1 ((b0 : Int) - 240) 4 65536 hs (by omega) (by omega) (by omega) (by omega)
      rw [show (1 : Int) = ((1 : Nat) : Int) from rfl, l1, q1 (by omega)]
      by_cases c1 : 128 ≤ (b1 : Int) ∧ (b1 : Int) < 192
      · rw [if_pos c1, l0_step (k + 5) s i 2 _ 4 65536 hs (by omega) (by omega) (by omega) (by omega), q2 (by omega)]
        by_cases c2 : 128 ≤ (b2 : Int) ∧ (b2 : Int) < 192
        · rw [if_pos c2, l0_step (k + 4) s i 3 _ 4 65536 hs (by omega) (by omega) (by omega) (by omega), q3 (by omega)]
          by_cases c3 : 128 ≤ (b3 : Int) ∧ (b3 : Int) < 192
          · rw [if_pos c3, show (((3 + 1 : Nat) : Int)) = 4 from rfl, l0_end]
            generalize hz : ((((b0 : Int) - 240) * 64 + (b1 : Int) - 128) * 64 + (b2 : Int) - 128) * 64 + (b3 : Int) - 128 = z
            by_cases v : z < 65536 ∨ z > 1114111 ∨ (55296 ≤ z ∧ z < 57344)
            · rw [if_pos v]
              simp only [Lib.decodeN, if_neg h1]
              rw [if_neg (by omega), if_neg (by omega), if_pos (by omega), if_neg (by omega)]; rfl
            · rw [if_neg v]
              simp only [Lib.decodeN, if_neg h1]
              rw [if_neg (by omega), if_neg (by omega), if_pos (by omega), if_pos (by omega)]
              simp only [ptOf]
              rw [if_neg (by omega)]
              refine congrArg some (Prod.ext ?_ rfl)
              show _ = ((_ : Nat) : Int)
              omega
          · rw [if_neg c3]
            simp only [Lib.decodeN, if_neg h1]
            rw [if_neg (by omega), if_neg (by omega), if_neg (by omega)]; rfl
        · rw [if_neg c2]
          simp only [Lib.decodeN, if_neg h1]
          rw [if_neg (by omega), if_neg (by omega), if_neg (by omega)]; rfl
      · rw [if_neg c1]
        simp only [Lib.decodeN, if_neg h1]
        rw [if_neg (by omega), if_neg (by omega), if_neg (by omega)]; rfl
  · rw [if_neg (by omega)]
    simp only [Lib.decodeN, if_neg h1]
    rw [if_neg (by omega), if_neg (by omega), if_neg (by omega)]; rfl
end Go.Proofs.YtmbgjhmjmomnoaaGreatDoor.Va

/-
  The document's points: 0 or more just where utf8.ValidString answers true.
-/
namespace Go.Proofs.YtmbgjhmjmomnoaaGreatDoor.Va
open Go.RowKit Go.Proofs.YtmbgjhmjmomnoaaGreatDoor.PValueForms Go.Proofs.YtmbgjhmjmomnoaaGreatDoorW.PrintWords

theorem points_from (s : ByteArray) (hs : s.size ≤ 1099511627776) : ∀ (n i c k : Nat), i ≤ s.size → s.size - i ≤ n → c ≤ i → n + 12 ≤ k →
    if Lib.validGoD n (s.data.toList.drop i) = true then ∃ r : Nat, trellisref1_points.l0 k s c i = some (r : Int) else trellisref1_points.l0 k s c i = some (-1) := by
  intro n
  induction n with
  | zero =>
    intro i c k hi hn hc hk
    obtain ⟨k, rfl⟩ : ∃ m, k = m + 1 := ⟨k - 1, by omega⟩
    rw [if_pos (show Lib.validGoD 0 (s.data.toList.drop i) = true from rfl)]
    refine ⟨c, ?_⟩
    simp only [trellisref1_points.l0]
    rw [if_neg (by omega)]
  | succ n ih =>
    intro i c k hi hn hc hk
    obtain ⟨k, rfl⟩ : ∃ m, k = m + 1 := ⟨k - 1, by omega⟩
    have hsz := Lib.size_eq s
    by_cases hlt : i < s.size
    · have hne : s.data.toList.drop i ≠ [] := by
        intro h
        have := congrArg List.length h
        simp only [List.length_drop, List.length_nil] at this
        omega
      have hp : trellisref1_point.f k s i = some (ptOf (Utf8.decode s i)) := by
        have := point_is s hs i hlt (k - 10)
        rwa [show k - 10 + 10 = k by omega] at this
      have hd := Lib.decodeL_drop s i
      have hle := Lib.decodeL_le _ hne
      have hw := Lib.decodeL_width (s.data.toList.drop i)
      rw [hd] at hle hw
      simp only [List.length_drop] at hle
      simp only [Lib.validGoD, if_neg hne, hd, List.drop_drop]
      rw [show trellisref1_points.l0 (k + 1) s c i = ((trellisref1_point.f k s i).bind fun bt109 => (if bt109.2 = 0 then (some (-1)) else (trellisref1_points.l0 k s (wrap64 ((c : Int) + 1)) (wrap64 ((i : Int) + bt109.2))))) by
        simp only [trellisref1_points.l0]; rw [if_pos (by omega)]]
      rw [hp, Option.bind_some]
      obtain ⟨d, hd2⟩ : ∃ d, Utf8.decode s i = d := ⟨_, rfl⟩
      rw [hd2]
      rw [hd2] at hle hw
      clear hd2 hp hd hne
      obtain ⟨r, n0⟩ := d
      by_cases hv : r = 65533 ∧ n0 = 1
      · have hpt : ptOf (r, n0) = (0, 0) := if_pos hv
        rw [hpt, if_pos (show (r, n0).1 = 65533 ∧ (r, n0).2 = 1 from hv), if_neg (show ¬ (false = true) by decide)]
        exact if_pos rfl
      · have hpt : ptOf (r, n0) = ((r : Int), (n0 : Int)) := if_neg hv
        rw [hpt, if_neg (show ¬ ((r, n0).1 = 65533 ∧ (r, n0).2 = 1) from hv)]
        dsimp only at hle hw ⊢
        rw [if_neg (show ¬ ((n0 : Int) = 0) by omega)]
        have e1 : wrap64 ((c : Int) + 1) = ((c + 1 : Nat) : Int) := by unfold wrap64; omega
        have e2 : wrap64 ((i : Int) + (n0 : Int)) = ((i + n0 : Nat) : Int) := by unfold wrap64; omega
        rw [e1, e2]
        clear e1 e2 hpt hv
        exact ih (i + n0) (c + 1) k (by omega) (by omega) (by omega) (by omega)
    · have he : s.data.toList.drop i = [] := List.drop_eq_nil_of_le (by omega)
      simp only [Lib.validGoD, he, if_pos]
      refine ⟨c, ?_⟩
      simp only [trellisref1_points.l0]
      rw [if_neg (by omega)]

theorem points_is (s : ByteArray) (hs : s.size ≤ 1099511627776) (k : Nat) (hk : s.size + 12 ≤ k) :
    if Lib.validD s.data.toList = true then ∃ r : Nat, trellisref1_points.f k s = some (r : Int) else trellisref1_points.f k s = some (-1) := by
  have h := points_from s hs s.size 0 0 k (by omega) (by omega) (by omega) hk
  rw [List.drop_zero] at h
  have e : s.data.toList.length = s.size := (Lib.size_eq s).symm
  unfold Lib.validD
  rw [e]
  exact h
end Go.Proofs.YtmbgjhmjmomnoaaGreatDoor.Va

/-
  The document's Valid, Storable tell of every api.Val what package value's tell.
-/
namespace Go.Proofs.YtmbgjhmjmomnoaaGreatDoor.Va
open Go.RowKit Go.Proofs.YtmbgjhmjmomnoaaGreatDoor.PValueForms Go.Proofs.YtmbgjhmjmomnoaaGreatDoorW.PrintWords

theorem eqB_parts (k a b : Int) (s : ByteArray) (a' b' : Int) (s' : ByteArray) : V.eqB ⟨k, a, b, s⟩ ⟨k, a', b', s'⟩ = (decide (a = a') && (decide (b = b') && decide (s = s'))) := by
  unfold V.eqB
  by_cases h1 : a = a' <;> by_cases h2 : b = b' <;> by_cases h3 : s = s' <;> simp [h1, h2, h3]
theorem emp_eq (s : ByteArray) : (s.toList == ([] : List UInt8)) = decide (ByteArray.empty = s) := by
  have h := bytes_eq ByteArray.empty s
  have e : ByteArray.empty.toList = [] := by rw [ByteArray.toList_eq]; rfl
  rw [e] at h
  by_cases hs : ByteArray.empty = s
  · rw [decide_eq_true hs, ← hs, e]; rfl
  · rw [decide_eq_false hs]
    rw [h] at hs
    cases hl : s.toList with
    | nil => exact absurd hl.symm hs
    | cons x l => rfl

theorem part_is (n : Int) : trellisref1_part.f n = some (decide (-33554432 ≤ n ∧ n ≤ 33554432)) := by
  unfold trellisref1_part.f
  by_cases h : n ≥ -33554432
  · rw [if_pos h]
    by_cases h2 : n ≤ 33554432
    · rw [decide_eq_true h2, decide_eq_true ⟨h, h2⟩]
    · rw [decide_eq_false h2, decide_eq_false (fun h' => h2 h'.2)]
  · rw [if_neg h, decide_eq_false (fun h' => h h'.1)]

theorem dec_symm (a b : Int) : decide (a = b) = decide (b = a) := by
  by_cases h : a = b
  · rw [decide_eq_true h, decide_eq_true h.symm]
  · rw [decide_eq_false h, decide_eq_false (fun h' => h h'.symm)]

theorem two_zero (a b : Int) (t : Bool) : (if a = 0 then (if b = 0 then some t else some false) else some false) = some (decide (0 = a) && (decide (0 = b) && t)) := by
  by_cases h1 : a = 0 <;> by_cases h2 : b = 0 <;> simp [h1, h2, eq_comm]
theorem one_zero (b : Int) (t : Bool) : (if b = 0 then some t else some false) = some (decide (0 = b) && t) := by
  by_cases h2 : b = 0 <;> simp [h2, eq_comm]

theorem ref_valid (x : V) (k : Nat) (hk : 50 ≤ k) : trellisref1_Valid.f k x.k x.a x.b x.s = some x.ok := by
  obtain ⟨n, a, b, s⟩ := x
  unfold trellisref1_Valid.f V.ok V.dat
  dsimp only
  rw [emp_eq]
  by_cases h0 : n = 0
  · rw [if_pos h0, if_pos h0, two_zero]
    subst h0
    show _ = some (V.eqB ⟨0, 0, 0, _⟩ _)
    rw [eqB_parts]
  rw [if_neg h0, if_neg h0]
  by_cases h1 : n = 1
  · rw [if_pos h1, if_pos h1]
    subst h1
    by_cases ha : a = 1
    · subst ha
      rw [if_neg (by decide), if_pos rfl, one_zero]
      show _ = some (V.eqB ⟨1, 1, 0, _⟩ _)
      rw [eqB_parts]
      rfl
    · have hb : (a == 1) = false := by simpa using ha
      rw [if_neg ha, hb]
      show _ = some (V.eqB ⟨1, 0, 0, _⟩ _)
      rw [eqB_parts, two_zero]
  rw [if_neg h1, if_neg h1]
  by_cases h2 : n = 2
  · rw [if_pos h2, if_pos h2, one_zero]
    subst h2
    show _ = some (V.eqB ⟨2, a, 0, _⟩ _)
    rw [eqB_parts, decide_eq_true rfl, Bool.true_and]
  rw [if_neg h2, if_neg h2]
  by_cases h3 : n = 3
  · rw [if_pos h3, if_pos h3, part_is, part_is, Option.bind_some]
    subst h3
    by_cases ha : -33554432 ≤ a ∧ a ≤ 33554432
    · rw [decide_eq_true ha, if_pos rfl, Option.bind_some]
      by_cases hb : -33554432 ≤ b ∧ b ≤ 33554432
      · rw [decide_eq_true hb, if_pos rfl, if_pos ⟨ha, hb⟩]
        show _ = some (V.eqB ⟨3, a, b, _⟩ _)
        rw [eqB_parts, decide_eq_true rfl, decide_eq_true rfl, Bool.true_and, Bool.true_and]
      · rw [decide_eq_false hb, if_neg (by decide), if_neg (fun h => hb h.2)]
    · rw [decide_eq_false ha, if_neg (by decide), if_neg (fun h => ha h.1)]
  rw [if_neg h3, if_neg h3]
  by_cases h4 : n = 4
  · rw [if_pos h4, if_pos h4]
    subst h4
    by_cases hs : s.size ≤ 32
    · rw [if_pos (show (s.size : Int) ≤ 32 by omega)]
      have hp := points_is s (by omega) k (by omega)
      by_cases hv : Lib.validD s.data.toList = true
      · rw [if_pos hv] at hp
        obtain ⟨r, hr⟩ := hp
        rw [hr, Option.bind_some, if_pos (show s.size ≤ 32 ∧ Lib.validD s.data.toList = true from ⟨hs, hv⟩), decide_eq_true (show (r : Int) ≥ 0 by omega), two_zero]
        show _ = some (V.eqB ⟨4, 0, 0, s⟩ _)
        rw [eqB_parts, decide_eq_true (rfl : s = s)]
      · rw [if_neg hv] at hp
        rw [hp, Option.bind_some, if_neg (show ¬ (s.size ≤ 32 ∧ Lib.validD s.data.toList = true) from fun h => hv h.2), decide_eq_false (by decide), two_zero]
        simp
    · rw [if_neg (show ¬ (s.size : Int) ≤ 32 by omega), if_neg (show ¬ (s.size ≤ 32 ∧ Lib.validD s.data.toList = true) from fun h => hs h.1)]
      simp
  rw [if_neg h4, if_neg h4]
  by_cases h5 : n = 5
  · rw [if_pos h5, if_pos h5]
    subst h5
    by_cases ha : a = 0
    · rw [if_pos ha, if_pos ha]
    · rw [if_neg ha, if_neg ha, one_zero]
      show _ = some (V.eqB ⟨5, a, 0, _⟩ _)
      rw [eqB_parts, decide_eq_true rfl, Bool.true_and]
  rw [if_neg h5, if_neg h5]
  by_cases h6 : n = 6
  · rw [if_pos h6, if_pos h6]
    subst h6
    by_cases ha : a = 0
    · rw [if_pos ha, if_pos ha]
    · rw [if_neg ha, if_neg ha, one_zero]
      show _ = some (V.eqB ⟨6, a, 0, _⟩ _)
      rw [eqB_parts, decide_eq_true rfl, Bool.true_and]
  rw [if_neg h6, if_neg h6]

theorem ref_storable (x : V) (k : Nat) (hk : 50 ≤ k) : trellisref1_Storable.f k x.k x.a x.b x.s = some x.stor := by
  unfold trellisref1_Storable.f V.stor
  rw [ref_valid x k hk, Option.bind_some]
  cases x.ok with
  | false => rw [if_neg (by decide), Bool.and_false]
  | true =>
    rw [if_pos rfl, Bool.and_true]
    by_cases h1 : x.k ≥ 1
    · rw [if_pos h1]
      by_cases h2 : x.k ≤ 4
      · rw [decide_eq_true h2, decide_eq_true ⟨h1, h2⟩]
      · rw [decide_eq_false h2, decide_eq_false (fun h => h2 h.2)]
    · rw [if_neg h1, decide_eq_false (fun h => h1 h.1)]

theorem rvalid_any (x : V) (w : World) : Calls Tryz.prog 34 #[x.v] w fun e w' => e = .returned (.bool x.ok) ∧ Below w.heap.size w w' :=
  trellisref1_Valid.calls 50 x.k x.a x.b x.s x.ok w (ref_valid x 50 (by omega))
theorem rstorable_any (x : V) (w : World) : Calls Tryz.prog 40 #[x.v] w fun e w' => e = .returned (.bool x.stor) ∧ Below w.heap.size w w' :=
  trellisref1_Storable.calls 50 x.k x.a x.b x.s x.stor w (ref_storable x 50 (by omega))
end Go.Proofs.YtmbgjhmjmomnoaaGreatDoor.Va

/-
  The document's sum and product of two int64s: the number, or no answer where it is none.
-/
namespace Go.Proofs.YtmbgjhmjmomnoaaGreatDoor.Va
open Go.RowKit Go.Proofs.YtmbgjhmjmomnoaaGreatDoor.PValueForms Go.Proofs.YtmbgjhmjmomnoaaGreatDoorW.PrintWords

theorem wrap_id (n : Int) (h : -9223372036854775808 ≤ n ∧ n ≤ 9223372036854775807) : wrap64 n = n := by unfold wrap64; omega

/-- n, if it is an int64. -/
def fit (n : Int) : Int × Bool := if -9223372036854775808 ≤ n ∧ n ≤ 9223372036854775807 then (n, true) else (0, false)
theorem fit_yes {n : Int} (h : -9223372036854775808 ≤ n ∧ n ≤ 9223372036854775807) : fit n = (n, true) := if_pos h
theorem fit_no {n : Int} (h : ¬ (-9223372036854775808 ≤ n ∧ n ≤ 9223372036854775807)) : fit n = (0, false) := if_neg h

theorem sum_is (k : Nat) (a b : Int) (ha : -9223372036854775808 ≤ a ∧ a ≤ 9223372036854775807) (hb : -9223372036854775808 ≤ b ∧ b ≤ 9223372036854775807) : trellisref1_sum.f (k + 1) a b = some (fit (a + b)) := by
  unfold trellisref1_sum.f
  by_cases hp : b > 0
  · rw [if_pos hp, wrap_id (9223372036854775807 - b) (by omega)]
    by_cases hc : a > 9223372036854775807 - b
    · rw [decide_eq_true hc, fit_no (by omega)]
      simp only [trellisref1_sum.j0, if_true]
    · rw [decide_eq_false hc, fit_yes (by omega)]
      simp only [trellisref1_sum.j0]
      rw [if_neg (by decide), if_neg (by omega), wrap_id _ (by omega)]
  · rw [if_neg hp]
    simp only [trellisref1_sum.j0]
    rw [if_neg (by decide)]
    by_cases hn : b < 0
    · rw [if_pos hn, wrap_id (-9223372036854775808 - b) (by omega)]
      by_cases hc : a < -9223372036854775808 - b
      · rw [if_pos hc, fit_no (by omega)]
      · rw [if_neg hc, fit_yes (by omega), wrap_id _ (by omega)]
    · rw [if_neg hn, fit_yes (by omega), wrap_id _ (by omega)]

theorem minus_is (a : Int) (ha : -9223372036854775808 ≤ a ∧ a ≤ 9223372036854775807) : trellisref1_minus.f a = some (fit (-a)) := by
  unfold trellisref1_minus.f
  by_cases h : a = -9223372036854775808
  · rw [if_pos h, fit_no (by omega)]
  · rw [if_neg h, fit_yes (by omega), wrap_id _ (by omega)]

theorem below_is (a : Int) (ha : -9223372036854775808 ≤ a ∧ a ≤ 9223372036854775807) : trellisref1_below.f a = some (-(a.natAbs : Int)) := by
  unfold trellisref1_below.f
  by_cases h : a > 0
  · rw [if_pos h, wrap_id _ (by omega)]; congr 1; omega
  · rw [if_neg h]; congr 1; omega

theorem half (N : Nat) : (-(N : Int)).tdiv 2 = -((N / 2 : Nat) : Int) := by rw [Int.neg_tdiv]; rfl
theorem odd_bit (N : Nat) : (-(N : Int)).tmod 2 = -((N % 2 : Nat) : Int) := by rw [Int.neg_tmod]; rfl

/-- What is asked of the loop's state: what is added so far, and what is still to be added. -/
theorem product_loop (a b : Int) (Q : Nat) (hQ : (a * b).natAbs = Q) (hs : (a * b < 0 → (decide (a < 0) == decide (b < 0)) = false) ∧ (0 < a * b → (decide (a < 0) == decide (b < 0)) = true)) :
    ∀ (m X N O : Nat) (over : Bool) (k : Nat), N < 2 ^ m → m ≤ 64 → 2 * m + 4 ≤ k → X ≤ 9223372036854775808 → O ≤ 9223372036854775808 → (over = false → O + X * N = Q) → (over = true → 0 < N ∧ X = 0 ∧ 9223372036854775808 < Q) →
      trellisref1_product.l0 k a b (-(X : Int)) (-(N : Int)) (-(O : Int)) over = some (fit (a * b)) := by
  intro m
  induction m with
  | zero =>
    intro X N O over k hN hm hk hX hO h0 h1
    have hN0 : N = 0 := by simpa using hN
    subst hN0
    obtain ⟨k, rfl⟩ : ∃ j, k = j + 1 := ⟨k - 1, by omega⟩
    cases over with
    | true => exact absurd (h1 rfl).1 (by omega)
    | false =>
      have hq := h0 rfl
      rw [Nat.mul_zero, Nat.add_zero] at hq
      rw [trellisref1_product.l0, if_pos (by omega)]
      subst hq
      clear h0 h1 hN
      generalize a * b = p at *
      cases hsg : (decide (a < 0) == decide (b < 0)) with
      | true =>
        have : ¬ p < 0 := fun h => by rw [hs.1 h] at hsg; cases hsg
        rw [if_pos rfl, minus_is _ (by omega), Option.bind_some]
        congr 1
        rw [show - -(O : Int) = p by omega]
      | false =>
        have : ¬ 0 < p := fun h => by rw [hs.2 h] at hsg; cases hsg
        rw [if_neg (by decide), fit_yes (by omega)]
        congr 2
        omega
  | succ m ih =>
    intro X N O over k hN hm hk hX hO h0 h1
    obtain ⟨k, rfl⟩ : ∃ j, k = j + 1 + 1 := ⟨k - 2, by omega⟩
    by_cases hN0 : N = 0
    · subst hN0
      have h2 : over = false := by
        cases over with
        | true => exact absurd (h1 rfl).1 (by omega)
        | false => rfl
      exact ih X 0 O over (k + 1 + 1) (Nat.two_pow_pos m) (by omega) (by omega) hX hO h0 h1
    have hpow : 2 ^ (m + 1) = 2 * 2 ^ m := by rw [Nat.pow_succ]; omega
    have hN2 : N / 2 < 2 ^ m := by omega
    have hNb : N ≤ 18446744073709551616 := by
      have : 2 ^ (m + 1) ≤ 2 ^ 64 := Nat.pow_le_pow_right (by omega) hm
      omega
    -- what comes behind the bit
    have next : ∀ (O' : Nat) (ov : Bool), O' ≤ 9223372036854775808 → (ov = false → O' + X * (2 * (N / 2)) = Q) → (ov = true → 0 < N / 2 ∧ X = 0 ∧ 9223372036854775808 < Q) → trellisref1_product.j2 (k + 1) a b (-(X : Int)) (-(N : Int)) (-(O' : Int)) ov = some (fit (a * b)) := by
      intro O' ov hO' g0 g1
      have hX2 : X * (2 * (N / 2)) = (2 * X) * (N / 2) := by rw [← Nat.mul_assoc, Nat.mul_comm X 2]
      rw [trellisref1_product.j2, half, wrap_id _ (by omega)]
      by_cases hh : N / 2 = 0
      · rw [hh, if_pos (by omega)]
        refine ih X 0 O' ov k (Nat.two_pow_pos m) (by omega) (by omega) hX hO' (fun h => ?_) (fun h => absurd (g1 h).1 (by omega))
        have := g0 h
        rw [hh] at this
        simpa using this
      · rw [if_neg (by omega)]
        obtain ⟨j, rfl⟩ : ∃ j, k = j + 1 := ⟨k - 1, by omega⟩
        rw [sum_is j _ _ (by omega) (by omega), Option.bind_some]
        by_cases hf : 2 * X ≤ 9223372036854775808
        · rw [fit_yes (by omega), if_pos rfl]
          rw [show (-(X : Int) + -(X : Int)) = -((2 * X : Nat) : Int) by omega]
          refine ih (2 * X) (N / 2) O' ov (j + 1) hN2 (by omega) (by omega) hf hO' (fun h => ?_) (fun h => ?_)
          · rw [← hX2]; exact g0 h
          · have := g1 h
            exact ⟨this.1, by omega, this.2.2⟩
        · rw [fit_no (by omega), if_neg (by decide)]
          have hov : ov = false := by
            cases ov with
            | true => exact absurd (g1 rfl).2.1 (by omega)
            | false => rfl
          have hq := g0 hov
          rw [hX2] at hq
          have hle : 2 * X ≤ (2 * X) * (N / 2) := Nat.le_mul_of_pos_right _ (by omega)
          generalize (2 * X) * (N / 2) = z at *
          exact ih 0 (N / 2) O' true (j + 1) hN2 (by omega) (by omega) (by omega) hO' (fun h => by cases h) (fun _ => ⟨by omega, rfl, by omega⟩)
    rw [trellisref1_product.l0, if_neg (by omega), odd_bit]
    by_cases hbit : N % 2 = 0
    · rw [hbit, if_pos (by omega)]
      have hNN : 2 * (N / 2) = N := by omega
      exact next O over hO (fun h => by rw [hNN]; exact h0 h) (fun h => by have := h1 h; exact ⟨by omega, this.2⟩)
    · have hb1 : N % 2 = 1 := by omega
      rw [hb1, if_neg (by omega)]
      cases over with
      | true =>
        rw [if_pos rfl, fit_no]
        have := (h1 rfl).2.2
        omega
      | false =>
        rw [if_neg (by decide)]
        have hq := h0 rfl
        have hNN : X * N = X * (2 * (N / 2)) + X := by
          conv => lhs; rw [show N = 2 * (N / 2) + 1 by omega]
          rw [Nat.mul_add, Nat.mul_one]
        rw [sum_is k _ _ (by omega) (by omega), Option.bind_some]
        by_cases hf : O + X ≤ 9223372036854775808
        · rw [fit_yes (by omega), if_pos rfl, show (-(O : Int) + -(X : Int)) = -((O + X : Nat) : Int) by omega]
          exact next (O + X) false hf (fun _ => by omega) (fun h => by cases h)
        · rw [fit_no (by omega), if_neg (by decide), fit_no]
          generalize X * (2 * (N / 2)) = z at *
          omega

theorem signs (a b : Int) : (a * b < 0 → (decide (a < 0) == decide (b < 0)) = false) ∧ (0 < a * b → (decide (a < 0) == decide (b < 0)) = true) := by
  rcases Int.lt_trichotomy a 0 with h1 | h1 | h1 <;> rcases Int.lt_trichotomy b 0 with h2 | h2 | h2
  · have := Int.mul_pos_of_neg_of_neg h1 h2; simp [h1, h2]; omega
  · subst h2; simp
  · have := Int.mul_neg_of_neg_of_pos h1 h2; have n2 : ¬ b < 0 := by omega
    simp [h1, n2]; omega
  · subst h1; simp
  · subst h1; simp
  · subst h1; simp
  · have := Int.mul_neg_of_pos_of_neg h1 h2; have n1 : ¬ a < 0 := by omega
    simp [h2, n1]; omega
  · subst h2; simp
  · have := Int.mul_pos h1 h2; have n1 : ¬ a < 0 := by omega
    have n2 : ¬ b < 0 := by omega
    simp [n1, n2]; omega

theorem product_is (k : Nat) (a b : Int) (ha : -9223372036854775808 ≤ a ∧ a ≤ 9223372036854775807) (hb : -9223372036854775808 ≤ b ∧ b ≤ 9223372036854775807) (hk : 140 ≤ k) : trellisref1_product.f k a b = some (fit (a * b)) := by
  obtain ⟨k, rfl⟩ : ∃ j, k = j + 1 := ⟨k - 1, by omega⟩
  unfold trellisref1_product.f
  by_cases h0 : a = 0
  · subst h0
    rw [if_pos rfl, trellisref1_product.j0, if_pos rfl, Int.zero_mul]; rfl
  rw [if_neg h0]
  by_cases h1 : b = 0
  · subst h1
    rw [trellisref1_product.j0, if_pos (show ((0 : Int) == 0) = true from rfl), Int.mul_zero]; rfl
  rw [show (b == 0) = false by simpa using h1, trellisref1_product.j0, if_neg (by decide), below_is a ha, Option.bind_some, below_is b hb, Option.bind_some]
  have habs : (a * b).natAbs = a.natAbs * b.natAbs := Int.natAbs_mul a b
  refine product_loop a b _ rfl (signs a b) 64 a.natAbs b.natAbs 0 false k ?_ (by omega) (by omega) (by omega) (by omega) (fun _ => by rw [habs]; omega) (fun h => by cases h)
  show b.natAbs < 18446744073709551616
  omega
end Go.Proofs.YtmbgjhmjmomnoaaGreatDoor.Va

/-
  The document's Unary tells of every operation and every api.Val what package value's Unary tells.
-/
namespace Go.Proofs.YtmbgjhmjmomnoaaGreatDoor.Va
open Go.RowKit Go.Proofs.YtmbgjhmjmomnoaaGreatDoor.PValueForms Go.Proofs.YtmbgjhmjmomnoaaGreatDoorW.PrintWords

/-- Of a well-formed string the document's points counts the runes. -/
theorem points_cnt (s : ByteArray) (hs : s.size ≤ 1099511627776) : ∀ (n i c k : Nat), i ≤ s.size → s.size - i ≤ n → c ≤ i → n + 12 ≤ k → Lib.validGoD n (s.data.toList.drop i) = true →
    trellisref1_points.l0 k s c i = some ((c + cnt s n i : Nat) : Int) := by
  intro n
  induction n with
  | zero =>
    intro i c k hi hn hc hk _
    obtain ⟨k, rfl⟩ : ∃ m, k = m + 1 := ⟨k - 1, by omega⟩
    simp only [trellisref1_points.l0]
    rw [if_neg (by omega)]
    rfl
  | succ n ih =>
    intro i c k hi hn hc hk hv0
    obtain ⟨k, rfl⟩ : ∃ m, k = m + 1 := ⟨k - 1, by omega⟩
    have hsz := Lib.size_eq s
    by_cases hlt : i < s.size
    · have hne : s.data.toList.drop i ≠ [] := by
        intro h
        have := congrArg List.length h
        simp only [List.length_drop, List.length_nil] at this
        omega
      have hp : trellisref1_point.f k s i = some (ptOf (Utf8.decode s i)) := by
        have := point_is s hs i hlt (k - 10)
        rwa [show k - 10 + 10 = k by omega] at this
      have hd := Lib.decodeL_drop s i
      have hle := width_le s i hlt
      have hw := width_pos s i hlt
      have hcs : cnt s (n + 1) i = 1 + cnt s n (i + (Utf8.decode s i).2) := by simp [cnt, hlt]
      simp only [Lib.validGoD, if_neg hne, hd, List.drop_drop] at hv0
      rw [show trellisref1_points.l0 (k + 1) s c i = ((trellisref1_point.f k s i).bind fun bt109 => (if bt109.2 = 0 then (some (-1)) else (trellisref1_points.l0 k s (wrap64 ((c : Int) + 1)) (wrap64 ((i : Int) + bt109.2))))) by
        simp only [trellisref1_points.l0]; rw [if_pos (by omega)]]
      rw [hp, Option.bind_some, hcs]
      obtain ⟨d, hd2⟩ : ∃ d, Utf8.decode s i = d := ⟨_, rfl⟩
      rw [hd2] at hle hw hv0 ⊢
      clear hd2 hp hd hne hcs
      obtain ⟨r, n0⟩ := d
      by_cases hv : r = 65533 ∧ n0 = 1
      · rw [if_pos (show (r, n0).1 = 65533 ∧ (r, n0).2 = 1 from hv)] at hv0
        cases hv0
      · have hpt : ptOf (r, n0) = ((r : Int), (n0 : Int)) := if_neg hv
        rw [if_neg (show ¬ ((r, n0).1 = 65533 ∧ (r, n0).2 = 1) from hv)] at hv0
        rw [hpt]
        dsimp only at hle hw hv0 ⊢
        rw [if_neg (show ¬ ((n0 : Int) = 0) by omega)]
        have e1 : wrap64 ((c : Int) + 1) = ((c + 1 : Nat) : Int) := by unfold wrap64; omega
        have e2 : wrap64 ((i : Int) + (n0 : Int)) = ((i + n0 : Nat) : Int) := by unfold wrap64; omega
        rw [e1, e2]
        clear e1 e2 hpt hv
        rw [ih (i + n0) (c + 1) k (by omega) (by omega) (by omega) (by omega) hv0, Nat.add_assoc]
    · simp only [trellisref1_points.l0]
      rw [if_neg (by omega), cnt_end s (n + 1) i hlt]
      rfl

theorem points_runes (s : ByteArray) (hs : s.size ≤ 32) (hv : Lib.validD s.data.toList = true) (k : Nat) (hk : 50 ≤ k) : trellisref1_points.f k s = some (runes s : Int) := by
  have h := points_cnt s (by omega) s.size 0 0 k (by omega) (by omega) (by omega) (by omega)
  rw [List.drop_zero] at h
  have e : s.data.toList.length = s.size := (Lib.size_eq s).symm
  unfold Lib.validD at hv
  rw [e] at hv
  have := h hv
  rw [Nat.zero_add] at this
  exact this

/-- A value is what its datum stands for. -/
theorem V.ok_val {x : V} (h : x.ok = true) : ∃ d, x.dat = some d ∧ x = d.val := by
  cases hd : x.dat with
  | none => rw [V.ok_none hd] at h; cases h
  | some d =>
    rw [V.ok_some hd] at h
    refine ⟨d, rfl, ?_⟩
    unfold V.eqB at h
    exact (of_decide_eq_true h).symm

/-- An answer as the printed functions tell it. -/
def Res.tup (r : Res) : Int × Int × Int × ByteArray × Int := (r.v.k, r.v.a, r.v.b, r.v.s, r.e)

theorem unaryInt_is (k : Nat) (op n : Int) (hn : I64 n) (hk : 150 ≤ k) : trellisref1_unaryInt.f k op n = some (unI op n).tup := by
  obtain ⟨k, rfl⟩ : ∃ j, k = j + 1 := ⟨k - 1, by omega⟩
  have hn' : -9223372036854775808 ≤ n ∧ n ≤ 9223372036854775807 := hn
  unfold trellisref1_unaryInt.f unI
  by_cases h1 : op = 1
  · rw [if_pos h1, if_pos h1, minus_is n hn', Option.bind_some]
    by_cases hm : n = -9223372036854775808
    · rw [if_pos hm, fit_no (by omega)]
      rfl
    · rw [if_neg hm, fit_yes (by omega)]
      rfl
  rw [if_neg h1, if_neg h1]
  by_cases h3 : op = 3
  · rw [if_pos h3, if_pos (.inl h3), h3, trellisref1_unaryInt.j0, if_pos rfl, if_pos rfl]
    rfl
  rw [if_neg h3]
  by_cases h5 : op = 5
  · rw [if_pos (show op = 3 ∨ op = 5 from .inr h5), h5, trellisref1_unaryInt.j0, if_pos (show ((5 : Int) == 5) = true from rfl), if_pos rfl]
    rfl
  have b5 : (op == 5) = false := by simpa using h5
  rw [if_neg (show ¬ (op = 3 ∨ op = 5) from fun h => h.elim h3 h5), b5, trellisref1_unaryInt.j0, if_neg (by decide)]
  by_cases h4 : op = 4
  · rw [if_pos h4, if_pos h4, if_pos rfl]
    rfl
  rw [if_neg h4, if_neg h4]
  by_cases h6 : op = 6
  · have hsq := sq_nonneg n
    rw [if_pos h6, if_pos h6, product_is k n n hn' hn' (by omega), Option.bind_some]
    by_cases hm : n * n ≤ 9223372036854775807
    · rw [if_pos hm, fit_yes (by omega)]
      rfl
    · rw [if_neg hm, fit_no (by omega)]
      rfl
  rw [if_neg h6, if_neg h6]
  by_cases h8 : op = 8
  · rw [if_pos h8, if_pos h8]
    by_cases h0 : 0 ≤ n
    · rw [if_pos h0, if_neg (by omega), if_pos rfl]
      rfl
    · rw [if_neg h0, if_pos (by omega), minus_is n hn', Option.bind_some]
      by_cases hm : n = -9223372036854775808
      · rw [if_pos hm, fit_no (by omega)]
        rfl
      · rw [if_neg hm, fit_yes (by omega)]
        rfl
  · rw [if_neg h8, if_neg h8]
    rfl

theorem unaryCpx_is (op a b : Int) (ha : Part a) (hb : Part b) : trellisref1_unaryCpx.f op a b = some (unC op a b).tup := by
  have p1 := prod_bound ha ha
  have p2 := prod_bound hb hb
  obtain ⟨a0, a1⟩ := ha
  obtain ⟨b0, b1⟩ := hb
  unfold trellisref1_unaryCpx.f unC
  rw [wrap_id (-a) (by omega), wrap_id (-b) (by omega), wrap_id (a * a) (by omega), wrap_id (b * b) (by omega), wrap_id (a * a + b * b) (by omega)]
  by_cases h1 : op = 1
  · rw [if_pos h1, if_pos h1]; rfl
  rw [if_neg h1, if_neg h1]
  by_cases h3 : op = 3
  · rw [if_pos h3, if_pos h3]; rfl
  rw [if_neg h3, if_neg h3]
  by_cases h4 : op = 4
  · rw [if_pos h4, if_pos h4]; rfl
  rw [if_neg h4, if_neg h4]
  by_cases h5 : op = 5
  · rw [if_pos h5, if_pos h5]; rfl
  rw [if_neg h5, if_neg h5]
  by_cases h6 : op = 6
  · rw [if_pos h6, if_pos h6]; rfl
  rw [if_neg h6, if_neg h6]; rfl

theorem ref_un (op : Int) (x : V) (hx : I64 x.a) (k : Nat) (hk : 160 ≤ k) : trellisref1_Unary.j0 (k + 1) op false x.k x.a x.b x.s = some (if x.ok = true then unV op x else .err 16).tup := by
  simp only [trellisref1_Unary.j0]
  rw [if_neg (by decide), ref_valid x k (by omega), Option.bind_some]
  by_cases hok : x.ok = true
  · rw [if_pos hok, if_pos hok]
    obtain ⟨d, hd, hv⟩ := V.ok_val hok
    rw [unV_some hd]
    have hwd := V.dat_wide hx hd
    clear hx
    obtain ⟨xk, xa, xb, xs⟩ := x
    dsimp only
    cases d with
    | nul =>
      simp only [Dat.val, V.mk.injEq] at hv
      obtain ⟨rfl, rfl, rfl, rfl⟩ := hv
      rfl
    | tru b =>
      simp only [Dat.val, V.mk.injEq] at hv
      obtain ⟨rfl, rfl, rfl, rfl⟩ := hv
      rw [if_neg (show ¬ ((1 : Int) = 0) by decide), if_pos (show (1 : Int) = 1 from rfl)]
      by_cases h : op = 2
      · rw [if_pos h, show (Dat.tru b).un op = .ok (.tru (!b)) from if_pos h]
        cases b <;> rfl
      · rw [if_neg h, show (Dat.tru b).un op = .err 10 from if_neg h]
        rfl
    | whl n =>
      simp only [Dat.val, V.mk.injEq] at hv
      obtain ⟨rfl, rfl, rfl, rfl⟩ := hv
      rw [if_neg (show ¬ ((2 : Int) = 0) by decide), if_neg (show ¬ ((2 : Int) = 1) by decide), if_pos (show (2 : Int) = 2 from rfl), unaryInt_is k op xa hwd (by omega), Option.bind_some]
      rfl
    | pln a b =>
      simp only [Dat.val, V.mk.injEq] at hv
      obtain ⟨rfl, rfl, rfl, rfl⟩ := hv
      rw [if_neg (show ¬ ((3 : Int) = 0) by decide), if_neg (show ¬ ((3 : Int) = 1) by decide), if_neg (show ¬ ((3 : Int) = 2) by decide), if_pos (show (3 : Int) = 3 from rfl), unaryCpx_is op xa xb hwd.1 hwd.2, Option.bind_some]
      rfl
    | wrd s =>
      simp only [Dat.val, V.mk.injEq] at hv
      obtain ⟨rfl, rfl, rfl, rfl⟩ := hv
      rw [if_neg (show ¬ ((4 : Int) = 0) by decide), if_neg (show ¬ ((4 : Int) = 1) by decide), if_neg (show ¬ ((4 : Int) = 2) by decide), if_neg (show ¬ ((4 : Int) = 3) by decide), if_pos (show (4 : Int) = 4 from rfl)]
      by_cases h : op = 7
      · have hval : Lib.validD xs.data.toList = true := by
          unfold V.dat at hd
          dsimp only at hd
          rw [if_neg (show ¬ ((4 : Int) = 0) by decide), if_neg (show ¬ ((4 : Int) = 1) by decide), if_neg (show ¬ ((4 : Int) = 2) by decide), if_neg (show ¬ ((4 : Int) = 3) by decide), if_pos (show (4 : Int) = 4 from rfl)] at hd
          by_cases hc : xs.size ≤ 32 ∧ Lib.validD xs.data.toList = true
          · exact hc.2
          · rw [if_neg hc] at hd
            cases hd
        rw [if_pos h, show (Dat.wrd xs).un op = .ok (.whl (runes xs)) from if_pos h, points_runes xs hwd hval k (by omega), Option.bind_some]
        rfl
      · rw [if_neg h, show (Dat.wrd xs).un op = .err 10 from if_neg h]
        rfl
    | nod n =>
      simp only [Dat.val, V.mk.injEq] at hv
      obtain ⟨rfl, rfl, rfl, rfl⟩ := hv
      rfl
    | edg n =>
      simp only [Dat.val, V.mk.injEq] at hv
      obtain ⟨rfl, rfl, rfl, rfl⟩ := hv
      rfl
  · rw [if_neg hok, if_neg hok]
    rfl

theorem ref_unary (op : Int) (x : V) (hx : I64 x.a) (k : Nat) (hk : 161 ≤ k) : trellisref1_Unary.f k op x.k x.a x.b x.s = some (unS op x).tup := by
  obtain ⟨k, rfl⟩ : ∃ j, k = j + 1 := ⟨k - 1, by omega⟩
  unfold trellisref1_Unary.f unS
  by_cases h1 : op < 1
  · rw [if_pos h1, if_pos (.inl h1), trellisref1_Unary.j0, if_pos rfl]; rfl
  rw [if_neg h1]
  by_cases h2 : op > 8
  · rw [decide_eq_true h2, if_pos (show op < 1 ∨ 8 < op from .inr h2), trellisref1_Unary.j0, if_pos rfl]; rfl
  rw [decide_eq_false h2, if_neg (show ¬ (op < 1 ∨ 8 < op) from fun h => h.elim h1 h2)]
  exact ref_un op x hx k (by omega)

theorem rUnary_any (op : Int) (x : V) (hx : I64 x.a) (w : World) : Calls Tryz.prog 23 #[.int .i64 op, x.v] w (Ans (.tuple #[(unS op x).v.v, .int .i64 (unS op x).e]) w) :=
  trellisref1_Unary.calls 161 op x.k x.a x.b x.s _ _ _ _ _ w (ref_unary op x hx 161 (by omega))
end Go.Proofs.YtmbgjhmjmomnoaaGreatDoor.Va

/-
  A call of a script (ValOp): its nineteen cells.
-/
namespace Go.Proofs.YtmbgjhmjmomnoaaGreatDoor.Va
open Go.RowKit

/-- A call of a script. -/
structure Op1 where
  k : Int
  op : Int
  v : V
  w : V
  vs : Value
  s : ByteArray
  t : ByteArray
  b : Value
  n : Int
  x : Int
  y : Int
  odd : Int
  over : Int

def Op1.cells (o : Op1) : Array Value := #[.int .i64 o.k, .int .i64 o.op, .int .i64 o.v.k, .int .i64 o.v.a, .int .i64 o.v.b, .string o.v.s, .int .i64 o.w.k, .int .i64 o.w.a, .int .i64 o.w.b, .string o.w.s, o.vs, .string o.s, .string o.t, o.b, .int .i64 o.n, .int .i64 o.x, .int .i64 o.y, .int .i64 o.odd, .int .i64 o.over]
def Op1.val (o : Op1) : Value := .agg o.cells

/-- From place f of block b on lie the cells of o. -/
def OpAt (W : World) (b f : Nat) (o : Op1) : Prop := ∀ (j : Nat) (v : Value), o.cells[j]? = some v → W.cell? ⟨b, f + j, none⟩ = some v
theorem OpAt.below {B : Nat} {W W' : World} {b f : Nat} {o : Op1} (h : OpAt W b f o) (hb : Below B W W') (hB : b < B) : OpAt W' b f o := fun j v hj => (hb.cell (p := ⟨b, f + j, none⟩) hB).trans (h j v hj)
/-- A variable that holds o. -/
def OpBox (W : World) (b : Nat) (o : Op1) : Prop := ∀ (j : Nat) (v : Value), o.cells[j]? = some v → W.cell? ⟨b, j, none⟩ = some v
theorem OpBox.new (W : World) (o : Op1) (t : TypeId) : OpBox (W.alloc (.cells o.cells t)) W.heap.size o := fun j v hj => by
  simp [hj]
theorem OpBox.below {B : Nat} {W W' : World} {b : Nat} {o : Op1} (h : OpBox W b o) (hb : Below B W W') (hB : b < B) : OpBox W' b o := fun j v hj => (hb.cell (p := ⟨b, j, none⟩) hB).trans (h j v hj)
theorem OpAt.range {W : World} {b f : Nat} {o : Op1} (h : OpAt W b f o) : W.rangeAt b f o.cells.toList := fun j v hj => h j v (by rw [← hj, Array.getElem?_toList])
theorem OpBox.range {W : World} {b : Nat} {o : Op1} (h : OpBox W b o) : W.rangeAt b 0 o.cells.toList := fun j v hj => by rw [Nat.zero_add]; exact h j v (by rw [← hj, Array.getElem?_toList])
/-- What the type ValOp's description says of its size. -/
theorem op_info : (Tryz.prog.info? 35).map (·.size) = some 19 := by kernel_rfl
theorem OpAt.all {W : World} {b f : Nat} {o : Op1} (h : OpAt W b f o) : W.cell? ⟨b, f, none⟩ = some (.int .i64 o.k) ∧ W.cell? ⟨b, f + 1, none⟩ = some (.int .i64 o.op) ∧ W.cell? ⟨b, f + 2, none⟩ = some (.int .i64 o.v.k) ∧ W.cell? ⟨b, f + 3, none⟩ = some (.int .i64 o.v.a) ∧ W.cell? ⟨b, f + 4, none⟩ = some (.int .i64 o.v.b) ∧ W.cell? ⟨b, f + 5, none⟩ = some (.string o.v.s) ∧ W.cell? ⟨b, f + 6, none⟩ = some (.int .i64 o.w.k) ∧ W.cell? ⟨b, f + 7, none⟩ = some (.int .i64 o.w.a) ∧ W.cell? ⟨b, f + 8, none⟩ = some (.int .i64 o.w.b) ∧ W.cell? ⟨b, f + 9, none⟩ = some (.string o.w.s) ∧ W.cell? ⟨b, f + 10, none⟩ = some o.vs ∧ W.cell? ⟨b, f + 11, none⟩ = some (.string o.s) ∧ W.cell? ⟨b, f + 12, none⟩ = some (.string o.t) ∧ W.cell? ⟨b, f + 13, none⟩ = some o.b ∧ W.cell? ⟨b, f + 14, none⟩ = some (.int .i64 o.n) ∧ W.cell? ⟨b, f + 15, none⟩ = some (.int .i64 o.x) ∧ W.cell? ⟨b, f + 16, none⟩ = some (.int .i64 o.y) ∧ W.cell? ⟨b, f + 17, none⟩ = some (.int .i64 o.odd) ∧ W.cell? ⟨b, f + 18, none⟩ = some (.int .i64 o.over) :=
  ⟨h 0 _ rfl, h 1 _ rfl, h 2 _ rfl, h 3 _ rfl, h 4 _ rfl, h 5 _ rfl, h 6 _ rfl, h 7 _ rfl, h 8 _ rfl, h 9 _ rfl, h 10 _ rfl, h 11 _ rfl, h 12 _ rfl, h 13 _ rfl, h 14 _ rfl, h 15 _ rfl, h 16 _ rfl, h 17 _ rfl, h 18 _ rfl⟩
theorem OpBox.all {W : World} {b : Nat} {o : Op1} (h : OpBox W b o) : W.cell? ⟨b, 0, none⟩ = some (.int .i64 o.k) ∧ W.cell? ⟨b, 1, none⟩ = some (.int .i64 o.op) ∧ W.cell? ⟨b, 2, none⟩ = some (.int .i64 o.v.k) ∧ W.cell? ⟨b, 3, none⟩ = some (.int .i64 o.v.a) ∧ W.cell? ⟨b, 4, none⟩ = some (.int .i64 o.v.b) ∧ W.cell? ⟨b, 5, none⟩ = some (.string o.v.s) ∧ W.cell? ⟨b, 6, none⟩ = some (.int .i64 o.w.k) ∧ W.cell? ⟨b, 7, none⟩ = some (.int .i64 o.w.a) ∧ W.cell? ⟨b, 8, none⟩ = some (.int .i64 o.w.b) ∧ W.cell? ⟨b, 9, none⟩ = some (.string o.w.s) ∧ W.cell? ⟨b, 10, none⟩ = some o.vs ∧ W.cell? ⟨b, 11, none⟩ = some (.string o.s) ∧ W.cell? ⟨b, 12, none⟩ = some (.string o.t) ∧ W.cell? ⟨b, 13, none⟩ = some o.b ∧ W.cell? ⟨b, 14, none⟩ = some (.int .i64 o.n) ∧ W.cell? ⟨b, 15, none⟩ = some (.int .i64 o.x) ∧ W.cell? ⟨b, 16, none⟩ = some (.int .i64 o.y) ∧ W.cell? ⟨b, 17, none⟩ = some (.int .i64 o.odd) ∧ W.cell? ⟨b, 18, none⟩ = some (.int .i64 o.over) :=
  ⟨h 0 _ rfl, h 1 _ rfl, h 2 _ rfl, h 3 _ rfl, h 4 _ rfl, h 5 _ rfl, h 6 _ rfl, h 7 _ rfl, h 8 _ rfl, h 9 _ rfl, h 10 _ rfl, h 11 _ rfl, h 12 _ rfl, h 13 _ rfl, h 14 _ rfl, h 15 _ rfl, h 16 _ rfl, h 17 _ rfl, h 18 _ rfl⟩
theorem OpBox.lt {W : World} {b : Nat} {o : Op1} (h : OpBox W b o) : b < W.heap.size := World.block_lt_of_cell? W ⟨b, 0, none⟩ (h 0 _ rfl)
theorem OpBox.keep {W W' : World} {b : Nat} {o : Op1} (h : OpBox W b o) (hb : Below W.heap.size W W') : OpBox W' b o := h.below hb h.lt
theorem OpBox.alloc {W : World} {b : Nat} {o : Op1} (h : OpBox W b o) (x : Obj) : OpBox (W.alloc x) b o := h.keep ((Below.refl _ _).alloc (Nat.le_refl _) x)
end Go.Proofs.YtmbgjhmjmomnoaaGreatDoor.Va

/-
  A script that is handed in: each of its calls lies in memory as nineteen cells.
-/
namespace Go.Proofs.YtmbgjhmjmomnoaaGreatDoor.Va
open Go.RowKit Go.ChangeShapes Go.WideShapes

theorem co3 : Tryz.prog.cellsOf 3 = 1 := by kernel_rfl
theorem co2 : Tryz.prog.cellsOf 2 = 1 := by kernel_rfl
theorem co9 : Tryz.prog.cellsOf 9 = 1 := by kernel_rfl
theorem co31 : Tryz.prog.cellsOf 31 = 4 := by kernel_rfl
theorem co32 : Tryz.prog.cellsOf 32 = 1 := by kernel_rfl
theorem co33 : Tryz.prog.cellsOf 33 = 1 := by kernel_rfl
theorem co35 : Tryz.prog.cellsOf 35 = 19 := by kernel_rfl

def Num (n : Int) : Prop := -9223372036854775808 ≤ n ∧ n ≤ 9223372036854775807
/-- Its numbers are int64s, its strings no longer than strings can be. -/
structure V.Wide (x : V) : Prop where
  k : Num x.k
  a : Num x.a
  b : Num x.b
  s : x.s.size ≤ maxLen
structure Op1.Wide (o : Op1) : Prop where
  k : Num o.k
  op : Num o.op
  v : o.v.Wide
  w : o.w.Wide
  s : o.s.size ≤ maxLen
  t : o.t.size ≤ maxLen
  n : Num o.n
  x : Num o.x
  y : Num o.y
  odd : Num o.odd
  over : Num o.over

section
variable {H : Type} {enc : TypeId × Value → H} {w : World} {base : Nat} {spare : Nat → Bool} {held : Bool}

theorem val_of {fuel : Nat} {c0 c1 c2 c3 : Value} {x : DataW H × List MemPlace} (h : DataW.trod enc Tryz.prog w base spare held fuel 31 [c0, c1, c2, c3] = some x) :
    ∃ v : V, v.Wide ∧ c0 = .int .i64 v.k ∧ c1 = .int .i64 v.a ∧ c2 = .int .i64 v.b ∧ c3 = .string v.s := by
  obtain ⟨xs, n, rfl, -, -, hx, hf⟩ := DataW.trod_struct Tryz.underlying31 h
  have hx' : xs.length = 4 := hx
  have t0 : DataW.trod enc Tryz.prog w base spare held n 3 (([c0, c1, c2, c3].drop 0).take (Tryz.prog.cellsOf 3)) = some xs[0] := (hf 0 _ rfl).trans (List.getElem?_eq_getElem (by omega))
  rw [co3] at t0
  have t1 : DataW.trod enc Tryz.prog w base spare held n 2 (([c0, c1, c2, c3].drop 1).take (Tryz.prog.cellsOf 2)) = some xs[1] := (hf 1 _ rfl).trans (List.getElem?_eq_getElem (by omega))
  rw [co2] at t1
  have t2 : DataW.trod enc Tryz.prog w base spare held n 2 (([c0, c1, c2, c3].drop 2).take (Tryz.prog.cellsOf 2)) = some xs[2] := (hf 2 _ rfl).trans (List.getElem?_eq_getElem (by omega))
  rw [co2] at t2
  have t3 : DataW.trod enc Tryz.prog w base spare held n 9 (([c0, c1, c2, c3].drop 3).take (Tryz.prog.cellsOf 9)) = some xs[3] := (hf 3 _ rfl).trans (List.getElem?_eq_getElem (by omega))
  rw [co9] at t3
  obtain ⟨a0, e0, -, w0⟩ := DataW.trod_int Tryz.underlying3 t0
  obtain ⟨a1, e1, -, w1⟩ := DataW.trod_int Tryz.underlying2 t1
  obtain ⟨a2, e2, -, w2⟩ := DataW.trod_int Tryz.underlying2 t2
  obtain ⟨a3, e3, -, w3⟩ := DataW.trod_string Tryz.underlying9 t3
  have e0' : [c0] = [Value.int .i64 a0] := e0
  have e1' : [c1] = [Value.int .i64 a1] := e1
  have e2' : [c2] = [Value.int .i64 a2] := e2
  have e3' : [c3] = [Value.string a3] := e3
  simp only [List.cons.injEq, and_true] at e0' e1' e2' e3'
  exact ⟨⟨a0, a1, a2, a3⟩, ⟨bounds_i64 w0, bounds_i64 w1, bounds_i64 w2, w3⟩, e0', e1', e2', e3'⟩

set_option maxRecDepth 100000 in
theorem op_of {fuel : Nat} {cs : List Value} {x : DataW H × List MemPlace} (h : DataW.trod enc Tryz.prog w base spare held fuel 35 cs = some x) :
    ∃ o : Op1, cs = o.cells.toList ∧ o.Wide ∧ (∃ m y, DataW.trod enc Tryz.prog w base spare held m 32 [o.vs] = some y) ∧ (∃ m y, DataW.trod enc Tryz.prog w base spare held m 33 [o.b] = some y) := by
  obtain ⟨xs, n, rfl, -, hl, hx, hf⟩ := DataW.trod_struct Tryz.underlying35 h
  rw [co35] at hl
  have hx' : xs.length = 13 := hx
  clear h hx
  match cs, hl with
  | [c0, c1, c2, c3, c4, c5, c6, c7, c8, c9, c10, c11, c12, c13, c14, c15, c16, c17, c18], _ =>
    have t0 : DataW.trod enc Tryz.prog w base spare held n 3 (([c0, c1, c2, c3, c4, c5, c6, c7, c8, c9, c10, c11, c12, c13, c14, c15, c16, c17, c18].drop 0).take (Tryz.prog.cellsOf 3)) = some xs[0] := (hf 0 _ rfl).trans (List.getElem?_eq_getElem (by omega))
    rw [co3] at t0
    obtain ⟨a0, e0, -, w0⟩ := DataW.trod_int Tryz.underlying3 t0
    have e0' : [c0] = [Value.int .i64 a0] := e0
    have t1 : DataW.trod enc Tryz.prog w base spare held n 3 (([c0, c1, c2, c3, c4, c5, c6, c7, c8, c9, c10, c11, c12, c13, c14, c15, c16, c17, c18].drop 1).take (Tryz.prog.cellsOf 3)) = some xs[1] := (hf 1 _ rfl).trans (List.getElem?_eq_getElem (by omega))
    rw [co3] at t1
    obtain ⟨a1, e1, -, w1⟩ := DataW.trod_int Tryz.underlying3 t1
    have e1' : [c1] = [Value.int .i64 a1] := e1
    have t2 : DataW.trod enc Tryz.prog w base spare held n 31 (([c0, c1, c2, c3, c4, c5, c6, c7, c8, c9, c10, c11, c12, c13, c14, c15, c16, c17, c18].drop 2).take (Tryz.prog.cellsOf 31)) = some xs[2] := (hf 2 _ rfl).trans (List.getElem?_eq_getElem (by omega))
    rw [co31] at t2
    obtain ⟨a2, w2, p2, q2, r2, s2⟩ := val_of (show DataW.trod enc Tryz.prog w base spare held n 31 [c2, c3, c4, c5] = some _ from t2)
    have t3 : DataW.trod enc Tryz.prog w base spare held n 31 (([c0, c1, c2, c3, c4, c5, c6, c7, c8, c9, c10, c11, c12, c13, c14, c15, c16, c17, c18].drop 6).take (Tryz.prog.cellsOf 31)) = some xs[3] := (hf 3 _ rfl).trans (List.getElem?_eq_getElem (by omega))
    rw [co31] at t3
    obtain ⟨a3, w3, p3, q3, r3, s3⟩ := val_of (show DataW.trod enc Tryz.prog w base spare held n 31 [c6, c7, c8, c9] = some _ from t3)
    have t4 : DataW.trod enc Tryz.prog w base spare held n 32 (([c0, c1, c2, c3, c4, c5, c6, c7, c8, c9, c10, c11, c12, c13, c14, c15, c16, c17, c18].drop 10).take (Tryz.prog.cellsOf 32)) = some xs[4] := (hf 4 _ rfl).trans (List.getElem?_eq_getElem (by omega))
    rw [co32] at t4
    have t5 : DataW.trod enc Tryz.prog w base spare held n 9 (([c0, c1, c2, c3, c4, c5, c6, c7, c8, c9, c10, c11, c12, c13, c14, c15, c16, c17, c18].drop 11).take (Tryz.prog.cellsOf 9)) = some xs[5] := (hf 5 _ rfl).trans (List.getElem?_eq_getElem (by omega))
    rw [co9] at t5
    obtain ⟨a5, e5, -, w5⟩ := DataW.trod_string Tryz.underlying9 t5
    have e5' : [c11] = [Value.string a5] := e5
    have t6 : DataW.trod enc Tryz.prog w base spare held n 9 (([c0, c1, c2, c3, c4, c5, c6, c7, c8, c9, c10, c11, c12, c13, c14, c15, c16, c17, c18].drop 12).take (Tryz.prog.cellsOf 9)) = some xs[6] := (hf 6 _ rfl).trans (List.getElem?_eq_getElem (by omega))
    rw [co9] at t6
    obtain ⟨a6, e6, -, w6⟩ := DataW.trod_string Tryz.underlying9 t6
    have e6' : [c12] = [Value.string a6] := e6
    have t7 : DataW.trod enc Tryz.prog w base spare held n 33 (([c0, c1, c2, c3, c4, c5, c6, c7, c8, c9, c10, c11, c12, c13, c14, c15, c16, c17, c18].drop 13).take (Tryz.prog.cellsOf 33)) = some xs[7] := (hf 7 _ rfl).trans (List.getElem?_eq_getElem (by omega))
    rw [co33] at t7
    have t8 : DataW.trod enc Tryz.prog w base spare held n 2 (([c0, c1, c2, c3, c4, c5, c6, c7, c8, c9, c10, c11, c12, c13, c14, c15, c16, c17, c18].drop 14).take (Tryz.prog.cellsOf 2)) = some xs[8] := (hf 8 _ rfl).trans (List.getElem?_eq_getElem (by omega))
    rw [co2] at t8
    obtain ⟨a8, e8, -, w8⟩ := DataW.trod_int Tryz.underlying2 t8
    have e8' : [c14] = [Value.int .i64 a8] := e8
    have t9 : DataW.trod enc Tryz.prog w base spare held n 2 (([c0, c1, c2, c3, c4, c5, c6, c7, c8, c9, c10, c11, c12, c13, c14, c15, c16, c17, c18].drop 15).take (Tryz.prog.cellsOf 2)) = some xs[9] := (hf 9 _ rfl).trans (List.getElem?_eq_getElem (by omega))
    rw [co2] at t9
    obtain ⟨a9, e9, -, w9⟩ := DataW.trod_int Tryz.underlying2 t9
    have e9' : [c15] = [Value.int .i64 a9] := e9
    have t10 : DataW.trod enc Tryz.prog w base spare held n 2 (([c0, c1, c2, c3, c4, c5, c6, c7, c8, c9, c10, c11, c12, c13, c14, c15, c16, c17, c18].drop 16).take (Tryz.prog.cellsOf 2)) = some xs[10] := (hf 10 _ rfl).trans (List.getElem?_eq_getElem (by omega))
    rw [co2] at t10
    obtain ⟨a10, e10, -, w10⟩ := DataW.trod_int Tryz.underlying2 t10
    have e10' : [c16] = [Value.int .i64 a10] := e10
    have t11 : DataW.trod enc Tryz.prog w base spare held n 3 (([c0, c1, c2, c3, c4, c5, c6, c7, c8, c9, c10, c11, c12, c13, c14, c15, c16, c17, c18].drop 17).take (Tryz.prog.cellsOf 3)) = some xs[11] := (hf 11 _ rfl).trans (List.getElem?_eq_getElem (by omega))
    rw [co3] at t11
    obtain ⟨a11, e11, -, w11⟩ := DataW.trod_int Tryz.underlying3 t11
    have e11' : [c17] = [Value.int .i64 a11] := e11
    have t12 : DataW.trod enc Tryz.prog w base spare held n 3 (([c0, c1, c2, c3, c4, c5, c6, c7, c8, c9, c10, c11, c12, c13, c14, c15, c16, c17, c18].drop 18).take (Tryz.prog.cellsOf 3)) = some xs[12] := (hf 12 _ rfl).trans (List.getElem?_eq_getElem (by omega))
    rw [co3] at t12
    obtain ⟨a12, e12, -, w12⟩ := DataW.trod_int Tryz.underlying3 t12
    have e12' : [c18] = [Value.int .i64 a12] := e12
    simp only [List.cons.injEq, and_true] at e0' e1' e5' e6' e8' e9' e10' e11' e12'
    subst e0' e1' e5' e6' e8' e9' e10' e11' e12' p2 q2 r2 s2 p3 q3 r3 s3
    exact ⟨⟨a0, a1, a2, a3, c10, a5, a6, c13, a8, a9, a10, a11, a12⟩, rfl, ⟨bounds_i64 w0, bounds_i64 w1, w2, w3, w5, w6, bounds_i64 w8, bounds_i64 w9, bounds_i64 w10, bounds_i64 w11, bounds_i64 w12⟩, ⟨n, _, t4⟩, ⟨n, _, t7⟩⟩

/-- A script opened: nil, or its calls by their index. -/
theorem open_script {fuel : Nat} {v : Value} {x : DataW H × List MemPlace} (h : DataW.trod enc Tryz.prog w base spare held fuel 22 v.cells.toList = some x) (hv : v.cells.toList = [v]) :
    v = .slice none 0 0 ∨ (∃ a cap, v = .slice (some a) 0 cap) ∨
    ∃ (b f len cap : Nat) (F : Nat → Op1), v = .slice (some ⟨b, f, none⟩) len cap ∧ len ≤ cap ∧ cap ≤ maxLen ∧ b < w.heap.size ∧ ∀ i, i < len → OpAt w b (f + i * 19) (F i) ∧ (F i).Wide ∧
      (∃ m y, DataW.trod enc Tryz.prog w base spare held m 32 [(F i).vs] = some y) ∧ (∃ m y, DataW.trod enc Tryz.prog w base spare held m 33 [(F i).b] = some y) := by
  rcases Go.Deep.open_slice Tryz.underlying22 h with ⟨h0, -⟩ | ⟨a, len, cap, m, n, D, Pl, h0, hb, hl, hm, hmm, rfl, hx⟩
  · left
    rw [hv] at h0
    simpa using h0
  right
  rw [hv] at h0
  have h0' : v = .slice (some a) len cap := by simpa using h0
  have hlm : len ≤ m := by rw [hmm]; split <;> omega
  rw [co35] at hx
  have key : ∀ i, i < len → ∃ o : Op1, (∀ j u, o.cells[j]? = some u → w.cell? (a.add (i * 19 + j)) = some u) ∧ o.Wide ∧
      (∃ m y, DataW.trod enc Tryz.prog w base spare held m 32 [o.vs] = some y) ∧ (∃ m y, DataW.trod enc Tryz.prog w base spare held m 33 [o.b] = some y) := fun i hi => by
    obtain ⟨cs', h1, h2⟩ := hx i (by omega)
    obtain ⟨o, rfl, hw, hvs, hbs⟩ := op_of h2
    obtain ⟨-, hl2, hc⟩ := World.cells?_some h1
    refine ⟨o, fun j u hj => ?_, hw, hvs, hbs⟩
    have hj19 : j < 19 := by
      have := (Array.getElem?_eq_some_iff.1 hj).1
      exact this
    have := hc j hj19
    rw [Go.Deep.add_add] at this
    rw [this, Array.getElem?_toList]
    exact hj
  by_cases hn : 0 < len
  · right
    obtain ⟨o0, hc0, -⟩ := key 0 hn
    have hspot : a.spot = none := by
      have := World.cell?_spot (hc0 0 _ rfl)
      simpa [Addr.add] using this
    obtain ⟨b, f, spot⟩ := a
    obtain rfl : spot = none := hspot
    have hblt : b < w.heap.size := by
      have := World.block_lt_of_cell? w _ (hc0 0 _ rfl)
      simpa [Addr.add] using this
    have hI : Inhabited Op1 := ⟨o0⟩
    obtain ⟨F, hF⟩ := Go.Deep.choose_lt key
    refine ⟨b, f, len, cap, F, h0', hl, hm, hblt, fun i hi => ⟨fun j u hj => ?_, (hF i hi).2⟩⟩
    have := (hF i hi).1 j u hj
    rw [Addr.add_mid] at this
    rw [Nat.add_assoc]
    exact this
  · obtain rfl : len = 0 := by omega
    exact .inl ⟨a, cap, h0'⟩
end
end Go.Proofs.YtmbgjhmjmomnoaaGreatDoor.Va

/-
  The loop of the laws over scripts: where plays answers true at each call of the kinds asked for, UpTo answers true.
-/
namespace Go.Proofs.YtmbgjhmjmomnoaaGreatDoor.Va
open Go.RowKit Go.Proofs.YtmbgjhmjmomnoaaGreatDoorW.PrintWords

/-- What the laws ask of the variables of the library and of the package. -/
structure Env (w : World) : Prop where
  tabs : Tabs w
  maxlen : ∃ m : Int, w.cell? ⟨4, 0, none⟩ = some (.int .i64 m)
theorem Env.below {W W' : World} (h : Env W) (hb : Below W.heap.size W W') : Env W' where
  tabs := h.tabs.below hb
  maxlen := h.maxlen.imp fun _ hm => keep1 hm hb

/-- What the laws ask of plays at the kinds from lo to hi. -/
def Plays (P : Op1 → Prop) (lo hi : Int) : Prop := ∀ (o : Op1) (w : World), P o → lo ≤ o.k → o.k ≤ hi → Env w → Calls Tryz.prog 15 #[o.val] w fun e w' => e = .returned (.bool true) ∧ Below w.heap.size w w'

set_option maxRecDepth 100000 in
set_option maxHeartbeats 1600000 in
theorem upto_any (P : Op1 → Prop) (lo hi : Int) (hp : Plays P lo hi) (bk off len cap : Nat) (F : Nat → Op1) (w : World) (hlen : (len : Int) ≤ 9223372036854775807) (hbk : bk < w.heap.size)
    (hP : ∀ i, i < len → P (F i)) (hc : ∀ i, i < len → OpAt w bk (off + i * 19) (F i)) (hT : Env w) :
    Calls Tryz.prog 14 #[.slice (some ⟨bk, off, none⟩) len cap, .int .i64 lo, .int .i64 hi] w fun e w' => e = .returned (.bool true) ∧ Below w.heap.size w w' := by
  have HP := Lib.hid hp
  clear hp
  go_enter Tryz.func14, Tryz.ntmps14
  go_wp2_with fail
  go_loopw [7] (fun i wr => (∃ k : Nat, k ≤ len ∧ i = .int .i64 k) ∧ Below w.heap.size w wr) (fun i _ => len - (intOf i).toNat)
  case atStart => exact ⟨⟨0, by omega, rfl⟩, Below.refl _ _⟩
  case round =>
    obtain ⟨⟨k, hk, rfl⟩, hB⟩ := hrel
    by_cases hlt : k < len
    · have hT1 : Env wr := ⟨hT.tabs.below hB, hT.maxlen.imp fun _ hm => keep1 hm hB⟩
      have hcell := (hc k hlt).below hB hbk
      have hPk := hP k hlt
      generalize F k = o at *
      have hrg := Lib.hid hcell.range
      have c0 := hcell.all.1
      have hlo := HP.out o wr hPk
      clear hcell hc hP hPk
      generalize o.k = k0 at *
      unfold Op1.val at hlo
      by_cases h1 : lo ≤ k0
      · by_cases h2 : k0 ≤ hi
        · have H := Lib.hid (hlo h1 h2 hT1)
          clear hlo
          go_wp2_with (first | ((with_reducible refine gate_dst (N := 34) rfl ?_); refine wpList_load_mid rfl 35 _ rfl _ _ rfl o.cells.toList _ hrg.out Tryz.underlying35 rfl op_info ?_; dsimp only) | (go_at_call 15; refine (H.out).mono ?_; rintro e w1 ⟨rfl, hb1⟩))
          have hB1 := keepB hB hb1 hB.size
          go_roundw
          case rel => exact ⟨⟨k + 1, by omega, by go_num⟩, hB1⟩
          case measure => simp [intOf]; omega
        · go_wp2_with fail
          go_roundw
          case rel => exact ⟨⟨k + 1, by omega, by go_num⟩, hB⟩
          case measure => simp [intOf]; omega
      · go_wp2_with fail
        go_roundw
        case rel => exact ⟨⟨k + 1, by omega, by go_num⟩, hB⟩
        case measure => simp [intOf]; omega
    · go_wp2_with fail
      go_ret
      exact ⟨rfl, hB⟩

theorem Plays.mono {P Q : Op1 → Prop} {lo hi : Int} (h : Plays P lo hi) (hq : ∀ o, Q o → P o) : Plays Q lo hi := fun o w ho => h o w (hq o ho)

theorem upto_none (lo hi : Int) (A : Option Addr) (cap : Nat) (w : World) : Calls Tryz.prog 14 #[.slice A 0 cap, .int .i64 lo, .int .i64 hi] w fun e w' => e = .returned (.bool true) ∧ Below w.heap.size w w' := by
  go_enter Tryz.func14, Tryz.ntmps14
  go_wp2_with fail
  go_loopw [7] (fun i wr => i = .int .i64 0 ∧ Below w.heap.size w wr) (fun i _ => 0)
  case atStart => exact ⟨rfl, Below.refl _ _⟩
  case round =>
    obtain ⟨rfl, hB⟩ := hrel
    go_wp2_with fail
    go_ret
    exact ⟨rfl, hB⟩
end Go.Proofs.YtmbgjhmjmomnoaaGreatDoor.Va

/-
  The law's plays at the calls of kind 2: Unary.
-/
namespace Go.Proofs.YtmbgjhmjmomnoaaGreatDoor.Va
open Go.RowKit Go.Proofs.YtmbgjhmjmomnoaaGreatDoorW.PrintWords

set_option maxRecDepth 100000 in
set_option maxHeartbeats 1600000 in
theorem plays_2 (o : Op1) (w : World) (hk : o.k = 2) (ho : o.Wide) (hT : Tabs w) : Calls Tryz.prog 15 #[o.val] w fun e w' => e = .returned (.bool true) ∧ Below w.heap.size w w' := by
  have hB := OpBox.new w o 35
  have H1 := Lib.hid (fun (x : Obj) => Unary_any o.op o.v ho.v.a (w.alloc x) (hT.below ((Below.refl _ _).alloc (Nat.le_refl _) x)))
  have H2 := Lib.hid (fun W => rUnary_any o.op o.v ho.v.a W)
  clear hT ho
  generalize unS o.op o.v = r at *
  generalize r.e = ee at *
  generalize r.v = rr at *
  obtain ⟨r0, r1, r2, r3⟩ := rr
  obtain ⟨c0, c1, c2, c3, c4, c5, -⟩ := hB.all
  rw [hk] at c0
  have hB0 := Lib.hid hB
  clear hB
  unfold Op1.val at *
  unfold V.v at *
  have eq := eql_val
  have es := V.eqB_self
  go_enter Tryz.func15, Tryz.ntmps15
  go_wp2_with fail
  refine (H1.out _).mono ?_
  rintro e w1 ⟨rfl, hb1⟩
  clear c0 c1 c2 c3 c4 c5
  have hB1 := hB0.out.keep hb1
  have hW1 : Below w.heap.size w w1 := keepB ((Below.refl _ w).alloc (Nat.le_refl _) _) hb1 (by simp)
  have q1 := fun x => (hB1.alloc x).all.2.1
  have q2 := fun x => (hB1.alloc x).all.2.2.1
  have q3 := fun x => (hB1.alloc x).all.2.2.2.1
  have q4 := fun x => (hB1.alloc x).all.2.2.2.2.1
  have q5 := fun x => (hB1.alloc x).all.2.2.2.2.2.1
  have hB1' := Lib.hid hB1
  clear hB1
  go_wp2_with fail
  refine (H2.out _).mono ?_
  rintro e w2 ⟨rfl, hb2⟩
  clear q1 q2 q3 q4 q5
  have bR := (Box.new w1 r0 r1 r2 r3 31).keep hb2
  have hW2 : Below w.heap.size w w2 := keepB (hW1.alloc hW1.size _) hb2 (by have := hW1.size; simp; omega)
  have k0 := fun o => (bR.alloc o).k0
  have k1 := fun o => (bR.alloc o).k1
  have k2 := fun o => (bR.alloc o).k2
  have k3 := fun o => (bR.alloc o).k3
  clear bR hb2 hb1
  go_wp2_with fail
  go_ret
  exact ⟨rfl, hW2.alloc hW2.size _⟩

theorem plays_unary : Plays Op1.Wide 2 2 := fun o w ho h1 h2 hT => plays_2 o w (by omega) ho hT.tabs
end Go.Proofs.YtmbgjhmjmomnoaaGreatDoor.Va

/-
  DERIVED: THE SHELF's CONTRACTS AT THIS DUMP, IN PLAIN WORDS (tools/lay-plain.mjs out of 'YtmbgjhmjmomnoaaGreatDoorShs.lean', which tools/lay-shelf.mjs wrote): THE SAME DECLARATIONS UNDER THE SAME NAMES: 'import', 'namespace', 'open', 'def', 'theorem' AND NOTHING ELSE: no command of the shelf's: FOR A HAND-IN. Each laying: the table of numbers ('.._ren') and one theorem, a field a fact of the dump's own or the kernel's comparison; each contract: ONE APPLICATION.
-/
namespace Go.Proofs
open Go.Shelf
def Tryz.lays99_ren : Go.Shelf.Ren := ⟨fun | 99 => 100 | 206 => 131 | n => n, fun | 9 => 9 | 4 => 4 | 3 => 3 | n => n, fun | n => n⟩
theorem Tryz.lays99 : Go.Proofs.Lays.n99 Tryz.prog Tryz.lays99_ren := {
  mixed := by kernel_rfl
  f99 := Tryz.func100.trans (congrArg some (by kernel_rfl))
  f206 := Tryz.func131.trans (congrArg some (by kernel_rfl))
  t3 := Tryz.underlying3
  a3 := Tryz.isAgg3
  z3 := Tryz.sizeOf3
  v3 := Tryz.zeroValue3
  t4 := Tryz.underlying4
  a4 := Tryz.isAgg4
  z4 := Tryz.sizeOf4
  v4 := Tryz.zeroValue4
  t9 := Tryz.underlying9
  a9 := Tryz.isAgg9
  z9 := Tryz.sizeOf9
  v9 := Tryz.zeroValue9 }
open Go.RowKit Go.Lib in
/-- strings.HasPrefix: "HasPrefix reports whether the string s begins with prefix.": IT RETURNS 'Lib.hasPrefix s prefix'; the world is as it was. (LAID: no walk: one application.) -/
theorem Tryz.strings_HasPrefix (s p : ByteArray) (w : World) :
    Calls Tryz.prog 100 #[.string s, .string p] w fun e w' => e = .returned (.bool (Lib.hasPrefix s.data.toList p.data.toList)) ∧ w' = w := Any.strings_HasPrefix Tryz.lays99 s p w
def Tryz.lays100_ren : Go.Shelf.Ren := ⟨fun | 100 => 101 | 207 => 132 | n => n, fun | 9 => 9 | 4 => 4 | 3 => 3 | n => n, fun | n => n⟩
theorem Tryz.lays100 : Go.Proofs.Lays.n100 Tryz.prog Tryz.lays100_ren := {
  mixed := by kernel_rfl
  f100 := Tryz.func101.trans (congrArg some (by kernel_rfl))
  f207 := Tryz.func132.trans (congrArg some (by kernel_rfl))
  t3 := Tryz.underlying3
  a3 := Tryz.isAgg3
  z3 := Tryz.sizeOf3
  v3 := Tryz.zeroValue3
  t4 := Tryz.underlying4
  a4 := Tryz.isAgg4
  z4 := Tryz.sizeOf4
  v4 := Tryz.zeroValue4
  t9 := Tryz.underlying9
  a9 := Tryz.isAgg9
  z9 := Tryz.sizeOf9
  v9 := Tryz.zeroValue9 }
open Go.RowKit Go.Lib in
/-- strings.HasSuffix: "HasSuffix reports whether the string s ends with suffix.": IT RETURNS 'Lib.hasSuffix s suffix'; the world is as it was. ('hs': no Go string is longer: a caller has it of every string that it was handed.) (LAID: no walk: one application.) -/
theorem Tryz.strings_HasSuffix (s p : ByteArray) (w : World) (hs : s.size ≤ 9223372036854775807) :
    Calls Tryz.prog 101 #[.string s, .string p] w fun e w' => e = .returned (.bool (Lib.hasSuffix s.data.toList p.data.toList)) ∧ w' = w := Any.strings_HasSuffix Tryz.lays100 s p w hs
def Tryz.lays144_ren : Go.Shelf.Ren := ⟨fun | 144 => 99 | 143 => 130 | 219 => 149 | 217 => 164 | 225 => 165 | 224 => 166 | 267 => 167 | 266 => 175 | 314 => 176 | n => n, fun | 9 => 9 | 4 => 4 | 3 => 3 | 5 => 5 | 46 => 150 | 146 => 195 | 51 => 194 | n => n, fun | 1 => 4 | n => n⟩
theorem Tryz.lays144 : Go.Proofs.Lays.n144 Tryz.prog Tryz.lays144_ren := {
  mixed := by kernel_rfl
  f143 := Tryz.func130.trans (congrArg some (by kernel_rfl))
  f144 := Tryz.func99.trans (congrArg some (by kernel_rfl))
  f217 := Tryz.func164.trans (congrArg some (by kernel_rfl))
  f219 := Tryz.func149.trans (congrArg some (by kernel_rfl))
  f224 := Tryz.func166.trans (congrArg some (by kernel_rfl))
  f225 := Tryz.func165.trans (congrArg some (by kernel_rfl))
  f266 := Tryz.func175.trans (congrArg some (by kernel_rfl))
  f267 := Tryz.func167.trans (congrArg some (by kernel_rfl))
  f314 := Tryz.func176.trans (congrArg some (by kernel_rfl))
  t3 := Tryz.underlying3
  a3 := Tryz.isAgg3
  z3 := Tryz.sizeOf3
  v3 := Tryz.zeroValue3
  t4 := Tryz.underlying4
  a4 := Tryz.isAgg4
  z4 := Tryz.sizeOf4
  v4 := Tryz.zeroValue4
  t5 := Tryz.underlying5
  a5 := Tryz.isAgg5
  z5 := Tryz.sizeOf5
  v5 := Tryz.zeroValue5
  t9 := Tryz.underlying9
  a9 := Tryz.isAgg9
  z9 := Tryz.sizeOf9
  v9 := Tryz.zeroValue9
  t46 := Tryz.underlying150
  a46 := Tryz.isAgg150
  z46 := Tryz.sizeOf150
  v46 := Tryz.zeroValue150
  t51 := Tryz.underlying194
  a51 := Tryz.isAgg194
  z51 := Tryz.sizeOf194
  v51 := Tryz.zeroValue194
  t146 := Tryz.underlying195
  a146 := Tryz.isAgg195
  z146 := Tryz.sizeOf195
  v146 := Tryz.zeroValue195
  g1 := by kernel_rfl }
open Go.RowKit Go.Lib in
/-- strings.Contains: "Contains reports whether substr is within s.": IT RETURNS 'Lib.contains s substr'; the world is as it was. (LAID: no walk: one application.) -/
theorem Tryz.strings_Contains (s sub : ByteArray) (m : Int) (w : World) (hs : s.size < 4294967281) (hm : w.cell? ⟨4, 0, none⟩ = some (.int .i64 m)) :
    Calls Tryz.prog 99 #[.string s, .string sub] w fun e w' => e = .returned (.bool (Lib.contains s.data.toList sub.data.toList)) ∧ w' = w := Any.strings_Contains Tryz.lays144 s sub m w hs hm
def Tryz.laysM144_ren : Go.Shelf.Ren := ⟨fun | 144 => 99 | 143 => 130 | 219 => 149 | 217 => 164 | 225 => 165 | 224 => 166 | 267 => 167 | 266 => 175 | 314 => 176 | n => n, fun | 9 => 9 | 4 => 4 | 3 => 3 | 5 => 5 | 46 => 150 | 146 => 195 | 51 => 194 | n => n, fun | 1 => 4 | n => n⟩
theorem Tryz.laysM144 : Go.Proofs.LaysM.n144 Tryz.prog Tryz.laysM144_ren := {
  mixed := by kernel_rfl
  f143 := Tryz.func130.trans (congrArg some (by kernel_rfl))
  f144 := Tryz.func99.trans (congrArg some (by kernel_rfl))
  f217 := Tryz.func164.trans (congrArg some (by kernel_rfl))
  f219 := Tryz.func149.trans (congrArg some (by kernel_rfl))
  f224 := Tryz.func166.trans (congrArg some (by kernel_rfl))
  f225 := Tryz.func165.trans (congrArg some (by kernel_rfl))
  f266 := Tryz.func175.trans (congrArg some (by kernel_rfl))
  f267 := Tryz.func167.trans (congrArg some (by kernel_rfl))
  f314 := Tryz.func176.trans (congrArg some (by kernel_rfl))
  t3 := Tryz.underlying3
  a3 := Tryz.isAgg3
  z3 := Tryz.sizeOf3
  v3 := Tryz.zeroValue3
  t4 := Tryz.underlying4
  a4 := Tryz.isAgg4
  z4 := Tryz.sizeOf4
  v4 := Tryz.zeroValue4
  t5 := Tryz.underlying5
  a5 := Tryz.isAgg5
  z5 := Tryz.sizeOf5
  v5 := Tryz.zeroValue5
  t9 := Tryz.underlying9
  a9 := Tryz.isAgg9
  z9 := Tryz.sizeOf9
  v9 := Tryz.zeroValue9
  t46 := Tryz.underlying150
  a46 := Tryz.isAgg150
  z46 := Tryz.sizeOf150
  v46 := Tryz.zeroValue150
  t51 := Tryz.underlying194
  a51 := Tryz.isAgg194
  z51 := Tryz.sizeOf194
  v51 := Tryz.zeroValue194
  t146 := Tryz.underlying195
  a146 := Tryz.isAgg195
  z146 := Tryz.sizeOf195
  v146 := Tryz.zeroValue195
  g1 := by kernel_rfl
  i3 := by kernel_rfl
  i4 := by kernel_rfl
  i5 := by kernel_rfl
  i9 := by kernel_rfl
  i46 := by kernel_rfl
  i51 := by kernel_rfl
  i146 := by kernel_rfl
  m1 := by kernel_rfl
  s1_3 := fun w h => Go.Proofs.cell_of_shapedOpen_int (zero := #[.int .i64 0]) (t := 3) h (of_decide_eq_true (by kernel_rfl)) (by kernel_rfl) rfl (by kernel_rfl) (by kernel_rfl) Tryz.underlying3 }
open Go.RowKit Go.Lib in
theorem Tryz.strings_Contains_shaped (s sub : ByteArray) (w : World) (h : w.ShapedOpen Tryz.prog) (hs : s.size < 4294967281) :
    Calls Tryz.prog 99 #[.string s, .string sub] w fun e w' => e = .returned (.bool (Lib.contains s.data.toList sub.data.toList)) ∧ w' = w := Any.strings_Contains_shaped Tryz.laysM144 s sub w h hs
end Go.Proofs
