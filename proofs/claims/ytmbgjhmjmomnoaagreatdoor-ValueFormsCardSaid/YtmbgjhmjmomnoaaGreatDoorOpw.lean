/-
  value.open of a string, and of every api.Val; value.Valid, value.Storable: what each returns.
-/
import Derived.Test.YtmbgjhmjmomnoaaGreatDoorOpen
import Derived.Test.YtmbgjhmjmomnoaaGreatDoorBox
import Derived.Test.YtmbgjhmjmomnoaaGreatDoorShv
import Derived.Lib.LaidU8T
namespace Go.Proofs.YtmbgjhmjmomnoaaGreatDoor.Va
open Go.RowKit

/-- unicode/utf8's two tables hold what the library's text lays in them. -/
def Tabs (w : World) : Prop := Lib.Utf8Tabs (Tryz.lays196_ren.g 3) (Tryz.lays196_ren.g 4) w
theorem Tabs.below {W W' : World} (h : Tabs W) (hb : Below W.heap.size W W') : Tabs W' := Utf8Tabs_below h hb

theorem valid_string (s : ByteArray) (w : World) (hs : s.size ≤ 9223372036854775807) (hT : Tabs w) : Calls Tryz.prog 88 #[.string s] w fun e w' => e = .returned (.bool (Lib.validD s.data.toList)) ∧ Below w.heap.size w w' :=
  Any.utf8_ValidString Tryz.lays196 s w hs hT
theorem valid_string_yes (s : ByteArray) (w : World) (hs : s.size ≤ 32) (hv : Lib.validD s.data.toList = true) (hT : Tabs w) : Calls Tryz.prog 88 #[.string s] w fun e w' => e = .returned (.bool true) ∧ Below w.heap.size w w' :=
  (valid_string s w (by omega) hT).mono fun _ _ h => by rw [hv] at h; exact h
theorem valid_string_no (s : ByteArray) (w : World) (hs : s.size ≤ 32) (hv : Lib.validD s.data.toList = false) (hT : Tabs w) : Calls Tryz.prog 88 #[.string s] w fun e w' => e = .returned (.bool false) ∧ Below w.heap.size w w' :=
  (valid_string s w (by omega) hT).mono fun _ _ h => by rw [hv] at h; exact h

set_option maxRecDepth 100000 in
theorem open_long (a b : Int) (s : ByteArray) (w : World) (h : ¬ s.size ≤ 32) : Calls Tryz.prog 33 #[.agg #[.int .i64 4, .int .i64 a, .int .i64 b, .string s]] w fun e w' => e = .returned (.tuple #[.nilIface, .bool false]) ∧ Below w.heap.size w w' := by
  have hz : (32 : Int) < (s.size : Int) := by omega
  go_enter Tryz.func33, Tryz.ntmps33
  go_wp2_with fail
  all_goals
    go_ret2
    exact ⟨rfl, (by repeat (first | exact Below.refl _ _ | assumption | refine Below.alloc ?_ (by simp; try omega) _ | refine Below.drew ?_ | refine Below.setCell ?_ (by simp; try omega) _))⟩

set_option maxRecDepth 100000 in
theorem open_bad (a b : Int) (s : ByteArray) (w : World) (hs : s.size ≤ 32) (hv : Lib.validD s.data.toList = false) (hT : Tabs w) : Calls Tryz.prog 33 #[.agg #[.int .i64 4, .int .i64 a, .int .i64 b, .string s]] w fun e w' => e = .returned (.tuple #[.nilIface, .bool false]) ∧ Below w.heap.size w w' := by
  have hz : ¬ (32 : Int) < (s.size : Int) := by omega
  have Hv := Lib.hid (fun W h => valid_string_no s W hs hv h)
  have HT := Lib.hid (fun (o : Obj) => hT.below ((Below.refl _ _).alloc (Nat.le_refl _) o))
  clear hT hv
  go_enter Tryz.func33, Tryz.ntmps33
  go_wp2_with (go_at_call 88; refine (Hv.out _ (HT.out _)).mono ?_; rintro e w1 ⟨rfl, hb⟩; obtain ⟨h1, h2⟩ := bcell hb; have hz : w.heap.size + 1 ≤ w1.heap.size := by have := hb.size; simpa using this)
  all_goals
    go_ret2
    have hb' : Below w.heap.size w w1 := (((Below.refl _ w).alloc (Nat.le_refl _) _)).trans (hb.mono (by simp))
    exact ⟨rfl, (by repeat (first | exact Below.refl _ _ | assumption | refine Below.alloc ?_ (by simp; try omega) _ | refine Below.drew ?_ | refine Below.setCell ?_ (by simp; try omega) _))⟩

set_option maxRecDepth 100000 in
theorem open_wrd (a b : Int) (s : ByteArray) (w : World) (hs : s.size ≤ 32) (hv : Lib.validD s.data.toList = true) (hT : Tabs w) : Calls Tryz.prog 33 #[.agg #[.int .i64 4, .int .i64 a, .int .i64 b, .string s]] w fun e w' => e = .returned (.tuple #[Dat.v (.wrd s), .bool (V.eqB (V.mk 4 0 0 s) (V.mk 4 a b s))]) ∧ Below w.heap.size w w' := by
  have hz : ¬ (32 : Int) < (s.size : Int) := by omega
  have Hu := Lib.hid (fun W h => valid_string_yes s W hs hv h)
  have HT := Lib.hid (fun (o : Obj) => hT.below ((Below.refl _ _).alloc (Nat.le_refl _) o))
  clear hT hv
  have hm := meth_val (.wrd s)
  have hc := callFunc_val (.wrd s)
  have hv := val_any (.wrd s)
  have he := eql_val
  simp only [Dat.t, Dat.x, Dat.fval, Dat.val, V.v] at hm hc hv
  have Hv := Lib.hid hv
  clear hv
  unfold Dat.v Dat.t Dat.x
  go_enter Tryz.func33, Tryz.ntmps33
  go_wp2_with (go_at_call 88; refine (Hu.out _ (HT.out _)).mono ?_; rintro e w0 ⟨rfl, hb0⟩; have B0 := Lib.hid ((Box.new w 4 a b s _).keep hb0).drew; obtain ⟨c0, c1, c2, c3, f0, f1, f2, f3⟩ := (Box.new w 4 a b s _).keep hb0; have hz0 : w.heap.size + 1 ≤ w0.heap.size := (by have := hb0.size; simpa using this))
  go_region_with (first | (go_at_call 162; refine (Hv.out _).mono ?_; rintro e w1 ⟨rfl, hb⟩; obtain ⟨d0, d1, d2, d3, e0, e1, e2, e3⟩ := B0.out.keep hb; have hz1 : w.heap.size + 1 ≤ w1.heap.size := Nat.le_trans hz0 (by have := hb.size; simpa using this)))
  all_goals
    go_wp2
    go_ret2
    refine ⟨rfl, ?_⟩
    have hb' : Below w.heap.size w w1 := ((((Below.refl _ w).alloc (Nat.le_refl _) _)).trans (hb0.mono (by simp))).drew.trans (hb.mono (by simp; omega))
    exact (by repeat (first | exact Below.refl _ _ | assumption | refine Below.alloc ?_ (by simp; try omega) _ | refine Below.drew ?_ | refine Below.setCell ?_ (by simp; try omega) _))
end Go.Proofs.YtmbgjhmjmomnoaaGreatDoor.Va
