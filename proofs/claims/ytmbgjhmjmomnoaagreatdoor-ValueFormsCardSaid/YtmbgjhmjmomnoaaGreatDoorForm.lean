/-
  The law's forms: package value's Valid, Storable, Name tell what the document's tell.
-/
import Derived.Test.YtmbgjhmjmomnoaaGreatDoorRef
import Derived.Test.YtmbgjhmjmomnoaaGreatDoorNam
import Derived.Test.YtmbgjhmjmomnoaaGreatDoorOpr
import Derived.Deep.RegionHeld3
namespace Go.Proofs.YtmbgjhmjmomnoaaGreatDoor.Va
open Go.RowKit

set_option maxRecDepth 100000 in
set_option maxHeartbeats 1600000 in
theorem forms_any (o : Op1) (w : World) (hT : Tabs w) : Calls Tryz.prog 21 #[o.val] w fun e w' => e = .returned (.bool true) ∧ Below w.heap.size w w' := by
  obtain ⟨k, op, ⟨vk, va, vb, vs0⟩, ⟨wk, wa, wb, ws0⟩, vs, s, t, b, n, x, y, odd, over⟩ := o
  have A1 := Lib.hid (fun W h => valid_any ⟨vk, va, vb, vs0⟩ W h)
  have A2 := Lib.hid (fun W => rvalid_any ⟨vk, va, vb, vs0⟩ W)
  have A3 := Lib.hid (fun W h => storable_any ⟨vk, va, vb, vs0⟩ W h)
  have A4 := Lib.hid (fun W => rstorable_any ⟨vk, va, vb, vs0⟩ W)
  have A5 := Lib.hid (fun W => vname_any s W)
  have A6 := Lib.hid (fun W => rname_any s W)
  generalize V.ok _ = r1 at *
  generalize V.stor _ = r2 at *
  generalize nameB s = r3 at *
  unfold V.v at *
  have HT := Lib.hid (fun (o : Obj) => hT.below ((Below.refl _ _).alloc (Nat.le_refl _) o))
  clear hT
  unfold Op1.val Op1.cells
  dsimp only
  go_enter Tryz.func21, Tryz.ntmps21
  have hT1 := (HT.out (.cells (Op1.mk k op ⟨vk, va, vb, vs0⟩ ⟨wk, wa, wb, ws0⟩ vs s t b n x y odd over).cells 35)).below (Below.refl _ _).drew
  have hB1 := ((Below.refl _ w).alloc (Nat.le_refl _) (.cells (Op1.mk k op ⟨vk, va, vb, vs0⟩ ⟨wk, wa, wb, ws0⟩ vs s t b n x y odd over).cells 35)).drew
  unfold Op1.cells at hT1 hB1
  dsimp only at hT1 hB1
  go_upto_region 1 with fail
  go_region_held3 (fun w' => w'.cell? ⟨w.heap.size, 2, none⟩ = some (.int .i64 vk) ∧ w'.cell? ⟨w.heap.size, 3, none⟩ = some (.int .i64 va) ∧ w'.cell? ⟨w.heap.size, 4, none⟩ = some (.int .i64 vb) ∧ w'.cell? ⟨w.heap.size, 5, none⟩ = some (.string vs0) ∧ w'.cell? ⟨w.heap.size, 11, none⟩ = some (.string s) ∧ Tabs w' ∧ Below w.heap.size w w')
    (first | (refine ⟨?_, ?_, ?_, ?_, ?_, ?_, ?_⟩ <;> first | assumption | (simp [*]; done)) | (go_split_ands; refine ⟨?_, ?_, ?_, ?_, ?_, ?_, ?_⟩ <;> first | exact keep1 (by assumption) hbk | exact Tabs.below (by assumption) hbk | exact keepB (by assumption) hbk (by have := Below.size (by assumption : Below w.heap.size w _); omega)))
    (first | (go_at_call 38; go_split_ands; refine (A1.out _ (by assumption)).mono ?_; rintro e wt ⟨rfl, hbk⟩) | (go_at_call 34; refine (A2.out _).mono ?_; rintro e wt ⟨rfl, hbk⟩) | (go_at_call 39; go_split_ands; refine (A3.out _ (by assumption)).mono ?_; rintro e wt ⟨rfl, hbk⟩) | (go_at_call 40; refine (A4.out _).mono ?_; rintro e wt ⟨rfl, hbk⟩))
  go_split_ands
  clear hT1 hB1
  obtain ⟨w2, rfl⟩ : ∃ wy : World, wy = wt := ⟨_, rfl⟩
  go_upto_region 3 with fail
  trace_state
  go_region_held3 (fun w' => w'.cell? ⟨w.heap.size, 11, none⟩ = some (.string s) ∧ Tabs w' ∧ Below w.heap.size w w')
    (first | (refine ⟨?_, ?_, ?_⟩ <;> first | assumption | (simp [*]; done) | exact Below.drew (by assumption) | exact Tabs.below (by assumption) (Below.refl _ _).drew) | (go_split_ands; refine ⟨?_, ?_, ?_⟩ <;> first | exact keep1 (by assumption) hbk | exact Tabs.below (by assumption) hbk | exact keepB (by assumption) hbk (by have := Below.size (by assumption : Below w.heap.size w _); omega)))
    (first | (go_at_call 41; refine (A5.out _).mono ?_; rintro e wt ⟨rfl, hbk⟩) | (go_at_call 42; refine (A6.out _).mono ?_; rintro e wt ⟨rfl, hbk⟩))
  go_split_ands
  go_wp2
  go_ret
  exact ⟨by simp, by assumption⟩
end Go.Proofs.YtmbgjhmjmomnoaaGreatDoor.Va
