/-
  The law's plays at the calls of kind 1: Valid, Storable, Name.
-/
import Derived.Test.YtmbgjhmjmomnoaaGreatDoorForm
import Derived.Test.YtmbgjhmjmomnoaaGreatDoorUpto
namespace Go.Proofs.YtmbgjhmjmomnoaaGreatDoor.Va
open Go.RowKit Go.Proofs.YtmbgjhmjmomnoaaGreatDoorW.PrintWords

set_option maxRecDepth 100000 in
set_option maxHeartbeats 1600000 in
theorem plays_1 (o : Op1) (w : World) (hk : o.k = 1) (hT : Tabs w) : Calls Tryz.prog 15 #[o.val] w fun e w' => e = .returned (.bool true) ∧ Below w.heap.size w w' := by
  have H := Lib.hid (fun W h => forms_any o W h)
  have HT := Lib.hid (fun (o : Obj) => hT.below ((Below.refl _ _).alloc (Nat.le_refl _) o))
  have hB := OpBox.new w o 35
  have hrg := Lib.hid hB.range
  have c0 := hB.all.1
  rw [hk] at c0
  clear hB hT
  unfold Op1.val at *
  go_enter Tryz.func15, Tryz.ntmps15
  go_wp2_with (first | ((with_reducible refine gate_dst (N := 19) rfl ?_); refine wpList_load_mid rfl 35 _ rfl _ _ rfl o.cells.toList _ hrg.out Tryz.underlying35 rfl op_info ?_; dsimp only) | (go_at_call 21; refine (H.out _ (HT.out _)).mono ?_; rintro e w1 ⟨rfl, hb1⟩))
  have hB1 := keepB ((Below.refl _ w).alloc (Nat.le_refl _) _) hb1 (by simp)
  go_ret
  exact ⟨rfl, hB1⟩

theorem plays_forms : Plays (fun _ => True) 1 1 := fun o w _ h1 h2 hT => plays_1 o w (by omega) hT
end Go.Proofs.YtmbgjhmjmomnoaaGreatDoor.Va
