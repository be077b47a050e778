/-
  The law ValueUnary returns true for every script and leaves it as it was, where the library's and the package's tables hold what their text lays in them (tied to the program's text by the card).
-/
import Derived.Test.YtmbgjhmjmomnoaaGreatDoorUn4
import Derived.Test.YtmbgjhmjmomnoaaGreatDoorCards
import Derived.Test.YtmbgjhmjmomnoaaGreatDoorTie
import Derived.ProofKit
import Derived.OpenShut
import Derived.Deep.DeepHandedRow
import Derived.Lib.LaidTab
import Derived.Lib.LaidIn
namespace Go.Proofs.YtmbgjhmjmomnoaaGreatDoor.valueUnary
open Go.ChangeShapes Go.WideShapes Go.ChangeAt Go.RowKit

theorem own : ownKnob Tryz.prog.godebug = none := by kernel_rfl
theorem laidOut : laidOutB Tryz.prog = true := by kernel_rfl

set_option maxRecDepth 100000 in
/-- The law itself: it calls UpTo. -/
theorem walk (v : Value) (W : World) (H : Calls Tryz.prog 14 #[v, .int .i64 2, .int .i64 2] W fun e w' => e = .returned (.bool true) ∧ Below W.heap.size W w') :
    Calls Tryz.prog 4 #[v] W fun e w' => e = .returned (.bool true) ∧ Below W.heap.size W w' := by
  have H1 := Lib.hid H
  clear H
  go_enter Tryz.func4, Tryz.ntmps4
  go_wp2_with (go_at_call 14; refine (H1.out).mono ?_; rintro e w1 ⟨rfl, hb1⟩)
  go_ret
  exact ⟨rfl, hb1⟩

theorem first_is : Rows.laid_unicode_utf8_first = Lib.firstData := by kernel_rfl
theorem accept_is : (Rows.laid_unicode_utf8_acceptRanges : DataW Unit) = Lib.acceptData := by kernel_rfl
theorem env_of {W : World} (hL : laidMet Tryz.prog Rows.valueUnaryRow.laid W) (hS : W.ShapedOpen Tryz.prog) : Va.Env W := by
  have h1 := Lib.laidMet.reads hL (show ("unicode/utf8.first", Rows.laid_unicode_utf8_first) ∈ Rows.valueUnaryRow.laid from .tail _ (.tail _ (.tail _ (.tail _ (.tail _ (.tail _ (.tail _ (.head _))))))))
  have h2 := Lib.laidMet.reads hL (show ("unicode/utf8.acceptRanges", (Rows.laid_unicode_utf8_acceptRanges : DataW Unit)) ∈ Rows.valueUnaryRow.laid from .tail _ (.tail _ (.tail _ (.head _))))
  rw [first_is] at h1
  rw [accept_is] at h2
  exact ⟨utf8Tabs_of_readsT (U8Types.of196 Tryz.lays196) ⟨by kernel_rfl, by kernel_rfl, by kernel_rfl, by kernel_rfl, by kernel_rfl, by kernel_rfl, by kernel_rfl⟩ h1 h2, Tryz.laysM144.s1_3 W hS⟩

set_option maxRecDepth 100000 in
/-- What the walk gives, for every script and every world. -/
theorem contract (H : Type) (enc : TypeId × Value → H) (W : World) (base : Nat) (args : Array Value) (ds gs : List (DataW H)) (before : List MemPlace)
    (hval : ∀ (j : Nat) t v, Tryz.f4.params[j]? = some t → args[j]? = some v → Value.okWide Tryz.prog W .any base t v)
    (hW : DataW.Whole enc Tryz.prog Tryz.f4.params.toList Rows.valueUnarySpec.vars false W args.toList ds gs before) (hT : Va.Env W) :
    Calls Tryz.prog 4 args W fun e W' => ∃ v, e = .returned v ∧ Rows.valueUnarySpec.post enc Tryz.prog Tryz.f4 false true false false W args v W' := by
  have hW' := hW
  obtain ⟨p, q, hA0, hV, rfl, hfz, hnd⟩ := hW
  have hA : DataW.TrodAll enc Tryz.prog W 0 (fun _ => true) true Tryz.f4.params.toList args.toList ds p := hA0
  rw [Tryz.params4] at hA hval
  obtain ⟨v0, vs0, d0, ds0, p0, q0, hargs, rfl, rfl, h0, r0⟩ := trodAll_cons hA
  obtain ⟨rfl, rfl, rfl⟩ := trodAll_nil r0
  obtain rfl : args = #[v0] := by cases args; simp_all
  obtain ⟨rfl, rfl⟩ := trodVars_none hV
  obtain ⟨a0, len0, cap0, rfl⟩ := okWide_slice Tryz.underlying22 (hval 0 22 v0 rfl rfl)
  have k0 := h0
  have lt0 : ∀ x ∈ p0, x.block < W.heap.size := by obtain ⟨m, hm⟩ := k0; exact DataW.trod_lt m _ _ _ hm
  clear hA0
  simp only [List.append_nil] at hW'
  have key : Calls Tryz.prog 14 #[.slice a0 len0 cap0, .int .i64 2, .int .i64 2] W fun e w' => e = .returned (.bool true) ∧ Below W.heap.size W w' := by
    obtain ⟨fuel, hf⟩ := h0
    rcases Va.open_script hf rfl with h | ⟨a, cap, h⟩ | ⟨b, f, len, cap, F, h, hl, hm, hb, hF⟩
    · rw [h]; exact Va.upto_none _ _ _ _ W
    · rw [h]; exact Va.upto_none _ _ _ _ W
    · rw [h]
      exact Va.upto_any _ _ _ Va.plays_unary b f len cap F W (by unfold maxLen at hm; omega) hb (fun i hi => (hF i hi).2.1) (fun i hi => (hF i hi).1) hT
  refine (walk _ W key).mono fun e W' ⟨he, bel⟩ => ?_
  subst he
  exact ⟨_, rfl, _, _, _, [], _, [], hW', trodAll_mk1 (shut_bool Tryz.underlying4 _), (trodAll_cons_mk (Below.trod laidOut (by kernel_rfl) (of_decide_eq_true (by kernel_rfl)) k0 bel lt0) trodAll_mk0), rfl, bel.frame _, fun h => by cases h⟩

/-- A block's cells, laid. -/
def layAt (cs : Array Value) : Obj → Obj
  | .cells _ t frozen => .cells cs t frozen
  | o => o
/-- A datum of numbers as cells. -/
def numsOf (k : IntKind) : DataW Unit → List Value
  | .agg l => l.attach.flatMap fun ⟨d, _⟩ => match d with
    | .lit (.int _ n) => [.int k n]
    | .agg l2 => l2.flatMap fun d2 => match d2 with
      | .lit (.int _ n) => [.int k n]
      | _ => []
    | _ => []
  | _ => []
/-- A world for the witness: the settled one, the eight variables holding what the text lays. -/
noncomputable def heap0 (os : Os) : Array Obj :=
  (World.holding Tryz.prog os ⟨#[.cells #[.string ⟨#[118, 97, 108, 117, 101, 32, 111, 117, 116, 32, 111, 102, 32, 114, 97, 110, 103, 101]⟩] 213, .cells #[.string ⟨#[105, 110, 118, 97, 108, 105, 100, 32, 115, 121, 110, 116, 97, 120]⟩] 213], #[], []⟩).heap
noncomputable def heap1 (os : Os) : Array Obj :=
  let n := (World.settled Tryz.prog os).heap.size
  let h1 := (heap0 os).modify 0 (layAt (Go.Pinned.utf8FirstZ.map fun (z : Nat) => Value.int .u8 (z : Int)).toArray)
  let h2 := h1.modify 6 (layAt #[.iface 211 (.pointer (some ⟨n, 0, none⟩))])
  let h3 := h2.modify 5 (layAt #[.iface 211 (.pointer (some ⟨n + 1, 0, none⟩))])
  let h4 := h3.modify 8 (layAt (numsOf .u8 Rows.laid_math_bits_deBruijn32tab).toArray)
  let h5 := h4.modify 9 (layAt (numsOf .u8 Rows.laid_math_bits_deBruijn64tab).toArray)
  let h6 := h5.modify 7 (layAt (numsOf .u64 Rows.laid_internal_strconv_uint64pow10).toArray)
  let h7 := h6.modify 1 (layAt (numsOf .u8 Rows.laid_unicode_utf8_acceptRanges).toArray)
  let h8 := h7.modify 3 (layAt (numsOf .i32 Rows.laid_trellis_value_escapes).toArray)
  h8
noncomputable def laidWorld (os : Os) : World :=
  { World.holding Tryz.prog os ⟨#[], #[], []⟩ with heap := heap1 os }
theorem laid_met (os : Os) : laidMet Tryz.prog Rows.valueUnaryRow.laid ((laidWorld os).forCall (fun _ _ => 0) ⟨#[], #[.slice none 0 0], []⟩).memory :=
  laidMet_of_run' 8 (by kernel_rfl) (by kernel_rfl)
theorem reads (os : Os) {H : Type} (enc : TypeId × Value → H) : ∃ places, DataW.whole enc Tryz.prog ((laidWorld os).forCall (fun _ _ => 0) ⟨#[], #[.slice none 0 0], []⟩).memory Tryz.f4.params.toList Rows.valueUnarySpec.vars false #[Value.slice none 0 0].toList 8 = some ([.nil], [], places) :=
  ⟨[], by kernel_rfl⟩

set_option maxRecDepth 100000 in
theorem lifted (os : Os) (started : os.Started) (H : Type) (enc : TypeId × Value → H) (F : Stop.Interp) :
    ReturnsInHanded {} Tryz.checked os 4 .any ((OpenSpec.ofChange Rows.valueUnarySpec).preRow enc Tryz.prog Tryz.f4 Rows.valueUnaryRow.domain false Rows.valueUnaryRow.laid) (((OpenSpec.ofChange Rows.valueUnarySpec).at F).post enc Tryz.prog Tryz.f4 false true false false) := by
  obtain ⟨places, hx⟩ := reads os enc
  refine returnsInHanded_of_row (C := Tryz.checked) (s := OpenSpec.ofChange Rows.valueUnarySpec) own started (by kernel_rfl) Tryz.func4
    (witness_row_at (enc := enc) (C := Tryz.checked) false (laidWorld os) #[.slice none 0 0] rfl (by kernel_rfl) (by kernel_rfl) (by kernel_rfl)
      (OpenSpec.preRow_of_cond 8 hx (by kernel_rfl) (fun k hk => by cases hk) (by kernel_rfl) (laid_met os))) ?_
  intro W base args ds gs before hval hW _ _ _ hL hS _
  exact contract H enc W base args ds gs before hval hW (env_of hL hS)

theorem said : Rows.ValueUnarySaid :=
  OpenClaim.holds_of_cond 4 Tryz.f4 rfl rfl rfl rfl rfl rfl rfl ⟨rfl, rfl, rfl, rfl, rfl⟩ rfl rfl rfl rfl rfl (by kernel_rfl) Tryz.func4 (by kernel_rfl)
    (of_decide_eq_true (by kernel_rfl)) (by unfold Func.isWrapper; first | (rw [if_pos (by decide +kernel)]; kernel_rfl) | (rw [if_neg (by decide +kernel)]; exact ⟨rfl, rfl⟩))
    (fun os started H enc _ F => by rw [OpenClaim.pre_eq_preRow]; exact lifted os started H enc F)

/-- No parameter wants a stand-in; the program's own looks are off. -/
theorem plain (f : FuncId) (fn : Func) (hf : Tryz.pinned.checked.prog.funcNamed "trellis/trellislaw1.ValueUnary" = some f) (hfn : Tryz.pinned.checked.prog.funcs[f]? = some fn) :
    true = Tryz.pinned.checked.prog.looks [] ∧ ∀ (j : Nat) t, fn.params[j]? = some t → Tryz.pinned.checked.prog.wantsStandIn t = false := by
  obtain rfl : f = 4 := Option.some.inj ((show Tryz.prog.funcNamed "trellis/trellislaw1.ValueUnary" = some 4 by kernel_rfl).symm.trans hf) |>.symm
  obtain rfl : fn = Tryz.f4 := (Option.some.inj (Tryz.func4.symm.trans hfn)).symm
  refine ⟨by kernel_rfl, fun j t ht => ?_⟩
  rw [Tryz.params4] at ht
  obtain rfl : t = 22 := by simpa using Array.mem_of_getElem? ht
  exact (show Tryz.prog.wantsStandIn 22 = false by kernel_rfl)

/-- The card. -/
theorem card : Rows.ValueUnaryCardSaid :=
  Claim7.holds_tied_plain_at .later [] _ _ _ _ said (fun _ h => by cases h) (by kernel_rfl) (fun _ h => by cases h) valueUnary_row_tie rfl ⟨rfl, rfl⟩ (by kernel_rfl) rfl plain (by kernel_rfl)
#print axioms card
end Go.Proofs.YtmbgjhmjmomnoaaGreatDoor.valueUnary
