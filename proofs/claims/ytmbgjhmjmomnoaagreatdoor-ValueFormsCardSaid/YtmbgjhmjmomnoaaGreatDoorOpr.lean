/-
  A call of a script (ValOp): its nineteen cells.
-/
import Derived.Test.YtmbgjhmjmomnoaaGreatDoorBox
import Derived.Deep.MidRow
namespace Go.Proofs.YtmbgjhmjmomnoaaGreatDoor.Va
open Go.RowKit

/-- A call of a script. -/
structure Op1 where
  k : Int
  op : Int
  v : V
  w : V
  vs : Value
  s : ByteArray
  t : ByteArray
  b : Value
  n : Int
  x : Int
  y : Int
  odd : Int
  over : Int

def Op1.cells (o : Op1) : Array Value := #[.int .i64 o.k, .int .i64 o.op, .int .i64 o.v.k, .int .i64 o.v.a, .int .i64 o.v.b, .string o.v.s, .int .i64 o.w.k, .int .i64 o.w.a, .int .i64 o.w.b, .string o.w.s, o.vs, .string o.s, .string o.t, o.b, .int .i64 o.n, .int .i64 o.x, .int .i64 o.y, .int .i64 o.odd, .int .i64 o.over]
def Op1.val (o : Op1) : Value := .agg o.cells

/-- From place f of block b on lie the cells of o. -/
def OpAt (W : World) (b f : Nat) (o : Op1) : Prop := ∀ (j : Nat) (v : Value), o.cells[j]? = some v → W.cell? ⟨b, f + j, none⟩ = some v
theorem OpAt.below {B : Nat} {W W' : World} {b f : Nat} {o : Op1} (h : OpAt W b f o) (hb : Below B W W') (hB : b < B) : OpAt W' b f o := fun j v hj => (hb.cell (p := ⟨b, f + j, none⟩) hB).trans (h j v hj)
/-- A variable that holds o. -/
def OpBox (W : World) (b : Nat) (o : Op1) : Prop := ∀ (j : Nat) (v : Value), o.cells[j]? = some v → W.cell? ⟨b, j, none⟩ = some v
theorem OpBox.new (W : World) (o : Op1) (t : TypeId) : OpBox (W.alloc (.cells o.cells t)) W.heap.size o := fun j v hj => by
  simp [hj]
theorem OpBox.below {B : Nat} {W W' : World} {b : Nat} {o : Op1} (h : OpBox W b o) (hb : Below B W W') (hB : b < B) : OpBox W' b o := fun j v hj => (hb.cell (p := ⟨b, j, none⟩) hB).trans (h j v hj)
theorem OpAt.range {W : World} {b f : Nat} {o : Op1} (h : OpAt W b f o) : W.rangeAt b f o.cells.toList := fun j v hj => h j v (by rw [← hj, Array.getElem?_toList])
theorem OpBox.range {W : World} {b : Nat} {o : Op1} (h : OpBox W b o) : W.rangeAt b 0 o.cells.toList := fun j v hj => by rw [Nat.zero_add]; exact h j v (by rw [← hj, Array.getElem?_toList])
/-- What the type ValOp's description says of its size. -/
theorem op_info : (Tryz.prog.info? 35).map (·.size) = some 19 := by kernel_rfl
theorem OpAt.all {W : World} {b f : Nat} {o : Op1} (h : OpAt W b f o) : W.cell? ⟨b, f, none⟩ = some (.int .i64 o.k) ∧ W.cell? ⟨b, f + 1, none⟩ = some (.int .i64 o.op) ∧ W.cell? ⟨b, f + 2, none⟩ = some (.int .i64 o.v.k) ∧ W.cell? ⟨b, f + 3, none⟩ = some (.int .i64 o.v.a) ∧ W.cell? ⟨b, f + 4, none⟩ = some (.int .i64 o.v.b) ∧ W.cell? ⟨b, f + 5, none⟩ = some (.string o.v.s) ∧ W.cell? ⟨b, f + 6, none⟩ = some (.int .i64 o.w.k) ∧ W.cell? ⟨b, f + 7, none⟩ = some (.int .i64 o.w.a) ∧ W.cell? ⟨b, f + 8, none⟩ = some (.int .i64 o.w.b) ∧ W.cell? ⟨b, f + 9, none⟩ = some (.string o.w.s) ∧ W.cell? ⟨b, f + 10, none⟩ = some o.vs ∧ W.cell? ⟨b, f + 11, none⟩ = some (.string o.s) ∧ W.cell? ⟨b, f + 12, none⟩ = some (.string o.t) ∧ W.cell? ⟨b, f + 13, none⟩ = some o.b ∧ W.cell? ⟨b, f + 14, none⟩ = some (.int .i64 o.n) ∧ W.cell? ⟨b, f + 15, none⟩ = some (.int .i64 o.x) ∧ W.cell? ⟨b, f + 16, none⟩ = some (.int .i64 o.y) ∧ W.cell? ⟨b, f + 17, none⟩ = some (.int .i64 o.odd) ∧ W.cell? ⟨b, f + 18, none⟩ = some (.int .i64 o.over) :=
  ⟨h 0 _ rfl, h 1 _ rfl, h 2 _ rfl, h 3 _ rfl, h 4 _ rfl, h 5 _ rfl, h 6 _ rfl, h 7 _ rfl, h 8 _ rfl, h 9 _ rfl, h 10 _ rfl, h 11 _ rfl, h 12 _ rfl, h 13 _ rfl, h 14 _ rfl, h 15 _ rfl, h 16 _ rfl, h 17 _ rfl, h 18 _ rfl⟩
theorem OpBox.all {W : World} {b : Nat} {o : Op1} (h : OpBox W b o) : W.cell? ⟨b, 0, none⟩ = some (.int .i64 o.k) ∧ W.cell? ⟨b, 1, none⟩ = some (.int .i64 o.op) ∧ W.cell? ⟨b, 2, none⟩ = some (.int .i64 o.v.k) ∧ W.cell? ⟨b, 3, none⟩ = some (.int .i64 o.v.a) ∧ W.cell? ⟨b, 4, none⟩ = some (.int .i64 o.v.b) ∧ W.cell? ⟨b, 5, none⟩ = some (.string o.v.s) ∧ W.cell? ⟨b, 6, none⟩ = some (.int .i64 o.w.k) ∧ W.cell? ⟨b, 7, none⟩ = some (.int .i64 o.w.a) ∧ W.cell? ⟨b, 8, none⟩ = some (.int .i64 o.w.b) ∧ W.cell? ⟨b, 9, none⟩ = some (.string o.w.s) ∧ W.cell? ⟨b, 10, none⟩ = some o.vs ∧ W.cell? ⟨b, 11, none⟩ = some (.string o.s) ∧ W.cell? ⟨b, 12, none⟩ = some (.string o.t) ∧ W.cell? ⟨b, 13, none⟩ = some o.b ∧ W.cell? ⟨b, 14, none⟩ = some (.int .i64 o.n) ∧ W.cell? ⟨b, 15, none⟩ = some (.int .i64 o.x) ∧ W.cell? ⟨b, 16, none⟩ = some (.int .i64 o.y) ∧ W.cell? ⟨b, 17, none⟩ = some (.int .i64 o.odd) ∧ W.cell? ⟨b, 18, none⟩ = some (.int .i64 o.over) :=
  ⟨h 0 _ rfl, h 1 _ rfl, h 2 _ rfl, h 3 _ rfl, h 4 _ rfl, h 5 _ rfl, h 6 _ rfl, h 7 _ rfl, h 8 _ rfl, h 9 _ rfl, h 10 _ rfl, h 11 _ rfl, h 12 _ rfl, h 13 _ rfl, h 14 _ rfl, h 15 _ rfl, h 16 _ rfl, h 17 _ rfl, h 18 _ rfl⟩
end Go.Proofs.YtmbgjhmjmomnoaaGreatDoor.Va
