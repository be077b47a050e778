/-
  Texts of this claim, joined in build order (Box).
-/
import Derived.Test.YtmbgjhmjmomnoaaGreatDoorUn1
/-
  A variable that holds an api.Val: its four cells, and what becomes of them when memory is made, drawn, kept, stored to.
-/
namespace Go.Proofs.YtmbgjhmjmomnoaaGreatDoor.Va
open Go.RowKit

/-- Block b is a variable that holds x. -/
structure Box (W : World) (b : Nat) (x : V) : Prop where
  k0 : W.cell? ⟨b, 0, none⟩ = some (.int .i64 x.k)
  k1 : W.cell? ⟨b, 1, none⟩ = some (.int .i64 x.a)
  k2 : W.cell? ⟨b, 2, none⟩ = some (.int .i64 x.b)
  k3 : W.cell? ⟨b, 3, none⟩ = some (.string x.s)
  f0 : W.frozen? ⟨b, 0, none⟩ = false
  f1 : W.frozen? ⟨b, 1, none⟩ = false
  f2 : W.frozen? ⟨b, 2, none⟩ = false
  f3 : W.frozen? ⟨b, 3, none⟩ = false

theorem Box.lt {W : World} {b : Nat} {x : V} (h : Box W b x) : b < W.heap.size := World.block_lt_of_cell? W ⟨b, 0, none⟩ h.k0

theorem Box.new (W : World) (k a b : Int) (s : ByteArray) (t : TypeId) : Box (W.alloc (.cells #[.int .i64 k, .int .i64 a, .int .i64 b, .string s] t)) W.heap.size ⟨k, a, b, s⟩ := by
  constructor <;> simp

theorem Box.newV (W : World) (x : V) (t : TypeId) : Box (W.alloc (.cells #[.int .i64 x.k, .int .i64 x.a, .int .i64 x.b, .string x.s] t)) W.heap.size x := Box.new W x.k x.a x.b x.s t

theorem Box.below {B : Nat} {W W' : World} {b : Nat} {x : V} (h : Box W b x) (hb : Below B W W') (hB : b < B) : Box W' b x where
  k0 := (hb.cell (p := ⟨b, 0, none⟩) hB).trans h.k0
  k1 := (hb.cell (p := ⟨b, 1, none⟩) hB).trans h.k1
  k2 := (hb.cell (p := ⟨b, 2, none⟩) hB).trans h.k2
  k3 := (hb.cell (p := ⟨b, 3, none⟩) hB).trans h.k3
  f0 := (hb.frozen (p := ⟨b, 0, none⟩) hB).trans h.f0
  f1 := (hb.frozen (p := ⟨b, 1, none⟩) hB).trans h.f1
  f2 := (hb.frozen (p := ⟨b, 2, none⟩) hB).trans h.f2
  f3 := (hb.frozen (p := ⟨b, 3, none⟩) hB).trans h.f3

/-- Behind a contract that ends in Below. -/
theorem Box.keep {W W' : World} {b : Nat} {x : V} (h : Box W b x) (hb : Below W.heap.size W W') : Box W' b x := h.below hb h.lt
theorem Box.alloc {W : World} {b : Nat} {x : V} (h : Box W b x) (o : Obj) : Box (W.alloc o) b x := h.keep ((Below.refl _ _).alloc (Nat.le_refl _) o)
theorem Box.drew {W : World} {b : Nat} {x : V} (h : Box W b x) : Box W.drew b x := h.keep (Below.refl _ _).drew

/-- x is stored. -/
def putV (W : World) (b : Nat) (k a c : Int) (s : ByteArray) : World :=
  (((W.setCell ⟨b, 0, none⟩ (.int .i64 k)).setCell ⟨b, 1, none⟩ (.int .i64 a)).setCell ⟨b, 2, none⟩ (.int .i64 c)).setCell ⟨b, 3, none⟩ (.string s)

theorem Box.put {W : World} {b : Nat} {x : V} (h : Box W b x) (k a c : Int) (s : ByteArray) : Box (putV W b k a c s) b ⟨k, a, c, s⟩ := by
  obtain ⟨k0, k1, k2, k3, f0, f1, f2, f3⟩ := h
  unfold putV
  constructor <;> simp [go_sem, *]

theorem below_putV {B b : Nat} {a W : World} (h : Below B a W) (hb : B ≤ b) (k x c : Int) (s : ByteArray) : Below B a (putV W b k x c s) := by
  unfold Va.putV
  exact (((h.setCell hb _).setCell hb _).setCell hb _).setCell hb _

/-- Another variable keeps what it holds. -/
theorem Box.other {W : World} {b b' : Nat} {x : V} (h : Box W b x) (hne : b ≠ b') (k a c : Int) (s : ByteArray) : Box (putV W b' k a c s) b x := by
  have hw : ∀ (W : World) (p : Addr) (v : Value), p.block ≠ b → (W.setCell p v).heap[b]? = W.heap[b]? := fun W p v hp => Below.heap_setCell _ _ _ _ (Ne.symm hp)
  have e : (putV W b' k a c s).heap[b]? = W.heap[b]? := by
    unfold putV
    rw [hw _ _ _ (Ne.symm hne), hw _ _ _ (Ne.symm hne), hw _ _ _ (Ne.symm hne), hw _ _ _ (Ne.symm hne)]
  obtain ⟨k0, k1, k2, k3, f0, f1, f2, f3⟩ := h
  have hc : ∀ o, (putV W b' k a c s).cell? ⟨b, o, none⟩ = W.cell? ⟨b, o, none⟩ := fun o => World.cell?_of_block (w := W) e
  have f : ∀ o, (putV W b' k a c s).frozen? ⟨b, o, none⟩ = W.frozen? ⟨b, o, none⟩ := fun o => World.frozen?_of_block (w := W) e
  exact ⟨(hc 0).trans k0, (hc 1).trans k1, (hc 2).trans k2, (hc 3).trans k3, (f 0).trans f0, (f 1).trans f1, (f 2).trans f2, (f 3).trans f3⟩

/-- A cell is kept behind a contract that ends in Below. -/
theorem keep1 {W W' : World} {p : Addr} {v : Value} (h : W.cell? p = some v) (hb : Below W.heap.size W W') : W'.cell? p = some v := (hb.cell (World.block_lt_of_cell? W p h)).trans h
theorem keepB {B : Nat} {a W W' : World} (h : Below B a W) (hb : Below W.heap.size W W') (hB : B ≤ W.heap.size) : Below B a W' := h.trans (hb.mono hB)
theorem realloc {W : World} {o o' : Obj} {p : Addr} {v : Value} (h : (W.alloc o).cell? p = some v) (hp : p.block ≠ W.heap.size) : (W.alloc o').cell? p = some v := by
  have e : (W.alloc o').heap[p.block]? = (W.alloc o).heap[p.block]? := by
    show (W.heap.push o')[p.block]? = (W.heap.push o)[p.block]?
    rw [Array.getElem?_push, Array.getElem?_push, if_neg hp, if_neg hp]
  exact (World.cell?_of_block (w := W.alloc o) e).trans h
end Go.Proofs.YtmbgjhmjmomnoaaGreatDoor.Va
