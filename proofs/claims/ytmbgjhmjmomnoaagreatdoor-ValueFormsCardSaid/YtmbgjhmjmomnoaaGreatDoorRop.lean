/-
  A script that is handed in: each of its calls lies in memory as nineteen cells.
-/
import Derived.Test.YtmbgjhmjmomnoaaGreatDoorOpr
import Derived.Deep.Slices
import Derived.Carry
namespace Go.Proofs.YtmbgjhmjmomnoaaGreatDoor.Va
open Go.RowKit Go.ChangeShapes Go.WideShapes

theorem co3 : Tryz.prog.cellsOf 3 = 1 := by kernel_rfl
theorem co2 : Tryz.prog.cellsOf 2 = 1 := by kernel_rfl
theorem co9 : Tryz.prog.cellsOf 9 = 1 := by kernel_rfl
theorem co31 : Tryz.prog.cellsOf 31 = 4 := by kernel_rfl
theorem co32 : Tryz.prog.cellsOf 32 = 1 := by kernel_rfl
theorem co33 : Tryz.prog.cellsOf 33 = 1 := by kernel_rfl
theorem co35 : Tryz.prog.cellsOf 35 = 19 := by kernel_rfl

def I64 (n : Int) : Prop := (Lit.int .i64 n).wf = true
/-- Its numbers are int64s, its strings no longer than strings can be. -/
structure V.Wide (x : V) : Prop where
  k : I64 x.k
  a : I64 x.a
  b : I64 x.b
  s : x.s.size ≤ maxLen
structure Op1.Wide (o : Op1) : Prop where
  k : I64 o.k
  op : I64 o.op
  v : o.v.Wide
  w : o.w.Wide
  s : o.s.size ≤ maxLen
  t : o.t.size ≤ maxLen
  n : I64 o.n
  x : I64 o.x
  y : I64 o.y
  odd : I64 o.odd
  over : I64 o.over

section
variable {H : Type} {enc : TypeId × Value → H} {w : World} {base : Nat} {spare : Nat → Bool} {held : Bool}

theorem val_of {fuel : Nat} {c0 c1 c2 c3 : Value} {x : DataW H × List MemPlace} (h : DataW.trod enc Tryz.prog w base spare held fuel 31 [c0, c1, c2, c3] = some x) :
    ∃ v : V, v.Wide ∧ c0 = .int .i64 v.k ∧ c1 = .int .i64 v.a ∧ c2 = .int .i64 v.b ∧ c3 = .string v.s := by
  obtain ⟨xs, n, rfl, -, -, hx, hf⟩ := DataW.trod_struct Tryz.underlying31 h
  have hx' : xs.length = 4 := hx
  have t0 : DataW.trod enc Tryz.prog w base spare held n 3 (([c0, c1, c2, c3].drop 0).take (Tryz.prog.cellsOf 3)) = some xs[0] := (hf 0 _ rfl).trans (List.getElem?_eq_getElem (by omega))
  rw [co3] at t0
  have t1 : DataW.trod enc Tryz.prog w base spare held n 2 (([c0, c1, c2, c3].drop 1).take (Tryz.prog.cellsOf 2)) = some xs[1] := (hf 1 _ rfl).trans (List.getElem?_eq_getElem (by omega))
  rw [co2] at t1
  have t2 : DataW.trod enc Tryz.prog w base spare held n 2 (([c0, c1, c2, c3].drop 2).take (Tryz.prog.cellsOf 2)) = some xs[2] := (hf 2 _ rfl).trans (List.getElem?_eq_getElem (by omega))
  rw [co2] at t2
  have t3 : DataW.trod enc Tryz.prog w base spare held n 9 (([c0, c1, c2, c3].drop 3).take (Tryz.prog.cellsOf 9)) = some xs[3] := (hf 3 _ rfl).trans (List.getElem?_eq_getElem (by omega))
  rw [co9] at t3
  obtain ⟨a0, e0, -, w0⟩ := DataW.trod_int Tryz.underlying3 t0
  obtain ⟨a1, e1, -, w1⟩ := DataW.trod_int Tryz.underlying2 t1
  obtain ⟨a2, e2, -, w2⟩ := DataW.trod_int Tryz.underlying2 t2
  obtain ⟨a3, e3, -, w3⟩ := DataW.trod_string Tryz.underlying9 t3
  have e0' : [c0] = [Value.int .i64 a0] := e0
  have e1' : [c1] = [Value.int .i64 a1] := e1
  have e2' : [c2] = [Value.int .i64 a2] := e2
  have e3' : [c3] = [Value.string a3] := e3
  simp only [List.cons.injEq, and_true] at e0' e1' e2' e3'
  exact ⟨⟨a0, a1, a2, a3⟩, ⟨w0, w1, w2, w3⟩, e0', e1', e2', e3'⟩

set_option maxRecDepth 100000 in
theorem op_of {fuel : Nat} {cs : List Value} {x : DataW H × List MemPlace} (h : DataW.trod enc Tryz.prog w base spare held fuel 35 cs = some x) :
    ∃ o : Op1, cs = o.cells.toList ∧ o.Wide ∧ (∃ m y, DataW.trod enc Tryz.prog w base spare held m 32 [o.vs] = some y) ∧ (∃ m y, DataW.trod enc Tryz.prog w base spare held m 33 [o.b] = some y) := by
  obtain ⟨xs, n, rfl, -, hl, hx, hf⟩ := DataW.trod_struct Tryz.underlying35 h
  rw [co35] at hl
  have hx' : xs.length = 13 := hx
  clear h hx
  match cs, hl with
  | [c0, c1, c2, c3, c4, c5, c6, c7, c8, c9, c10, c11, c12, c13, c14, c15, c16, c17, c18], _ =>
    have t0 : DataW.trod enc Tryz.prog w base spare held n 3 (([c0, c1, c2, c3, c4, c5, c6, c7, c8, c9, c10, c11, c12, c13, c14, c15, c16, c17, c18].drop 0).take (Tryz.prog.cellsOf 3)) = some xs[0] := (hf 0 _ rfl).trans (List.getElem?_eq_getElem (by omega))
    rw [co3] at t0
    obtain ⟨a0, e0, -, w0⟩ := DataW.trod_int Tryz.underlying3 t0
    have e0' : [c0] = [Value.int .i64 a0] := e0
    have t1 : DataW.trod enc Tryz.prog w base spare held n 3 (([c0, c1, c2, c3, c4, c5, c6, c7, c8, c9, c10, c11, c12, c13, c14, c15, c16, c17, c18].drop 1).take (Tryz.prog.cellsOf 3)) = some xs[1] := (hf 1 _ rfl).trans (List.getElem?_eq_getElem (by omega))
    rw [co3] at t1
    obtain ⟨a1, e1, -, w1⟩ := DataW.trod_int Tryz.underlying3 t1
    have e1' : [c1] = [Value.int .i64 a1] := e1
    have t2 : DataW.trod enc Tryz.prog w base spare held n 31 (([c0, c1, c2, c3, c4, c5, c6, c7, c8, c9, c10, c11, c12, c13, c14, c15, c16, c17, c18].drop 2).take (Tryz.prog.cellsOf 31)) = some xs[2] := (hf 2 _ rfl).trans (List.getElem?_eq_getElem (by omega))
    rw [co31] at t2
    obtain ⟨a2, w2, p2, q2, r2, s2⟩ := val_of (show DataW.trod enc Tryz.prog w base spare held n 31 [c2, c3, c4, c5] = some _ from t2)
    have t3 : DataW.trod enc Tryz.prog w base spare held n 31 (([c0, c1, c2, c3, c4, c5, c6, c7, c8, c9, c10, c11, c12, c13, c14, c15, c16, c17, c18].drop 6).take (Tryz.prog.cellsOf 31)) = some xs[3] := (hf 3 _ rfl).trans (List.getElem?_eq_getElem (by omega))
    rw [co31] at t3
    obtain ⟨a3, w3, p3, q3, r3, s3⟩ := val_of (show DataW.trod enc Tryz.prog w base spare held n 31 [c6, c7, c8, c9] = some _ from t3)
    have t4 : DataW.trod enc Tryz.prog w base spare held n 32 (([c0, c1, c2, c3, c4, c5, c6, c7, c8, c9, c10, c11, c12, c13, c14, c15, c16, c17, c18].drop 10).take (Tryz.prog.cellsOf 32)) = some xs[4] := (hf 4 _ rfl).trans (List.getElem?_eq_getElem (by omega))
    rw [co32] at t4
    have t5 : DataW.trod enc Tryz.prog w base spare held n 9 (([c0, c1, c2, c3, c4, c5, c6, c7, c8, c9, c10, c11, c12, c13, c14, c15, c16, c17, c18].drop 11).take (Tryz.prog.cellsOf 9)) = some xs[5] := (hf 5 _ rfl).trans (List.getElem?_eq_getElem (by omega))
    rw [co9] at t5
    obtain ⟨a5, e5, -, w5⟩ := DataW.trod_string Tryz.underlying9 t5
    have e5' : [c11] = [Value.string a5] := e5
    have t6 : DataW.trod enc Tryz.prog w base spare held n 9 (([c0, c1, c2, c3, c4, c5, c6, c7, c8, c9, c10, c11, c12, c13, c14, c15, c16, c17, c18].drop 12).take (Tryz.prog.cellsOf 9)) = some xs[6] := (hf 6 _ rfl).trans (List.getElem?_eq_getElem (by omega))
    rw [co9] at t6
    obtain ⟨a6, e6, -, w6⟩ := DataW.trod_string Tryz.underlying9 t6
    have e6' : [c12] = [Value.string a6] := e6
    have t7 : DataW.trod enc Tryz.prog w base spare held n 33 (([c0, c1, c2, c3, c4, c5, c6, c7, c8, c9, c10, c11, c12, c13, c14, c15, c16, c17, c18].drop 13).take (Tryz.prog.cellsOf 33)) = some xs[7] := (hf 7 _ rfl).trans (List.getElem?_eq_getElem (by omega))
    rw [co33] at t7
    have t8 : DataW.trod enc Tryz.prog w base spare held n 2 (([c0, c1, c2, c3, c4, c5, c6, c7, c8, c9, c10, c11, c12, c13, c14, c15, c16, c17, c18].drop 14).take (Tryz.prog.cellsOf 2)) = some xs[8] := (hf 8 _ rfl).trans (List.getElem?_eq_getElem (by omega))
    rw [co2] at t8
    obtain ⟨a8, e8, -, w8⟩ := DataW.trod_int Tryz.underlying2 t8
    have e8' : [c14] = [Value.int .i64 a8] := e8
    have t9 : DataW.trod enc Tryz.prog w base spare held n 2 (([c0, c1, c2, c3, c4, c5, c6, c7, c8, c9, c10, c11, c12, c13, c14, c15, c16, c17, c18].drop 15).take (Tryz.prog.cellsOf 2)) = some xs[9] := (hf 9 _ rfl).trans (List.getElem?_eq_getElem (by omega))
    rw [co2] at t9
    obtain ⟨a9, e9, -, w9⟩ := DataW.trod_int Tryz.underlying2 t9
    have e9' : [c15] = [Value.int .i64 a9] := e9
    have t10 : DataW.trod enc Tryz.prog w base spare held n 2 (([c0, c1, c2, c3, c4, c5, c6, c7, c8, c9, c10, c11, c12, c13, c14, c15, c16, c17, c18].drop 16).take (Tryz.prog.cellsOf 2)) = some xs[10] := (hf 10 _ rfl).trans (List.getElem?_eq_getElem (by omega))
    rw [co2] at t10
    obtain ⟨a10, e10, -, w10⟩ := DataW.trod_int Tryz.underlying2 t10
    have e10' : [c16] = [Value.int .i64 a10] := e10
    have t11 : DataW.trod enc Tryz.prog w base spare held n 3 (([c0, c1, c2, c3, c4, c5, c6, c7, c8, c9, c10, c11, c12, c13, c14, c15, c16, c17, c18].drop 17).take (Tryz.prog.cellsOf 3)) = some xs[11] := (hf 11 _ rfl).trans (List.getElem?_eq_getElem (by omega))
    rw [co3] at t11
    obtain ⟨a11, e11, -, w11⟩ := DataW.trod_int Tryz.underlying3 t11
    have e11' : [c17] = [Value.int .i64 a11] := e11
    have t12 : DataW.trod enc Tryz.prog w base spare held n 3 (([c0, c1, c2, c3, c4, c5, c6, c7, c8, c9, c10, c11, c12, c13, c14, c15, c16, c17, c18].drop 18).take (Tryz.prog.cellsOf 3)) = some xs[12] := (hf 12 _ rfl).trans (List.getElem?_eq_getElem (by omega))
    rw [co3] at t12
    obtain ⟨a12, e12, -, w12⟩ := DataW.trod_int Tryz.underlying3 t12
    have e12' : [c18] = [Value.int .i64 a12] := e12
    simp only [List.cons.injEq, and_true] at e0' e1' e5' e6' e8' e9' e10' e11' e12'
    subst e0' e1' e5' e6' e8' e9' e10' e11' e12' p2 q2 r2 s2 p3 q3 r3 s3
    exact ⟨⟨a0, a1, a2, a3, c10, a5, a6, c13, a8, a9, a10, a11, a12⟩, rfl, ⟨w0, w1, w2, w3, w5, w6, w8, w9, w10, w11, w12⟩, ⟨n, _, t4⟩, ⟨n, _, t7⟩⟩

/-- A script opened: nil, or its calls by their index. -/
theorem open_script {fuel : Nat} {v : Value} {x : DataW H × List MemPlace} (h : DataW.trod enc Tryz.prog w base spare held fuel 22 v.cells.toList = some x) (hv : v.cells.toList = [v]) :
    v = .slice none 0 0 ∨ (∃ a cap, v = .slice (some a) 0 cap) ∨
    ∃ (b f len cap : Nat) (F : Nat → Op1), v = .slice (some ⟨b, f, none⟩) len cap ∧ len ≤ cap ∧ cap ≤ maxLen ∧ b < w.heap.size ∧ ∀ i, i < len → OpAt w b (f + i * 19) (F i) ∧ (F i).Wide ∧
      (∃ m y, DataW.trod enc Tryz.prog w base spare held m 32 [(F i).vs] = some y) ∧ (∃ m y, DataW.trod enc Tryz.prog w base spare held m 33 [(F i).b] = some y) := by
  rcases Go.Deep.open_slice Tryz.underlying22 h with ⟨h0, -⟩ | ⟨a, len, cap, m, n, D, Pl, h0, hb, hl, hm, hmm, rfl, hx⟩
  · left
    rw [hv] at h0
    simpa using h0
  right
  rw [hv] at h0
  have h0' : v = .slice (some a) len cap := by simpa using h0
  have hlm : len ≤ m := by rw [hmm]; split <;> omega
  rw [co35] at hx
  have key : ∀ i, i < len → ∃ o : Op1, (∀ j u, o.cells[j]? = some u → w.cell? (a.add (i * 19 + j)) = some u) ∧ o.Wide ∧
      (∃ m y, DataW.trod enc Tryz.prog w base spare held m 32 [o.vs] = some y) ∧ (∃ m y, DataW.trod enc Tryz.prog w base spare held m 33 [o.b] = some y) := fun i hi => by
    obtain ⟨cs', h1, h2⟩ := hx i (by omega)
    obtain ⟨o, rfl, hw, hvs, hbs⟩ := op_of h2
    obtain ⟨-, hl2, hc⟩ := World.cells?_some h1
    refine ⟨o, fun j u hj => ?_, hw, hvs, hbs⟩
    have hj19 : j < 19 := by
      have := (Array.getElem?_eq_some_iff.1 hj).1
      exact this
    have := hc j hj19
    rw [Go.Deep.add_add] at this
    rw [this, Array.getElem?_toList]
    exact hj
  by_cases hn : 0 < len
  · right
    obtain ⟨o0, hc0, -⟩ := key 0 hn
    have hspot : a.spot = none := by
      have := World.cell?_spot (hc0 0 _ rfl)
      simpa [Addr.add] using this
    obtain ⟨b, f, spot⟩ := a
    obtain rfl : spot = none := hspot
    have hblt : b < w.heap.size := by
      have := World.block_lt_of_cell? w _ (hc0 0 _ rfl)
      simpa [Addr.add] using this
    have hI : Inhabited Op1 := ⟨o0⟩
    obtain ⟨F, hF⟩ := Go.Deep.choose_lt key
    refine ⟨b, f, len, cap, F, h0', hl, hm, hblt, fun i hi => ⟨fun j u hj => ?_, (hF i hi).2⟩⟩
    have := (hF i hi).1 j u hj
    rw [Addr.add_mid] at this
    rw [Nat.add_assoc]
    exact this
  · obtain rfl : len = 0 := by omega
    exact .inl ⟨a, cap, h0'⟩
end
end Go.Proofs.YtmbgjhmjmomnoaaGreatDoor.Va
