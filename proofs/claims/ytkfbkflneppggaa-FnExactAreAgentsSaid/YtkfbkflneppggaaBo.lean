/-
  Boxes: blocks of known cells, none frozen, that a call has made and stores into; no program stands here. Conditions: none.
-/
import Derived.Test.YtkfbkflneppggaaWd
namespace Go.Proofs.Ytkfbkflneppggaa
open Go.RowKit
set_option linter.unusedVariables false

/-- Block b holds just these cells from its begin on, none frozen. -/
def Bx (w : World) (b : Nat) (vs : List Value) : Prop := b < w.heap.size ∧ ∀ j, j < vs.length → w.cell? ⟨b, j, none⟩ = vs[j]? ∧ w.frozen? ⟨b, j, none⟩ = false
theorem Bx.c {w : World} {b : Nat} {vs : List Value} (h : Bx w b vs) (j : Nat) {v : Value} (hj : vs[j]? = some v) : w.cell? ⟨b, j, none⟩ = some v :=
  ((h.2 j (List.getElem?_eq_some_iff.1 hj).1).1).trans hj
theorem Bx.f {w : World} {b : Nat} {vs : List Value} (h : Bx w b vs) (j : Nat) (hj : j < vs.length) : w.frozen? ⟨b, j, none⟩ = false := (h.2 j hj).2
theorem Bx.lt {w : World} {b : Nat} {vs : List Value} (h : Bx w b vs) : b < w.heap.size := h.1
theorem Bx.ext {w w' : World} {b : Nat} {vs : List Value} (h : Bx w b vs) (e : Ext w w') : Bx w' b vs :=
  ⟨Nat.lt_of_lt_of_le h.1 e.size, fun j hj => ⟨by have h1 := (h.2 j hj).1; rw [List.getElem?_eq_getElem hj] at h1 ⊢; exact e.cell h1, (e.frozen (p := ⟨b, j, none⟩) h.1).trans (h.2 j hj).2⟩⟩
theorem Bx.alloc {w : World} {b : Nat} {vs : List Value} (h : Bx w b vs) (o : Obj) : Bx (w.alloc o) b vs := h.ext ((Ext.refl w).alloc o)
theorem Bx.drew {w : World} {b : Nat} {vs : List Value} (h : Bx w b vs) : Bx w.drew b vs := h.ext (Ext.refl w).drew
theorem Bx.chg {w w' : World} {D : Nat → Prop} {b : Nat} {vs : List Value} (h : Bx w b vs) (e : Chg D w w') (hD : ¬ D b) : Bx w' b vs :=
  ⟨Nat.lt_of_lt_of_le h.1 e.size, fun j hj => ⟨by have h1 := (h.2 j hj).1; rw [List.getElem?_eq_getElem hj] at h1 ⊢; exact e.cell h1 hD, (e.frozen (p := ⟨b, j, none⟩) h.1 hD).trans (h.2 j hj).2⟩⟩
theorem Bx.new (w : World) (vs : List Value) (t : TypeId) : Bx (w.alloc (.cells vs.toArray t)) w.heap.size vs :=
  ⟨by rw [alloc_size]; omega, fun j hj => ⟨by rw [List.getElem?_eq_getElem hj]; exact cell_new w vs.toArray t j _ (by simp [hj]), World.frozen?_alloc_at _ _ _ _ rfl⟩⟩
theorem Bx.set {w : World} {b : Nat} {vs : List Value} (h : Bx w b vs) (k : Nat) (hk : k < vs.length) (u : Value) : Bx (w.setCell ⟨b, k, none⟩ u) b (vs.set k u) := by
  refine ⟨by have := h.1; simpa [World.setCell] using this, fun j hj => ?_⟩
  simp only [List.length_set] at hj
  refine ⟨?_, (World.frozen?_setCell _ _ _ _).trans (h.2 j hj).2⟩
  by_cases hjk : j = k
  · subst hjk
    rw [List.getElem?_set_self hk]
    have h1 := (h.2 j hj).1
    rw [List.getElem?_eq_getElem hj] at h1
    exact World.cell?_setCell_same _ _ _ h1
  · rw [List.getElem?_set_ne (fun e => hjk e.symm)]
    exact (World.cell?_setCell_other _ _ _ _ (by intro e; injection e with _ e2 _; omega)).trans (h.2 j hj).1
theorem Bx.beside {w : World} {b c k : Nat} {vs : List Value} (h : Bx w b vs) (hne : c ≠ b) (u : Value) : Bx (w.setCell ⟨c, k, none⟩ u) b vs :=
  ⟨by have := h.1; simpa [World.setCell] using this, fun j hj => ⟨(World.cell?_setCell_other _ _ _ _ (by intro e; injection e with e1 _ _; first | exact hne e1 | exact hne e1.symm)).trans (h.2 j hj).1, (World.frozen?_setCell _ _ _ _).trans (h.2 j hj).2⟩⟩
end Go.Proofs.Ytkfbkflneppggaa
