/-
  Two more words for statements whose order Go leaves open: a walk in the text's order for operations that only read and callees that only make memory; an append to a row of the call's own. No program stands here. Conditions: none.
-/
import Derived.Test.YtkfbkflneppggaaWd
import Derived.BigQuiet
import Derived.Deep.QuietTactic
import Derived.Deep.AppendLies
namespace Go.Proofs.Ytkfbkflneppggaa
open Go.RowKit
set_option linter.unusedVariables false

/-- A world that is larger than w. -/
structure EW (W : World) where
  w : World
  h : Ext W w

instance EW.inh (W : World) : Nonempty (EW W) := ⟨⟨W, Ext.refl W⟩⟩
theorem EW.cell {W : World} (d : EW W) {p : Addr} {v : Value} (h : W.cell? p = some v) : d.w.cell? p = some v := d.h.cell h

section
variable {P : Program}
/-- A region that draws its order, whose operations only read and whose callees only make memory: one walk in the text's order. -/
theorem wp_region_ext {id : Nat} {Q : Exit → Act → World → Prop} {a : Act} {w : World} {l : List Oper} (hm : P.follows .mixedOrders = true) (hB : Region.lexB .any l.toArray = true)
    (h : wpQuiet P l.toArray (fun w' => ∃ d : EW w, w' = d.w) (fun a' => ∀ w', (∃ d : EW w, w' = d.w) → Q .normal a' w') l a) : (Code.region id l.toArray true).wp P Q a w :=
  wp_region_quiet (C := fun w' => ∃ d : EW w, w' = d.w) hm hB ⟨⟨_, (Ext.refl w).draws _⟩, rfl⟩ (by simpa using h)

/-- A callee's contract in such a region. -/
theorem quiet_ext {f : FuncId} {args : Array Value} {w : World} {d : EW w} {v : Value}
    (h : Calls P f args d.w fun e w' => e = .returned v ∧ Ext d.w w') : Calls P f args d.w fun e w'' => e = .returned v ∧ ∃ d' : EW w, w'' = d'.w :=
  h.mono fun _ w'' ⟨he, hx⟩ => ⟨he, ⟨w'', d.h.trans hx⟩, rfl⟩
theorem quiet_ext_eq {f : FuncId} {args : Array Value} {w : World} {d : EW w} {v : Value}
    (h : Calls P f args d.w fun e w' => e = .returned v ∧ d.w = w') : Calls P f args d.w fun e w'' => e = .returned v ∧ ∃ d' : EW w, w'' = d'.w :=
  h.mono fun _ w'' ⟨he, hx⟩ => ⟨he, d, hx.symm⟩

/-- An append of one element to a row of the call's own, at a step of a region that draws its order. -/
theorem step_append_one {ops : Array Oper} {o : Oper} {a : Act} {K : Act → World → Prop} {Q : Exit → Act → World → Prop} {F : Prop} {w0 W wo : World} (t E : TypeId) (z : Value) (sz bytes : Nat) (ht : P.underlying t = some (.slice E))
    (hinfo : (P.info? E).map (fun i => (i.zero, i.size, i.bytes)) = some (some z, sz, bytes)) (hz : z.cells.size = sz) (hs0 : 0 < sz)
    (hgd : o.guard = none) (s x : Operand)
    (ho : o.op = .call { callee := .builtin .append, args := #[s, x], argTypes := #[t, t] })
    (v : Value) (n nb : Nat) (xs ys : List Value) (hs : a.eval s = v) (hx : a.eval x = .slice (some ⟨nb, 0, none⟩) 1 1)
    (hy : ys.length = sz) (hy1 : ∀ u ∈ ys, u.oneCell' = true) (hnews : ∀ j u, ys[j]? = some u → W.cell? ⟨nb, j, none⟩ = some u)
    (HO : wo.ownsRow w0.heap.size E sz v n xs) (HEo : Ext wo W) (HE : Ext w0 W) (hl : (n + 1) * bytes ≤ 140737488355328) (hb0 : 0 < bytes)
    (h : ∀ g cap w1, w1.ownsRow w0.heap.size E sz (.slice (some ⟨g, 0, none⟩) (n + 1) cap) (n + 1) (xs ++ ys) → Ext w0 w1 → W.grownBy w1 v.ownBlock → K (a.put o.dst (.slice (some ⟨g, 0, none⟩) (n + 1) cap)) w1) :
    if Region.wanted o (yielded ops a.tmps) = true then Oper.wp P o a W K Q else F := by
  obtain ⟨i0, hi, hzz⟩ := Option.map_eq_some_iff.1 hinfo
  simp only [Prod.mk.injEq] at hzz
  obtain ⟨hz0, hz1, hz2⟩ := hzz
  have hlen : n + 1 ≤ 140737488355328 := Nat.le_trans (Nat.le_mul_of_pos_right _ hb0) hl
  have hw : Region.wanted o (yielded ops a.tmps) = true := by simp [Region.wanted, hgd]
  rw [if_pos hw]
  refine wp_append_lies W s x t ho w0.heap.size E i0 z sz bytes ht hi hz0 hz1 hz2 hz hs0 v n xs hs (own_ext HO HEo) ⟨nb, 0, none⟩ 1 1 ys hx (by omega)
    (fun j u hj => ?_) hy1 (by omega) (by simp only [maxLen]; omega) hl HE.size _ rfl ?_
  · rw [Addr.add_lit]
    exact (by rw [Nat.zero_add]; exact hnews j u hj)
  intro g cap w1 hown hg _ _
  exact h g cap w1 hown (HE.grown hg (own_base (own_ext HO HEo))) hg
end
end Go.Proofs.Ytkfbkflneppggaa
