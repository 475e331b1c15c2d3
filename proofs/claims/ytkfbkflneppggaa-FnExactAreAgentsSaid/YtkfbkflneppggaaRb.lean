/-
  What all rows of this seat share: the program's own facts, the opening of a graph by value. Conditions: none.
-/
import Derived.Test.YtkfbkflneppggaaRows
import Derived.Test.YtkfbkflneppggaaOp
import Derived.ProofKit
namespace Go.Proofs.Ytkfbkflneppggaa
open Go.ChangeShapes Go.WideShapes Go.ChangeAt Go.RowKit Go.Joins
set_option linter.unusedVariables false

theorem own_knob : ownKnob Try.prog.godebug = none := by kernel_rfl
theorem laid_out : laidOutB Try.prog = true := by kernel_rfl

set_option maxRecDepth 100000
theorem one3 : Try.prog.cellsOf 3 = 1 := by kernel_rfl
theorem two83 : Try.prog.cellsOf 83 = 2 := by kernel_rfl
theorem two24 : Try.prog.cellsOf 24 = 2 := by kernel_rfl

/-- A graph by value, opened. -/
theorem open_graph {H : Type} {enc : TypeId × Value → H} {W : World} {b : Nat} {v : Value} {d : DataW H} {p : List MemPlace} (hv : Value.okWide Try.prog W .any b 24 v) (h : DataW.Trod enc Try.prog W 0 (fun _ => true) true 24 v d p) :
    ∃ (s : Int) (A : Option Addr) (n c : Nat) (ps : List (Int × Int)), v = .agg #[.int .i64 s, .slice A n c] ∧ SlP W A n ps := by
  obtain ⟨c0, c1, y0, y1, m, rfl, rfl, rfl, hy0, hy1⟩ := open_agg2 Try.underlying24 (by kernel_rfl) two24 hv h
  obtain ⟨s, e0, _, _⟩ := DataW.trod_int Try.underlying3 hy0
  obtain ⟨A, n, c, ps, rfl, hs⟩ := open_prs Try.underlying22 Try.underlying83 Try.underlying3 one3 two83 hy1
  simp only [List.cons.injEq, and_true] at e0
  subst e0
  exact ⟨s, A, n, c, ps, rfl, hs⟩
end Go.Proofs.Ytkfbkflneppggaa
