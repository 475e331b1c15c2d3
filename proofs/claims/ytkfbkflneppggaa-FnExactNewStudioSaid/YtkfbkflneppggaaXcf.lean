/-
  The laws FnExactCanFold and FnExactFoldOrder, their contracts filled in; a graph opened as a datum. Conditions: none.
-/
import Derived.Test.YtkfbkflneppggaaYcf
import Derived.Test.YtkfbkflneppggaaFw
import Derived.Test.YtkfbkflneppggaaRb
namespace Go.Proofs.Ytkfbkflneppggaa
open Go.RowKit
set_option linter.unusedVariables false

theorem CanFold_law (d : GrD) (a : SlA) (w : World) (h : RdG w a d) :
    Calls Try.prog 4 #[.agg #[.int .i64 d.sz, .slice a.A d.ps.length a.c]] w fun e w' => e = .returned (.bool true) ∧ Ext w w' :=
  LawCanFold_c d a _ _ w h (fun b w h => CanFoldS_c d.sz d.ps.length b.c b.A d.ps w h) (fun b w h => CanFoldI_c d.sz d.ps.length b.c b.A d.ps w h)

set_option maxRecDepth 100000 in
theorem openG_t {H : Type} {enc : TypeId × Value → H} {W : World} {b : Nat} {v : Value} {d : DataW H} {p : List MemPlace} (hv : Value.okWide Try.prog W .any b 24 v) (h : DataW.Trod enc Try.prog W 0 (fun _ => true) true 24 v d p) :
    ∃ (d : GrD) (a : SlA), v = .agg #[.int .i64 d.sz, .slice a.A d.ps.length a.c] ∧ RdG W a d := by
  obtain ⟨s, A, n, c, ps, rfl, hs⟩ := open_graph hv h
  obtain rfl : ps.length = n := hs.len
  exact ⟨⟨s, ps⟩, ⟨A, c⟩, rfl, hs⟩
end Go.Proofs.Ytkfbkflneppggaa
