/-
  The law FnExactFoldOrder, its contracts filled in. Conditions: none.
-/
import Derived.Test.YtkfbkflneppggaaYfo
import Derived.Test.YtkfbkflneppggaaXcf
namespace Go.Proofs.Ytkfbkflneppggaa
open Go.RowKit
set_option linter.unusedVariables false

theorem FoldOrder_law (d : GrD) (a : SlA) (w : World) (h : RdG w a d) :
    Calls Try.prog 5 #[.agg #[.int .i64 d.sz, .slice a.A d.ps.length a.c]] w fun e w' => e = .returned (.bool true) ∧ Ext w w' :=
  LawFoldOrder_c d a _ _ w h
    (fun b w h => (FoldOrderS_c d.sz d.ps.length b.c b.A d.ps w h).mono fun e w' ⟨A, c, he, ho, hx⟩ => ⟨⟨A, c⟩, he, (RowB.mk' ho).sl, hx⟩)
    (fun b w h => (FoldOrderI_c d.sz d.ps.length b.c b.A d.ps w h).mono fun e w' ⟨A, c, he, ho, hx⟩ => ⟨⟨A, c⟩, he, RowB.mk' ho, hx⟩)
    (by have := ordL_length d.sz d.ps; unfold BdP; omega)
end Go.Proofs.Ytkfbkflneppggaa
