/-
  The law FnExactAreAgents, its contracts filled in. Conditions: none.
-/
import Derived.Test.YtkfbkflneppggaaYaa
import Derived.Test.YtkfbkflneppggaaVa
namespace Go.Proofs.Ytkfbkflneppggaa
open Go.RowKit
set_option linter.unusedVariables false

theorem AreAgents_law (d : SpD) (xs : List Int) (a : SpA) (b : SlA) (w : World) (h : RdS w a d) (hb : RdI w b xs) :
    Calls Try.prog 8 #[.agg #[.slice a.s.A d.st.length a.s.c, .slice a.t.A d.tp.length a.t.c], .slice b.A xs.length b.c] w fun e w' => e = .returned (.bool true) ∧ Ext w w' :=
  LawAreAgents_c d xs a b (aaV d xs) (spB d) w h hb (fun a b w h hb _ _ hc => AreAgentsS_c d a xs b w h hb hc) (fun a b w h hb _ _ _ => AreAgentsI_c d a xs b w h hb)
end Go.Proofs.Ytkfbkflneppggaa
