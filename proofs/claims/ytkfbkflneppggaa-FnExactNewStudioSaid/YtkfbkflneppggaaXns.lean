/-
  The law FnExactNewStudio, its contracts filled in. Conditions: none.
-/
import Derived.Test.YtkfbkflneppggaaYns
import Derived.Test.YtkfbkflneppggaaUn
import Derived.Test.YtkfbkflneppggaaUo
namespace Go.Proofs.Ytkfbkflneppggaa
open Go.RowKit
set_option linter.unusedVariables false

theorem bd_ns (g : GrD) (kinds : Int) (hb : BdG g) : BdU (nsV g kinds) := by
  unfold nsV
  cases q : nsB g kinds with
  | false => exact ⟨by simp [zeroU, BdG], by simp [zeroU, BdI], by simp [zeroU, BdI], by simp [zeroU, BdI]⟩
  | true =>
    have hg : goodG g.sz g.ps = true := by simp only [nsB, Bool.and_eq_true] at q; exact q.1
    have hz : g.sz ≤ 8 := by simp only [goodG, inB, Bool.and_eq_true, decide_eq_true_eq] at hg; omega
    refine ⟨hb, by simp [nsD, BdI], by simp [nsD, BdI], ?_⟩
    simp only [if_true, nsD, BdI, homeL_length]; omega

theorem NewStudio_law (g : GrD) (kinds : Int) (a : SlA) (w : World) (h : RdG w a g) :
    Calls Try.prog 11 #[.agg #[.int .i64 g.sz, .slice a.A g.ps.length a.c], .int .i64 kinds] w fun e w' => e = .returned (.bool true) ∧ Ext w w' :=
  LawNewStudio_c g kinds a (nsV g kinds) (nsB g kinds) w h (fun b w h hb => NewStudioS_c g kinds b w h hb) (fun b w h hb => NewStudioI_c g kinds b w h hb) (bd_ns g kinds)
end Go.Proofs.Ytkfbkflneppggaa
