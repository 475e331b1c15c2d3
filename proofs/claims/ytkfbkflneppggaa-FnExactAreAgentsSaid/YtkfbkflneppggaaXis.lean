/-
  The law FnExactIsStudio, its contracts filled in; a studio opened as a datum. Conditions: none.
-/
import Derived.Test.YtkfbkflneppggaaYis
import Derived.Test.YtkfbkflneppggaaUi
import Derived.Test.YtkfbkflneppggaaRb
import Derived.Test.YtkfbkflneppggaaOq
namespace Go.Proofs.Ytkfbkflneppggaa
open Go.RowKit Go.ChangeShapes Go.WideShapes Go.Joins
set_option linter.unusedVariables false

theorem IsStudio_law (d : StD) (a : StA) (w : World) (h : RdU w a d) :
    Calls Try.prog 10 #[.agg #[.int .i64 d.g.sz, .slice a.g.A d.g.ps.length a.g.c, .int .i64 d.kinds, .slice a.tok.A d.tok.length a.tok.c, .slice a.col.A d.col.length a.col.c, .slice a.brd.A d.brd.length a.brd.c, .int .i64 d.count]] w fun e w' => e = .returned (.bool true) ∧ Ext w w' :=
  LawIsStudio_c d a _ w h (fun b w h => IsStudioS_c d b w h) (fun b w h => IsStudioI_c d b w h)

set_option maxRecDepth 100000
theorem two24' : Try.prog.cellsOf 40 = 1 := by kernel_rfl
theorem oneP : Try.prog.cellsOf 22 = 1 := by kernel_rfl
theorem sevenU : Try.prog.cellsOf 62 = 7 := by kernel_rfl

theorem openI_t {H : Type} {enc : TypeId × Value → H} {W : World} {b : Nat} {v : Value} {d : DataW H} {p : List MemPlace} (hv : Value.okWide Try.prog W .any b 40 v) (h : DataW.Trod enc Try.prog W 0 (fun _ => true) true 40 v d p) :
    ∃ (xs : List Int) (a : SlA), v = .slice a.A xs.length a.c ∧ RdI W a xs := by
  obtain ⟨a0, len, cap, rfl⟩ := okWide_slice Try.underlying40 hv
  obtain ⟨fuel, hf⟩ := h
  obtain ⟨A, n, c, xs, hs, hx⟩ := open_nums Try.underlying40 Try.underlying3 one3 (by simpa [Value.cells] using hf)
  obtain rfl : xs.length = n := hx.len
  exact ⟨xs, ⟨A, c⟩, hs, hx⟩

theorem openU_t {H : Type} {enc : TypeId × Value → H} {W : World} {b : Nat} {v : Value} {d : DataW H} {p : List MemPlace} (hv : Value.okWide Try.prog W .any b 62 v) (h : DataW.Trod enc Try.prog W 0 (fun _ => true) true 62 v d p) :
    ∃ (d : StD) (a : StA), v = .agg #[.int .i64 d.g.sz, .slice a.g.A d.g.ps.length a.g.c, .int .i64 d.kinds, .slice a.tok.A d.tok.length a.tok.c, .slice a.col.A d.col.length a.col.c, .slice a.brd.A d.brd.length a.brd.c, .int .i64 d.count] ∧ RdU W a d := by
  obtain ⟨cs, rfl, hsz⟩ := okWide_struct Try.underlying62 hv
  obtain ⟨l⟩ := cs
  match l, hsz.trans sevenU with
  | [c0, c1, c2, c3, c4, c5, c6], _ =>
    obtain ⟨fuel, hf⟩ := h
    obtain ⟨xs, n, _, hx, _, hlen, hg⟩ := DataW.trod_struct Try.underlying62 hf
    match xs, hlen with
    | [y0, y1, y2, y3, y4, y5], _ =>
      have g0 : DataW.trod enc Try.prog W 0 (fun _ => true) true n 24 [c0, c1] = some y0 := by simpa [two24, Value.cells] using hg 0 _ rfl
      have g1 : DataW.trod enc Try.prog W 0 (fun _ => true) true n 3 [c2] = some y1 := by simpa [one3, Value.cells] using hg 1 _ rfl
      have g2 : DataW.trod enc Try.prog W 0 (fun _ => true) true n 40 [c3] = some y2 := by simpa [two24', Value.cells] using hg 2 _ rfl
      have g3 : DataW.trod enc Try.prog W 0 (fun _ => true) true n 40 [c4] = some y3 := by simpa [two24', Value.cells] using hg 3 _ rfl
      have g4 : DataW.trod enc Try.prog W 0 (fun _ => true) true n 40 [c5] = some y4 := by simpa [two24', Value.cells] using hg 4 _ rfl
      have g5 : DataW.trod enc Try.prog W 0 (fun _ => true) true n 3 [c6] = some y5 := by simpa [one3, Value.cells] using hg 5 _ rfl
      obtain ⟨zs, n', _, _, _, hlen2, hg2⟩ := DataW.trod_struct Try.underlying24 g0
      match zs, hlen2 with
      | [z0, z1], _ =>
        have k0 : DataW.trod enc Try.prog W 0 (fun _ => true) true n' 3 [c0] = some z0 := by simpa [one3] using hg2 0 _ rfl
        have k1 : DataW.trod enc Try.prog W 0 (fun _ => true) true n' 22 [c1] = some z1 := by simpa [oneP] using hg2 1 _ rfl
        obtain ⟨sz, e0⟩ := open_one Try.underlying3 k0
        obtain ⟨A, m, c, ps, rfl, hs⟩ := open_prs Try.underlying22 Try.underlying83 Try.underlying3 one3 two83 k1
        obtain ⟨kinds, e1⟩ := open_one Try.underlying3 g1
        obtain ⟨A2, m2, cc2, tok, rfl, h2⟩ := open_nums Try.underlying40 Try.underlying3 one3 g2
        obtain ⟨A3, m3, cc3, col, rfl, h3⟩ := open_nums Try.underlying40 Try.underlying3 one3 g3
        obtain ⟨A4, m4, cc4, brd, rfl, h4⟩ := open_nums Try.underlying40 Try.underlying3 one3 g4
        obtain ⟨count, e5⟩ := open_one Try.underlying3 g5
        simp only [List.cons.injEq, and_true] at e0 e1 e5
        subst e0 e1 e5
        obtain rfl : ps.length = m := hs.len
        obtain rfl : tok.length = m2 := h2.len
        obtain rfl : col.length = m3 := h3.len
        obtain rfl : brd.length = m4 := h4.len
        exact ⟨⟨⟨sz, ps⟩, kinds, tok, col, brd, count⟩, ⟨⟨A, c⟩, ⟨A2, cc2⟩, ⟨A3, cc3⟩, ⟨A4, cc4⟩⟩, rfl, hs, h2, h3, h4⟩
end Go.Proofs.Ytkfbkflneppggaa
