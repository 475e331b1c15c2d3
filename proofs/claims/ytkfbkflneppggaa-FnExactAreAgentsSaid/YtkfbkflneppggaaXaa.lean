/-
  A space opened as a datum. Conditions: none.
-/
import Derived.Test.YtkfbkflneppggaaTs
import Derived.Test.YtkfbkflneppggaaXis
import Derived.Test.YtkfbkflneppggaaOq
namespace Go.Proofs.Ytkfbkflneppggaa
open Go.RowKit Go.ChangeShapes Go.WideShapes Go.Joins
set_option linter.unusedVariables false

instance : Inhabited SlA := ⟨⟨none, 0⟩⟩
theorem open_rows {H : Type} {enc : TypeId × Value → H} {P : Program} {W : World} {base : Nat} {spare : Nat → Bool} {held : Bool} {t e i : TypeId} {fuel : Nat} {v : Value} {x : DataW H × List MemPlace} (ht : P.underlying t = some (.slice e)) (he : P.underlying e = some (.slice i)) (hi : P.underlying i = some (.int .i64)) (ce : P.cellsOf e = 1) (h1 : P.cellsOf i = 1)
    (h : DataW.trod enc P W base spare held fuel t [v] = some x) : ∃ (d : List (List Int)) (a : SlA), v = .slice a.A d.length a.c ∧ RdL W a d := by
  rcases Deep.open_slice ht h with ⟨hc, _⟩ | ⟨a, len, cap, m, n, D, Pl, hc, hb, hl, hm, hmm, _, hx⟩
  · simp only [List.cons.injEq, and_true] at hc
    exact ⟨[], ⟨none, 0⟩, hc, fun _ => ⟨none, 0⟩, by simpa [hdrs] using Sl.nil W 1 none, fun k hk => by simp at hk⟩
  · simp only [List.cons.injEq, and_true] at hc
    subst hc
    have hlm : len ≤ m := by rw [hmm]; split <;> omega
    rw [ce] at hx
    obtain ⟨f, hf⟩ := Deep.choose_lt (α := SlA × List Int) (n := len) (p := fun k y => W.cell? (a.add k) = some (.slice y.1.A y.2.length y.1.c) ∧ RdI W y.1 y.2) (fun k hk => by
      obtain ⟨cs', hc1, hc2⟩ := hx k (by omega)
      obtain ⟨_, hlen, hcell⟩ := World.cells?_some hc1
      have h0 := hcell 0 (by omega)
      match cs', hlen with
      | [u], _ =>
        obtain ⟨A, n, c, xs, rfl, hs⟩ := open_nums he hi h1 hc2
        obtain rfl : xs.length = n := hs.len
        exact ⟨(⟨A, c⟩, xs), by simpa [Addr.add] using h0, hs⟩)
    have hlen : ((List.range len).map fun k => (f k).2).length = len := by simp
    have hg : ∀ k, k < len → gL ((List.range len).map fun k => (f k).2) k = (f k).2 := fun k hk => by rw [gL_eq _ _ (by simpa using hk)]; simp
    refine ⟨(List.range len).map fun k => (f k).2, ⟨some a, cap⟩, by rw [hlen], fun k => (f k).1, ⟨?_, by rw [hlen]; simp only [maxLen] at hm; omega, fun hn => ?_⟩, fun k hk => ?_⟩
    · rw [hdrs_length]; simp
    · rw [hlen] at hn
      have hs := spot_none (hf 0 hn).1
      simp only [Addr.add, if_pos] at hs
      obtain ⟨b, o, s⟩ := a
      simp only at hs
      subst hs
      have hadd : ∀ k, (Addr.mk b o none).add k = ⟨b, o + k, none⟩ := fun k => by unfold Addr.add; split <;> simp_all
      have hlt := World.block_lt_of_cell? W _ (hf 0 hn).1
      rw [hadd] at hlt
      refine ⟨b, o, rfl, hlt, fun j u hj => ?_⟩
      have hj2 : j < len := by
        have := (List.getElem?_eq_some_iff.1 hj).1
        rw [hdrs_length] at this; simpa using this
      have := (hf j hj2).1
      rw [hadd] at this
      rw [this]
      have e := hdrs_at (fun k => (f k).1) ((List.range len).map fun k => (f k).2) j (by simpa using hj2)
      rw [hg j hj2] at e
      exact e.symm.trans hj
    · rw [hlen] at hk; rw [hg k hk]; exact (hf k hk).2

set_option maxRecDepth 100000
theorem twoS : Try.prog.cellsOf 47 = 2 := by kernel_rfl
theorem oneL : Try.prog.cellsOf 45 = 1 := by kernel_rfl

theorem openS_t {H : Type} {enc : TypeId × Value → H} {W : World} {b : Nat} {v : Value} {d : DataW H} {p : List MemPlace} (hv : Value.okWide Try.prog W .any b 47 v) (h : DataW.Trod enc Try.prog W 0 (fun _ => true) true 47 v d p) :
    ∃ (d : SpD) (a : SpA), v = .agg #[.slice a.s.A d.st.length a.s.c, .slice a.t.A d.tp.length a.t.c] ∧ RdS W a d := by
  obtain ⟨cs, rfl, hsz⟩ := okWide_struct Try.underlying47 hv
  obtain ⟨l⟩ := cs
  match l, hsz.trans twoS with
  | [c0, c1], _ =>
    obtain ⟨fuel, hf⟩ := h
    obtain ⟨xs, n, _, hx, _, hlen, hg⟩ := DataW.trod_struct Try.underlying47 hf
    match xs, hlen with
    | [y0, y1], _ =>
      have g0 : DataW.trod enc Try.prog W 0 (fun _ => true) true n 45 [c0] = some y0 := by simpa [oneL, Value.cells] using hg 0 _ rfl
      have g1 : DataW.trod enc Try.prog W 0 (fun _ => true) true n 22 [c1] = some y1 := by simpa [oneP, oneL, Value.cells] using hg 1 _ rfl
      obtain ⟨st, a1, rfl, h1⟩ := open_rows Try.underlying45 Try.underlying40 Try.underlying3 two24' one3 g0
      obtain ⟨A, m, c, ps, rfl, hs⟩ := open_prs Try.underlying22 Try.underlying83 Try.underlying3 one3 two83 g1
      obtain rfl : ps.length = m := hs.len
      exact ⟨⟨st, ps⟩, ⟨a1, ⟨A, c⟩⟩, rfl, h1, hs⟩
end Go.Proofs.Ytkfbkflneppggaa
