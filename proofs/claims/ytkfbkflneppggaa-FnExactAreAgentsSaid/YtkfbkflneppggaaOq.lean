/-
  Opening: a row of whole numbers, a row of such rows, that a reading of an argument has met. No program's function stands here. Conditions: none.
-/
import Derived.Test.YtkfbkflneppggaaOp
namespace Go.Proofs.Ytkfbkflneppggaa
open Go.RowKit Go.WideMaps Go.ChangeShapes
set_option linter.unusedVariables false

section
variable {H : Type} {enc : TypeId × Value → H} {P : Program} {W : World} {base : Nat} {spare : Nat → Bool} {held : Bool}

theorem open_one {i : TypeId} {fuel : Nat} {cs : List Value} {x : DataW H × List MemPlace} (hi : P.underlying i = some (.int .i64)) (h : DataW.trod enc P W base spare held fuel i cs = some x) : ∃ z : Int, cs = [.int .i64 z] := by
  obtain ⟨a, ha, _⟩ := DataW.trod_int hi h
  exact ⟨a, ha⟩

theorem open_nums {t i : TypeId} {fuel : Nat} {v : Value} {x : DataW H × List MemPlace} (ht : P.underlying t = some (.slice i)) (hi : P.underlying i = some (.int .i64)) (h1 : P.cellsOf i = 1)
    (h : DataW.trod enc P W base spare held fuel t [v] = some x) : ∃ A n c xs, v = .slice A n c ∧ SlI W A n xs := by
  rcases Deep.open_slice ht h with ⟨hc, _⟩ | ⟨a, len, cap, m, n, D, Pl, hc, hb, hl, hm, hmm, _, hx⟩
  · simp only [List.cons.injEq, and_true] at hc
    exact ⟨none, 0, 0, [], hc, SlI.nil W none⟩
  · simp only [List.cons.injEq, and_true] at hc
    subst hc
    have hlm : len ≤ m := by rw [hmm]; split <;> omega
    rw [h1] at hx
    obtain ⟨f, hf⟩ := Deep.choose_lt (α := Int) (n := len) (p := fun k z => W.cell? (a.add k) = some (.int .i64 z)) (fun k hk => by
      obtain ⟨cs', hc1, hc2⟩ := hx k (by omega)
      obtain ⟨z, rfl⟩ := open_one hi hc2
      obtain ⟨_, _, hcell⟩ := World.cells?_some hc1
      have g0 := hcell 0 (by omega)
      exact ⟨z, by simpa [Addr.add] using g0⟩)
    refine ⟨some a, len, cap, (List.range len).map f, rfl, ?_, by simp only [maxLen] at hm; omega, fun hn => ?_⟩
    · simp [ints]
    · have hs := spot_none (hf 0 hn)
      simp only [Addr.add, if_pos] at hs
      obtain ⟨b, o, s⟩ := a
      simp only at hs
      subst hs
      have hadd : ∀ k, (Addr.mk b o none).add k = ⟨b, o + k, none⟩ := fun k => by unfold Addr.add; split <;> simp_all
      have hlt := World.block_lt_of_cell? W _ (hf 0 hn)
      rw [hadd] at hlt
      refine ⟨b, o, rfl, hlt, fun j u hj => ?_⟩
      have hj2 : j < len := by
        have := (List.getElem?_eq_some_iff.1 hj).1
        simpa [ints] using this
      have := hf j hj2
      rw [hadd] at this
      rw [this]
      have e : (ints ((List.range len).map f))[j]? = some (.int .i64 (f j)) := by simp [ints, hj2]
      exact e.symm.trans hj
end
end Go.Proofs.Ytkfbkflneppggaa
