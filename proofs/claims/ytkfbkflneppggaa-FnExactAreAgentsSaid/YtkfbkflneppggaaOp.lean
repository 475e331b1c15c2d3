/-
  Opening: a slice of pairs of integers, and a row of integers, that a reading of an argument has met, as the plain list that it holds. No program's function stands here. Conditions: none.
-/
import Derived.Test.YtkfbkflneppggaaWd
import Derived.Deep.Slices
import Derived.Lib.SmallJoins
import Derived.WideKeyPair
import Derived.OpenShut
import Derived.JoinedCond
namespace Go.Proofs.Ytkfbkflneppggaa
open Go.RowKit Go.WideMaps Go.ChangeShapes
set_option linter.unusedVariables false

section
variable {H : Type} {enc : TypeId × Value → H} {P : Program} {W : World} {base : Nat} {spare : Nat → Bool} {held : Bool}

/-- A cell that is read lies at an address without a spot. -/
theorem spot_none {w : World} {a : Addr} {v : Value} (h : w.cell? a = some v) : a.spot = none := by
  unfold World.cell? at h
  split at h
  · split at h
    · cases h
    · rename_i h2; simpa using h2
  · cases h

theorem open_two {e i : TypeId} {fuel : Nat} {cs : List Value} {x : DataW H × List MemPlace} (ht : P.underlying e = some (.array 2 i)) (hi : P.underlying i = some (.int .i64)) (h1 : P.cellsOf i = 1) (h2 : P.cellsOf e = 2)
    (h : DataW.trod enc P W base spare held fuel e cs = some x) : ∃ p : Int × Int, cs = [.int .i64 p.1, .int .i64 p.2] := by
  obtain ⟨xs, m, rfl, rfl, hl, hxs, he⟩ := DataW.trod_array ht h
  rw [h2] at hl
  match cs, hl with
  | [c0, c1], _ =>
    have e0 := he 0 (by omega)
    have e1 := he 1 (by omega)
    rw [h1] at e0 e1
    rw [List.getElem?_eq_getElem (by omega)] at e0 e1
    obtain ⟨a, ha, _⟩ := DataW.trod_int hi e0
    obtain ⟨b, hb, _⟩ := DataW.trod_int hi e1
    simp at ha hb
    subst ha hb
    exact ⟨(a, b), rfl⟩

theorem prs_cut (ps : List (Int × Int)) : ∀ (j : Nat) (u : Value), (prs ps)[j]? = some u → ∃ k r, j = k * 2 + r ∧ r < 2 ∧ ∃ h : k < ps.length, u = .int .i64 (if r = 0 then ps[k].1 else ps[k].2) := by
  intro j u hj
  have hlt : j < (prs ps).length := by
    rcases Nat.lt_or_ge j (prs ps).length with h | h
    · exact h
    · rw [List.getElem?_eq_none h] at hj; cases hj
  rw [prs_length] at hlt
  refine ⟨j / 2, j % 2, by omega, by omega, by omega, ?_⟩
  have hk : j / 2 < ps.length := by omega
  obtain ⟨p1, p2⟩ := prs_at ps (j / 2) hk
  by_cases hr : j % 2 = 0
  · rw [if_pos hr]
    rw [show j / 2 * 2 = j by omega, hj] at p1
    exact Option.some.inj p1
  · rw [if_neg hr]
    rw [show j / 2 * 2 + 1 = j by omega, hj] at p2
    exact Option.some.inj p2

theorem open_prs {t e i : TypeId} {fuel : Nat} {v : Value} {x : DataW H × List MemPlace} (ht : P.underlying t = some (.slice e)) (he : P.underlying e = some (.array 2 i)) (hi : P.underlying i = some (.int .i64)) (h1 : P.cellsOf i = 1) (h2 : P.cellsOf e = 2)
    (h : DataW.trod enc P W base spare held fuel t [v] = some x) : ∃ A n c ps, v = .slice A n c ∧ SlP W A n ps := by
  rcases Deep.open_slice ht h with ⟨hc, _⟩ | ⟨a, len, cap, m, n, D, Pl, hc, hb, hl, hm, hmm, _, hx⟩
  · simp only [List.cons.injEq, and_true] at hc
    exact ⟨none, 0, 0, [], hc, SlP.nil W none⟩
  · simp only [List.cons.injEq, and_true] at hc
    subst hc
    have hlm : len ≤ m := by rw [hmm]; split <;> omega
    rw [h2] at hx
    obtain ⟨f, hf⟩ := Deep.choose_lt (α := Int × Int) (n := len) (p := fun k p => W.cell? (a.add (k * 2)) = some (.int .i64 p.1) ∧ W.cell? ((a.add (k * 2)).add 1) = some (.int .i64 p.2)) (fun k hk => by
      obtain ⟨cs', hc1, hc2⟩ := hx k (by omega)
      obtain ⟨p, rfl⟩ := open_two he hi h1 h2 hc2
      obtain ⟨_, _, hcell⟩ := World.cells?_some hc1
      have g0 := hcell 0 (by omega)
      have g1 := hcell 1 (by omega)
      exact ⟨p, by simpa [Addr.add] using g0, by simpa using g1⟩)
    refine ⟨some a, len, cap, (List.range len).map f, rfl, ?_, by simp only [maxLen] at hm; omega, fun hn => ?_⟩
    · rw [prs_length]; simp
    · have hs := spot_none (hf 0 hn).1
      simp only [Nat.zero_mul, Addr.add, if_pos] at hs
      obtain ⟨b, o, s⟩ := a
      simp only at hs
      subst hs
      have hadd : ∀ k, (Addr.mk b o none).add k = ⟨b, o + k, none⟩ := fun k => by unfold Addr.add; split <;> simp_all
      have hlt := World.block_lt_of_cell? W _ (hf 0 hn).1
      rw [hadd] at hlt
      refine ⟨b, o, rfl, hlt, fun j u hj => ?_⟩
      obtain ⟨k, r, rfl, hr, hk, rfl⟩ := prs_cut _ j u hj
      simp only [List.length_map, List.length_range] at hk
      have hk' := hf k hk
      rw [hadd] at hk'
      have hadd2 : (Addr.mk b (o + k * 2) none).add 1 = ⟨b, o + k * 2 + 1, none⟩ := by simp [Addr.add]
      rw [hadd2] at hk'
      by_cases hr0 : r = 0
      · subst hr0
        simpa using hk'.1
      · obtain rfl : r = 1 := by omega
        simpa [Nat.add_assoc] using hk'.2
end
end Go.Proofs.Ytkfbkflneppggaa
