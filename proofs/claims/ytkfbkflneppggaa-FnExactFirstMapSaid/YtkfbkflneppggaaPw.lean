/-
  Plain lemmas, third part: a list that is cut behind a number. No program and no memory. Conditions: none.
-/
import Derived.Test.YtkfbkflneppggaaPv
namespace Go.Proofs.Ytkfbkflneppggaa
set_option linter.unusedVariables false

/-- l begins with r, and r is all of l, or longer than a number. -/
def Cut (l : List (List Int)) (most : Int) (r : List (List Int)) : Prop := ∃ rest, l = r ++ rest ∧ (rest = [] ∨ most < (r.length : Int))
theorem Cut.all (l : List (List Int)) (most : Int) : Cut l most l := ⟨[], by simp, .inl rfl⟩
/-- A cut that is not longer than the number is all. -/
theorem Cut.whole {l r : List (List Int)} {most : Int} (h : Cut l most r) (hr : (r.length : Int) ≤ most) : r = l := by
  obtain ⟨rest, rfl, h1 | h1⟩ := h
  · rw [h1, List.append_nil]
  · omega
theorem Cut.more {l r : List (List Int)} {most : Int} (h : Cut l most r) (hr : most < (r.length : Int)) (tail : List (List Int)) : Cut (l ++ tail) most r := by
  obtain ⟨rest, rfl, _⟩ := h
  exact ⟨rest ++ tail, by simp, .inr hr⟩
theorem Cut.join {l r l' r' : List (List Int)} {most : Int} (h : Cut l most r) (hr : (r.length : Int) ≤ most) (h' : Cut l' (most - (r.length : Int)) r') : Cut (l ++ l') most (r ++ r') := by
  obtain rfl := h.whole hr
  obtain ⟨rest, rfl, h1⟩ := h'
  refine ⟨rest, by simp, h1.imp id (fun h => ?_)⟩
  rw [List.length_append]; omega
theorem Cut.le {l r : List (List Int)} {most : Int} (h : Cut l most r) : r.length ≤ l.length := by
  obtain ⟨rest, rfl, _⟩ := h
  simp
theorem Cut.nil (l : List (List Int)) {most : Int} {r : List (List Int)} (h : Cut l most r) (hm : 0 ≤ most) : r = [] ↔ l = [] := by
  obtain ⟨rest, rfl, h1⟩ := h
  constructor
  · rintro rfl
    rcases h1 with h1 | h1
    · rw [h1]; rfl
    · simp at h1; omega
  · intro h; exact (List.append_eq_nil_iff.1 h).1
theorem someM_tail (hs : Nat) (ok : List Int → Int → Bool) (m : Nat) (pre : List Int) (k : Nat) (hk : k ≤ hs) : ∃ rest, allM hs ok (m + 1) pre = someM hs ok m pre k ++ rest := someM_split hs ok m pre k hk
end Go.Proofs.Ytkfbkflneppggaa
