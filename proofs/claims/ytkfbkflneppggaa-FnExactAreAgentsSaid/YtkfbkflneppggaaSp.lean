/-
  Sorting by insertion, said of lists alone. No program stands here. Conditions: none.
-/
import Derived.Test.YtkfbkflneppggaaWd
namespace Go.Proofs.Ytkfbkflneppggaa
set_option linter.unusedVariables false

theorem gI_set (ys : List Int) (k p : Nat) (v : Int) (hk : k < ys.length) : gI (ys.set k v) p = if p = k then v else gI ys p := by
  unfold gI
  simp only [List.getD_eq_getElem?_getD, List.getElem?_set]
  by_cases h : k = p
  · subst h; simp [hk]
  · rw [if_neg h, if_neg (fun e => h e.symm)]
def swapL (ys : List Int) (j : Nat) : List Int := (ys.set j (gI ys (j - 1))).set (j - 1) (gI ys j)
theorem swapL_length (ys : List Int) (j : Nat) : (swapL ys j).length = ys.length := by simp [swapL]
theorem gI_swap (ys : List Int) (j p : Nat) (h0 : 0 < j) (hj : j < ys.length) : gI (swapL ys j) p = if p = j - 1 then gI ys j else if p = j then gI ys (j - 1) else gI ys p := by
  unfold swapL
  rw [gI_set _ _ _ _ (by simp; omega), gI_set _ _ _ _ hj]
theorem swap_perm (ys : List Int) (j : Nat) (h0 : 0 < j) (hj : j < ys.length) : (swapL ys j).Perm ys := by
  obtain ⟨k, rfl⟩ : ∃ k, j = k + 1 := ⟨j - 1, by omega⟩
  have hsplit : ys = ys.take k ++ gI ys k :: gI ys (k + 1) :: ys.drop (k + 2) := by
    rw [gI_eq ys k (by omega), gI_eq ys (k + 1) hj]
    conv => lhs; rw [← List.take_append_drop k ys, List.drop_eq_getElem_cons (by omega), List.drop_eq_getElem_cons hj]
  have hl : (ys.take k).length = k := by rw [List.length_take]; omega
  have hs : swapL ys (k + 1) = ys.take k ++ gI ys (k + 1) :: gI ys k :: ys.drop (k + 2) := by
    apply List.ext_getElem
    · rw [swapL_length]; simp; omega
    · intro p h1 h2
      have h1' : p < ys.length := by rw [swapL_length] at h1; exact h1
      have e1 : (swapL ys (k + 1))[p] = gI (swapL ys (k + 1)) p := (gI_eq _ p h1).symm
      rw [e1, gI_swap ys (k + 1) p (by omega) hj]
      simp only [Nat.add_sub_cancel]
      rcases Nat.lt_trichotomy p k with h | h | h
      · rw [if_neg (by omega), if_neg (by omega), List.getElem_append_left (by omega), List.getElem_take, gI_eq ys p h1']
      · subst h; rw [if_pos rfl, List.getElem_append_right (by omega)]; simp [hl]
      · rw [if_neg (by omega)]
        by_cases h3 : p = k + 1
        · subst h3; rw [if_pos rfl, List.getElem_append_right (by omega)]; simp [hl]
        · rw [if_neg h3, List.getElem_append_right (by omega), gI_eq ys p h1']
          obtain ⟨d, rfl⟩ : ∃ d, p = k + 2 + d := ⟨p - (k + 2), by omega⟩
          simp [hl, show k + 2 + d - k = d + 2 by omega]
  rw [hs]
  conv => rhs; rw [hsplit]
  exact List.Perm.append_left _ (List.Perm.swap _ _ _)

/-- The first i numbers are in order. -/
def srt (ys : List Int) (i : Nat) : Prop := ∀ p q, p < q → q < i → gI ys p ≤ gI ys q
/-- The first i + 1 numbers are in order, but the one at j, which is on its way down. -/
def insI (ys : List Int) (i j : Nat) : Prop := j ≤ i ∧ (∀ p q, p < q → q ≤ i → p ≠ j → q ≠ j → gI ys p ≤ gI ys q) ∧ ∀ q, j < q → q ≤ i → gI ys j ≤ gI ys q
theorem ins_start {ys : List Int} {i : Nat} (h : srt ys i) : insI ys i i := ⟨Nat.le_refl _, fun p q h1 h2 h3 h4 => h p q h1 (by omega), fun q h1 h2 => by omega⟩
theorem ins_stop {ys : List Int} {i j : Nat} (h : insI ys i j) (hs : j = 0 ∨ gI ys (j - 1) ≤ gI ys j) : srt ys (i + 1) := fun p q hpq hq => by
  obtain ⟨h0, h1, h2⟩ := h
  by_cases hp : p = j
  · subst hp; exact h2 q hpq (by omega)
  · by_cases hqj : q = j
    · subst hqj
      rcases hs with hs | hs
      · omega
      · by_cases hp1 : p = q - 1
        · subst hp1; exact hs
        · exact Int.le_trans (h1 p (q - 1) (by omega) (by omega) hp (by omega)) hs
    · exact h1 p q hpq (by omega) hp hqj
theorem ins_step {ys : List Int} {i j : Nat} (h : insI ys i j) (h0 : 0 < j) (hi : i < ys.length) (hlt : gI ys j < gI ys (j - 1)) : insI (swapL ys j) i (j - 1) := by
  obtain ⟨hj, h1, h2⟩ := h
  have hjl : j < ys.length := by omega
  refine ⟨by omega, fun p q hpq hq hp hqj => ?_, fun q hq hqi => ?_⟩
  · rw [gI_swap ys j p h0 hjl, gI_swap ys j q h0 hjl, if_neg hp, if_neg hqj]
    by_cases hpj : p = j
    · rw [if_pos hpj, if_neg (by omega)]
      exact h1 (j - 1) q (by omega) hq (by omega) (by omega)
    · rw [if_neg hpj]
      by_cases hqj2 : q = j
      · rw [if_pos hqj2]
        exact h1 p (j - 1) (by omega) (by omega) hpj (by omega)
      · rw [if_neg hqj2]
        exact h1 p q hpq hq hpj hqj2
  · rw [gI_swap ys j (j - 1) h0 hjl, gI_swap ys j q h0 hjl, if_pos rfl, if_neg (by omega)]
    by_cases hqj : q = j
    · rw [if_pos hqj]; omega
    · rw [if_neg hqj]; exact h2 q (by omega) hqi
theorem srt_pairwise {ys : List Int} (h : srt ys ys.length) : ys.Pairwise (· ≤ ·) := by
  rw [List.pairwise_iff_getElem]
  intro i j hi hj hij
  have := h i j hij hj
  rwa [gI_eq ys i hi, gI_eq ys j hj] at this
end Go.Proofs.Ytkfbkflneppggaa
