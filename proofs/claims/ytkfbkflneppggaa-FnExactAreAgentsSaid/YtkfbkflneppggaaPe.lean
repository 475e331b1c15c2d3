/-
  Permutations, said of lists alone: sorted and strictly rising, or each number among them. No program stands here. Conditions: none.
-/
import Derived.Test.YtkfbkflneppggaaSp
import Derived.Test.YtkfbkflneppggaaUp
namespace Go.Proofs.Ytkfbkflneppggaa
set_option linter.unusedVariables false
set_option linter.unusedSimpArgs false

/-- Is each number below the length among them? -/
def eachB (xs : List Int) : Bool := (List.range xs.length).all fun x => hasB xs (x : Int)
def perm9 (xs : List Int) : Bool := decide (xs.length ≤ 8) && eachB xs

theorem run_of_all : ∀ (n : Nat) (ys : List Int) (a : Int), ys.length = n → ys.Pairwise (· ≤ ·) → (∀ k : Nat, k < n → a + k ∈ ys) → ∀ k : Nat, k < n → gI ys k = a + k := by
  intro n
  induction n with
  | zero => intro ys a _ _ _ k hk; omega
  | succ n ih =>
    intro ys a hl hp hm
    cases ys with
    | nil => simp at hl
    | cons y t =>
      simp only [List.length_cons, Nat.add_right_cancel_iff] at hl
      obtain ⟨hy, ht⟩ := List.pairwise_cons.1 hp
      have hya : y = a := by
        rcases Int.lt_trichotomy y a with h | h | h
        · exfalso
          have h1 : ∀ k : Nat, k < n → a + k ∈ t := fun k hk => by
            rcases List.mem_cons.1 (hm k (by omega)) with e | e
            · omega
            · exact e
          have h2 := ih t a hl ht h1
          rcases List.mem_cons.1 (hm n (by omega)) with e | e
          · omega
          · obtain ⟨j, hj, e2⟩ := List.getElem_of_mem e
            have h3 := h2 j (by omega)
            rw [gI_eq t j hj, e2] at h3
            omega
        · exact h
        · exfalso
          rcases List.mem_cons.1 (hm 0 (by omega)) with e | e
          · simp at e; omega
          · have := hy _ e; simp at this; omega
      subst hya
      have h1 : ∀ k : Nat, k < n → (y + 1) + k ∈ t := fun k hk => by
        rcases List.mem_cons.1 (hm (k + 1) (by omega)) with e | e
        · push_cast at e; omega
        · have e2 : y + ((k + 1 : Nat) : Int) = y + 1 + k := by push_cast; omega
          rwa [e2] at e
      have h2 := ih t (y + 1) hl ht h1
      intro k hk
      cases k with
      | zero => simp [gI]
      | succ k =>
        have h3 := h2 k (by omega)
        have e : gI (y :: t) (k + 1) = gI t k := by simp [gI]
        rw [e, h3]; push_cast; omega

theorem sorted_each {xs ys : List Int} (hp : ys.Perm xs) (hs : srt ys ys.length) : upB ys 0 ((xs.length : Int) - 1) = eachB xs := by
  have hl : ys.length = xs.length := hp.length_eq
  rw [Bool.eq_iff_iff]
  constructor
  · intro h
    have hlt := fun i j h1 h2 => upB_lt' h i j h1 h2
    have hlo : ∀ k, k < ys.length → (k : Int) ≤ gI ys k := by
      intro k
      induction k with
      | zero =>
        intro hk
        have := upB_at h hk
        simp only [okUp, Bool.and_eq_true, inB_true] at this
        simpa using this.1.1
      | succ k ih =>
        intro hk
        have h1 := ih (by omega)
        have h2 := hlt k (k + 1) (by omega) hk
        push_cast; omega
    have hhi : ∀ d k, k + d + 1 = ys.length → gI ys k ≤ (k : Int) := by
      intro d
      induction d with
      | zero =>
        intro k hk
        have := upB_at h (show k < ys.length by omega)
        simp only [okUp, Bool.and_eq_true, inB_true] at this
        omega
      | succ d ih =>
        intro k hk
        have h1 := ih (k + 1) (by omega)
        have h2 := hlt k (k + 1) (by omega) (by omega)
        push_cast at h1; omega
    simp only [eachB, List.all_eq_true, List.mem_range, hasB, List.contains_iff_mem]
    intro k hk
    have e : gI ys k = (k : Int) := by
      have h1 := hlo k (by omega)
      have h2 := hhi (ys.length - k - 1) k (by omega)
      omega
    rw [← hp.mem_iff, ← e, gI_eq ys k (by omega)]
    exact List.getElem_mem _
  · intro h
    simp only [eachB, List.all_eq_true, List.mem_range, hasB, List.contains_iff_mem] at h
    have hr := run_of_all ys.length ys 0 rfl (srt_pairwise hs) (fun k hk => by rw [Int.zero_add, hp.mem_iff]; exact h k (by omega))
    refine upB_true fun j hj => ?_
    have e := hr j hj
    rw [okUp, e]
    have e1 : inB (0 + (j : Int)) 0 ((xs.length : Int) - 1) = true := inB_true.2 (by omega)
    rw [e1, Bool.true_and, Bool.or_eq_true]
    rcases Nat.eq_zero_or_pos j with h0 | h0
    · left; simp [h0]
    · right
      rw [hr (j - 1) (by omega), decide_eq_true_eq]
      omega
end Go.Proofs.Ytkfbkflneppggaa
