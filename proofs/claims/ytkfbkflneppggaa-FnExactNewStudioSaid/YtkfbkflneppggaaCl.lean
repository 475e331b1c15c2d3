/-
  The contract of slices.Clone for rows of whole numbers. Conditions: none.
-/
import Derived.Test.YtkfbkflneppggaaBa
namespace Go.Proofs.Ytkfbkflneppggaa
open Go.RowKit
set_option linter.unusedVariables false
set_option linter.unusedSimpArgs false

set_option maxRecDepth 100000 in
set_option maxHeartbeats 400000 in
theorem CloneI_c (A : Option Addr) (n c : Nat) (xs : List Int) (w : World) (h : SlI w A n xs) (hn : n ≤ 1048576) :
    Calls Try.prog 68 #[.slice A n c] w fun e w' => ∃ A' c', e = .returned (.slice A' n c') ∧ w'.ownsRow w.heap.size 3 1 (.slice A' n c') n (ints xs) ∧ Ext w w' := by
  cases A with
  | none =>
    have hn0 : n = 0 := by
      rcases Nat.eq_zero_or_pos n with h0 | h0
      · exact h0
      · obtain ⟨b, o, hA, _⟩ := h.2.2 h0
        exact absurd hA (by simp)
    subst hn0
    have hxs : xs = [] := List.eq_nil_of_length_eq_zero h.len
    subst hxs
    clear h
    have hn1 := fun (W : World) => Lib.run_eql_slice_nil (P := Try.prog) W 40 3 none 0 c 0 0 Try.underlying40
    go_enter Try.func68, Try.ntmps68
    go_wp2
    go_ret
    exact ⟨_, _, rfl, own_nil w _ _ _, Ext.refl w⟩
  | some ad =>
    have hS := Sl.ext h ((Ext.refl w).alloc (.cells #[] 3))
    have H := Lib.hid hS
    clear hS h
    have hn1 := fun (W : World) => Lib.run_eql_slice_nil (P := Try.prog) W 40 3 (some ad) n c 0 0 Try.underlying40
    go_enter Try.func68, Try.ntmps68
    go_wp2_with (at_builtin; refine append_all (w0 := w) 40 3 _ 1 8 Try.underlying40 infoI rfl (by omega) rfl _ _ rfl _ 0 n c (some ad) [] (ints xs) rfl rfl H.out (ints_one _) (own_empty w 3 1 0 #[] rfl (by omega)) ((Ext.refl w).alloc _) (by omega) (by omega) ?_; intro v1 w1 ho hx _ _)
    rw [Nat.zero_add, List.nil_append] at ho
    obtain ⟨A1, c1, rfl⟩ := own_slice ho
    go_ret
    exact ⟨_, _, rfl, ho, hx⟩
end Go.Proofs.Ytkfbkflneppggaa
