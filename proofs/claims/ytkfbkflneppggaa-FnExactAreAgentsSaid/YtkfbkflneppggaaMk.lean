/-
  The laws' helpers on rows of numbers and of pairs: copies, comparisons of equal rows, the marks that a law writes and asks for again. Conditions: none.
-/
import Derived.Test.YtkfbkflneppggaaLa
namespace Go.Proofs.Ytkfbkflneppggaa
open Go.RowKit
set_option linter.unusedVariables false
set_option linter.unusedSimpArgs false

/-- The marks k, k+1, .. -/
def marks (k : Int) (n : Nat) : List Int := (List.range n).map fun (i : Nat) => k + (i : Int)
/-- The marks of n pairs. -/
def markP (k : Int) (n : Nat) : List (Int × Int) := (List.range n).map fun (i : Nat) => (k + 2 * (i : Int), k + 2 * (i : Int) + 1)
theorem marks_length (k : Int) (n : Nat) : (marks k n).length = n := by simp [marks]
theorem markP_length (k : Int) (n : Nat) : (markP k n).length = n := by simp [markP]
theorem gI_marks (k : Int) (n j : Nat) (h : j < n) : gI (marks k n) j = k + (j : Int) := by
  simp [gI, marks, List.getD_eq_getElem?_getD, List.getElem?_range h]
theorem gP_markP (k : Int) (n j : Nat) (h : j < n) : gP (markP k n) j = (k + 2 * (j : Int), k + 2 * (j : Int) + 1) := by
  rw [gP_eq _ _ (by rw [markP_length]; exact h)]; simp [markP]
theorem fill_next {α : Type} (f : Nat → α) (xs : List α) (j : Nat) (h : j < xs.length) :
    ((List.range j).map f ++ xs.drop j).set j (f j) = (List.range (j + 1)).map f ++ xs.drop (j + 1) := by
  rw [List.set_append_right _ _ (by simp), List.drop_eq_getElem_cons h]
  simp only [List.length_map, List.length_range, Nat.sub_self, List.set_cons_zero]
  rw [List.range_succ, List.map_append, List.append_assoc]
  rfl

set_option maxHeartbeats 400000 in
theorem toIntS_c (A : Option Addr) (n c : Nat) (xs : List Int) (w : World) (h : SlI w A n xs) (hn : n ≤ 1048576) :
    Calls Try.prog 34 #[.slice A n c] w fun e w' => ∃ A' c', e = .returned (.slice A' n c') ∧ w'.ownsRow w.heap.size 3 1 (.slice A' n c') n (ints xs) ∧ Ext w w' := by
  go_enter Try.func34, Try.ntmps34
  go_wp2_with (at_make; refine make_full 40 3 _ 1 8 Try.underlying40 infoI rfl _ _ rfl n rfl rfl (by omega) (by omega) ?_; intro w1 hown hx)
  rw [made_ints] at hown
  have hl := h.len
  go_loopw [4] (fun i wr => ∃ k : Nat, k ≤ n ∧ i = .int .i64 k ∧ Ext w wr ∧ wr.ownsRow w.heap.size 3 1 (.slice (some ⟨w.heap.size, 0, none⟩) n n) n (ints (xs.take k ++ List.replicate (n - k) 0))) (fun i _ => n - (intOf i).toNat)
  case atStart => exact ⟨0, Nat.zero_le _, rfl, hx, by simpa using hown⟩
  case round =>
    obtain ⟨k, hk, rfl, hx, hown⟩ := hrel
    by_cases hlt : k < n
    · obtain ⟨b, o, rfl, d1⟩ := (h.ext hx).at k (by omega)
      obtain ⟨u0, c0, f0⟩ := own_ready hown k (by omega)
      have Hh := Lib.hid h; clear h
      have Hx := Lib.hid hx; clear hx
      have Hown := Lib.hid hown; clear hown
      have Hl := Lib.hid hl; clear hl
      have i0 : (0 : Int) ≤ (k : Int) := by omega
      have i1 : (k : Int) < (n : Int) := by omega
      go_wp2
      go_roundw
      case rel =>
        have h2 := own_setI (k := k) (x := gI xs k) Hown.out
        rw [show gI xs k = xs[k]'(by have := Hl.out; omega) from gI_eq xs k _, fill_set xs 0 n k Hl.out hlt] at h2
        exact ⟨k + 1, by omega, by go_num, Hx.out.setCell (Nat.le_refl _) _, by rw [gI_eq xs k (by have := Hl.out; omega)]; exact h2⟩
      case measure => simp [intOf]; omega
    · have hk' : k = n := by omega
      subst hk'
      go_wp2
      go_ret
      refine ⟨_, _, rfl, ?_, hx⟩
      rw [Nat.sub_self, List.take_of_length_le (by omega)] at hown
      simpa using hown

set_option maxHeartbeats 400000 in
/-- Two rows of numbers that read alike compare as equal. -/
theorem eqIntS_c (A B : Option Addr) (n c d : Nat) (xs : List Int) (w : World) (hA : SlI w A n xs) (hB : SlI w B n xs) :
    Calls Try.prog 28 #[.slice A n c, .slice B n d] w fun e w' => e = .returned (.bool true) ∧ Ext w w' := by
  have hl := hA.len
  have hm := hA.le
  go_enter Try.func28, Try.ntmps28
  go_wp2
  go_loopw [5] (fun i wr => ∃ k : Nat, k ≤ n ∧ i = .int .i64 k ∧ Ext w wr) (fun i _ => n - (intOf i).toNat)
  case atStart => exact ⟨0, Nat.zero_le _, rfl, Ext.refl _⟩
  case round =>
    obtain ⟨k, hk, rfl, hx⟩ := hrel
    by_cases hlt : k < n
    · obtain ⟨b, o, rfl, p1⟩ := (hA.ext hx).at k (by omega)
      obtain ⟨b2, o2, rfl, q1⟩ := (hB.ext hx).at k (by omega)
      have i0 : (0 : Int) ≤ (k : Int) := by omega
      have i1 : (k : Int) < (n : Int) := by omega
      have HA := Lib.hid hA; clear hA
      have HB := Lib.hid hB; clear hB
      have Hx := Lib.hid hx; clear hx
      have Hl := Lib.hid hl; clear hl
      go_wp2
      go_quiet (fail)
      go_wp2
      go_roundw
      case rel => exact ⟨k + 1, by omega, by go_num, Hx.out.drewN _⟩
      case measure => simp [intOf]; omega
    · have hk' : k = n := by omega
      subst hk'
      go_wp2
      go_ret
      exact ⟨rfl, hx⟩

set_option maxHeartbeats 400000 in
/-- The marks are written. -/
theorem markIntS_c (A : Option Addr) (n c base : Nat) (k : Int) (xs : List Int) (w : World) (h : w.ownsRow base 3 1 (.slice A n c) n (ints xs)) (hn : n ≤ 1073741824) (h0 : 0 ≤ k) (h1 : k ≤ 1073741824) :
    Calls Try.prog 29 #[.slice A n c, .int .i64 k] w fun e w' => e = .returned (.int .i64 (k + n)) ∧ w'.ownsRow base 3 1 (.slice A n c) n (ints (marks k n)) ∧ Chg (fun b => (Value.slice A n c).ownBlock = some b) w w' := by
  have hl : xs.length = n := by have := h.1; rw [ints_length] at this; omega
  go_enter Try.func29, Try.ntmps29
  go_wp2
  go_loopw [1, 5] (fun m i wr => ∃ j : Nat, j ≤ n ∧ i = .int .i64 j ∧ m = .int .i64 (k + j) ∧ wr.ownsRow base 3 1 (.slice A n c) n (ints (marks k j ++ xs.drop j)) ∧ Chg (fun b => (Value.slice A n c).ownBlock = some b) w wr) (fun _ i _ => n - (intOf i).toNat)
  case atStart => exact ⟨0, Nat.zero_le _, rfl, by simp, by simpa [marks] using h, Chg.refl _ _⟩
  case round =>
    obtain ⟨j, hj, rfl, rfl, hown, hch⟩ := hrel
    by_cases hlt : j < n
    · obtain ⟨g, cap, hv, _, hg, _⟩ := own_at hown (by omega)
      obtain ⟨rfl, rfl⟩ : A = some ⟨g, 0, none⟩ ∧ c = cap := by injection hv with e1 e2 e3; exact ⟨e1, e3⟩
      obtain ⟨u0, c0, f0⟩ := own_ready hown j (by omega)
      have Hown := Lib.hid hown; clear hown
      have Hch := Lib.hid hch; clear hch
      have Hl := Lib.hid hl; clear hl
      have Hh := Lib.hid h; clear h hv
      have i0 : (0 : Int) ≤ (j : Int) := by omega
      have i1 : (j : Int) < (n : Int) := by omega
      have e1 : IntKind.i64.wrap (k + (j : Int) + 1) = k + (j : Int) + 1 := IntWalk.i64_in _ (by omega)
      go_wp2
      go_roundw
      case rel =>
        have h2 := own_setI (k := j) (x := k + (j : Int)) Hown.out
        rw [show marks k j = (List.range j).map (fun (i : Nat) => k + (i : Int)) from rfl, fill_next (fun (i : Nat) => k + (i : Int)) xs j (by have := Hl.out; omega)] at h2
        exact ⟨j + 1, by omega, by go_num, by first | (congr 1; omega) | (simp; omega), h2, Hch.out.set rfl _⟩
      case measure => simp [intOf]; omega
    · have hk' : j = n := by omega
      subst hk'
      go_wp2
      go_ret
      refine ⟨rfl, ?_, hch⟩
      rw [List.drop_of_length_le (by omega), List.append_nil] at hown
      exact hown

set_option maxHeartbeats 400000 in
/-- The marks are found. -/
theorem heldIntS_c (A : Option Addr) (n c : Nat) (k : Int) (w : World) (h : SlI w A n (marks k n)) (hn : n ≤ 1073741824) (h0 : 0 ≤ k) (h1 : k ≤ 1073741824) :
    Calls Try.prog 30 #[.slice A n c, .int .i64 k] w fun e w' => e = .returned (.int .i64 (k + n)) ∧ w = w' := by
  have hl := h.len
  go_enter Try.func30, Try.ntmps30
  go_wp2
  go_loopw [1, 5] (fun m i wr => ∃ j : Nat, j ≤ n ∧ i = .int .i64 j ∧ m = .int .i64 (k + j) ∧ w = wr) (fun _ i _ => n - (intOf i).toNat)
  case atStart => exact ⟨0, Nat.zero_le _, rfl, by simp, rfl⟩
  case round =>
    obtain ⟨j, hj, rfl, rfl, rfl⟩ := hrel
    by_cases hlt : j < n
    · obtain ⟨b, o, rfl, p1⟩ := h.at j (by omega)
      rw [gI_marks k n j hlt] at p1
      have Hh := Lib.hid h; clear h
      have Hl := Lib.hid hl; clear hl
      have i0 : (0 : Int) ≤ (j : Int) := by omega
      have i1 : (j : Int) < (n : Int) := by omega
      have e1 : IntKind.i64.wrap (k + (j : Int) + 1) = k + (j : Int) + 1 := IntWalk.i64_in _ (by omega)
      have e2 : ((k + (j : Int)) != (k + (j : Int))) = false := by simp
      go_wp2
      go_roundw
      case rel => exact ⟨j + 1, by omega, by go_num, by first | (congr 1; omega) | (simp; omega), by first | rfl | trivial⟩
      case measure => simp [intOf]; omega
    · have hk' : j = n := by omega
      subst hk'
      go_wp2
      go_ret
      exact ⟨rfl, rfl⟩

set_option maxHeartbeats 1000000 in
/-- The marks of pairs are written. -/
theorem markIntA2S_c (A : Option Addr) (n c base : Nat) (k : Int) (xs : List (Int × Int)) (w : World) (h : w.ownsRow base 83 2 (.slice A n c) n (prs xs)) (hn : n ≤ 1073741824) (h0 : 0 ≤ k) (h1 : k ≤ 1073741824) :
    Calls Try.prog 24 #[.slice A n c, .int .i64 k] w fun e w' => e = .returned (.int .i64 (k + 2 * n)) ∧ w'.ownsRow base 83 2 (.slice A n c) n (prs (markP k n)) ∧ Chg (fun b => (Value.slice A n c).ownBlock = some b) w w' := by
  have hl : xs.length = n := by have := h.1; rw [prs_length] at this; omega
  go_enter Try.func24, Try.ntmps24
  go_wp2
  go_loopw [1, 5] (fun m i wr => ∃ j : Nat, j ≤ n ∧ i = .int .i64 j ∧ m = .int .i64 (k + 2 * j) ∧ wr.ownsRow base 83 2 (.slice A n c) n (prs (markP k j ++ xs.drop j)) ∧ Chg (fun b => (Value.slice A n c).ownBlock = some b) w wr) (fun _ i _ => n - (intOf i).toNat)
  case atStart => exact ⟨0, Nat.zero_le _, rfl, by simp, by simpa [markP] using h, Chg.refl _ _⟩
  case round =>
    obtain ⟨j, hj, rfl, rfl, hown, hch⟩ := hrel
    by_cases hlt : j < n
    · obtain ⟨g, cap, hv, _, hg, _⟩ := own_at hown (by omega)
      obtain ⟨rfl, rfl⟩ : A = some ⟨g, 0, none⟩ ∧ c = cap := by injection hv with e1 e2 e3; exact ⟨e1, e3⟩
      obtain ⟨u0, c0, f0⟩ := own_ready hown (j * 2) (by omega)
      obtain ⟨u1, c1, f1⟩ := own_ready hown (j * 2 + 1) (by omega)
      have Hown := Lib.hid hown; clear hown
      have Hch := Lib.hid hch; clear hch
      have Hl := Lib.hid hl; clear hl
      have Hh := Lib.hid h; clear h hv
      have i0 : (0 : Int) ≤ (j : Int) := by omega
      have i1 : (j : Int) < (n : Int) := by omega
      have e1 : IntKind.i64.wrap (k + 2 * (j : Int) + 1) = k + 2 * (j : Int) + 1 := IntWalk.i64_in _ (by omega)
      have e2 : IntKind.i64.wrap (k + 2 * (j : Int) + 1 + 1) = k + 2 * (j : Int) + 1 + 1 := IntWalk.i64_in _ (by omega)
      go_wp2
      refine wp_loop_rounds 3 ?_
      rw [rounds_succ]
      go_wp2
      rw [rounds_succ]
      go_wp2
      rw [rounds_succ]
      go_wp2
      go_roundw
      case rel =>
        have h2 := own_setP (k := j) (x := k + 2 * (j : Int)) (y := k + 2 * (j : Int) + 1) Hown.out
        rw [show markP k j = (List.range j).map (fun (i : Nat) => (k + 2 * (i : Int), k + 2 * (i : Int) + 1)) from rfl, fill_next (fun (i : Nat) => (k + 2 * (i : Int), k + 2 * (i : Int) + 1)) xs j (by have := Hl.out; omega)] at h2
        exact ⟨j + 1, by omega, by go_num, by first | (congr 1; omega) | (simp; omega), h2, (Hch.out.set rfl _).set rfl _⟩
      case measure => simp [intOf]; omega
    · have hk' : j = n := by omega
      subst hk'
      go_wp2
      go_ret
      refine ⟨rfl, ?_, hch⟩
      rw [List.drop_of_length_le (by omega), List.append_nil] at hown
      exact hown

set_option maxHeartbeats 400000 in
theorem markGraph_c (sz : Int) (A : Option Addr) (n c base : Nat) (k : Int) (xs : List (Int × Int)) (w : World) (h : w.ownsRow base 83 2 (.slice A n c) n (prs xs)) (hn : n ≤ 1073741824) (h0 : 0 ≤ k) (h1 : k ≤ 1073741824) :
    Calls Try.prog 23 #[.agg #[.int .i64 sz, .slice A n c], .int .i64 k] w fun e w' => e = .returned (.int .i64 (k + 2 * n)) ∧ w'.ownsRow base 83 2 (.slice A n c) n (prs (markP k n)) ∧ Chg (fun b => (Value.slice A n c).ownBlock = some b) w w' := by
  have H := Lib.hid (h.alloc (.cells #[.int .i64 sz, .slice A n c] 28)); clear h
  go_enter Try.func23, Try.ntmps23
  go_wp2_with fail
  refine (markIntA2S_c A n c base k xs _ H.out hn h0 h1).mono ?_
  rintro e w1 ⟨rfl, ho, hc⟩
  have HO := Lib.hid ho; have HC := Lib.hid hc; clear ho hc
  go_wp2
  go_ret
  exact ⟨rfl, HO.out, (((Ext.refl w).alloc _).chg _).trans HC.out (fun _ _ h => h)⟩
end Go.Proofs.Ytkfbkflneppggaa
