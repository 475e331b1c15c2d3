/-
  Contracts of the statements' own helpers: what they count, copy, compare, mark and hold. Conditions: none.
-/
import Derived.Test.YtkfbkflneppggaaBa
namespace Go.Proofs.Ytkfbkflneppggaa
open Go.RowKit
set_option linter.unusedVariables false
set_option linter.unusedSimpArgs false

/-- What is left of a count, or -1. -/
def leftOf (left : Int) (n : Nat) : Int := if left < n then -1 else left - n

set_option maxHeartbeats 400000 in
theorem szIntA2S_c (A : Option Addr) (n c : Nat) (left : Int) (w : World) (hn : n ≤ 9223372036854775807) (h1 : 0 ≤ left) (h2 : left ≤ 1048576) :
    Calls Try.prog 54 #[.slice A n c, .int .i64 left] w fun e w' => e = .returned (.int .i64 (leftOf left n)) ∧ Ext w w' := by
  go_enter Try.func54, Try.ntmps54
  by_cases h : left < n
  · have h' : left - (n : Int) < 0 := by omega
    go_wp2
    go_ret
    exact ⟨ret_int (by rw [leftOf, if_pos (by omega)]), Ext.refl _⟩
  · have h' : ¬ left - (n : Int) < 0 := by omega
    go_wp2
    go_ret
    exact ⟨ret_int (by rw [leftOf, if_neg (by omega)]), Ext.refl _⟩

theorem leftOf_le {left : Int} {n : Nat} (h : left ≤ 1048576) : leftOf left n ≤ 1048576 := by unfold leftOf; split <;> omega
theorem leftOf_ge {left : Int} {n : Nat} : -1 ≤ leftOf left n := by unfold leftOf; split <;> omega

set_option maxHeartbeats 400000 in
theorem szGraph_c (sz : Int) (A : Option Addr) (n c : Nat) (left : Int) (w : World) (hn : n ≤ 9223372036854775807) (h1 : 0 ≤ left) (h2 : left ≤ 1048576) :
    Calls Try.prog 13 #[.agg #[.int .i64 sz, .slice A n c], .int .i64 left] w fun e w' => e = .returned (.int .i64 (leftOf left n)) ∧ Ext w w' := by
  go_enter Try.func13, Try.ntmps13
  have hge := @leftOf_ge left n
  have hle := @leftOf_le left n h2
  by_cases h : leftOf left n < 0
  · go_wp2_with (go_at_call 54; refine (szIntA2S_c A n c left _ hn h1 h2).mono ?_; rintro e w' ⟨rfl, hx⟩)
    go_ret
    exact ⟨ret_int (by omega), ((Ext.refl w).alloc _).trans hx⟩
  · go_wp2_with (go_at_call 54; refine (szIntA2S_c A n c left _ hn h1 h2).mono ?_; rintro e w' ⟨rfl, hx⟩)
    go_ret
    exact ⟨rfl, ((Ext.refl w).alloc _).trans hx⟩

set_option maxHeartbeats 400000 in
theorem toIntA2_c (x y : Int) (w : World) :
    Calls Try.prog 114 #[.agg #[.int .i64 x, .int .i64 y]] w fun e w' => e = .returned (.agg #[.int .i64 x, .int .i64 y]) ∧ Ext w w' := by
  go_enter Try.func114, Try.ntmps114
  go_wp2
  refine wp_loop_rounds 3 ?_
  rw [rounds_succ]
  go_wp2
  rw [rounds_succ]
  go_wp2
  rw [rounds_succ]
  go_wp2
  refine bodyPost_ret (v := .agg #[.int .i64 x, .int .i64 y]) (by simp [results, Try.results114, go_sem]) rfl ⟨rfl, (((Ext.refl _).alloc _).alloc _).alloc _⟩

set_option maxHeartbeats 400000 in
theorem toIntA2S_c (A : Option Addr) (n c : Nat) (ps : List (Int × Int)) (w : World) (h : SlP w A n ps) (hn : n ≤ 1048576) :
    Calls Try.prog 57 #[.slice A n c] w fun e w' => ∃ A' c', e = .returned (.slice A' n c') ∧ w'.ownsRow w.heap.size 83 2 (.slice A' n c') n (prs ps) ∧ Ext w w' := by
  go_enter Try.func57, Try.ntmps57
  go_wp2_with (at_make; refine make_full 22 83 _ 2 16 Try.underlying22 infoP rfl _ _ rfl n rfl rfl (by omega) (by omega) ?_; intro w1 hown hx)
  rw [made_prs] at hown
  have hl := h.len
  go_loopw [4] (fun i wr => ∃ k : Nat, k ≤ n ∧ i = .int .i64 k ∧ Ext w wr ∧ wr.ownsRow w.heap.size 83 2 (.slice (some ⟨w.heap.size, 0, none⟩) n n) n (prs (ps.take k ++ List.replicate (n - k) (0, 0)))) (fun i _ => n - (intOf i).toNat)
  case atStart => exact ⟨0, Nat.zero_le _, rfl, hx, by simpa using hown⟩
  case round =>
    obtain ⟨k, hk, rfl, hx, hown⟩ := hrel
    by_cases hlt : k < n
    · obtain ⟨b, o, rfl, d1, d2⟩ := (h.ext hx).at k (by omega)
      have Hh := Lib.hid h; clear h
      have Hx := Lib.hid hx; clear hx
      have Hown := Lib.hid hown; clear hown
      have Hl := Lib.hid hl; clear hl
      go_wp2_with (go_at_call 114; refine (toIntA2_c _ _ _).mono ?_; rintro e w2 ⟨rfl, hy⟩; obtain ⟨u0, c0, f0⟩ := own_ready (own_ext Hown.out hy) (k * 2) (by omega); obtain ⟨v0, c1, f1⟩ := own_ready (own_ext Hown.out hy) (k * 2 + 1) (by omega))
      go_roundw
      case rel =>
        have h2 := own_setP (k := k) (x := (gP ps k).1) (y := (gP ps k).2) (own_ext Hown.out hy)
        rw [show (((gP ps k).1, (gP ps k).2) : Int × Int) = ps[k]'(by have := Hl.out; omega) from gP_eq ps k _, fill_set ps (0, 0) n k Hl.out hlt] at h2
        exact ⟨k + 1, by omega, by go_num, ((Hx.out.trans hy).setCell (Nat.le_refl _) _).setCell (Nat.le_refl _) _, h2⟩
      case measure => simp [intOf]; omega
    · have hk' : k = n := by omega
      subst hk'
      go_wp2
      go_ret
      refine ⟨_, _, rfl, ?_, hx⟩
      rw [Nat.sub_self, List.take_of_length_le (by omega)] at hown
      simpa using hown

set_option maxHeartbeats 400000 in
theorem toGraph_c (sz : Int) (A : Option Addr) (n c : Nat) (ps : List (Int × Int)) (w : World) (h : SlP w A n ps) (hn : n ≤ 1048576) :
    Calls Try.prog 15 #[.agg #[.int .i64 sz, .slice A n c]] w fun e w' => ∃ A' c', e = .returned (.agg #[.int .i64 sz, .slice A' n c']) ∧ w'.ownsRow w.heap.size 83 2 (.slice A' n c') n (prs ps) ∧ Ext w w' := by
  go_enter Try.func15, Try.ntmps15
  go_wp2_with fail
  refine (toIntA2S_c A n c ps _ (h.ext ((((Ext.refl w).alloc _).alloc _).alloc _)) hn).mono ?_
  rintro e w1 ⟨A1, c1, rfl, hown, hx⟩
  obtain ⟨hc, hf⟩ := hx.rules
  have Hx := Lib.hid hx; clear hx
  have Hown := Lib.hid hown; clear hown
  have Hh := Lib.hid h; clear h
  go_wp2
  have hs := Hx.out.size
  simp only [alloc_size] at hs
  refine bodyPost_ret (v := .agg #[.int .i64 sz, .slice A1 n c1]) (by simp [results, Try.results15, go_sem, hc, hf]) rfl ⟨A1, c1, rfl, ?_, ?_⟩
  · refine own_mono (base := w.heap.size + 1 + 1 + 1) ?_ (by omega)
    have ho := Hown.out
    simp only [alloc_size] at ho
    exact own_beside (own_beside (own_beside ho (by omega) _) (by omega) _) (by omega) _
  · exact (((((((Ext.refl w).alloc _).alloc _).alloc _).trans Hx.out).set (by omega) _).set (by omega) _).set (by omega) _

set_option maxHeartbeats 400000 in
theorem eqIntA2_c (a b x y : Int) (w : World) :
    Calls Try.prog 65 #[.agg #[.int .i64 a, .int .i64 b], .agg #[.int .i64 x, .int .i64 y]] w fun e w' => e = .returned (.bool (eqP a b x y)) ∧ Ext w w' := by
  have hE : Ext w ((w.alloc (.cells #[.int .i64 a, .int .i64 b] 83)).alloc (.cells #[.int .i64 x, .int .i64 y] 83)) := ((Ext.refl w).alloc _).alloc _
  have HE := Lib.hid hE; clear hE
  by_cases h1 : a = x
  · by_cases h2 : b = y
    · subst h1 h2
      have hq : eqP a b a b = true := by simp [eqP]
      go_enter Try.func65, Try.ntmps65
      go_wp2
      refine wp_loop_rounds 3 ?_
      rw [rounds_succ]
      go_wp2
      go_quiet (fail)
      go_wp2
      rw [rounds_succ]
      go_wp2
      go_quiet (fail)
      go_wp2
      rw [rounds_succ]
      go_wp2
      go_ret
      exact ⟨ret_bool hq.symm, by first | exact HE.out.drewN _ | exact (HE.out.drewN _).drewN _⟩
    · have hq : eqP a b x y = false := by simp [eqP, h2]
      have h2' : (b == y) = false := by simpa using h2
      subst h1
      go_enter Try.func65, Try.ntmps65
      go_wp2
      refine wp_loop_rounds 2 ?_
      rw [rounds_succ]
      go_wp2
      go_quiet (fail)
      go_wp2
      rw [rounds_succ]
      go_wp2
      go_quiet (fail)
      go_wp2
      go_ret
      exact ⟨ret_bool hq.symm, by first | exact HE.out.drewN _ | exact (HE.out.drewN _).drewN _⟩
  · have hq : eqP a b x y = false := by simp [eqP, h1]
    have h1' : (a == x) = false := by simpa using h1
    go_enter Try.func65, Try.ntmps65
    go_wp2
    refine wp_loop_rounds 1 ?_
    rw [rounds_succ]
    go_wp2
    go_quiet (fail)
    go_wp2
    go_ret
    exact ⟨ret_bool hq.symm, by first | exact HE.out.drewN _ | exact (HE.out.drewN _).drewN _⟩

theorem eqP_refl (a b : Int) : eqP a b a b = true := by simp [eqP]

/-- Two slices that read alike compare as equal. -/
theorem eqIntA2S_c (A B : Option Addr) (n c d : Nat) (ps : List (Int × Int)) (w : World) (hA : SlP w A n ps) (hB : SlP w B n ps) :
    Calls Try.prog 22 #[.slice A n c, .slice B n d] w fun e w' => e = .returned (.bool true) ∧ Ext w w' := by
  have hl := hA.len
  have hm := hA.le
  go_enter Try.func22, Try.ntmps22
  go_wp2
  go_loopw [5] (fun i wr => ∃ k : Nat, k ≤ n ∧ i = .int .i64 k ∧ Ext w wr) (fun i _ => n - (intOf i).toNat)
  case atStart => exact ⟨0, Nat.zero_le _, rfl, Ext.refl _⟩
  case round =>
    obtain ⟨k, hk, rfl, hx⟩ := hrel
    by_cases hlt : k < n
    · obtain ⟨b, o, rfl, p1, p2⟩ := (hA.ext hx).at k (by omega)
      obtain ⟨b2, o2, rfl, q1, q2⟩ := (hB.ext hx).at k (by omega)
      have d1 := fun w' (e : Ext wr w') => e.cell p1
      have d2 := fun w' (e : Ext wr w') => e.cell p2
      have d3 := fun w' (e : Ext wr w') => e.cell q1
      have d4 := fun w' (e : Ext wr w') => e.cell q2
      have hq := eqP_refl (gP ps k).1 (gP ps k).2
      have i0 : (0 : Int) ≤ (k : Int) := by omega
      have i1 : (k : Int) < (n : Int) := by omega
      have HA := Lib.hid hA; clear hA
      have HB := Lib.hid hB; clear hB
      have Hx := Lib.hid hx; clear hx
      have Hl := Lib.hid hl; clear hl
      clear p1 p2 q1 q2
      go_wp2_with fail
      go_region_held3 (fun w' => Ext wr w')
        (first
          | exact (Ext.refl _).drew
          | exact Ext.trans (by assumption) hy)
        (first
          | (go_at_call 65; refine (eqIntA2_c _ _ _ _ _).mono ?_; rintro e w1 ⟨rfl, hy⟩))
      go_wp2
      go_roundw
      case rel => exact ⟨k + 1, by omega, by go_num, Hx.out.trans (by assumption)⟩
      case measure => simp [intOf]; omega
    · have hk' : k = n := by omega
      subst hk'
      go_wp2
      go_ret
      exact ⟨rfl, hx⟩

theorem eqGraph_c (sz : Int) (A B : Option Addr) (n c d : Nat) (ps : List (Int × Int)) (w : World) (hA : SlP w A n ps) (hB : SlP w B n ps) :
    Calls Try.prog 17 #[.agg #[.int .i64 sz, .slice A n c], .agg #[.int .i64 sz, .slice B n d]] w fun e w' => e = .returned (.bool true) ∧ Ext w w' := by
  have hE := ((Ext.refl w).alloc (.cells #[.int .i64 sz, .slice A n c] 28)).alloc (.cells #[.int .i64 sz, .slice B n d] 28)
  have HA := Lib.hid (hA.ext hE)
  have HB := Lib.hid (hB.ext hE)
  have HE := Lib.hid hE
  clear hE hA hB
  go_enter Try.func17, Try.ntmps17
  go_wp2_with (go_at_call 22; refine (eqIntA2S_c A B n c d ps _ HA.out HB.out).mono ?_; rintro e w' ⟨rfl, hx⟩)
  go_ret
  exact ⟨rfl, HE.out.trans hx⟩
end Go.Proofs.Ytkfbkflneppggaa
