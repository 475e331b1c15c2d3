/-
  The program's IsSpace and the reference's l2Space, both as one Bool of the space. Conditions: none.
-/
import Derived.Test.YtkfbkflneppggaaVs
import Derived.Test.YtkfbkflneppggaaTs
import Derived.Test.YtkfbkflneppggaaIa
import Derived.Deep.RegionHeld3
namespace Go.Proofs.Ytkfbkflneppggaa
open Go.RowKit
set_option linter.unusedVariables false
set_option linter.unusedSimpArgs false

def rowOk (st : List (List Int)) (k : Nat) : Bool := stB (gL st k) && (decide (k = 0) || lessL (gL st (k - 1)) (gL st k))
def rowsB (st : List (List Int)) : Bool := (List.range st.length).all (rowOk st)
theorem rowsB_true {st : List (List Int)} (h : ∀ j, j < st.length → rowOk st j = true) : rowsB st = true := by
  simp only [rowsB, List.all_eq_true, List.mem_range]; exact h
theorem rowsB_false {st : List (List Int)} {k : Nat} (hk : k < st.length) (h : rowOk st k = false) : rowsB st = false := by
  rw [Bool.eq_false_iff]; intro hg
  simp only [rowsB, List.all_eq_true, List.mem_range] at hg
  rw [hg k hk] at h; exact absurd h (by simp)
def sizeB (d : SpD) : Bool := decide (d.st.length ≤ 300) && decide (d.tp.length ≤ 6000)
/-- Is a space valid? -/
def spB (d : SpD) : Bool := sizeB d && rowsB d.st && goodP d.tp d.st.length
theorem spB_sizes {d : SpD} (h : spB d = true) : d.st.length ≤ 300 ∧ d.tp.length ≤ 6000 := by
  simp only [spB, sizeB, Bool.and_eq_true, decide_eq_true_eq] at h; exact h.1.1
theorem rowOk_st {st : List (List Int)} {k : Nat} (h : stB (gL st k) = false) : rowOk st k = false := by simp [rowOk, h]
theorem rowOk_zero {st : List (List Int)} {k : Nat} (h : stB (gL st k) = true) (h0 : k = 0) : rowOk st k = true := by subst h0; simp [rowOk, h]
theorem rowOk_pos {st : List (List Int)} {k : Nat} (h : stB (gL st k) = true) (h0 : 0 < k) : rowOk st k = lessL (gL st (k - 1)) (gL st k) := by simp [rowOk, h, show k ≠ 0 by omega]
theorem cmpL_ge (a b : List Int) : decide (0 ≤ cmpL a b) = !lessL a b := by unfold lessL; by_cases h : cmpL a b < 0 <;> simp [h] <;> omega
theorem all_next {p : Nat → Bool} {k : Nat} (h : ∀ j, j < k → p j = true) (hk : p k = true) : ∀ j, j < k + 1 → p j = true := fun j hj => by
  rcases Nat.lt_or_ge j k with q | q
  · exact h j q
  · obtain rfl : j = k := by omega
    exact hk

set_option maxHeartbeats 4000000 in
theorem IsSpace_c (d : SpD) (a : SpA) (w : World) (h : RdS w a d) :
    Calls Try.prog 84 #[.agg #[.slice a.s.A d.st.length a.s.c, .slice a.t.A d.tp.length a.t.c]] w fun e w' => e = .returned (.bool (spB d)) ∧ Ext w w' := by
  obtain ⟨W, hW⟩ : ∃ W, W = w.alloc (.cells #[.slice a.s.A d.st.length a.s.c, .slice a.t.A d.tp.length a.t.c] 49) := ⟨_, rfl⟩
  have hE : Ext w W := by rw [hW]; exact (Ext.refl w).alloc _
  have HR := Lib.hid (h.ext hE); have HE := Lib.hid hE; have HW := Lib.hid hW
  have HB := Lib.hid (show Bx W w.heap.size [.slice a.s.A d.st.length a.s.c, .slice a.t.A d.tp.length a.t.c] by rw [hW]; exact Bx.new w _ _)
  have m1 := h.1.le
  have m2 := SlP.le h.2
  clear hE h hW
  by_cases s1 : d.st.length ≤ 300
  case neg =>
    have HV := Lib.hid (show spB d = false by simp [spB, sizeB, s1])
    have t1 : (300 : Int) < (d.st.length : Int) := by omega
    have f0 := HB.out.c 0 rfl; have f1 := HB.out.c 1 rfl
    rw [HW.out] at f0 f1
    go_enter Try.func84, Try.ntmps84
    go_wp2
    rw [← HW.out]
    go_ret
    exact ⟨ret_bool HV.out.symm, HE.out⟩
  have t1 : ¬ (300 : Int) < (d.st.length : Int) := by omega
  by_cases s2 : d.tp.length ≤ 6000
  case neg =>
    have HV := Lib.hid (show spB d = false by simp [spB, sizeB, s2])
    have t2 : (6000 : Int) < (d.tp.length : Int) := by omega
    have f0 := HB.out.c 0 rfl; have f1 := HB.out.c 1 rfl
    rw [HW.out] at f0 f1
    go_enter Try.func84, Try.ntmps84
    go_wp2
    rw [← HW.out]
    go_ret
    exact ⟨ret_bool HV.out.symm, HE.out⟩
  have t2 : ¬ (6000 : Int) < (d.tp.length : Int) := by omega
  have HS := Lib.hid (show sizeB d = true by simp [sizeB, s1, s2])
  have f0 := HB.out.c 0 rfl; have f1 := HB.out.c 1 rfl
  rw [HW.out] at f0 f1
  go_enter Try.func84, Try.ntmps84
  go_wp2
  rw [← HW.out]
  clear f0 f1 t1 t2 s2
  go_loopw [18] (fun i wr => ∃ k : Nat, k ≤ d.st.length ∧ i = .int .i64 k ∧ Ext W wr ∧ ∀ j, j < k → rowOk d.st j = true) (fun i _ => d.st.length - (intOf i).toNat)
  case atStart => exact ⟨0, Nat.zero_le _, rfl, Ext.refl _, fun j hj => absurd hj (by omega)⟩
  case round =>
    obtain ⟨k, hk, rfl, hx, hok⟩ := hrel
    have HX := Lib.hid hx; have HOk := Lib.hid hok
    clear hx hok
    by_cases hlt : k < d.st.length
    · obtain ⟨b, o, r, hA, hc, hrow⟩ := (HR.out.ext HX.out).1.at k hlt
      have HRow := Lib.hid hrow; have HAA := Lib.hid hA
      have i0 : (0 : Int) ≤ (k : Int) := by omega
      have i1 : (k : Int) < (d.st.length : Int) := by omega
      rw [hA]
      clear hrow hA
      cases q1 : stB (gL d.st k) with
      | false =>
        have HK := Lib.hid (rowsB_false hlt (rowOk_st q1))
        go_wp2_with fail
        refine (isState_c r.A (gL d.st k).length r.c (gL d.st k) _ HRow.out).mono ?_
        rw [q1]
        rintro e w1 ⟨rfl, hx⟩
        have HX1 := Lib.hid (HX.out.trans hx); clear hx
        go_wp2
        go_ret
        exact ⟨ret_bool (by rw [spB, HS.out, HK.out]; rfl), HE.out.trans HX1.out⟩
      | true =>
        by_cases k0 : 0 < k
        · have t0 : decide ((0 : Int) < (k : Int)) = true := by simp; omega
          have t4 : (0 : Int) ≤ (k : Int) - 1 := by omega
          have t5 : (1 : Int) ≤ (k : Int) := by omega
          have t6 : (k : Int) ≤ (d.st.length : Int) := by omega
          have t7 : (k : Int) - 1 < (d.st.length : Int) := by omega
          have t8 : ((k : Int) - 1).toNat = k - 1 := by omega
          have HK := Lib.hid (rowOk_pos q1 k0)
          go_wp2_with fail
          refine (isState_c r.A (gL d.st k).length r.c (gL d.st k) _ HRow.out).mono ?_
          rw [q1]
          rintro e w1 ⟨rfl, hx⟩
          have HX1 := Lib.hid (HX.out.trans hx); have HRow1 := Lib.hid (HRow.out.ext hx); clear hx hc
          obtain ⟨b', o', r', hA', hc', hrow'⟩ := (HR.out.ext HX1.out).1.at (k - 1) (by omega)
          obtain ⟨rfl, rfl⟩ : b' = b ∧ o' = o := by have := HAA.out; rw [hA'] at this; simpa using this
          have HRow2 := Lib.hid hrow'
          have f0 := (HB.out.ext HX1.out).c 0 rfl
          rw [hA'] at f0
          clear hrow' hA'
          have hw2 : IntKind.i64.wrap ((k : Int) - 1) = (k : Int) - 1 := IntWalk.i64_in _ (by omega)
          go_wp2_with fail
          refine (CompareL_c r'.A r.A (gL d.st (k - 1)).length (gL d.st k).length r'.c r.c (gL d.st (k - 1)) (gL d.st k) _ HRow2.out HRow1.out).mono ?_
          rintro e w2 ⟨rfl, rfl⟩
          cases q5 : lessL (gL d.st (k - 1)) (gL d.st k) with
          | false =>
            have t9 : decide (0 ≤ cmpL (gL d.st (k - 1)) (gL d.st k)) = true := by rw [cmpL_ge, q5]; rfl
            have HK2 := Lib.hid (rowsB_false hlt (HK.out.trans q5))
            go_wp2
            go_ret
            exact ⟨ret_bool (by rw [spB, HS.out, HK2.out]; rfl), HE.out.trans HX1.out⟩
          | true =>
            have t9 : decide (0 ≤ cmpL (gL d.st (k - 1)) (gL d.st k)) = false := by rw [cmpL_ge, q5]; rfl
            have HK2 := Lib.hid (HK.out.trans q5)
            go_wp2
            go_roundw
            case rel => exact ⟨k + 1, by omega, by go_num, HX1.out, all_next HOk.out HK2.out⟩
            case measure => simp [intOf]; omega
        · have t0 : decide ((0 : Int) < (k : Int)) = false := by simp; omega
          have t0' : decide (0 < k) = false := by simp; omega
          have HK := Lib.hid (rowOk_zero q1 (show k = 0 by omega))
          clear k0
          go_wp2_with fail
          refine (isState_c r.A (gL d.st k).length r.c (gL d.st k) _ HRow.out).mono ?_
          rw [q1]
          rintro e w1 ⟨rfl, hx⟩
          have HX1 := Lib.hid (HX.out.trans hx); clear hx
          go_wp2
          go_roundw
          case rel => exact ⟨k + 1, by omega, by go_num, HX1.out, all_next HOk.out HK.out⟩
          case measure => simp [intOf]; omega
    · have hk' : k = d.st.length := by omega
      subst hk'
      have HK := Lib.hid (show spB d = goodP d.tp d.st.length by rw [spB, HS.out, rowsB_true HOk.out]; rfl)
      have f0 := (HB.out.ext HX.out).c 0 rfl; have f1 := (HB.out.ext HX.out).c 1 rfl
      go_wp2_with fail
      refine (isPairs_c a.t.A d.tp.length a.t.c d.tp (d.st.length : Int) _ (HR.out.ext HX.out).2).mono ?_
      rintro e w1 ⟨rfl, hx⟩
      have HX1 := Lib.hid (HX.out.trans hx); clear hx
      go_wp2
      go_ret
      exact ⟨ret_bool HK.out.symm, HE.out.trans HX1.out⟩

set_option maxHeartbeats 4000000 in
theorem l2Space_c (d : SpD) (a : SpA) (w : World) (h : RdS w a d) :
    Calls Try.prog 82 #[.agg #[.slice a.s.A d.st.length a.s.c, .slice a.t.A d.tp.length a.t.c]] w fun e w' => e = .returned (.bool (spB d)) ∧ Ext w w' := by
  obtain ⟨W, hW⟩ : ∃ W, W = w.alloc (.cells #[.slice a.s.A d.st.length a.s.c, .slice a.t.A d.tp.length a.t.c] 49) := ⟨_, rfl⟩
  have hE : Ext w W := by rw [hW]; exact (Ext.refl w).alloc _
  have HR := Lib.hid (h.ext hE); have HE := Lib.hid hE; have HW := Lib.hid hW
  have HB := Lib.hid (show Bx W w.heap.size [.slice a.s.A d.st.length a.s.c, .slice a.t.A d.tp.length a.t.c] by rw [hW]; exact Bx.new w _ _)
  have m1 := h.1.le
  have m2 := SlP.le h.2
  clear hE h hW
  by_cases s1 : d.st.length ≤ 300
  case neg =>
    have HV := Lib.hid (show spB d = false by simp [spB, sizeB, s1])
    have t1 : (300 : Int) < (d.st.length : Int) := by omega
    have f0 := HB.out.c 0 rfl; have f1 := HB.out.c 1 rfl
    rw [HW.out] at f0 f1
    go_enter Try.func82, Try.ntmps82
    go_wp2
    rw [← HW.out]
    go_ret
    exact ⟨ret_bool HV.out.symm, HE.out⟩
  have t1 : ¬ (300 : Int) < (d.st.length : Int) := by omega
  by_cases s2 : d.tp.length ≤ 6000
  case neg =>
    have HV := Lib.hid (show spB d = false by simp [spB, sizeB, s2])
    have t2 : (6000 : Int) < (d.tp.length : Int) := by omega
    have f0 := HB.out.c 0 rfl; have f1 := HB.out.c 1 rfl
    rw [HW.out] at f0 f1
    go_enter Try.func82, Try.ntmps82
    go_wp2
    rw [← HW.out]
    go_ret
    exact ⟨ret_bool HV.out.symm, HE.out⟩
  have t2 : ¬ (6000 : Int) < (d.tp.length : Int) := by omega
  have HS := Lib.hid (show sizeB d = true by simp [sizeB, s1, s2])
  have f0 := HB.out.c 0 rfl; have f1 := HB.out.c 1 rfl
  rw [HW.out] at f0 f1
  go_enter Try.func82, Try.ntmps82
  go_wp2
  rw [← HW.out]
  clear f0 f1 t1 t2 s2
  go_loopw [3] (fun i wr => ∃ k : Nat, k ≤ d.st.length ∧ i = .int .i64 k ∧ Ext W wr ∧ ∀ j, j < k → rowOk d.st j = true) (fun i _ => d.st.length - (intOf i).toNat)
  case atStart => exact ⟨0, Nat.zero_le _, rfl, Ext.refl _, fun j hj => absurd hj (by omega)⟩
  case round =>
    obtain ⟨k, hk, rfl, hx, hok⟩ := hrel
    have HX := Lib.hid hx; have HOk := Lib.hid hok
    clear hx hok
    by_cases hlt : k < d.st.length
    · obtain ⟨b, o, r, hA, hc, hrow⟩ := (HR.out.ext HX.out).1.at k hlt
      have HRow := Lib.hid hrow; have HAA := Lib.hid hA; have HC := Lib.hid hc
      have i0 : (0 : Int) ≤ (k : Int) := by omega
      have i1 : (k : Int) < (d.st.length : Int) := by omega
      have f0 := (HB.out.ext HX.out).c 0 rfl
      rw [hA] at f0
      clear hrow
      cases q1 : stB (gL d.st k) with
      | false =>
        have HK := Lib.hid (rowsB_false hlt (rowOk_st q1))
        have HQ := Lib.hid (fun n => show Calls Try.prog 133 #[.slice r.A (gL d.st k).length r.c] (wr.drewN n) fun e w' => e = .returned (.bool false) ∧ wr.drewN n = w' by rw [← q1]; exact l2State_c r.A (gL d.st k).length r.c (gL d.st k) _ (HRow.out.ext ((Ext.refl _).drewN _)))
        go_wp2_with fail
        go_quiet ((go_at_call 133; exact quiet_eq (HQ.out _)))
        go_wp2
        go_ret
        exact ⟨ret_bool (by rw [spB, HS.out, HK.out]; rfl), HE.out.trans (HX.out.drewN _)⟩
      | true =>
        by_cases k0 : 0 < k
        · have t0 : decide ((0 : Int) < (k : Int)) = true := by simp; omega
          have t4 : (0 : Int) ≤ (k : Int) - 1 := by omega
          have t5 : (1 : Int) ≤ (k : Int) := by omega
          have t6 : (k : Int) ≤ (d.st.length : Int) := by omega
          have t7 : (k : Int) - 1 < (d.st.length : Int) := by omega
          have t8 : ((k : Int) - 1).toNat = k - 1 := by omega
          have HK := Lib.hid (rowOk_pos q1 k0)
          obtain ⟨b', o', r', hA', hc', hrow'⟩ := (HR.out.ext HX.out).1.at (k - 1) (by omega)
          obtain ⟨rfl, rfl⟩ : b' = b ∧ o' = o := by have := HAA.out; rw [hA'] at this; simpa using this
          have HRow2 := Lib.hid hrow'
          clear hrow' hA'
          have d0 := fun w' (e : Ext wr w') => e.cell f0
          have d1 := fun w' (e : Ext wr w') => e.cell HC.out
          have d2 := fun w' (e : Ext wr w') => e.cell hc'
          clear hc hc' hA
          go_wp2_with fail
          clear f0
          have hw2 : IntKind.i64.wrap ((k : Int) - 1) = (k : Int) - 1 := IntWalk.i64_in _ (by omega)
          go_region_held3 (fun w' => Ext wr w')
            (first
              | exact (Ext.refl _).drew
              | assumption
              | exact Ext.trans (by assumption) hy)
            (first
              | (go_at_call 133; refine (l2State_c r.A (gL d.st k).length r.c (gL d.st k) _ (HRow.out.ext (by assumption))).mono ?_; rw [q1]; rintro e w1 ⟨rfl, rfl⟩)
              | (go_at_call 134; refine (l2Before_c r'.A r.A (gL d.st (k - 1)).length (gL d.st k).length r'.c r.c (gL d.st (k - 1)) (gL d.st k) _ (HRow2.out.ext (by assumption)) (HRow.out.ext (by assumption))).mono ?_; rintro e w1 ⟨rfl, hy⟩))
          have hz : Ext wr w1 := by assumption
          have HX1 := Lib.hid (HX.out.trans hz)
          clear hw2 hz hy d0 d1 d2
          cases q5 : lessL (gL d.st (k - 1)) (gL d.st k) with
          | false =>
            have HK2 := Lib.hid (rowsB_false hlt (HK.out.trans q5))
            go_wp2
            go_ret
            exact ⟨ret_bool (by rw [spB, HS.out, HK2.out]; rfl), HE.out.trans HX1.out⟩
          | true =>
            have HK2 := Lib.hid (HK.out.trans q5)
            go_wp2
            go_roundw
            case rel => exact ⟨k + 1, by omega, by go_num, HX1.out, all_next HOk.out HK2.out⟩
            case measure => simp [intOf]; omega
        · have t0 : decide ((0 : Int) < (k : Int)) = false := by simp; omega
          have t0' : decide (0 < k) = false := by simp; omega
          have HK := Lib.hid (rowOk_zero q1 (show k = 0 by omega))
          have HQ := Lib.hid (fun n => show Calls Try.prog 133 #[.slice r.A (gL d.st k).length r.c] (wr.drewN n) fun e w' => e = .returned (.bool true) ∧ wr.drewN n = w' by rw [← q1]; exact l2State_c r.A (gL d.st k).length r.c (gL d.st k) _ (HRow.out.ext ((Ext.refl _).drewN _)))
          clear k0
          go_wp2_with fail
          go_quiet ((go_at_call 133; exact quiet_eq (HQ.out _)))
          go_wp2
          go_roundw
          case rel => exact ⟨k + 1, by omega, by go_num, HX.out.drewN _, all_next HOk.out HK.out⟩
          case measure => simp [intOf]; omega
    · have hk' : k = d.st.length := by omega
      subst hk'
      have HK := Lib.hid (show spB d = goodP d.tp d.st.length by rw [spB, HS.out, rowsB_true HOk.out]; rfl)
      have f0 := (HB.out.ext HX.out).c 0 rfl; have f1 := (HB.out.ext HX.out).c 1 rfl
      go_wp2_with fail
      refine (l2Pairs_c a.t.A d.tp.length a.t.c d.tp (d.st.length : Int) _ (HR.out.ext HX.out).2 (by omega) (by omega)).mono ?_
      rintro e w1 ⟨rfl, hx⟩
      have HX1 := Lib.hid (HX.out.trans hx); clear hx
      go_wp2
      go_ret
      exact ⟨ret_bool HK.out.symm, HE.out.trans HX1.out⟩
end Go.Proofs.Ytkfbkflneppggaa
