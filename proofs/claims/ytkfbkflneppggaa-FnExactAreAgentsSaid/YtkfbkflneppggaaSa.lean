/-
  Contracts of the reference's small functions on graphs: l1In, l2Edge, l2Pairs, l2Good, l10Good, l2Near, l10Fits, l1Own. Conditions: none.
-/
import Derived.Test.YtkfbkflneppggaaBa
import Derived.IntWalk
namespace Go.Proofs.Ytkfbkflneppggaa
open Go.RowKit
set_option linter.unusedVariables false
set_option linter.unusedSimpArgs false

set_option maxHeartbeats 400000 in
theorem l1In_c (n a b : Int) (w : World) :
    Calls Try.prog 71 #[.int .i64 n, .int .i64 a, .int .i64 b] w fun e w' => e = .returned (.bool (inB n a b)) ∧ w = w' := by
  go_enter Try.func71, Try.ntmps71
  by_cases h : a ≤ n
  · go_wp2
    go_ret
    exact ⟨ret_bool (by simp [inB, h]), rfl⟩
  · go_wp2
    go_ret
    exact ⟨ret_bool (by simp [inB]; omega), rfl⟩

set_option maxHeartbeats 400000 in
theorem l2Edge_c (a b x y : Int) (w : World) :
    Calls Try.prog 163 #[.agg #[.int .i64 a, .int .i64 b], .agg #[.int .i64 x, .int .i64 y]] w fun e w' => e = .returned (.bool (ltP (a, b) (x, y))) ∧ Ext w w' := by
  have hE : Ext w ((w.alloc (.cells #[.int .i64 a, .int .i64 b] 83)).alloc (.cells #[.int .i64 x, .int .i64 y] 83)) := ((Ext.refl w).alloc _).alloc _
  have HE := Lib.hid hE; clear hE
  rcases Int.lt_trichotomy a x with h | h | h
  · go_enter Try.func163, Try.ntmps163
    go_wp2
    go_ret
    exact ⟨ret_bool (by simp [ltP, h]), HE.out⟩
  · subst h
    by_cases h2 : b < y
    · go_enter Try.func163, Try.ntmps163
      go_wp2
      go_ret
      exact ⟨ret_bool (by simp [ltP, h2]), HE.out⟩
    · go_enter Try.func163, Try.ntmps163
      go_wp2
      go_ret
      exact ⟨ret_bool (by simp [ltP]; try omega), HE.out⟩
  · have h' : (a == x) = false := by simp; omega
    go_enter Try.func163, Try.ntmps163
    go_wp2
    go_ret
    exact ⟨ret_bool (by simp [ltP]; omega), HE.out⟩

set_option maxHeartbeats 2000000 in
theorem l2Pairs_c (A : Option Addr) (n c : Nat) (ps : List (Int × Int)) (m : Int) (w : World) (h : SlP w A n ps) (hm0 : 0 ≤ m) (hm : m ≤ 1048576) :
    Calls Try.prog 120 #[.slice A n c, .int .i64 m] w fun e w' => e = .returned (.bool (goodP ps m)) ∧ Ext w w' := by
  have hl := h.len
  have hmx := h.le
  go_enter Try.func120, Try.ntmps120
  go_wp2
  go_loopw [5] (fun i wr => ∃ k : Nat, k ≤ n ∧ i = .int .i64 k ∧ Ext w wr ∧ ∀ j, j < k → okAt ps m j = true) (fun i _ => n - (intOf i).toNat)
  case atStart => exact ⟨0, Nat.zero_le _, rfl, Ext.refl _, fun j hj => absurd hj (by omega)⟩
  case round =>
    obtain ⟨k, hk, rfl, hx, hok⟩ := hrel
    by_cases hlt : k < n
    · obtain ⟨b, o, rfl, p1, p2⟩ := (h.ext hx).at k (by omega)
      have i0 : (0 : Int) ≤ (k : Int) := by omega
      have i1 : (k : Int) < (n : Int) := by omega
      have HA := Lib.hid h; clear h
      have Hx := Lib.hid hx; clear hx
      have Hl := Lib.hid hl; clear hl
      have Hok := Lib.hid hok; clear hok
      cases q1 : inB (gP ps k).1 0 (m - 1) with
      | false =>
        have HK := Lib.hid (okAt_out1 (k := k) q1)
        go_wp2_with fail
        have hw1 : IntKind.i64.wrap (m - 1) = m - 1 := IntWalk.i64_in _ (by omega)
        go_quiet ((go_at_call 71; exact quiet_eq (l1In_c _ _ _ _)))
        clear hw1
        go_wp2
        go_ret
        exact ⟨ret_bool (goodP_false (by have := Hl.out; omega) HK.out).symm, (Hx.out.alloc _).drewN _⟩
      | true =>
        cases q2 : inB (gP ps k).2 0 (m - 1) with
        | false =>
          have HK := Lib.hid (okAt_out2 (k := k) q2)
          go_wp2_with fail
          have hw1 : IntKind.i64.wrap (m - 1) = m - 1 := IntWalk.i64_in _ (by omega)
          go_quiet ((go_at_call 71; exact quiet_eq (l1In_c _ _ _ _)))
          clear hw1
          go_wp2
          go_ret
          exact ⟨ret_bool (goodP_false (by have := Hl.out; omega) HK.out).symm, (Hx.out.alloc _).drewN _⟩
        | true =>
          by_cases q3 : (gP ps k).2 ≤ (gP ps k).1
          · have HK := Lib.hid (okAt_out3 (k := k) (m := m) q3)
            go_wp2_with fail
            have hw1 : IntKind.i64.wrap (m - 1) = m - 1 := IntWalk.i64_in _ (by omega)
            go_quiet ((go_at_call 71; exact quiet_eq (l1In_c _ _ _ _)))
            clear hw1
            go_wp2
            go_ret
            exact ⟨ret_bool (goodP_false (by have := Hl.out; omega) HK.out).symm, (Hx.out.alloc _).drewN _⟩
          · by_cases q4 : 0 < k
            · obtain ⟨b', o', hA', r1, r2⟩ := (HA.out.ext Hx.out).at (k - 1) (by have := Hl.out; omega)
              obtain ⟨rfl, rfl⟩ : b' = b ∧ o' = o := by simpa [eq_comm] using hA'
              have HK := Lib.hid (okAt_pos (m := m) q1 q2 q3 q4)
              have d1 := fun w' (e : Ext (wr.alloc (.cells #[.int .i64 (gP ps k).1, .int .i64 (gP ps k).2] 83)) w') => e.cell (cell_new wr #[.int .i64 (gP ps k).1, .int .i64 (gP ps k).2] 83 0 _ rfl)
              have d2 := fun w' (e : Ext (wr.alloc (.cells #[.int .i64 (gP ps k).1, .int .i64 (gP ps k).2] 83)) w') => e.cell (cell_new wr #[.int .i64 (gP ps k).1, .int .i64 (gP ps k).2] 83 1 _ rfl)
              have d3 := fun w' (e : Ext (wr.alloc (.cells #[.int .i64 (gP ps k).1, .int .i64 (gP ps k).2] 83)) w') => e.cell (cell_old _ r1)
              have d4 := fun w' (e : Ext (wr.alloc (.cells #[.int .i64 (gP ps k).1, .int .i64 (gP ps k).2] 83)) w') => e.cell (cell_old _ r2)
              clear hA' r1 r2
              have t0 : decide ((0 : Int) < (k : Int)) = true := by simp; omega
              have t4 : decide ((gP ps k).2 ≤ (gP ps k).1) = false := by simp; omega
              have t1 : (0 : Int) ≤ (k : Int) - 1 := by omega
              have t5 : (1 : Int) ≤ (k : Int) := by omega
              have t6 : (k : Int) ≤ (n : Int) := by omega
              have t2 : (k : Int) - 1 < (n : Int) := by omega
              have t3 : ((k : Int) - 1).toNat = k - 1 := by omega
              cases q5 : ltP (gP ps (k - 1)) (gP ps k) with
              | false =>
                rw [q5] at HK
                go_wp2_with fail
                have hw1 : IntKind.i64.wrap (m - 1) = m - 1 := IntWalk.i64_in _ (by omega)
                have hw2 : IntKind.i64.wrap ((k : Int) - 1) = (k : Int) - 1 := IntWalk.i64_in _ (by omega)
                go_region_held3 (fun w' => Ext (wr.alloc (.cells #[.int .i64 (gP ps k).1, .int .i64 (gP ps k).2] 83)) w')
                  (first
                    | exact (Ext.refl _).drew
                    | assumption
                    | exact Ext.trans (by assumption) hy)
                  (first
                    | (go_at_call 71; refine (l1In_c _ _ _ _).mono ?_; rintro e w1 ⟨rfl, rfl⟩)
                    | (go_at_call 163; refine (l2Edge_c _ _ _ _ _).mono ?_; rintro e w1 ⟨rfl, hy⟩))
                clear hw1 hw2
                go_wp2
                go_ret
                exact ⟨ret_bool (goodP_false (by have := Hl.out; omega) HK.out).symm, (Hx.out.alloc _).trans (by assumption)⟩
              | true =>
                rw [q5] at HK
                go_wp2_with fail
                have hw1 : IntKind.i64.wrap (m - 1) = m - 1 := IntWalk.i64_in _ (by omega)
                have hw2 : IntKind.i64.wrap ((k : Int) - 1) = (k : Int) - 1 := IntWalk.i64_in _ (by omega)
                go_region_held3 (fun w' => Ext (wr.alloc (.cells #[.int .i64 (gP ps k).1, .int .i64 (gP ps k).2] 83)) w')
                  (first
                    | exact (Ext.refl _).drew
                    | assumption
                    | exact Ext.trans (by assumption) hy)
                  (first
                    | (go_at_call 71; refine (l1In_c _ _ _ _).mono ?_; rintro e w1 ⟨rfl, rfl⟩)
                    | (go_at_call 163; refine (l2Edge_c _ _ _ _ _).mono ?_; rintro e w1 ⟨rfl, hy⟩))
                clear hw1 hw2
                go_wp2
                go_roundw
                case rel =>
                  exact ⟨k + 1, by omega, by go_num, (Hx.out.alloc _).trans (by assumption), fun j hj => by
                    rcases Nat.lt_or_ge j k with h | h
                    · exact Hok.out j h
                    · obtain rfl : j = k := by omega
                      exact HK.out⟩
                case measure => simp [intOf]; omega
            · have HK := Lib.hid (okAt_zero' (m := m) q1 q2 q3 q4)
              have t0 : decide ((0 : Int) < (k : Int)) = false := by simp; omega
              have t0' : decide (0 < k) = false := by simp; omega
              have t4 : decide ((gP ps k).2 ≤ (gP ps k).1) = false := by simp; omega
              clear q4
              go_wp2_with fail
              have hw1 : IntKind.i64.wrap (m - 1) = m - 1 := IntWalk.i64_in _ (by omega)
              go_quiet ((go_at_call 71; exact quiet_eq (l1In_c _ _ _ _)))
              clear hw1
              go_wp2
              go_roundw
              case rel =>
                exact ⟨k + 1, by omega, by go_num, (Hx.out.alloc _).drewN _, fun j hj => by
                  rcases Nat.lt_or_ge j k with h | h
                  · exact Hok.out j h
                  · obtain rfl : j = k := by omega
                    exact HK.out⟩
              case measure => simp [intOf]; omega
    · have hk' : k = n := by omega
      subst hk'
      go_wp2
      go_ret
      exact ⟨ret_bool (goodP_true (fun j hj => hok j (by omega))).symm, hx⟩
end Go.Proofs.Ytkfbkflneppggaa
