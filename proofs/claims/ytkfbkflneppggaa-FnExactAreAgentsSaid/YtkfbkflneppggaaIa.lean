/-
  Contracts of the program's small functions on graphs: cmp.Or, comparePairs, isPairs, IsGraph, isMapCase, neighbors, isFit. Conditions: none.
-/
import Derived.Test.YtkfbkflneppggaaBa
import Derived.IntWalk
namespace Go.Proofs.Ytkfbkflneppggaa
open Go.RowKit
set_option linter.unusedVariables false
set_option linter.unusedSimpArgs false

/-- Two numbers: the first one that is not 0. -/
theorem Or2_c (x y : Int) (A : Option Addr) (c : Nat) (w : World) (h : SlI w A 2 [x, y]) :
    Calls Try.prog 178 #[.slice A 2 c] w fun e w' => e = .returned (.int .i64 (or2 x y)) ∧ w = w' := by
  obtain ⟨b, o, rfl, _, hc⟩ := h.all (by omega)
  have c0 := hc 0 (by simp)
  have c1 := hc 1 (by simp)
  rw [show gI [x, y] 0 = x from rfl] at c0
  rw [show gI [x, y] 1 = y from rfl] at c1
  rw [Nat.add_zero] at c0
  clear hc h
  cases e0 : (x == 0) with
  | false =>
    go_enter Try.func178, Try.ntmps178
    go_wp2
    refine wp_loop_rounds 1 ?_
    rw [rounds_succ]
    go_wp2
    go_ret
    exact ⟨ret_int (by simp [or2, e0]), rfl⟩
  | true =>
    cases e1 : (y == 0) with
    | false =>
      go_enter Try.func178, Try.ntmps178
      go_wp2
      refine wp_loop_rounds 2 ?_
      rw [rounds_succ]
      go_wp2
      rw [rounds_succ]
      go_wp2
      go_ret
      exact ⟨ret_int (by simp [or2, e0]), rfl⟩
    | true =>
      have hy : y = 0 := by simpa using e1
      have HY := Lib.hid hy; clear hy
      go_enter Try.func178, Try.ntmps178
      go_wp2
      refine wp_loop_rounds 3 ?_
      rw [rounds_succ]
      go_wp2
      rw [rounds_succ]
      go_wp2
      rw [rounds_succ]
      go_wp2
      go_ret
      exact ⟨ret_int (by simp [or2, e0, HY.out]), rfl⟩

set_option maxRecDepth 100000 in
set_option maxHeartbeats 1000000 in
theorem comparePairs_c (a b x y : Int) (w : World) :
    Calls Try.prog 147 #[.agg #[.int .i64 a, .int .i64 b], .agg #[.int .i64 x, .int .i64 y]] w fun e w' => e = .returned (.int .i64 (cmpP (a, b) (x, y))) ∧ Ext w w' := by
  have d0 := fun w' (e : Ext ((w.alloc (.cells #[.int .i64 a, .int .i64 b] 83)).alloc (.cells #[.int .i64 x, .int .i64 y] 83)) w') => e.cell (cell_old _ (cell_new w #[.int .i64 a, .int .i64 b] 83 0 _ rfl))
  have d1 := fun w' (e : Ext ((w.alloc (.cells #[.int .i64 a, .int .i64 b] 83)).alloc (.cells #[.int .i64 x, .int .i64 y] 83)) w') => e.cell (cell_old _ (cell_new w #[.int .i64 a, .int .i64 b] 83 1 _ rfl))
  have d2 := fun w' (e : Ext ((w.alloc (.cells #[.int .i64 a, .int .i64 b] 83)).alloc (.cells #[.int .i64 x, .int .i64 y] 83)) w') => e.cell (cell_new (w.alloc (.cells #[.int .i64 a, .int .i64 b] 83)) #[.int .i64 x, .int .i64 y] 83 0 _ rfl)
  have d3 := fun w' (e : Ext ((w.alloc (.cells #[.int .i64 a, .int .i64 b] 83)).alloc (.cells #[.int .i64 x, .int .i64 y] 83)) w') => e.cell (cell_new (w.alloc (.cells #[.int .i64 a, .int .i64 b] 83)) #[.int .i64 x, .int .i64 y] 83 1 _ rfl)
  simp only [alloc_size] at d2 d3
  have HE := Lib.hid (((Ext.refl w).alloc (.cells #[.int .i64 a, .int .i64 b] 83)).alloc (.cells #[.int .i64 x, .int .i64 y] 83))
  have h2 := (two_ints ((w.alloc (.cells #[.int .i64 a, .int .i64 b] 83)).alloc (.cells #[.int .i64 x, .int .i64 y] 83)) (cmpI a x) (cmpI b y) 3).ext (Ext.refl _).drew
  simp only [alloc_size] at h2
  have H2 := Lib.hid h2; clear h2
  go_enter Try.func147, Try.ntmps147
  go_wp2_with fail
  go_region_held3 (fun w' => Ext ((w.alloc (.cells #[.int .i64 a, .int .i64 b] 83)).alloc (.cells #[.int .i64 x, .int .i64 y] 83)) w')
    (first
      | exact (Ext.refl _).drew
      | assumption
      | exact Ext.alloc (by assumption) _)
    (first
      | (go_at_call 170; refine (Compare_c _ _ _).mono ?_; rintro e w1 ⟨rfl, rfl⟩)
      | (go_at_call 178; refine (Or2_c (cmpI a x) (cmpI b y) _ _ _ H2.out).mono ?_; rintro e w1 ⟨rfl, rfl⟩))
  go_wp2
  go_ret
  exact ⟨rfl, HE.out.trans (by assumption)⟩

set_option maxHeartbeats 2000000 in
theorem isPairs_c (A : Option Addr) (n c : Nat) (ps : List (Int × Int)) (m : Int) (w : World) (h : SlP w A n ps) :
    Calls Try.prog 124 #[.slice A n c, .int .i64 m] w fun e w' => e = .returned (.bool (goodP ps m)) ∧ Ext w w' := by
  have hl := h.len
  have hmx := h.le
  go_enter Try.func124, Try.ntmps124
  go_wp2
  go_loopw [9] (fun i wr => ∃ k : Nat, k ≤ n ∧ i = .int .i64 k ∧ Ext w wr ∧ ∀ j, j < k → okAt ps m j = true) (fun i _ => n - (intOf i).toNat)
  case atStart => exact ⟨0, Nat.zero_le _, rfl, Ext.refl _, fun j hj => absurd hj (by omega)⟩
  case round =>
    obtain ⟨k, hk, rfl, hx, hok⟩ := hrel
    by_cases hlt : k < n
    · obtain ⟨b, o, rfl, p1, p2⟩ := (h.ext hx).at k (by omega)
      have i0 : (0 : Int) ≤ (k : Int) := by omega
      have i1 : (k : Int) < (n : Int) := by omega
      have HA := Lib.hid h; clear h
      have Hx := Lib.hid hx; clear hx
      have Hl := Lib.hid hl; clear hl
      have Hok := Lib.hid hok; clear hok
      by_cases q1 : (gP ps k).1 < 0
      · have HK := Lib.hid (okAt_o1 (m := m) q1)
        go_wp2
        go_quiet (fail)
        go_wp2
        go_ret
        exact ⟨ret_bool (goodP_false (by have := Hl.out; omega) HK.out).symm, (Hx.out.alloc _).drewN _⟩
      · have t1 : decide ((gP ps k).1 < 0) = false := by simp; omega
        by_cases q3 : (gP ps k).2 ≤ (gP ps k).1
        · have HK := Lib.hid (okAt_out3 (k := k) (m := m) q3)
          go_wp2
          go_quiet (fail)
          go_wp2
          go_ret
          exact ⟨ret_bool (goodP_false (by have := Hl.out; omega) HK.out).symm, (Hx.out.alloc _).drewN _⟩
        · have t3 : decide ((gP ps k).2 ≤ (gP ps k).1) = false := by simp; omega
          by_cases q2 : m ≤ (gP ps k).2
          · have HK := Lib.hid (okAt_o2 q2)
            go_wp2
            go_quiet (fail)
            go_wp2
            go_ret
            exact ⟨ret_bool (goodP_false (by have := Hl.out; omega) HK.out).symm, (Hx.out.alloc _).drewN _⟩
          · have t2 : decide (m ≤ (gP ps k).2) = false := by simp; omega
            by_cases q4 : 0 < k
            · obtain ⟨b', o', hA', r1, r2⟩ := (HA.out.ext Hx.out).at (k - 1) (by have := Hl.out; omega)
              obtain ⟨rfl, rfl⟩ : b' = b ∧ o' = o := by simpa [eq_comm] using hA'
              have HK := Lib.hid (okAt_p q1 q2 q3 q4)
              have d1 := fun w' (e : Ext (wr.alloc (.cells #[.int .i64 (gP ps k).1, .int .i64 (gP ps k).2] 83)) w') => e.cell (cell_new wr #[.int .i64 (gP ps k).1, .int .i64 (gP ps k).2] 83 0 _ rfl)
              have d2 := fun w' (e : Ext (wr.alloc (.cells #[.int .i64 (gP ps k).1, .int .i64 (gP ps k).2] 83)) w') => e.cell (cell_new wr #[.int .i64 (gP ps k).1, .int .i64 (gP ps k).2] 83 1 _ rfl)
              have d3 := fun w' (e : Ext (wr.alloc (.cells #[.int .i64 (gP ps k).1, .int .i64 (gP ps k).2] 83)) w') => e.cell (cell_old _ r1)
              have d4 := fun w' (e : Ext (wr.alloc (.cells #[.int .i64 (gP ps k).1, .int .i64 (gP ps k).2] 83)) w') => e.cell (cell_old _ r2)
              clear hA' r1 r2
              have t0 : decide ((0 : Int) < (k : Int)) = true := by simp; omega
              have t4 : (0 : Int) ≤ (k : Int) - 1 := by omega
              have t5 : (1 : Int) ≤ (k : Int) := by omega
              have t6 : (k : Int) ≤ (n : Int) := by omega
              have t7 : (k : Int) - 1 < (n : Int) := by omega
              have t8 : ((k : Int) - 1).toNat = k - 1 := by omega
              cases q5 : ltP (gP ps (k - 1)) (gP ps k) with
              | false =>
                rw [q5] at HK
                have t9 : decide (0 ≤ cmpP (gP ps (k - 1)) (gP ps k)) = true := by simpa using (cmpP_ge _ _).2 q5
                go_wp2_with fail
                have hw2 : IntKind.i64.wrap ((k : Int) - 1) = (k : Int) - 1 := IntWalk.i64_in _ (by omega)
                go_region_held3 (fun w' => Ext (wr.alloc (.cells #[.int .i64 (gP ps k).1, .int .i64 (gP ps k).2] 83)) w')
                  (first
                    | exact (Ext.refl _).drew
                    | assumption
                    | exact Ext.trans (by assumption) hy)
                  (first
                    | (go_at_call 147; refine (comparePairs_c _ _ _ _ _).mono ?_; rintro e w1 ⟨rfl, hy⟩))
                clear hw2
                go_wp2
                go_ret
                exact ⟨ret_bool (goodP_false (by have := Hl.out; omega) HK.out).symm, (Hx.out.alloc _).trans (by assumption)⟩
              | true =>
                rw [q5] at HK
                have t9 : decide (0 ≤ cmpP (gP ps (k - 1)) (gP ps k)) = false := by
                  rw [decide_eq_false_iff_not, cmpP_ge, q5]; simp
                go_wp2_with fail
                have hw2 : IntKind.i64.wrap ((k : Int) - 1) = (k : Int) - 1 := IntWalk.i64_in _ (by omega)
                go_region_held3 (fun w' => Ext (wr.alloc (.cells #[.int .i64 (gP ps k).1, .int .i64 (gP ps k).2] 83)) w')
                  (first
                    | exact (Ext.refl _).drew
                    | assumption
                    | exact Ext.trans (by assumption) hy)
                  (first
                    | (go_at_call 147; refine (comparePairs_c _ _ _ _ _).mono ?_; rintro e w1 ⟨rfl, hy⟩))
                clear hw2
                go_wp2
                go_roundw
                case rel =>
                  exact ⟨k + 1, by omega, by go_num, (Hx.out.alloc _).trans (by assumption), fun j hj => by
                    rcases Nat.lt_or_ge j k with h | h
                    · exact Hok.out j h
                    · obtain rfl : j = k := by omega
                      exact HK.out⟩
                case measure => simp [intOf]; omega
            · have HK := Lib.hid (okAt_z q1 q2 q3 q4)
              have t0 : decide ((0 : Int) < (k : Int)) = false := by simp; omega
              have t0' : decide (0 < k) = false := by simp; omega
              clear q4
              go_wp2
              go_quiet (fail)
              go_wp2
              go_roundw
              case rel =>
                exact ⟨k + 1, by omega, by go_num, (Hx.out.alloc _).drewN _, fun j hj => by
                  rcases Nat.lt_or_ge j k with h | h
                  · exact Hok.out j h
                  · obtain rfl : j = k := by omega
                    exact HK.out⟩
              case measure => simp [intOf]; omega
    · have hk' : k = n := by omega
      subst hk'
      go_wp2
      go_ret
      exact ⟨ret_bool (goodP_true (fun j hj => hok j (by omega))).symm, hx⟩

theorem IsGraph_c (sz : Int) (A : Option Addr) (n c : Nat) (ps : List (Int × Int)) (w : World) (h : SlP w A n ps) :
    Calls Try.prog 63 #[.agg #[.int .i64 sz, .slice A n c]] w fun e w' => e = .returned (.bool (goodG sz ps)) ∧ Ext w w' := by
  have hE := (Ext.refl w).alloc (.cells #[.int .i64 sz, .slice A n c] 28)
  have H := Lib.hid (h.ext hE)
  have HE := Lib.hid hE
  clear hE h
  go_enter Try.func63, Try.ntmps63
  cases q : inB sz 0 8 with
  | false =>
    go_wp2_with (go_at_call 76; refine (between_c _ _ _ _).mono ?_; rintro e w1 ⟨rfl, rfl⟩)
    go_ret
    exact ⟨ret_bool (by simp [goodG, q]), HE.out⟩
  | true =>
    go_wp2_with (first | (go_at_call 76; refine (between_c _ _ _ _).mono ?_; rintro e w1 ⟨rfl, rfl⟩) | (go_at_call 124; refine (isPairs_c A n c ps sz _ H.out).mono ?_; rintro e w1 ⟨rfl, hx⟩))
    go_ret
    exact ⟨ret_bool (by simp [goodG, q]), HE.out.trans hx⟩

theorem isMapCase_c (s1 s2 : Int) (A B : Option Addr) (n m c d : Nat) (ps qs : List (Int × Int)) (w : World) (hA : SlP w A n ps) (hB : SlP w B m qs) :
    Calls Try.prog 58 #[.agg #[.int .i64 s1, .slice A n c], .agg #[.int .i64 s2, .slice B m d]] w fun e w' => e = .returned (.bool (goodM s1 ps s2 qs)) ∧ Ext w w' := by
  have hE := ((Ext.refl w).alloc (.cells #[.int .i64 s1, .slice A n c] 28)).alloc (.cells #[.int .i64 s2, .slice B m d] 28)
  have HA := Lib.hid (hA.ext hE)
  have HB := Lib.hid (hB.ext hE)
  have HE := Lib.hid hE
  clear hE hA hB
  go_enter Try.func58, Try.ntmps58
  cases q : goodG s1 ps with
  | false =>
    go_wp2_with (go_at_call 63; refine (IsGraph_c s1 A n c ps _ HA.out).mono ?_; rintro e w1 ⟨rfl, hx⟩)
    go_ret
    exact ⟨ret_bool (by simp [goodM, q]), HE.out.trans hx⟩
  | true =>
    go_wp2_with fail
    refine (IsGraph_c s1 A n c ps _ HA.out).mono ?_
    rintro e w1 ⟨rfl, hx⟩
    obtain ⟨hc, hf⟩ := hx.rules
    have HX := Lib.hid hx; clear hx
    go_wp2_with fail
    refine (IsGraph_c s2 B m d qs _ (HB.out.ext HX.out)).mono ?_
    rintro e w2 ⟨rfl, hy⟩
    obtain ⟨hc2, hf2⟩ := hy.rules
    have hs := HX.out.size
    simp only [alloc_size] at hs
    have HY := Lib.hid hy; clear hy
    cases q2 : goodG s2 qs with
    | false =>
      go_wp2
      go_ret
      exact ⟨ret_bool (by simp [goodM, q, q2]), (HE.out.trans HX.out).trans HY.out⟩
    | true =>
      have hc3 := fun o => hc2 w.heap.size o (by omega)
      clear hc2 hf2
      go_wp2
      go_ret
      exact ⟨ret_bool (by simp [goodM, q, q2]), (HE.out.trans HX.out).trans HY.out⟩

theorem isFit_c (sz : Int) (A : Option Addr) (n c : Nat) (ps : List (Int × Int)) (x y : Int) (z : Bool) (w : World) (h : SlP w A n ps) :
    Calls Try.prog 119 #[.agg #[.int .i64 sz, .slice A n c], .int .i64 x, .int .i64 y, .bool z] w fun e w' => e = .returned (.bool (fitB ps x y z)) ∧ Ext w w' := by
  have hE := (Ext.refl w).alloc (.cells #[.int .i64 sz, .slice A n c] 28)
  have H := Lib.hid (h.ext hE)
  have HE := Lib.hid hE
  clear hE h
  have HQ := Lib.hid (fitB_eq ps x y z)
  go_enter Try.func119, Try.ntmps119
  cases q : nearB ps x y <;> cases z <;> cases e : (x == y)
  all_goals rw [q, e] at HQ
  all_goals go_wp2_with (go_at_call 162; refine (has_c sz A n c ps x y _ H.out).mono ?_; rintro e w1 ⟨rfl, hx⟩)
  all_goals go_ret
  all_goals exact ⟨ret_bool HQ.out.symm, HE.out.trans hx⟩
end Go.Proofs.Ytkfbkflneppggaa
