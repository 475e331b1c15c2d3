/-
  Boards: the program's isOrder, IsPermutation, isTokens, isBoard; the reference's l9Perm, l9Field, l9Board, l7Some. Conditions: none.
-/
import Derived.Test.YtkfbkflneppggaaSq
import Derived.Test.YtkfbkflneppggaaPe
import Derived.Test.YtkfbkflneppggaaIa
import Derived.Test.YtkfbkflneppggaaSb
namespace Go.Proofs.Ytkfbkflneppggaa
open Go.RowKit
set_option linter.unusedVariables false
set_option linter.unusedSimpArgs false

set_option maxHeartbeats 1000000 in
theorem isOrder_c (A : Option Addr) (c : Nat) (xs : List Int) (w : World) (h : SlI w A xs.length xs) (hn : xs.length ≤ 12) :
    Calls Try.prog 201 #[.slice A xs.length c, .int .i64 (xs.length : Int)] w fun e w' => e = .returned (.bool (eachB xs)) ∧ Ext w w' := by
  have HH := Lib.hid h
  obtain ⟨n, hnn⟩ : ∃ n, n = xs.length := ⟨_, rfl⟩
  have HS : Hid (∀ (Bs : Nat) (w : World), w.cell? ⟨Bs, 0, none⟩ = some (.slice A n c) → SlI w A n xs → Calls Try.prog 139 #[.func (.func 173) #[] #[.pointer (some ⟨Bs, 0, none⟩)]] w fun e W' => ∃ A' c' ys, e = .returned (.slice A' n c') ∧ ys.Perm xs ∧ srt ys n ∧ W'.ownsRow w.heap.size 3 1 (.slice A' n c') n (ints ys) ∧ Ext w W') := by
    refine Lib.hid ?_
    subst hnn
    exact fun Bs w h1 h2 => Sorted_c Bs c A xs w h1 h2 hn
  have HE0 := Lib.hid (show ∀ ys : List Int, ys.Perm xs → srt ys n → upB ys 0 ((n : Int) - 1) = eachB xs from fun ys hp hs => by
    subst hnn
    exact sorted_each hp (by rw [hp.length_eq]; exact hs))
  rw [← hnn] at hn HH ⊢
  have HN := Lib.hid hn
  clear h hnn
  go_enter Try.func201, Try.ntmps201
  go_wp2_with fail
  refine (Values_c A n c _).mono ?_
  rintro e w1 ⟨rfl, rfl⟩
  go_wp2_with fail
  refine (HS.out _ _ (cell_new w #[.slice A n c] 40 0 _ rfl) (HH.out.ext ((Ext.refl w).alloc _))).mono ?_
  rintro e w2 ⟨A2, c2, ys, rfl, hp, hs, ho, hx⟩
  have HU := Lib.hid (HE0.out ys hp hs)
  have HO := Lib.hid (own_sli ho); have HX := Lib.hid hx
  clear hp hs ho hx
  go_wp2_with fail
  refine (isRising_c A2 n c2 ys n _ HO.out (by omega) (by omega)).mono ?_
  rintro e w3 ⟨rfl, rfl⟩
  rw [HU.out]
  go_wp2
  go_ret
  exact ⟨rfl, ((Ext.refl w).alloc _).trans HX.out⟩

set_option maxHeartbeats 400000 in
theorem IsPermutation_c (A : Option Addr) (c : Nat) (xs : List Int) (w : World) (h : SlI w A xs.length xs) :
    Calls Try.prog 183 #[.slice A xs.length c] w fun e w' => e = .returned (.bool (perm9 xs)) ∧ Ext w w' := by
  have HH := Lib.hid h
  have hm := h.le
  by_cases h8 : xs.length ≤ 8
  · have HV := Lib.hid (show perm9 xs = eachB xs by simp [perm9, h8])
    have HO := Lib.hid (isOrder_c A c xs w h (by omega))
    obtain ⟨n, hnn⟩ : ∃ n, n = xs.length := ⟨_, rfl⟩
    rw [← hnn] at h8 HO hm ⊢
    have t0 : decide ((n : Int) ≤ 8) = true := by simp; omega
    have t0' : decide (n ≤ 8) = true := by simp; omega
    clear h hnn h8
    go_enter Try.func183, Try.ntmps183
    go_wp2_with fail
    refine HO.out.mono ?_
    rintro e w1 ⟨rfl, hx⟩
    go_wp2
    go_ret
    exact ⟨ret_bool HV.out.symm, hx⟩
  · have HV := Lib.hid (show perm9 xs = false by simp [perm9, h8])
    obtain ⟨n, hnn⟩ : ∃ n, n = xs.length := ⟨_, rfl⟩
    rw [← hnn] at h8 hm ⊢
    have t0 : decide ((n : Int) ≤ 8) = false := by simp; omega
    have t0' : decide (n ≤ 8) = false := by simp; omega
    clear h hnn h8
    go_enter Try.func183, Try.ntmps183
    go_wp2
    go_ret
    exact ⟨ret_bool HV.out.symm, Ext.refl _⟩

set_option maxHeartbeats 1000000 in
theorem l9Perm_c (A : Option Addr) (n c : Nat) (xs : List Int) (w : World) (h : SlI w A n xs) :
    Calls Try.prog 199 #[.slice A n c] w fun e w' => e = .returned (.bool (perm9 xs)) ∧ w = w' := by
  have hl := h.len
  have hm := h.le
  by_cases h8 : n ≤ 8
  · have HV := Lib.hid (show perm9 xs = eachB xs by simp [perm9, hl, h8])
    have t0 : decide ((n : Int) ≤ 8) = true := by simp; omega
    have t0' : decide (n ≤ 8) = true := by simp; omega
    have HH := Lib.hid h; have HL := Lib.hid hl; have H8 := Lib.hid h8
    clear h hl h8
    go_enter Try.func199, Try.ntmps199
    go_wp2
    go_loopw [3] (fun i wr => ∃ k : Nat, k ≤ n ∧ i = .int .i64 (k : Int) ∧ w = wr ∧ ∀ j : Nat, j < k → hasB xs (j : Int) = true) (fun i _ => n - (intOf i).toNat)
    case atStart => exact ⟨0, Nat.zero_le _, rfl, rfl, fun j hj => absurd hj (by omega)⟩
    case round =>
      obtain ⟨k, hk, rfl, rfl, hok⟩ := hrel
      have Hok := Lib.hid hok
      clear hok
      by_cases hlt : k < n
      · cases q : hasB xs (k : Int) with
        | false =>
          have HQ := Lib.hid q
          go_wp2_with fail
          refine (l1Has_c A n c xs k _ HH.out).mono ?_
          rw [HQ.out]
          rintro e w1 ⟨rfl, rfl⟩
          go_wp2
          go_ret
          refine ⟨ret_bool ?_, rfl⟩
          rw [HV.out, eachB, eq_comm, Bool.eq_false_iff]
          intro hall
          simp only [List.all_eq_true, List.mem_range] at hall
          have := hall k (by have := HL.out; omega)
          rw [HQ.out] at this; cases this
        | true =>
          have HQ := Lib.hid q
          go_wp2_with fail
          refine (l1Has_c A n c xs k _ HH.out).mono ?_
          rw [HQ.out]
          rintro e w1 ⟨rfl, rfl⟩
          go_wp2
          go_roundw
          case rel =>
            exact ⟨k + 1, by omega, by go_num, by first | rfl | trivial, fun j hj => by
              rcases Nat.lt_or_ge j k with h | h
              · exact Hok.out j h
              · obtain rfl : j = k := by omega
                exact HQ.out⟩
          case measure => simp [intOf]; omega
      · obtain rfl : k = n := by omega
        go_wp2
        go_ret
        refine ⟨ret_bool ?_, rfl⟩
        rw [HV.out, eachB, eq_comm]
        simp only [List.all_eq_true, List.mem_range]
        exact fun j hj => Hok.out j (by have := HL.out; omega)
  · have HV := Lib.hid (show perm9 xs = false by simp [perm9, hl, h8])
    have t0 : decide ((n : Int) ≤ 8) = false := by simp; omega
    have t0' : decide (n ≤ 8) = false := by simp; omega
    have t1 : decide ((0 : Int) < (n : Int)) = true := by simp; omega
    have t1' : (0 : Int) < (n : Int) := by omega
    clear h hl h8
    go_enter Try.func199, Try.ntmps199
    go_wp2
    refine wp_loop_rounds 1 ?_
    rw [rounds_succ]
    go_wp2
    go_ret
    exact ⟨ret_bool HV.out.symm, rfl⟩

/-- Is a list a board of a graph? -/
def brdB (sz : Int) (ps : List (Int × Int)) (xs : List Int) : Bool := goodG sz ps && perm9 xs && ((xs.length : Int) == sz) && inB sz 1 6

set_option maxHeartbeats 1000000 in
theorem isTokens_c (sz : Int) (A : Option Addr) (n c : Nat) (ps : List (Int × Int)) (B : Option Addr) (d : Nat) (xs : List Int) (w : World) (h : SlP w A n ps) (hx : SlI w B xs.length xs) :
    Calls Try.prog 157 #[.agg #[.int .i64 sz, .slice A n c], .slice B xs.length d] w fun e w' => e = .returned (.bool (goodG sz ps && perm9 xs && ((xs.length : Int) == sz))) ∧ Ext w w' := by
  have hE := (Ext.refl w).alloc (.cells #[.int .i64 sz, .slice A n c] 28)
  have HA := Lib.hid (h.ext hE); have HE := Lib.hid hE
  have HP := Lib.hid (fun w (h : SlI w B xs.length xs) => IsPermutation_c B d xs w h)
  have HB := Lib.hid (hx.ext hE)
  have C0 := Lib.hid (cell_new w #[.int .i64 sz, .slice A n c] 28 0 _ rfl)
  obtain ⟨m, hm⟩ : ∃ m, m = xs.length := ⟨_, rfl⟩
  rw [← hm] at HP HB ⊢
  clear hE h hx hm
  cases q : goodG sz ps with
  | false =>
    go_enter Try.func157, Try.ntmps157
    go_wp2_with fail
    refine (IsGraph_c sz A n c ps _ HA.out).mono ?_
    rw [q]
    rintro e w1 ⟨rfl, hx⟩
    go_wp2
    go_ret
    exact ⟨rfl, HE.out.trans hx⟩
  | true =>
    cases q2 : perm9 xs with
    | false =>
      go_enter Try.func157, Try.ntmps157
      go_wp2_with fail
      refine (IsGraph_c sz A n c ps _ HA.out).mono ?_
      rw [q]
      rintro e w1 ⟨rfl, hx⟩
      have HX := Lib.hid hx; clear hx
      go_wp2_with fail
      refine (HP.out _ (HB.out.ext HX.out)).mono ?_
      rw [q2]
      rintro e w2 ⟨rfl, hy⟩
      go_wp2
      go_ret
      exact ⟨rfl, HE.out.trans (HX.out.trans hy)⟩
    | true =>
      go_enter Try.func157, Try.ntmps157
      go_wp2_with fail
      refine (IsGraph_c sz A n c ps _ HA.out).mono ?_
      rw [q]
      rintro e w1 ⟨rfl, hx⟩
      have HX := Lib.hid hx; clear hx
      go_wp2_with fail
      refine (HP.out _ (HB.out.ext HX.out)).mono ?_
      rw [q2]
      rintro e w2 ⟨rfl, hy⟩
      have c0 := hy.cell (HX.out.cell C0.out)
      have HY := Lib.hid hy; clear hy
      go_wp2
      go_ret
      exact ⟨rfl, HE.out.trans (HX.out.trans HY.out)⟩

set_option maxHeartbeats 1000000 in
theorem isBoard_c (sz : Int) (A : Option Addr) (n c : Nat) (ps : List (Int × Int)) (B : Option Addr) (d : Nat) (xs : List Int) (w : World) (h : SlP w A n ps) (hx : SlI w B xs.length xs) :
    Calls Try.prog 98 #[.agg #[.int .i64 sz, .slice A n c], .slice B xs.length d] w fun e w' => e = .returned (.bool (brdB sz ps xs)) ∧ Ext w w' := by
  have hE := (Ext.refl w).alloc (.cells #[.int .i64 sz, .slice A n c] 28)
  have HE := Lib.hid hE
  have HP := Lib.hid (isTokens_c sz A n c ps B d xs _ (h.ext hE) (hx.ext hE))
  have C0 := Lib.hid (cell_new w #[.int .i64 sz, .slice A n c] 28 0 _ rfl)
  have HV := Lib.hid (show brdB sz ps xs = ((goodG sz ps && perm9 xs && ((xs.length : Int) == sz)) && inB sz 1 6) from rfl)
  obtain ⟨b, hb⟩ : ∃ b, b = (goodG sz ps && perm9 xs && ((xs.length : Int) == sz)) := ⟨_, rfl⟩
  rw [← hb] at HV HP
  obtain ⟨m, hm⟩ : ∃ m, m = xs.length := ⟨_, rfl⟩
  rw [← hm] at HP ⊢
  clear hE h hx hm hb
  cases b with
  | false =>
    go_enter Try.func98, Try.ntmps98
    go_wp2_with fail
    refine HP.out.mono ?_
    rintro e w1 ⟨rfl, hx⟩
    go_wp2
    go_ret
    exact ⟨ret_bool HV.out.symm, HE.out.trans hx⟩
  | true =>
    go_enter Try.func98, Try.ntmps98
    go_wp2_with fail
    refine HP.out.mono ?_
    rintro e w1 ⟨rfl, hx⟩
    have c0 := hx.cell C0.out
    have HX := Lib.hid hx; clear hx
    go_wp2_with (go_at_call 76; refine (between_c _ _ _ _).mono ?_; rintro e w1 ⟨rfl, rfl⟩)
    go_ret
    exact ⟨ret_bool HV.out.symm, HE.out.trans HX.out⟩

set_option maxHeartbeats 1000000 in
theorem l9Field_c (sz : Int) (A : Option Addr) (n c : Nat) (ps : List (Int × Int)) (B : Option Addr) (m d : Nat) (xs : List Int) (w : World) (h : SlP w A n ps) (hx : SlI w B m xs) :
    Calls Try.prog 179 #[.agg #[.int .i64 sz, .slice A n c], .slice B m d] w fun e w' => e = .returned (.bool (goodG sz ps && decide (sz ≤ 6) && ((m : Int) == sz) && perm9 xs)) ∧ Ext w w' := by
  have hE := (Ext.refl w).alloc (.cells #[.int .i64 sz, .slice A n c] 28)
  have HA := Lib.hid (h.ext hE); have HE := Lib.hid hE
  have HB := Lib.hid (hx.ext hE)
  have C0 := Lib.hid (cell_new w #[.int .i64 sz, .slice A n c] 28 0 _ rfl)
  clear hE h hx
  cases q : goodG sz ps with
  | false =>
    go_enter Try.func179, Try.ntmps179
    go_wp2_with fail
    refine (l2Good_c sz A n c ps _ HA.out).mono ?_
    rw [q]
    rintro e w1 ⟨rfl, hx⟩
    go_wp2
    go_ret
    exact ⟨rfl, HE.out.trans hx⟩
  | true =>
    cases q1 : decide (sz ≤ 6) with
    | false =>
      go_enter Try.func179, Try.ntmps179
      go_wp2_with fail
      refine (l2Good_c sz A n c ps _ HA.out).mono ?_
      rw [q]
      rintro e w1 ⟨rfl, hx⟩
      have c0 := hx.cell C0.out
      have HX := Lib.hid hx; clear hx
      go_wp2
      go_ret
      exact ⟨rfl, HE.out.trans HX.out⟩
    | true =>
      cases q2 : ((m : Int) == sz) with
      | false =>
        go_enter Try.func179, Try.ntmps179
        go_wp2_with fail
        refine (l2Good_c sz A n c ps _ HA.out).mono ?_
        rw [q]
        rintro e w1 ⟨rfl, hx⟩
        have c0 := hx.cell C0.out
        have HX := Lib.hid hx; clear hx
        go_wp2
        go_ret
        exact ⟨rfl, HE.out.trans HX.out⟩
      | true =>
        go_enter Try.func179, Try.ntmps179
        go_wp2_with fail
        refine (l2Good_c sz A n c ps _ HA.out).mono ?_
        rw [q]
        rintro e w1 ⟨rfl, hx⟩
        have c0 := hx.cell C0.out
        have HX := Lib.hid hx; clear hx
        go_wp2_with fail
        refine (l9Perm_c B m d xs _ (HB.out.ext HX.out)).mono ?_
        rintro e w2 ⟨rfl, rfl⟩
        go_wp2
        go_ret
        exact ⟨rfl, HE.out.trans HX.out⟩

theorem brd_same (sz : Int) (ps : List (Int × Int)) (xs : List Int) : ((goodG sz ps && decide (sz ≤ 6) && ((xs.length : Int) == sz) && perm9 xs) && decide (0 < sz)) = brdB sz ps xs := by
  unfold brdB inB
  cases goodG sz ps <;> cases perm9 xs <;> cases ((xs.length : Int) == sz) <;> simp
  rw [Bool.eq_iff_iff]; simp; omega

set_option maxHeartbeats 1000000 in
theorem l9Board_c (sz : Int) (A : Option Addr) (n c : Nat) (ps : List (Int × Int)) (B : Option Addr) (d : Nat) (xs : List Int) (w : World) (h : SlP w A n ps) (hx : SlI w B xs.length xs) :
    Calls Try.prog 149 #[.agg #[.int .i64 sz, .slice A n c], .slice B xs.length d] w fun e w' => e = .returned (.bool (brdB sz ps xs)) ∧ Ext w w' := by
  have hE := (Ext.refl w).alloc (.cells #[.int .i64 sz, .slice A n c] 28)
  have HE := Lib.hid hE
  have HP := Lib.hid (l9Field_c sz A n c ps B xs.length d xs _ (h.ext hE) (hx.ext hE))
  have C0 := Lib.hid (cell_new w #[.int .i64 sz, .slice A n c] 28 0 _ rfl)
  have HV := Lib.hid (brd_same sz ps xs)
  obtain ⟨b, hb⟩ : ∃ b, b = (goodG sz ps && decide (sz ≤ 6) && ((xs.length : Int) == sz) && perm9 xs) := ⟨_, rfl⟩
  rw [← hb] at HV HP
  obtain ⟨m, hm⟩ : ∃ m, m = xs.length := ⟨_, rfl⟩
  rw [← hm] at HP ⊢
  clear hE h hx hm hb
  cases b with
  | false =>
    go_enter Try.func149, Try.ntmps149
    go_wp2_with fail
    refine HP.out.mono ?_
    rintro e w1 ⟨rfl, hx⟩
    go_wp2
    go_ret
    exact ⟨ret_bool HV.out, HE.out.trans hx⟩
  | true =>
    go_enter Try.func149, Try.ntmps149
    go_wp2_with fail
    refine HP.out.mono ?_
    rintro e w1 ⟨rfl, hx⟩
    have c0 := hx.cell C0.out
    have HX := Lib.hid hx; clear hx
    go_wp2
    go_ret
    exact ⟨ret_bool HV.out, HE.out.trans HX.out⟩
end Go.Proofs.Ytkfbkflneppggaa
