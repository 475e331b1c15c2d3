/-
  Rising lists: the program's isRising, the reference's l1Rising, l1Has. Conditions: none.
-/
import Derived.Test.YtkfbkflneppggaaBa
import Derived.Test.YtkfbkflneppggaaSa
namespace Go.Proofs.Ytkfbkflneppggaa
open Go.RowKit
set_option linter.unusedVariables false
set_option linter.unusedSimpArgs false

/-- Is the number at a place fine? -/
def okUp (xs : List Int) (lo hi : Int) (k : Nat) : Bool := inB (gI xs k) lo hi && (k == 0 || decide (gI xs (k - 1) < gI xs k))
/-- Is a list strictly rising, within bounds? -/
def upB (xs : List Int) (lo hi : Int) : Bool := (List.range xs.length).all (okUp xs lo hi)
theorem upB_true {xs : List Int} {lo hi : Int} (h : ∀ j, j < xs.length → okUp xs lo hi j = true) : upB xs lo hi = true := by
  simp only [upB, List.all_eq_true, List.mem_range]; exact h
theorem upB_false {xs : List Int} {lo hi : Int} {k : Nat} (hk : k < xs.length) (h : okUp xs lo hi k = false) : upB xs lo hi = false := by
  rw [Bool.eq_false_iff]; intro hg
  simp only [upB, List.all_eq_true, List.mem_range] at hg
  rw [hg k hk] at h; exact absurd h (by simp)
theorem upB_at {xs : List Int} {lo hi : Int} (h : upB xs lo hi = true) {k : Nat} (hk : k < xs.length) : okUp xs lo hi k = true := by
  simp only [upB, List.all_eq_true, List.mem_range] at h; exact h k hk
theorem okUp_out {xs : List Int} {lo hi : Int} {k : Nat} (h : inB (gI xs k) lo hi = false) : okUp xs lo hi k = false := by simp [okUp, h]
theorem okUp_no {xs : List Int} {lo hi : Int} {k : Nat} (hk : 0 < k) (h : gI xs k ≤ gI xs (k - 1)) : okUp xs lo hi k = false := by
  have h1 : (k == 0) = false := by simp; omega
  have h2 : decide (gI xs (k - 1) < gI xs k) = false := by simp; omega
  simp [okUp, h1, h2]
theorem okUp_yes {xs : List Int} {lo hi : Int} {k : Nat} (h : inB (gI xs k) lo hi = true) (h2 : ¬ gI xs k ≤ gI xs (k - 1)) : okUp xs lo hi k = true := by
  have h2 : decide (gI xs (k - 1) < gI xs k) = true := by simp; omega
  simp [okUp, h, h2]
theorem okUp_zero {xs : List Int} {lo hi : Int} {k : Nat} (h : inB (gI xs k) lo hi = true) (h2 : ¬ 0 < k) : okUp xs lo hi k = true := by
  have h1 : (k == 0) = true := by simp; omega
  simp [okUp, h, h1]
theorem upB_range {xs : List Int} {lo hi : Int} (h : upB xs lo hi = true) : ∀ x ∈ xs, lo ≤ x ∧ x ≤ hi := fun x hx => by
  obtain ⟨k, hk, rfl⟩ := List.getElem_of_mem hx
  have := upB_at h hk
  simp only [okUp, Bool.and_eq_true, inB_true, gI_eq xs k hk] at this
  exact this.1

theorem upB_lt' {xs : List Int} {lo hi : Int} (h : upB xs lo hi = true) : ∀ (i j : Nat), i < j → j < xs.length → gI xs i < gI xs j := by
  intro i j
  induction j with
  | zero => intro h; omega
  | succ j ih =>
    intro hij hj
    have hs := upB_at h hj
    simp only [okUp, Bool.and_eq_true, Bool.or_eq_true, decide_eq_true_eq, Nat.add_sub_cancel, beq_iff_eq] at hs
    have h1 : gI xs j < gI xs (j + 1) := by rcases hs.2 with h | h <;> omega
    rcases Nat.lt_or_ge i j with h2 | h2
    · exact Int.lt_trans (ih h2 (by omega)) h1
    · obtain rfl : i = j := by omega
      exact h1

set_option maxHeartbeats 1000000 in
theorem isRising_c (A : Option Addr) (n c : Nat) (xs : List Int) (m : Int) (w : World) (h : SlI w A n xs) (hm0 : 0 ≤ m) (hm : m ≤ 1048576) :
    Calls Try.prog 131 #[.slice A n c, .int .i64 m] w fun e w' => e = .returned (.bool (upB xs 0 (m - 1))) ∧ w = w' := by
  have hl := h.len
  have hmx := h.le
  go_enter Try.func131, Try.ntmps131
  go_wp2
  go_loopw [9] (fun i wr => ∃ k : Nat, k ≤ n ∧ i = .int .i64 k ∧ w = wr ∧ ∀ j, j < k → okUp xs 0 (m - 1) j = true) (fun i _ => n - (intOf i).toNat)
  case atStart => exact ⟨0, Nat.zero_le _, rfl, rfl, fun j hj => absurd hj (by omega)⟩
  case round =>
    obtain ⟨k, hk, rfl, rfl, hok⟩ := hrel
    by_cases hlt : k < n
    · obtain ⟨b, o, rfl, p1⟩ := h.at k (by omega)
      have i0 : (0 : Int) ≤ (k : Int) := by omega
      have i1 : (k : Int) < (n : Int) := by omega
      have HA := Lib.hid h; clear h
      have Hl := Lib.hid hl; clear hl
      have Hok := Lib.hid hok; clear hok
      cases q1 : inB (gI xs k) 0 (m - 1) with
      | false =>
        have HK := Lib.hid (okUp_out q1)
        go_wp2_with (go_at_call 76; refine (between_c _ _ _ _).mono ?_; rintro e w1 ⟨rfl, rfl⟩)
        go_ret
        exact ⟨ret_bool (upB_false (by have := Hl.out; omega) HK.out).symm, rfl⟩
      | true =>
        by_cases q4 : 0 < k
        · obtain ⟨b', o', hA', r1⟩ := HA.out.at (k - 1) (by have := Hl.out; omega)
          obtain ⟨rfl, rfl⟩ : b' = b ∧ o' = o := by simpa [eq_comm] using hA'
          clear hA'
          have t0 : decide ((0 : Int) < (k : Int)) = true := by simp; omega
          have t4 : (0 : Int) ≤ (k : Int) - 1 := by omega
          have t5 : (1 : Int) ≤ (k : Int) := by omega
          have t6 : (k : Int) ≤ (n : Int) := by omega
          have t7 : (k : Int) - 1 < (n : Int) := by omega
          have t8 : ((k : Int) - 1).toNat = k - 1 := by omega
          by_cases q5 : gI xs k ≤ gI xs (k - 1)
          · have HK := Lib.hid (okUp_no (lo := 0) (hi := m - 1) q4 q5)
            go_wp2_with (go_at_call 76; refine (between_c _ _ _ _).mono ?_; rintro e w1 ⟨rfl, rfl⟩)
            go_ret
            exact ⟨ret_bool (upB_false (by have := Hl.out; omega) HK.out).symm, rfl⟩
          · have HK := Lib.hid (okUp_yes q1 q5)
            go_wp2_with (go_at_call 76; refine (between_c _ _ _ _).mono ?_; rintro e w1 ⟨rfl, rfl⟩)
            go_roundw
            case rel =>
              exact ⟨k + 1, by omega, by go_num, by first | rfl | trivial, fun j hj => by
                rcases Nat.lt_or_ge j k with h | h
                · exact Hok.out j h
                · obtain rfl : j = k := by omega
                  exact HK.out⟩
            case measure => simp [intOf]; omega
        · have HK := Lib.hid (okUp_zero q1 q4)
          have t0 : decide ((0 : Int) < (k : Int)) = false := by simp; omega
          have t0' : decide (0 < k) = false := by simp; omega
          clear q4
          go_wp2_with (go_at_call 76; refine (between_c _ _ _ _).mono ?_; rintro e w1 ⟨rfl, rfl⟩)
          go_roundw
          case rel =>
            exact ⟨k + 1, by omega, by go_num, by first | rfl | trivial, fun j hj => by
              rcases Nat.lt_or_ge j k with h | h
              · exact Hok.out j h
              · obtain rfl : j = k := by omega
                exact HK.out⟩
          case measure => simp [intOf]; omega
    · have hk' : k = n := by omega
      subst hk'
      go_wp2
      go_ret
      exact ⟨ret_bool (upB_true (fun j hj => hok j (by omega))).symm, rfl⟩

set_option maxHeartbeats 1000000 in
theorem l1Rising_c (A : Option Addr) (n c : Nat) (xs : List Int) (lo hi : Int) (w : World) (h : SlI w A n xs) :
    Calls Try.prog 200 #[.slice A n c, .int .i64 lo, .int .i64 hi] w fun e w' => e = .returned (.bool (upB xs lo hi)) ∧ Ext w w' := by
  have hl := h.len
  have hmx := h.le
  go_enter Try.func200, Try.ntmps200
  go_wp2
  go_loopw [7] (fun i wr => ∃ k : Nat, k ≤ n ∧ i = .int .i64 k ∧ Ext w wr ∧ ∀ j, j < k → okUp xs lo hi j = true) (fun i _ => n - (intOf i).toNat)
  case atStart => exact ⟨0, Nat.zero_le _, rfl, Ext.refl _, fun j hj => absurd hj (by omega)⟩
  case round =>
    obtain ⟨k, hk, rfl, hx, hok⟩ := hrel
    by_cases hlt : k < n
    · obtain ⟨b, o, rfl, p1⟩ := (h.ext hx).at k (by omega)
      have i0 : (0 : Int) ≤ (k : Int) := by omega
      have i1 : (k : Int) < (n : Int) := by omega
      have HA := Lib.hid h; clear h
      have Hx := Lib.hid hx; clear hx
      have Hl := Lib.hid hl; clear hl
      have Hok := Lib.hid hok; clear hok
      cases q1 : inB (gI xs k) lo hi with
      | false =>
        have HK := Lib.hid (okUp_out q1)
        go_wp2_with fail
        go_quiet ((go_at_call 71; exact quiet_eq (l1In_c _ _ _ _)))
        go_wp2
        go_ret
        exact ⟨ret_bool (upB_false (by have := Hl.out; omega) HK.out).symm, Hx.out.drewN _⟩
      | true =>
        by_cases q4 : 0 < k
        · obtain ⟨b', o', hA', r1⟩ := (HA.out.ext Hx.out).at (k - 1) (by have := Hl.out; omega)
          obtain ⟨rfl, rfl⟩ : b' = b ∧ o' = o := by simpa [eq_comm] using hA'
          clear hA'
          have t0 : decide ((0 : Int) < (k : Int)) = true := by simp; omega
          have t4 : (0 : Int) ≤ (k : Int) - 1 := by omega
          have t5 : (1 : Int) ≤ (k : Int) := by omega
          have t6 : (k : Int) ≤ (n : Int) := by omega
          have t7 : (k : Int) - 1 < (n : Int) := by omega
          have t8 : ((k : Int) - 1).toNat = k - 1 := by omega
          by_cases q5 : gI xs k ≤ gI xs (k - 1)
          · have HK := Lib.hid (okUp_no (lo := lo) (hi := hi) q4 q5)
            have t9 : decide (gI xs k ≤ gI xs (k - 1)) = true := by simpa using q5
            go_wp2_with fail
            have hw2 : IntKind.i64.wrap ((k : Int) - 1) = (k : Int) - 1 := IntWalk.i64_in _ (by omega)
            go_quiet ((go_at_call 71; exact quiet_eq (l1In_c _ _ _ _)))
            clear hw2
            go_wp2
            go_ret
            exact ⟨ret_bool (upB_false (by have := Hl.out; omega) HK.out).symm, Hx.out.drewN _⟩
          · have HK := Lib.hid (okUp_yes q1 q5)
            have t9 : decide (gI xs k ≤ gI xs (k - 1)) = false := by simpa using q5
            go_wp2_with fail
            have hw2 : IntKind.i64.wrap ((k : Int) - 1) = (k : Int) - 1 := IntWalk.i64_in _ (by omega)
            go_quiet ((go_at_call 71; exact quiet_eq (l1In_c _ _ _ _)))
            clear hw2
            go_wp2
            go_roundw
            case rel =>
              exact ⟨k + 1, by omega, by go_num, Hx.out.drewN _, fun j hj => by
                rcases Nat.lt_or_ge j k with h | h
                · exact Hok.out j h
                · obtain rfl : j = k := by omega
                  exact HK.out⟩
            case measure => simp [intOf]; omega
        · have HK := Lib.hid (okUp_zero q1 q4)
          have t0 : decide ((0 : Int) < (k : Int)) = false := by simp; omega
          have t0' : decide (0 < k) = false := by simp; omega
          clear q4
          go_wp2_with fail
          go_quiet ((go_at_call 71; exact quiet_eq (l1In_c _ _ _ _)))
          go_wp2
          go_roundw
          case rel =>
            exact ⟨k + 1, by omega, by go_num, Hx.out.drewN _, fun j hj => by
              rcases Nat.lt_or_ge j k with h | h
              · exact Hok.out j h
              · obtain rfl : j = k := by omega
                exact HK.out⟩
          case measure => simp [intOf]; omega
    · have hk' : k = n := by omega
      subst hk'
      go_wp2
      go_ret
      exact ⟨ret_bool (upB_true (fun j hj => hok j (by omega))).symm, hx⟩

/-- Is a number among these? -/
def hasB (xs : List Int) (x : Int) : Bool := xs.contains x
theorem hasB_drop (xs : List Int) (x : Int) (k : Nat) (h : k < xs.length) : hasB (xs.drop k) x = if gI xs k == x then true else hasB (xs.drop (k + 1)) x := by
  unfold hasB
  rw [List.drop_eq_getElem_cons h, gI_eq xs k h, List.contains_cons]
  cases q : (xs[k] == x)
  · have : (x == xs[k]) = false := by rw [← q]; exact Bool.beq_comm
    simp [this]
  · have : (x == xs[k]) = true := by rw [← q]; exact Bool.beq_comm
    simp [this]
set_option maxHeartbeats 400000 in
theorem l1Has_c (A : Option Addr) (n c : Nat) (xs : List Int) (x : Int) (w : World) (h : SlI w A n xs) :
    Calls Try.prog 135 #[.slice A n c, .int .i64 x] w fun e w' => e = .returned (.bool (hasB xs x)) ∧ w = w' := by
  have hl := h.len
  have hmx := h.le
  go_enter Try.func135, Try.ntmps135
  go_wp2
  go_loopw [5] (fun i wr => ∃ k : Nat, k ≤ n ∧ i = .int .i64 k ∧ w = wr ∧ hasB xs x = hasB (xs.drop k) x) (fun i _ => n - (intOf i).toNat)
  case atStart => exact ⟨0, Nat.zero_le _, rfl, rfl, rfl⟩
  case round =>
    obtain ⟨k, hk, rfl, rfl, hf⟩ := hrel
    by_cases hlt : k < n
    · obtain ⟨b, o, rfl, p1⟩ := h.at k (by omega)
      have i0 : (0 : Int) ≤ (k : Int) := by omega
      have i1 : (k : Int) < (n : Int) := by omega
      rw [hasB_drop xs x k (by omega)] at hf
      have HA := Lib.hid h; clear h
      have Hl := Lib.hid hl; clear hl
      have Hf := Lib.hid hf; clear hf
      cases q : (gI xs k == x) with
      | true =>
        go_wp2
        go_ret
        exact ⟨ret_bool (by rw [Hf.out, q]; rfl), rfl⟩
      | false =>
        go_wp2
        go_roundw
        case rel => exact ⟨k + 1, by omega, by go_num, by first | rfl | trivial, by rw [Hf.out, q]; rfl⟩
        case measure => simp [intOf]; omega
    · have hk' : k = n := by omega
      subst hk'
      go_wp2
      go_ret
      exact ⟨ret_bool (by rw [hf, List.drop_of_length_le (by omega)]; rfl), rfl⟩
end Go.Proofs.Ytkfbkflneppggaa
