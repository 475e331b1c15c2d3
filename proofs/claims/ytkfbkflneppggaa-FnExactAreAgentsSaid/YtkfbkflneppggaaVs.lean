/-
  States of a space: slices.Compare and l2Before (one order of rows of numbers), isState and l2State. Conditions: none.
-/
import Derived.Test.YtkfbkflneppggaaFa
import Derived.Test.YtkfbkflneppggaaSa
import Derived.BigQuiet
namespace Go.Proofs.Ytkfbkflneppggaa
open Go.RowKit
set_option linter.unusedVariables false
set_option linter.unusedSimpArgs false

/-! ### The order of rows of numbers -/
def cmpL : List Int → List Int → Int
  | [], [] => 0
  | [], _ :: _ => -1
  | _ :: _, [] => 1
  | x :: xs, y :: ys => if cmpI x y = 0 then cmpL xs ys else cmpI x y
theorem cmpL_step {a b : List Int} {k : Nat} (ha : k < a.length) (hb : k < b.length) :
    cmpL (a.drop k) (b.drop k) = if cmpI (gI a k) (gI b k) = 0 then cmpL (a.drop (k + 1)) (b.drop (k + 1)) else cmpI (gI a k) (gI b k) := by
  rw [List.drop_eq_getElem_cons ha, List.drop_eq_getElem_cons hb, gI_eq a k ha, gI_eq b k hb]; rfl
theorem cmpL_long {a b : List Int} {k : Nat} (ha : k < a.length) (hb : b.length ≤ k) : cmpL (a.drop k) (b.drop k) = 1 := by
  rw [List.drop_eq_getElem_cons ha, List.drop_of_length_le hb]; rfl
theorem cmpL_end {a b : List Int} : cmpL (a.drop a.length) (b.drop a.length) = if a.length < b.length then -1 else 0 := by
  rw [List.drop_length]
  split
  · rename_i h; rw [List.drop_eq_getElem_cons h]; rfl
  · rename_i h; rw [List.drop_of_length_le (by omega)]; rfl
def lessL (a b : List Int) : Bool := decide (cmpL a b < 0)
theorem cmpI_zero {x y : Int} : cmpI x y = 0 ↔ x = y := by unfold cmpI; split; omega; split <;> omega
theorem lessL_step {a b : List Int} {k : Nat} (ha : k < a.length) (hb : k < b.length) :
    lessL (a.drop k) (b.drop k) = if gI a k = gI b k then lessL (a.drop (k + 1)) (b.drop (k + 1)) else decide (gI a k < gI b k) := by
  unfold lessL; rw [cmpL_step ha hb]
  by_cases h : gI a k = gI b k
  · rw [if_pos h, if_pos (cmpI_zero.2 h)]
  · rw [if_neg h, if_neg (fun e => h (cmpI_zero.1 e))]
    congr 1; unfold cmpI; split
    · simpa
    · split <;> simp <;> omega
theorem lessL_end {a b : List Int} {k : Nat} (h : k = a.length ∨ k = b.length) (ha : k ≤ a.length) (hb : k ≤ b.length) : lessL (a.drop k) (b.drop k) = decide (a.length < b.length) := by
  unfold lessL
  by_cases h1 : k = a.length
  · subst h1; rw [cmpL_end]; congr 1; split <;> simp <;> omega
  · have h2 : k = b.length := by omega
    subst h2
    rw [cmpL_long (by omega) (Nat.le_refl _)]; simp; omega

set_option maxHeartbeats 1000000 in
theorem CompareL_c (A B : Option Addr) (n m c e' : Nat) (xs ys : List Int) (w : World) (hA : SlI w A n xs) (hB : SlI w B m ys) :
    Calls Try.prog 137 #[.slice A n c, .slice B m e'] w fun e w' => e = .returned (.int .i64 (cmpL xs ys)) ∧ w = w' := by
  have l1 := hA.len; have l2 := hB.len
  have m1 := hA.le; have m2 := hB.le
  have HA := Lib.hid hA; have HB := Lib.hid hB
  clear hA hB
  go_enter Try.func137, Try.ntmps137
  go_wp2
  go_loopw [11] (fun i wr => ∃ k : Nat, k ≤ n ∧ i = .int .i64 k ∧ w = wr ∧ cmpL (xs.drop k) (ys.drop k) = cmpL xs ys) (fun i _ => n - (intOf i).toNat)
  case atStart => exact ⟨0, Nat.zero_le _, rfl, rfl, rfl⟩
  case round =>
    obtain ⟨k, hk, rfl, rfl, hq⟩ := hrel
    have HQ := Lib.hid hq; clear hq
    by_cases hlt : k < n
    · obtain ⟨b, o, rfl, p1⟩ := HA.out.at k (by omega)
      have i0 : (0 : Int) ≤ (k : Int) := by omega
      have i1 : (k : Int) < (n : Int) := by omega
      by_cases hm : k < m
      · obtain ⟨b2, o2, rfl, p2⟩ := HB.out.at k (by omega)
        have i2 : (k : Int) < (m : Int) := by omega
        obtain ⟨z, hz⟩ : ∃ z, z = cmpI (gI xs k) (gI ys k) := ⟨_, rfl⟩
        have HZ := Lib.hid hz; clear hz
        have HL := Lib.hid l1; have HL2 := Lib.hid l2
        clear l1 l2
        go_wp2_with fail
        refine (Compare_c (gI xs k) (gI ys k) _).mono ?_
        rw [← HZ.out]
        rintro e w1 ⟨rfl, rfl⟩
        by_cases hz : z = 0
        · subst hz
          go_wp2
          go_roundw
          case rel => exact ⟨k + 1, by omega, by go_num, by first | rfl | trivial, by rw [← HQ.out, cmpL_step (k := k) (by rw [HL.out]; omega) (by rw [HL2.out]; omega), if_pos HZ.out.symm]⟩
          case measure => simp [intOf]; omega
        · have qz : (z != 0) = true := by simp [hz]
          go_wp2
          go_ret
          exact ⟨ret_int (by rw [← HQ.out, cmpL_step (k := k) (by rw [HL.out]; omega) (by rw [HL2.out]; omega), if_neg (by rw [← HZ.out]; exact hz), ← HZ.out]), rfl⟩
      · have i2 : (m : Int) ≤ (k : Int) := by omega
        have HL := Lib.hid l1; have HL2 := Lib.hid l2
        clear l1 l2
        go_wp2
        go_ret
        exact ⟨ret_int (by rw [← HQ.out, cmpL_long (by rw [HL.out]; omega) (by rw [HL2.out]; omega)]), rfl⟩
    · have hk' : k = n := by omega
      subst hk'
      have HL := Lib.hid l1; have HL2 := Lib.hid l2
      clear l1 l2
      by_cases hm : k < m
      · go_wp2
        go_ret
        exact ⟨ret_int (by rw [← HQ.out, show k = xs.length from HL.out.symm, cmpL_end, if_pos (by rw [HL.out, HL2.out]; omega)]), rfl⟩
      · go_wp2
        go_ret
        exact ⟨ret_int (by rw [← HQ.out, show k = xs.length from HL.out.symm, cmpL_end, if_neg (by rw [HL.out, HL2.out]; omega)]), rfl⟩

set_option maxHeartbeats 1000000 in
theorem l2Before_c (A B : Option Addr) (n m c e' : Nat) (xs ys : List Int) (w : World) (hA : SlI w A n xs) (hB : SlI w B m ys) :
    Calls Try.prog 134 #[.slice A n c, .slice B m e'] w fun e w' => e = .returned (.bool (lessL xs ys)) ∧ Ext w w' := by
  have l1 := hA.len; have l2 := hB.len
  have m1 := hA.le; have m2 := hB.le
  have HA := Lib.hid hA; have HB := Lib.hid hB
  clear hA hB
  go_enter Try.func134, Try.ntmps134
  go_wp2
  go_loopw [5] (fun i wr => ∃ k : Nat, k ≤ n ∧ k ≤ m ∧ i = .int .i64 k ∧ Ext w wr ∧ lessL (xs.drop k) (ys.drop k) = lessL xs ys) (fun i _ => n - (intOf i).toNat)
  case atStart => exact ⟨0, Nat.zero_le _, Nat.zero_le _, rfl, Ext.refl _, rfl⟩
  case round =>
    obtain ⟨k, hk, hkm, rfl, hx, hq⟩ := hrel
    have HQ := Lib.hid hq; clear hq
    have HL := Lib.hid l1; have HL2 := Lib.hid l2
    clear l1 l2
    by_cases hlt : k < n
    · by_cases hm : k < m
      · obtain ⟨b, o, rfl, p1⟩ := (HA.out.ext hx).at k (by rw [HL.out]; omega)
        obtain ⟨b2, o2, rfl, p2⟩ := (HB.out.ext hx).at k (by rw [HL2.out]; omega)
        have HX := Lib.hid hx; clear hx
        have i0 : (0 : Int) ≤ (k : Int) := by omega
        have i1 : (k : Int) < (n : Int) := by omega
        have i2 : (k : Int) < (m : Int) := by omega
        by_cases he : gI xs k = gI ys k
        · have t1 : (gI xs k != gI ys k) = false := by simp [he]
          go_wp2
          go_quiet (fail)
          go_wp2
          go_roundw
          case rel => exact ⟨k + 1, by omega, by omega, by go_num, HX.out.drewN _, by rw [← HQ.out, lessL_step (k := k) (by rw [HL.out]; omega) (by rw [HL2.out]; omega), if_pos he]⟩
          case measure => simp [intOf]; omega
        · have t1 : (gI xs k != gI ys k) = true := by simp [he]
          go_wp2
          go_quiet (fail)
          go_wp2
          go_quiet (fail)
          go_wp2
          go_ret
          exact ⟨ret_bool (by rw [← HQ.out, lessL_step (k := k) (by rw [HL.out]; omega) (by rw [HL2.out]; omega), if_neg he]), by first | exact (HX.out.drewN _).drewN _ | exact HX.out.drewN _⟩
      · go_wp2
        go_ret
        exact ⟨ret_bool (by rw [← HQ.out, lessL_end (by rw [HL2.out]; omega) (by rw [HL.out]; omega) (by rw [HL2.out]; omega), HL.out, HL2.out]; first | done | simp), hx⟩
    · go_wp2
      go_ret
      exact ⟨ret_bool (by rw [← HQ.out, lessL_end (by rw [HL.out]; omega) (by rw [HL.out]; omega) (by rw [HL2.out]; omega), HL.out, HL2.out]; first | done | simp), hx⟩

/-! ### States -/
def stB (x : List Int) : Bool := decide (x.length ≤ 24) && !(x.any fun n => !inB n (-99) 99)
set_option maxHeartbeats 400000 in
theorem stOne_c (x : Int) (W : World) :
    Calls Try.prog 169 #[.int .i64 x] W fun e w' => e = .returned (.bool (!inB x (-99) 99)) ∧ Ext W w' := by
  go_enter Try.func169, Try.ntmps169
  go_wp2_with (go_at_call 76; refine (between_c _ _ _ _).mono ?_; rintro e w1 ⟨rfl, rfl⟩)
  go_ret
  exact ⟨rfl, Ext.refl _⟩
set_option maxHeartbeats 400000 in
theorem isState_c (A : Option Addr) (n c : Nat) (xs : List Int) (w : World) (h : SlI w A n xs) :
    Calls Try.prog 136 #[.slice A n c] w fun e w' => e = .returned (.bool (stB xs)) ∧ Ext w w' := by
  have hl := h.len
  have hm := h.le
  have HA := Lib.hid h; clear h
  have HT := Lib.hid (show TellsI 169 #[] (fun x => !inB x (-99) 99) xs w from fun V x hV _ => stOne_c x V)
  have HN := Lib.hid (enters_of Try.func169 (by kernel_rfl) rfl)
  go_enter Try.func136, Try.ntmps136
  by_cases h24 : n ≤ 24
  · have HL := Lib.hid (show decide (xs.length ≤ 24) = true by simp; omega)
    have t : (n : Int) ≤ 24 := by omega
    clear hl
    go_wp2_with fail
    refine (ContainsFuncI_c A n c xs _ _ _ _ HA.out HN.out HT.out).mono ?_
    rintro e w1 ⟨rfl, hx⟩
    have HX := Lib.hid hx; clear hx
    go_wp2
    go_ret
    exact ⟨ret_bool (by rw [stB, HL.out, Bool.true_and]), HX.out⟩
  · have HL := Lib.hid (show decide (xs.length ≤ 24) = false by simp; omega)
    have t : ¬ (n : Int) ≤ 24 := by omega
    clear hl
    go_wp2
    go_ret
    exact ⟨ret_bool (by rw [stB, HL.out]; rfl), Ext.refl _⟩
set_option maxHeartbeats 400000 in
theorem l2State_c (A : Option Addr) (n c : Nat) (xs : List Int) (w : World) (h : SlI w A n xs) :
    Calls Try.prog 133 #[.slice A n c] w fun e w' => e = .returned (.bool (stB xs)) ∧ w = w' := by
  have hl := h.len
  have hm := h.le
  have HA := Lib.hid h; clear h
  go_enter Try.func133, Try.ntmps133
  go_wp2
  go_loopw [3] (fun i wr => ∃ k : Nat, k ≤ n ∧ i = .int .i64 k ∧ w = wr ∧ ∀ j, j < k → inB (gI xs j) (-99) 99 = true) (fun i _ => n - (intOf i).toNat)
  case atStart => exact ⟨0, Nat.zero_le _, rfl, rfl, fun j hj => absurd hj (by omega)⟩
  case round =>
    obtain ⟨k, hk, rfl, rfl, hq⟩ := hrel
    have HQ := Lib.hid hq; clear hq
    have HL := Lib.hid hl; clear hl
    by_cases hlt : k < n
    · obtain ⟨b, o, rfl, p1⟩ := HA.out.at k (by rw [HL.out]; omega)
      have i0 : (0 : Int) ≤ (k : Int) := by omega
      have i1 : (k : Int) < (n : Int) := by omega
      cases q : inB (gI xs k) (-99) 99 with
      | true =>
        have HK := Lib.hid q
        go_wp2_with (go_at_call 71; refine (l1In_c _ _ _ _).mono ?_; rintro e w1 ⟨rfl, rfl⟩)
        go_roundw
        case rel => exact ⟨k + 1, by omega, by go_num, by first | rfl | trivial, fun j hj => by by_cases h : j < k; exact HQ.out j h; rw [show j = k by omega]; exact HK.out⟩
        case measure => simp [intOf]; omega
      | false =>
        have HK := Lib.hid q
        go_wp2_with (go_at_call 71; refine (l1In_c _ _ _ _).mono ?_; rintro e w1 ⟨rfl, rfl⟩)
        go_ret
        refine ⟨ret_bool ?_, rfl⟩
        have : (xs.any fun n => !inB n (-99) 99) = true := by
          rw [List.any_eq_true]
          exact ⟨gI xs k, by rw [gI_eq xs k (by rw [HL.out]; omega)]; exact List.getElem_mem _, by rw [HK.out]; rfl⟩
        rw [stB, this]; simp
    · have hk' : k = n := by omega
      subst hk'
      have hany : (xs.any fun n => !inB n (-99) 99) = false := by
        rw [Bool.eq_false_iff]; intro h
        rw [List.any_eq_true] at h
        obtain ⟨x, hx, h⟩ := h
        obtain ⟨j, hj, rfl⟩ := List.getElem_of_mem hx
        rw [← gI_eq xs j hj, HQ.out j (by rw [← HL.out]; exact hj)] at h
        exact absurd h (by simp)
      have HV := Lib.hid (show stB xs = decide ((k : Int) ≤ 24) by rw [stB, hany, HL.out]; simp; omega)
      clear hany
      go_wp2
      go_ret
      exact ⟨ret_bool HV.out.symm, rfl⟩
end Go.Proofs.Ytkfbkflneppggaa
