/-
  Independent sets: the reference's l2Set, l3Free; both sides alike. Conditions: none.
-/
import Derived.Test.YtkfbkflneppggaaUf
namespace Go.Proofs.Ytkfbkflneppggaa
open Go.RowKit
set_option linter.unusedVariables false
set_option linter.unusedSimpArgs false

set_option maxHeartbeats 400000 in
theorem l2Set_c (sz : Int) (A : Option Addr) (n c : Nat) (B : Option Addr) (m d : Nat) (xs : List Int) (w : World) (hx : SlI w B m xs) (h0 : 0 ≤ sz) (h8 : sz ≤ 8) :
    Calls Try.prog 180 #[.agg #[.int .i64 sz, .slice A n c], .slice B m d] w fun e w' => e = .returned (.bool (upB xs 0 (sz - 1))) ∧ Ext w w' := by
  have hE := (Ext.refl w).alloc (.cells #[.int .i64 sz, .slice A n c] 28)
  have HB := Lib.hid (hx.ext hE); have HE := Lib.hid hE
  clear hE hx
  go_enter Try.func180, Try.ntmps180
  go_wp2_with fail
  refine (l1Rising_c B m d xs 0 (sz - 1) _ HB.out).mono ?_
  rintro e w1 ⟨rfl, hy⟩
  go_wp2
  go_ret
  exact ⟨rfl, HE.out.trans hy⟩

/-- Is a node of a list a neighbor of an earlier one? -/
def nearI (ps : List (Int × Int)) (xs : List Int) (i : Nat) : Bool := (List.range i).any fun k => nearE ps (gI xs k) (gI xs i)
def free3 (ps : List (Int × Int)) (xs : List Int) : Bool := !(List.range xs.length).any (nearI ps xs)
theorem nearI_yes {ps : List (Int × Int)} {xs : List Int} {i k : Nat} (hk : k < i) (h : nearE ps (gI xs k) (gI xs i) = true) : nearI ps xs i = true := by
  simp only [nearI, List.any_eq_true, List.mem_range]; exact ⟨k, hk, h⟩
theorem nearI_no {ps : List (Int × Int)} {xs : List Int} {i : Nat} (h : ∀ k, k < i → nearE ps (gI xs k) (gI xs i) = false) : nearI ps xs i = false := by
  rw [Bool.eq_false_iff]; intro hg
  simp only [nearI, List.any_eq_true, List.mem_range] at hg
  obtain ⟨k, hk, h1⟩ := hg
  rw [h k hk] at h1; cases h1
theorem free3_no {ps : List (Int × Int)} {xs : List Int} {i : Nat} (hi : i < xs.length) (h : nearI ps xs i = true) : free3 ps xs = false := by
  simp only [free3, Bool.not_eq_false', List.any_eq_true, List.mem_range]; exact ⟨i, hi, h⟩
theorem free3_yes {ps : List (Int × Int)} {xs : List Int} (h : ∀ i, i < xs.length → nearI ps xs i = false) : free3 ps xs = true := by
  simp only [free3, Bool.not_eq_true', Bool.eq_false_iff]
  intro hg
  simp only [List.any_eq_true, List.mem_range] at hg
  obtain ⟨i, hi, h1⟩ := hg
  rw [h i hi] at h1; cases h1

set_option maxHeartbeats 1000000 in
theorem l3Free_c (sz : Int) (A : Option Addr) (n c : Nat) (ps : List (Int × Int)) (B : Option Addr) (m d : Nat) (xs : List Int) (w : World) (h : SlP w A n ps) (hx : SlI w B m xs) (h0 : 0 ≤ sz) (h8 : sz ≤ 8) :
    Calls Try.prog 150 #[.agg #[.int .i64 sz, .slice A n c], .slice B m d] w fun e w' => e = .returned (.bool (free3 ps xs && upB xs 0 (sz - 1))) ∧ Ext w w' := by
  have hE := (Ext.refl w).alloc (.cells #[.int .i64 sz, .slice A n c] 28)
  have hlen := hx.len
  have hmx := hx.le
  have HA := Lib.hid (h.ext hE); have HB := Lib.hid (hx.ext hE); have HE := Lib.hid hE; have HLen := Lib.hid hlen
  have C0 := Lib.hid (cell_new w #[.int .i64 sz, .slice A n c] 28 0 _ rfl)
  have C1 := Lib.hid (cell_new w #[.int .i64 sz, .slice A n c] 28 1 _ rfl)
  have HH0 := Lib.hid h0; have HH8 := Lib.hid h8
  clear hE h hx hlen h0 h8
  go_enter Try.func150, Try.ntmps150
  go_wp2
  go_loopw [5] (fun i wr => ∃ k : Nat, k ≤ m ∧ i = .int .i64 (k : Int) ∧ Ext (w.alloc (.cells #[.int .i64 sz, .slice A n c] 28)) wr ∧ ∀ j, j < k → nearI ps xs j = false) (fun i _ => m - (intOf i).toNat)
  case atStart => exact ⟨0, Nat.zero_le _, rfl, Ext.refl _, fun j hj => absurd hj (by omega)⟩
  case round =>
    obtain ⟨i, hi, rfl, hx, hok⟩ := hrel
    have Hx := Lib.hid hx; have Hok := Lib.hid hok
    clear hx hok
    by_cases hlt : i < m
    · have i0 : (0 : Int) ≤ (i : Int) := by omega
      have i1 : (i : Int) < (m : Int) := by omega
      go_wp2
      go_loopw [6] (fun k2 wq => ∃ k : Nat, k ≤ i ∧ k2 = .int .i64 (k : Int) ∧ Ext wr wq ∧ ∀ j, j < k → nearE ps (gI xs j) (gI xs i) = false) (fun k2 _ => i - (intOf k2).toNat)
      case atStart => exact ⟨0, Nat.zero_le _, rfl, Ext.refl _, fun j hj => absurd hj (by omega)⟩
      case round =>
        obtain ⟨k, hk, rfl, hy, hoj⟩ := hrel
        have Hy := Lib.hid (Hx.out.trans hy); have Hyy := Lib.hid hy; have Hoj := Lib.hid hoj
        clear hy hoj
        by_cases hlk : k < i
        · obtain ⟨b, o, rfl, p1⟩ := (HB.out.ext Hy.out).at i (by have := HLen.out; omega)
          obtain ⟨b', o', hA', p2⟩ := (HB.out.ext Hy.out).at k (by have := HLen.out; omega)
          obtain ⟨rfl, rfl⟩ : b' = b ∧ o' = o := by simpa [eq_comm] using hA'
          have k0 : (0 : Int) ≤ (k : Int) := by omega
          have k1 : (k : Int) < (m : Int) := by omega
          have k2 : (k : Int) < (i : Int) := by omega
          have e1 := fun w' (e : Ext wr w') => e.cell p1
          have e2 := fun w' (e : Ext wr w') => e.cell p2
          have e3 := fun w' (e : Ext wr w') => e.cell (Hy.out.cell C0.out)
          have e4 := fun w' (e : Ext wr w') => e.cell (Hy.out.cell C1.out)
          clear hA' p1 p2
          cases q : nearE ps (gI xs k) (gI xs i) with
          | true =>
            have HQ := Lib.hid (free3_no (ps := ps) (by have := HLen.out; omega) (nearI_yes hlk q))
            go_wp2_with fail
            go_region_held3 (fun w' => Ext wr w')
              (first
                | exact (Ext.refl _).drew
                | assumption
                | exact Ext.trans (by assumption) hy1)
              (first
                | (go_at_call 111; refine (l2Near_c _ _ _ _ ps _ _ _ (HA.out.ext (Hy.out.trans (by assumption)))).mono ?_; rw [q]; rintro e w1 ⟨rfl, hy1⟩))
            have HZ := Lib.hid (show Ext wr w1 from by assumption)
            clear e1 e2 e3 e4
            go_wp2
            go_ret
            exact ⟨ret_bool (by rw [HQ.out]; rfl), HE.out.trans (Hy.out.trans HZ.out)⟩
          | false =>
            have HQ := Lib.hid q
            go_wp2_with fail
            go_region_held3 (fun w' => Ext wr w')
              (first
                | exact (Ext.refl _).drew
                | assumption
                | exact Ext.trans (by assumption) hy1)
              (first
                | (go_at_call 111; refine (l2Near_c _ _ _ _ ps _ _ _ (HA.out.ext (Hy.out.trans (by assumption)))).mono ?_; rw [q]; rintro e w1 ⟨rfl, hy1⟩))
            have HZ := Lib.hid (show Ext wr w1 from by assumption)
            clear e1 e2 e3 e4
            go_wp2
            go_roundw
            case rel =>
              exact ⟨k + 1, by omega, by go_num, Hyy.out.trans HZ.out, fun j hj => by
                rcases Nat.lt_or_ge j k with h | h
                · exact Hoj.out j h
                · obtain rfl : j = k := by omega
                  exact HQ.out⟩
            case measure => simp [intOf]; omega
        · obtain rfl : k = i := by omega
          go_wp2
          go_roundw
          case rel =>
            exact ⟨k + 1, by omega, by go_num, Hy.out, fun j hj => by
              rcases Nat.lt_or_ge j k with h | h
              · exact Hok.out j h
              · obtain rfl : j = k := by omega
                exact nearI_no Hoj.out⟩
          case measure => simp [intOf]; omega
    · obtain rfl : i = m := by omega
      have e3 := Hx.out.cell C0.out
      have e4 := Hx.out.cell C1.out
      have HQ := Lib.hid (free3_yes (ps := ps) (xs := xs) (fun j hj => Hok.out j (by have := HLen.out; omega)))
      go_wp2_with fail
      refine (l2Set_c sz A n c B i d xs _ (HB.out.ext Hx.out) HH0.out HH8.out).mono ?_
      rintro e w1 ⟨rfl, hy⟩
      go_wp2
      go_ret
      exact ⟨ret_bool (by rw [HQ.out]; rfl), HE.out.trans (Hx.out.trans hy)⟩

theorem upB_lt {xs : List Int} {lo hi : Int} (h : upB xs lo hi = true) : ∀ (i j : Nat), i < j → j < xs.length → gI xs i < gI xs j := by
  intro i j
  induction j with
  | zero => intro h; omega
  | succ j ih =>
    intro hij hj
    have hs := upB_at h hj
    simp only [okUp, Bool.and_eq_true, Bool.or_eq_true, decide_eq_true_eq, Nat.add_sub_cancel, beq_iff_eq] at hs
    have h1 : gI xs j < gI xs (j + 1) := by rcases hs.2 with h | h <;> omega
    rcases Nat.lt_or_ge i j with h2 | h2
    · exact Int.lt_trans (ih h2 (by omega)) h1
    · obtain rfl : i = j := by omega
      exact h1
theorem free_same {ps : List (Int × Int)} {xs : List Int} {sz lo hi : Int} (hg : goodP ps sz = true) (h : upB xs lo hi = true) : free3 ps xs = freeB ps xs := by
  unfold free3 freeB
  congr 1
  rw [Bool.eq_iff_iff]
  simp only [List.any_eq_true, List.mem_range, nearI, nearE, Bool.and_eq_true, hasB, List.contains_iff_mem]
  constructor
  · rintro ⟨i, hi, k, hk, j, hj, hm⟩
    refine ⟨gP ps j, by rw [gP_eq ps j hj]; exact List.getElem_mem _, ?_⟩
    have m1 : gI xs i ∈ xs := by rw [gI_eq xs i hi]; exact List.getElem_mem _
    have m2 : gI xs k ∈ xs := by rw [gI_eq xs k (by omega)]; exact List.getElem_mem _
    rw [matchE_eq] at hm
    simp only [Bool.or_eq_true, Bool.and_eq_true, beq_iff_eq] at hm
    rcases hm with ⟨e1, e2⟩ | ⟨e1, e2⟩
    · rw [e1, e2]; exact ⟨m2, m1⟩
    · rw [e1, e2]; exact ⟨m1, m2⟩
  · rintro ⟨p, hp, h1, h2⟩
    obtain ⟨k, hk, e1⟩ := List.getElem_of_mem h1
    obtain ⟨i, hi, e2⟩ := List.getElem_of_mem h2
    have hlt := (goodP_nodes hg p hp).1.2
    have hki : k < i := by
      rcases Nat.lt_or_ge k i with h3 | h3
      · exact h3
      · exfalso
        rcases Nat.lt_or_ge i k with h4 | h4
        · have := upB_lt h i k h4 hk
          rw [gI_eq xs i hi, gI_eq xs k hk, e1, e2] at this
          omega
        · obtain rfl : k = i := by omega
          rw [e1] at e2; omega
    obtain ⟨j, hj, rfl⟩ := List.getElem_of_mem hp
    refine ⟨i, hi, k, hki, j, hj, ?_⟩
    rw [matchE_eq, gP_eq ps j hj, gI_eq xs k hk, gI_eq xs i hi, e1, e2]
    simp
theorem ind_same {ps : List (Int × Int)} {xs : List Int} {sz : Int} (hg : goodP ps sz = true) : (free3 ps xs && upB xs 0 (sz - 1)) = indB sz ps xs := by
  unfold indB
  cases q : upB xs 0 (sz - 1) with
  | false => simp
  | true => rw [free_same hg q]; simp
end Go.Proofs.Ytkfbkflneppggaa
