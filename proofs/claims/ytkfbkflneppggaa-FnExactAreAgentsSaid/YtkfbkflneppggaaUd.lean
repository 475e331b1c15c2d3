/-
  The reference's l5Proper. Conditions: none.
-/
import Derived.Test.YtkfbkflneppggaaUc
namespace Go.Proofs.Ytkfbkflneppggaa
open Go.RowKit
set_option linter.unusedVariables false
set_option linter.unusedSimpArgs false

theorem any_drop {α : Type} (p : α → Bool) (l : List α) (k : Nat) (h : k < l.length) : (l.drop k).any p = (p l[k] || (l.drop (k + 1)).any p) := by
  rw [List.drop_eq_getElem_cons h, List.any_cons]

set_option maxHeartbeats 2000000 in
theorem l5Proper_c (sz k : Int) (A : Option Addr) (n c : Nat) (ps : List (Int × Int)) (B : Option Addr) (m d : Nat) (cs : List Int) (w : World) (h : SlP w A n ps) (hx : SlI w B m cs) (ha : askB sz ps k = true) :
    Calls Try.prog 151 #[.agg #[.int .i64 sz, .slice A n c], .int .i64 k, .slice B m d] w fun e w' => e = .returned (.bool (colB sz ps k cs)) ∧ Ext w w' := by
  obtain ⟨hgo, hk⟩ : goodG sz ps = true ∧ inB k 1 5 = true := by simpa [askB] using ha
  have hk := inB_true.1 hk
  have hgp : goodP ps sz = true := by simp only [goodG, Bool.and_eq_true] at hgo; exact hgo.2
  have hlen := hx.len
  have hmx := hx.le
  have hnx := h.le
  have hpl := h.len
  have hE := (Ext.refl w).alloc (.cells #[.int .i64 sz, .slice A n c] 28)
  have HA := Lib.hid (h.ext hE); have HB := Lib.hid (hx.ext hE); have HE := Lib.hid hE
  have C0 := Lib.hid (cell_new w #[.int .i64 sz, .slice A n c] 28 0 _ rfl)
  have C1 := Lib.hid (cell_new w #[.int .i64 sz, .slice A n c] 28 1 _ rfl)
  have HG := Lib.hid hgp; have HLen := Lib.hid hlen; have HPl := Lib.hid hpl
  have hk1 := hk.1; have hk2 := hk.2
  clear hE h hx hgp hlen ha hgo hpl hk
  have hsplit : (((m : Int) != sz) = true ∧ colB sz ps k cs = false) ∨ (((m : Int) != sz) = false ∧ (m : Int) = sz) := by
    by_cases hms : (m : Int) = sz
    · right; exact ⟨by simp [hms], hms⟩
    · left
      refine ⟨by simp [hms], ?_⟩
      have : ((cs.length : Int) == sz) = false := by rw [HLen.out]; simp [hms]
      simp [colB, this]
  rcases hsplit with ⟨t1, hv⟩ | ⟨t1, hms⟩
  · have HV := Lib.hid hv
    clear hv
    go_enter Try.func151, Try.ntmps151
    go_wp2
    go_ret
    exact ⟨ret_bool HV.out.symm, HE.out⟩
  · subst hms
    have HV := Lib.hid (show colB m ps k cs = (!(cs.any fun c => !inB c 0 (k - 1)) && !(ps.any fun p => gI cs p.1.toNat == gI cs p.2.toNat)) by
      have : ((cs.length : Int) == m) = true := by rw [HLen.out]; simp
      rw [colB, this, Bool.true_and]
      congr 1
      rw [List.all_eq_not_any_not])
    have hw1 : IntKind.i64.wrap (k - 1) = k - 1 := IntWalk.i64_in _ (by omega)
    go_enter Try.func151, Try.ntmps151
    go_wp2
    go_loopw [7] (fun i wr => ∃ j : Nat, j ≤ m ∧ i = .int .i64 (j : Int) ∧ Ext (w.alloc (.cells #[.int .i64 (m : Int), .slice A n c] 28)) wr ∧ (cs.any fun c => !inB c 0 (k - 1)) = ((cs.drop j).any fun c => !inB c 0 (k - 1))) (fun i _ => m - (intOf i).toNat)
    case atStart => exact ⟨0, Nat.zero_le _, rfl, Ext.refl _, rfl⟩
    case round =>
      obtain ⟨j, hj, rfl, hx, hf⟩ := hrel
      have Hx := Lib.hid hx
      clear hx
      by_cases hlt : j < m
      · obtain ⟨b, o, rfl, p1⟩ := (HB.out.ext Hx.out).at j (by have := HLen.out; omega)
        have i0 : (0 : Int) ≤ (j : Int) := by omega
        have i1 : (j : Int) < (m : Int) := by omega
        have e3 := Hx.out.cell C0.out
        rw [any_drop _ cs j (by have := HLen.out; omega), ← gI_eq cs j (by have := HLen.out; omega)] at hf
        have Hf := Lib.hid hf
        clear hf
        cases q : inB (gI cs j) 0 (k - 1) with
        | false =>
          have HQ := Lib.hid (show colB m ps k cs = false by rw [HV.out, Hf.out, q]; rfl)
          go_wp2_with (go_at_call 71; refine (l1In_c _ _ _ _).mono ?_; rintro e w1 ⟨rfl, rfl⟩)
          go_ret
          exact ⟨ret_bool HQ.out.symm, HE.out.trans Hx.out⟩
        | true =>
          have HQ := Lib.hid q
          go_wp2_with (go_at_call 71; refine (l1In_c _ _ _ _).mono ?_; rintro e w1 ⟨rfl, rfl⟩)
          go_roundw
          case rel => exact ⟨j + 1, by omega, by go_num, Hx.out, by rw [Hf.out, HQ.out]; rfl⟩
          case measure => simp [intOf]; omega
      · obtain rfl : j = m := by omega
        have e3 := Hx.out.cell C0.out
        have HV2 := Lib.hid (show colB j ps k cs = !(ps.any fun p => gI cs p.1.toNat == gI cs p.2.toNat) by
          rw [HV.out, hf, List.drop_of_length_le (by have := HLen.out; omega)]; rfl)
        clear hf
        go_wp2
        clear e3
        go_loopw [8] (fun i wq => ∃ q : Nat, q ≤ n ∧ i = .int .i64 (q : Int) ∧ Ext wr wq ∧ (ps.any fun p => gI cs p.1.toNat == gI cs p.2.toNat) = ((ps.drop q).any fun p => gI cs p.1.toNat == gI cs p.2.toNat)) (fun i _ => n - (intOf i).toNat)
        case atStart => exact ⟨0, Nat.zero_le _, rfl, Ext.refl _, rfl⟩
        case round =>
          obtain ⟨q, hq, rfl, hy, hf⟩ := hrel
          have Hy := Lib.hid (Hx.out.trans hy); have Hyy := Lib.hid hy
          clear hy
          by_cases hlq : q < n
          · obtain ⟨b, o, rfl, p1, p2⟩ := (HA.out.ext Hy.out).at q (by have := HPl.out; omega)
            have hp := goodP_nodes HG.out (gP ps q) (by rw [gP_eq ps q (by have := HPl.out; omega)]; exact List.getElem_mem _)
            obtain ⟨b2, o2, rfl, r1⟩ := (HB.out.ext Hy.out).at (gP ps q).1.toNat (by have := HLen.out; omega)
            obtain ⟨b', o', hA', r2⟩ := (HB.out.ext Hy.out).at (gP ps q).2.toNat (by have := HLen.out; omega)
            obtain ⟨rfl, rfl⟩ : b' = b2 ∧ o' = o2 := by simpa [eq_comm] using hA'
            have i0 : (0 : Int) ≤ (q : Int) := by omega
            have i1 : (q : Int) < (n : Int) := by omega
            have s0 : 0 ≤ (gP ps q).1 := hp.1.1
            have s1 : (gP ps q).1 < (j : Int) := by omega
            have s2 : 0 ≤ (gP ps q).2 := by omega
            have s3 : (gP ps q).2 < (j : Int) := hp.2
            have e3 := Hy.out.cell C0.out
            have e4 := Hy.out.cell C1.out
            rw [any_drop _ ps q (by have := HPl.out; omega), ← gP_eq ps q (by have := HPl.out; omega)] at hf
            have Hf := Lib.hid hf
            clear hf hA' hp
            cases qq : (gI cs (gP ps q).1.toNat == gI cs (gP ps q).2.toNat) with
            | true =>
              have HQ := Lib.hid (show colB j ps k cs = false by rw [HV2.out, Hf.out, qq]; rfl)
              go_wp2_with fail
              go_quiet (fail)
              go_wp2
              go_ret
              exact ⟨ret_bool HQ.out.symm, HE.out.trans (Hy.out.drewN _)⟩
            | false =>
              have HQ := Lib.hid qq
              go_wp2_with fail
              go_quiet (fail)
              go_wp2
              go_roundw
              case rel => exact ⟨q + 1, by omega, by go_num, Hyy.out.drewN _, by rw [Hf.out, HQ.out]; rfl⟩
              case measure => simp [intOf]; omega
          · obtain rfl : q = n := by omega
            have HQ := Lib.hid (show colB j ps k cs = true by rw [HV2.out, hf, List.drop_of_length_le (by have := HPl.out; omega)]; rfl)
            have e4 := Hy.out.cell C1.out
            clear hf
            go_wp2
            go_ret
            exact ⟨ret_bool HQ.out.symm, HE.out.trans Hy.out⟩
end Go.Proofs.Ytkfbkflneppggaa
