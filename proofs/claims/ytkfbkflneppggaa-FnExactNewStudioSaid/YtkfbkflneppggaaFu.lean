/-
  The reference's l10Fold. Conditions: none.
-/
import Derived.Test.YtkfbkflneppggaaFt
import Derived.BigQuiet
namespace Go.Proofs.Ytkfbkflneppggaa
open Go.RowKit
set_option linter.unusedVariables false
set_option linter.unusedSimpArgs false

theorem two_set (w : World) (b : Nat) (x y u v : Value) (h0 : w.cell? ⟨b, 0, none⟩ = some u) (h1 : w.cell? ⟨b, 1, none⟩ = some v) :
    ((w.setCell ⟨b, 0, none⟩ x).setCell ⟨b, 1, none⟩ y).cell? ⟨b, 0, none⟩ = some x ∧ ((w.setCell ⟨b, 0, none⟩ x).setCell ⟨b, 1, none⟩ y).cell? ⟨b, 1, none⟩ = some y := by
  refine ⟨?_, ?_⟩
  · rw [World.cell?_setCell_other _ _ _ _ (by intro h; injection h with _ h _; omega)]; exact World.cell?_setCell_same _ _ _ h0
  · exact World.cell?_setCell_same _ _ _ ((World.cell?_setCell_other _ _ _ _ (by intro h; injection h with _ h _; omega)).trans h1)

/-- What l10Fold returns. -/
def foldP (gps : List (Int × Int)) (l : List Int) : Int × Int := (scan (covL gps l) l l).getD (-1, -1)

set_option maxHeartbeats 4000000 in
theorem l10Fold_c (sz : Int) (gA : Option Addr) (gn gc : Nat) (gps : List (Int × Int)) (A : Option Addr) (n c : Nat) (l : List Int) (w : World) (h : SlP w gA gn gps) (hl : SlI w A n l) (hnd : ∀ i j, i < n → j < n → i ≠ j → gI l i ≠ gI l j) :
    Calls Try.prog 122 #[.agg #[.int .i64 sz, .slice gA gn gc], .slice A n c] w fun e w' => e = .returned (.agg #[.int .i64 (foldP gps l).1, .int .i64 (foldP gps l).2]) ∧ Ext w w' := by
  have hE := ((Ext.refl w).alloc (.cells #[.int .i64 sz, .slice gA gn gc] 28)).alloc (.cells #[.int .i64 0, .int .i64 0] 83)
  have HE := Lib.hid hE; have HG := Lib.hid (h.ext hE); have HL := Lib.hid (hl.ext hE)
  have hlen := hl.len
  have hm := hl.le
  have c0 := cell_old (.cells #[.int .i64 0, .int .i64 0] 83) (cell_new w #[.int .i64 sz, .slice gA gn gc] 28 0 _ rfl)
  have c1 := cell_old (.cells #[.int .i64 0, .int .i64 0] 83) (cell_new w #[.int .i64 sz, .slice gA gn gc] 28 1 _ rfl)
  have r0 := cell_new (w.alloc (.cells #[.int .i64 sz, .slice gA gn gc] 28)) #[.int .i64 0, .int .i64 0] 83 0 _ rfl
  have r1 := cell_new (w.alloc (.cells #[.int .i64 sz, .slice gA gn gc] 28)) #[.int .i64 0, .int .i64 0] 83 1 _ rfl
  have f0 : ((w.alloc (.cells #[.int .i64 sz, .slice gA gn gc] 28)).alloc (.cells #[.int .i64 0, .int .i64 0] 83)).frozen? ⟨(w.alloc (.cells #[.int .i64 sz, .slice gA gn gc] 28)).heap.size, 0, none⟩ = false := World.frozen?_alloc_at _ _ _ _ rfl
  have f1 : ((w.alloc (.cells #[.int .i64 sz, .slice gA gn gc] 28)).alloc (.cells #[.int .i64 0, .int .i64 0] 83)).frozen? ⟨(w.alloc (.cells #[.int .i64 sz, .slice gA gn gc] 28)).heap.size, 1, none⟩ = false := World.frozen?_alloc_at _ _ _ _ rfl
  simp only [alloc_size] at r0 r1 f0 f1
  have C0 := Lib.hid c0; have C1 := Lib.hid c1; have R0 := Lib.hid r0; have R1 := Lib.hid r1; have F0 := Lib.hid f0; have F1 := Lib.hid f1; have HLen := Lib.hid hlen; have HND := Lib.hid hnd
  have HF := Lib.hid (show foldP gps l = (scan (covL gps l) l l).getD (-1, -1) from rfl)
  clear hE h hl c0 c1 r0 r1 f0 f1 hlen hnd
  go_enter Try.func122, Try.ntmps122
  go_wp2
  go_loopw [5] (fun i wr => ∃ k : Nat, k ≤ n ∧ i = .int .i64 (k : Int) ∧ Ext ((w.alloc (.cells #[.int .i64 sz, .slice gA gn gc] 28)).alloc (.cells #[.int .i64 0, .int .i64 0] 83)) wr ∧ scan (covL gps l) l l = scan (covL gps l) l (l.drop k)) (fun i _ => n - (intOf i).toNat)
  case atStart => exact ⟨0, Nat.zero_le _, rfl, Ext.refl _, rfl⟩
  case round =>
    obtain ⟨k, hk, rfl, hx, hscan⟩ := hrel
    have Hx := Lib.hid hx; have HScan := Lib.hid hscan
    clear hx hscan
    by_cases hlt : k < n
    · have HScan2 := Lib.hid (scan_drop (covL gps l) l k (by have := HLen.out; omega))
      have i0 : (0 : Int) ≤ (k : Int) := by omega
      have i1 : (k : Int) < (n : Int) := by omega
      go_wp2
      obtain ⟨wo, rfl⟩ : ∃ wo : World, wo = wr := ⟨_, rfl⟩
      go_loopw [6] (fun i wr => ∃ j : Nat, j ≤ n ∧ i = .int .i64 (j : Int) ∧ Ext wo wr ∧ l.find? (covL gps l (gI l k)) = (l.drop j).find? (covL gps l (gI l k))) (fun i _ => n - (intOf i).toNat)
      case atStart => exact ⟨0, Nat.zero_le _, rfl, Ext.refl _, rfl⟩
      case round =>
        obtain ⟨j, hj, rfl, hy, hfind⟩ := hrel
        have Hy := Lib.hid hy; have Hz := Lib.hid (Hx.out.trans hy); have HFind := Lib.hid hfind
        clear hy hfind
        by_cases hjl : j < n
        · have HFD := Lib.hid (find_drop (covL gps l (gI l k)) l j (by have := HLen.out; omega))
          have j0 : (0 : Int) ≤ (j : Int) := by omega
          have j1 : (j : Int) < (n : Int) := by omega
          by_cases hkj : k = j
          · have qn : ((k : Int) != (j : Int)) = false := by subst hkj; simp
            have HN := Lib.hid (show covL gps l (gI l k) (gI l j) = false by subst hkj; simp [covL])
            have d0 := Hz.out.cell C0.out
            have d1 := Hz.out.cell C1.out
            clear hkj
            go_wp2
            go_quiet (fail)
            go_wp2
            go_roundw
            case rel => exact ⟨j + 1, by omega, by go_num, Hy.out.drewN _, by rw [HFind.out, HFD.out, HN.out]; rfl⟩
            case measure => simp [intOf]; omega
          · have qn : ((k : Int) != (j : Int)) = true := by rw [bne_iff_ne]; omega
            have hne := HND.out k j hlt hjl hkj
            have HC := Lib.hid (show covL gps l (gI l k) (gI l j) = covS gps l (gI l k) (gI l j) by
              have : (gI l k != gI l j) = true := by rw [bne_iff_ne]; exact hne
              rw [covL, this, Bool.true_and])
            obtain ⟨b1, o1, rfl, p1⟩ := (HL.out.ext Hz.out).at k (by have := HLen.out; omega)
            obtain ⟨b2, o2, hA, p2⟩ := (HL.out.ext Hz.out).at j (by have := HLen.out; omega)
            obtain ⟨rfl, rfl⟩ : b2 = b1 ∧ o2 = o1 := by simpa [eq_comm] using hA
            have d0 := fun w' (e : Ext wr w') => e.cell (Hz.out.cell C0.out)
            have d1 := fun w' (e : Ext wr w') => e.cell (Hz.out.cell C1.out)
            have d2 := fun w' (e : Ext wr w') => e.cell p1
            have d3 := fun w' (e : Ext wr w') => e.cell p2
            have P1 := Lib.hid p1; have P2 := Lib.hid p2
            obtain ⟨x, hx⟩ : ∃ x, x = gI l k := ⟨_, rfl⟩
            obtain ⟨y, hy⟩ : ∃ y, y = gI l j := ⟨_, rfl⟩
            have HXe := Lib.hid hx; have HYe := Lib.hid hy
            rw [← hx] at d2 P1
            rw [← hy] at d3 P2
            clear hA hne hkj p1 p2 hx hy
            go_wp2_with fail
            go_region_held3 (fun w' => Ext wr w')
              (first
                | exact (Ext.refl _).drew
                | assumption
                | exact Ext.trans (by assumption) hy1)
              (first
                | (go_at_call 164; refine (l10Covers_c sz gA gn gc gps _ n c l x y _ ((HG.out.ext Hz.out).ext (by assumption)) ((HL.out.ext Hz.out).ext (by assumption))).mono ?_; rintro e w3 ⟨rfl, hy1⟩))
            have HX3 := Lib.hid (show Ext wr w3 from by assumption)
            clear d0 d1 d2 d3
            cases q : covS gps l x y with
            | false =>
              have HQ := Lib.hid q
              go_wp2
              go_roundw
              case rel => exact ⟨j + 1, by omega, by go_num, Hy.out.trans HX3.out, by rw [HFind.out, HFD.out, HC.out, ← HXe.out, ← HYe.out, HQ.out]; rfl⟩
              case measure => simp [intOf]; omega
            | true =>
              have HQ := Lib.hid q
              have HRes := Lib.hid (show foldP gps l = (x, y) by
                rw [HF.out, HScan.out, HScan2.out, HFind.out, HFD.out, HC.out, ← HXe.out, ← HYe.out, HQ.out]; rfl)
              have t1 := HX3.out.cell P1.out
              have t2 := HX3.out.cell P2.out
              have t3 := HX3.out.cell (Hz.out.cell R0.out)
              have t4 := HX3.out.cell (Hz.out.cell R1.out)
              have t5 := ((Hz.out.trans HX3.out).frozen (p := ⟨w.heap.size + 1, 0, none⟩) (by simp only [alloc_size]; omega)).trans F0.out
              have t6 := ((Hz.out.trans HX3.out).frozen (p := ⟨w.heap.size + 1, 1, none⟩) (by simp only [alloc_size]; omega)).trans F1.out
              have HT3 := Lib.hid t3; have HT4 := Lib.hid t4
              go_wp2_with fail
              go_region
              all_goals go_wp2
              all_goals (
                obtain ⟨u0, u1⟩ := two_set w3 (w.heap.size + 1) (.int .i64 x) (.int .i64 y) _ _ HT3.out HT4.out
                have v0 := (Ext.refl ((w3.setCell ⟨w.heap.size + 1, 0, none⟩ (.int .i64 x)).setCell ⟨w.heap.size + 1, 1, none⟩ (.int .i64 y))).drew.cell u0
                have v1 := (Ext.refl ((w3.setCell ⟨w.heap.size + 1, 0, none⟩ (.int .i64 x)).setCell ⟨w.heap.size + 1, 1, none⟩ (.int .i64 y))).drew.cell u1
                rw [HRes.out]
                exact bodyPost_ret (v := .agg #[.int .i64 x, .int .i64 y]) (by simp [results, Try.results122, go_sem, u0, u1, v0, v1]) rfl ⟨rfl, (((HE.out.trans (Hz.out.trans HX3.out)).setCell (Nat.le_succ w.heap.size) _).setCell (Nat.le_succ w.heap.size) _).drew⟩)
        · obtain rfl : j = n := by omega
          have HNo := Lib.hid (show l.find? (covL gps l (gI l k)) = none by rw [HFind.out, List.drop_of_length_le (by have := HLen.out; omega)]; rfl)
          go_wp2
          go_roundw
          case rel => exact ⟨k + 1, by omega, by go_num, Hx.out.trans Hy.out, by rw [HScan.out, HScan2.out, HNo.out]⟩
          case measure => simp [intOf]; omega
    · obtain rfl : k = n := by omega
      have HRes := Lib.hid (show foldP gps l = (-1, -1) by rw [HF.out, HScan.out, List.drop_of_length_le (by have := HLen.out; omega)]; rfl)
      have t3 := Hx.out.cell R0.out
      have t4 := Hx.out.cell R1.out
      have t5 := (Hx.out.frozen (p := ⟨w.heap.size + 1, 0, none⟩) (by simp only [alloc_size]; omega)).trans F0.out
      have t6 := (Hx.out.frozen (p := ⟨w.heap.size + 1, 1, none⟩) (by simp only [alloc_size]; omega)).trans F1.out
      have HT3 := Lib.hid t3; have HT4 := Lib.hid t4
      go_wp2
      obtain ⟨u0, u1⟩ := two_set wr (w.heap.size + 1) (.int .i64 (-1)) (.int .i64 (-1)) _ _ HT3.out HT4.out
      rw [HRes.out]
      exact bodyPost_ret (v := .agg #[.int .i64 (-1), .int .i64 (-1)]) (by simp [results, Try.results122, go_sem, u0, u1]) rfl ⟨rfl, ((HE.out.trans Hx.out).setCell (Nat.le_succ w.heap.size) _).setCell (Nat.le_succ w.heap.size) _⟩
end Go.Proofs.Ytkfbkflneppggaa
