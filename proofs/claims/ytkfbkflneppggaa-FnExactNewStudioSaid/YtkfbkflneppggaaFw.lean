/-
  The reference's FoldOrder and CanFold. Conditions: none.
-/
import Derived.Test.YtkfbkflneppggaaFv
namespace Go.Proofs.Ytkfbkflneppggaa
open Go.RowKit
set_option linter.unusedVariables false
set_option linter.unusedSimpArgs false

set_option maxHeartbeats 1000000 in
theorem FoldOrderS_c (sz : Int) (gn gc : Nat) (gA : Option Addr) (ps : List (Int × Int)) (w : World) (h : SlP w gA gn ps) :
    Calls Try.prog 20 #[.agg #[.int .i64 sz, .slice gA gn gc]] w fun e w' =>
      ∃ A c, e = .returned (.tuple #[.slice A (ordL sz ps).length c, .bool (ordB sz ps)]) ∧ w'.ownsRow w.heap.size 83 2 (.slice A (ordL sz ps).length c) (ordL sz ps).length (prs (ordL sz ps)) ∧ Ext w w' := by
  have hE := (Ext.refl w).alloc (.cells #[.int .i64 sz, .slice gA gn gc] 28)
  have HA := Lib.hid (h.ext hE)
  have HE := Lib.hid hE
  clear hE h
  cases q : goodG sz ps with
  | false =>
    have hb : ordB sz ps = false := by simp [ordB, q]
    have hl : ordL sz ps = [] := by simp [ordL, hb]
    rw [hb, hl]
    clear hb hl
    go_enter Try.func20, Try.ntmps20
    go_wp2_with (go_at_call 61; refine (l2Good_c sz gA gn gc ps _ HA.out).mono ?_; rintro e w1 ⟨rfl, hx⟩)
    go_ret2
    exact ⟨_, _, rfl, own_mono (own_empty w1 83 2 0 #[] rfl (by omega)) (HE.out.trans hx).size, (HE.out.trans hx).alloc _⟩
  | true =>
    obtain ⟨g0, g1⟩ := goodG_range q
    obtain ⟨g, rfl⟩ := Int.eq_ofNat_of_zero_le g0
    have hg8 : g ≤ 8 := by omega
    by_cases hz : (g : Int) = 0
    · have hb : ordB (g : Int) ps = false := by simp [ordB, hz]
      have hl : ordL (g : Int) ps = [] := by simp [ordL, hb]
      rw [hb, hl]
      have hz' : ((g : Int) == 0) = true := by rw [beq_iff_eq]; exact hz
      clear hb hl g0 g1 hz
      go_enter Try.func20, Try.ntmps20
      go_wp2_with fail
      refine (l2Good_c (g : Int) gA gn gc ps _ HA.out).mono ?_
      rintro e w1 ⟨rfl, hx⟩
      rw [q]
      have d0 := hx.cell (cell_new w #[.int .i64 (g : Int), .slice gA gn gc] 28 0 _ rfl)
      have HX := Lib.hid hx
      clear hx
      go_wp2
      go_ret2
      exact ⟨_, _, rfl, own_mono (own_empty w1 83 2 0 #[] rfl (by omega)) (HE.out.trans HX.out).size, (HE.out.trans HX.out).alloc _⟩
    · have hb : ordB (g : Int) ps = true := by simp [ordB, q]; omega
      have hl : ordL (g : Int) ps = foldsL ps 9 (setL (2 ^ g - 1)) := by rw [ordL, hb]; simp
      rw [hb, hl]
      have hz' : ((g : Int) == 0) = false := by rw [beq_eq_false_iff_ne]; exact hz
      clear hb hl g0 g1 hz
      go_enter Try.func20, Try.ntmps20
      go_wp2_with fail
      refine (l2Good_c (g : Int) gA gn gc ps _ HA.out).mono ?_
      rintro e w1 ⟨rfl, hx⟩
      rw [q]
      have d0 := hx.cell (cell_new w #[.int .i64 (g : Int), .slice gA gn gc] 28 0 _ rfl)
      have d1 := hx.cell (cell_new w #[.int .i64 (g : Int), .slice gA gn gc] 28 1 _ rfl)
      have HX := Lib.hid hx
      clear hx
      go_wp2_with fail
      refine (l10Folds_c g gn gc gA ps _ (HA.out.ext HX.out) hg8).mono ?_
      rintro e w2 ⟨A, c, rfl, ho, hx2⟩
      have HO := Lib.hid ho; have HX2 := Lib.hid hx2
      clear ho hx2 d0 d1
      go_wp2
      go_ret2
      exact ⟨A, c, rfl, own_mono HO.out (HE.out.trans HX.out).size, (HE.out.trans HX.out).trans HX2.out⟩

set_option maxHeartbeats 2000000 in
theorem CanFoldS_c (sz : Int) (gn gc : Nat) (gA : Option Addr) (ps : List (Int × Int)) (w : World) (h : SlP w gA gn ps) :
    Calls Try.prog 18 #[.agg #[.int .i64 sz, .slice gA gn gc]] w fun e w' =>
      e = .returned (.tuple #[.bool (ordB sz ps && (((ordL sz ps).length : Int) == sz - 1)), .bool (ordB sz ps)]) ∧ Ext w w' := by
  have hE := (Ext.refl w).alloc (.cells #[.int .i64 sz, .slice gA gn gc] 28)
  have HA := Lib.hid (h.ext hE)
  have HE := Lib.hid hE
  clear hE h
  cases q : goodG sz ps with
  | false =>
    have hb : ordB sz ps = false := by simp [ordB, q]
    rw [hb]
    clear hb
    go_enter Try.func18, Try.ntmps18
    go_wp2_with (go_at_call 61; refine (l2Good_c sz gA gn gc ps _ HA.out).mono ?_; rintro e w1 ⟨rfl, hx⟩)
    go_ret2
    exact ⟨rfl, HE.out.trans hx⟩
  | true =>
    obtain ⟨g0, g1⟩ := goodG_range q
    obtain ⟨g, rfl⟩ := Int.eq_ofNat_of_zero_le g0
    have hg8 : g ≤ 8 := by omega
    by_cases hz : (g : Int) = 0
    · have hb : ordB (g : Int) ps = false := by simp [ordB, hz]
      rw [hb]
      have hz' : ((g : Int) == 0) = true := by rw [beq_iff_eq]; exact hz
      clear hb g0 g1 hz
      go_enter Try.func18, Try.ntmps18
      go_wp2_with fail
      refine (l2Good_c (g : Int) gA gn gc ps _ HA.out).mono ?_
      rintro e w1 ⟨rfl, hx⟩
      rw [q]
      have d0 := hx.cell (cell_new w #[.int .i64 (g : Int), .slice gA gn gc] 28 0 _ rfl)
      have HX := Lib.hid hx
      clear hx
      go_wp2
      go_ret2
      exact ⟨rfl, HE.out.trans HX.out⟩
    · have hb : ordB (g : Int) ps = true := by simp [ordB, q]; omega
      have hl : ordL (g : Int) ps = foldsL ps 9 (setL (2 ^ g - 1)) := by rw [ordL, hb]; simp
      rw [hb, hl]
      obtain ⟨L, hL⟩ : ∃ L, L = foldsL ps 9 (setL (2 ^ g - 1)) := ⟨_, rfl⟩
      have hF := fun w => l10Folds_c g gn gc gA ps w
      rw [← hL] at hF ⊢
      have HF := Lib.hid hF
      have hz' : ((g : Int) == 0) = false := by rw [beq_eq_false_iff_ne]; exact hz
      have hw : IntKind.i64.wrap ((g : Int) - 1) = (g : Int) - 1 := IntWalk.i64_in _ (by omega)
      clear hb hl g0 g1 hz hL hF
      go_enter Try.func18, Try.ntmps18
      go_wp2_with fail
      refine (l2Good_c (g : Int) gA gn gc ps _ HA.out).mono ?_
      rintro e w1 ⟨rfl, hx⟩
      rw [q]
      have d0 := fun w' (e : Ext w1 w') => e.cell (hx.cell (cell_new w #[.int .i64 (g : Int), .slice gA gn gc] 28 0 _ rfl))
      have d1 := fun w' (e : Ext w1 w') => e.cell (hx.cell (cell_new w #[.int .i64 (g : Int), .slice gA gn gc] 28 1 _ rfl))
      have d0' := hx.cell (cell_new w #[.int .i64 (g : Int), .slice gA gn gc] 28 0 _ rfl)
      have HX := Lib.hid hx
      clear hx
      go_wp2_with fail
      go_region_held3 (fun w' => Ext w1 w')
        (first
          | exact (Ext.refl _).drew
          | assumption
          | exact Ext.trans (by assumption) hy1)
        (first
          | (go_at_call 62; refine (HF.out _ (HA.out.ext (HX.out.trans (by assumption))) hg8).mono ?_; rintro e w2 ⟨A, c, rfl, ho, hy1⟩))
      have HZ := Lib.hid (show Ext w1 w2 from by assumption)
      go_wp2
      go_ret2
      exact ⟨rfl, HE.out.trans (HX.out.trans HZ.out)⟩
end Go.Proofs.Ytkfbkflneppggaa
