/-
  The program's FoldOrder and CanFold. Conditions: none.
-/
import Derived.Test.YtkfbkflneppggaaFp
namespace Go.Proofs.Ytkfbkflneppggaa
open Go.RowKit
set_option linter.unusedVariables false
set_option linter.unusedSimpArgs false

/-- What FoldOrder returns. -/
def ordB (sz : Int) (ps : List (Int × Int)) : Bool := goodG sz ps && sz != 0
def ordL (sz : Int) (ps : List (Int × Int)) : List (Int × Int) := if ordB sz ps then foldsL ps 9 (setL (2 ^ sz.toNat - 1)) else []
theorem foldsL_length (gps : List (Int × Int)) : ∀ (f : Nat) (l : List Int), (foldsL gps f l).length ≤ f
  | 0, l => by simp [foldsL]
  | f + 1, l => by
    simp only [foldsL]
    split
    · simp
    · simp only [List.length_cons]
      have := foldsL_length gps f (l.filter fun z => z != (by assumption : Int × Int).1)
      omega
theorem ordL_length (sz : Int) (ps : List (Int × Int)) : (ordL sz ps).length ≤ 9 := by
  unfold ordL
  split
  · exact foldsL_length _ _ _
  · simp

set_option maxHeartbeats 1000000 in
theorem FoldOrderI_c (sz : Int) (gn gc : Nat) (gA : Option Addr) (ps : List (Int × Int)) (w : World) (h : SlP w gA gn ps) :
    Calls Try.prog 21 #[.agg #[.int .i64 sz, .slice gA gn gc]] w fun e w' =>
      ∃ A c, e = .returned (.tuple #[.slice A (ordL sz ps).length c, .bool (ordB sz ps)]) ∧ w'.ownsRow w.heap.size 83 2 (.slice A (ordL sz ps).length c) (ordL sz ps).length (prs (ordL sz ps)) ∧ Ext w w' := by
  have hE := (Ext.refl w).alloc (.cells #[.int .i64 sz, .slice gA gn gc] 28)
  have HA := Lib.hid (h.ext hE)
  have HE := Lib.hid hE
  clear hE h
  cases q : goodG sz ps with
  | false =>
    have hb : ordB sz ps = false := by simp [ordB, q]
    have hl : ordL sz ps = [] := by simp [ordL, hb]
    rw [hb, hl]
    clear hb hl
    go_enter Try.func21, Try.ntmps21
    go_wp2_with (go_at_call 63; refine (IsGraph_c sz gA gn gc ps _ HA.out).mono ?_; rintro e w1 ⟨rfl, hx⟩)
    go_ret2
    exact ⟨none, 0, rfl, own_nil _ _ _ _, HE.out.trans hx⟩
  | true =>
    obtain ⟨g0, g1⟩ := goodG_range q
    obtain ⟨g, rfl⟩ := Int.eq_ofNat_of_zero_le g0
    have hg8 : g ≤ 8 := by omega
    have hgood : goodP ps (g : Int) = true := by simp only [goodG, Bool.and_eq_true] at q; exact q.2
    by_cases hz : (g : Int) = 0
    · have hb : ordB (g : Int) ps = false := by simp [ordB, hz]
      have hl : ordL (g : Int) ps = [] := by simp [ordL, hb]
      rw [hb, hl]
      have hz' : ((g : Int) == 0) = true := by rw [beq_iff_eq]; exact hz
      clear hb hl g0 g1 hz
      go_enter Try.func21, Try.ntmps21
      go_wp2_with fail
      refine (IsGraph_c (g : Int) gA gn gc ps _ HA.out).mono ?_
      rintro e w1 ⟨rfl, hx⟩
      rw [q]
      have d0 := hx.cell (cell_new w #[.int .i64 (g : Int), .slice gA gn gc] 28 0 _ rfl)
      have HX := Lib.hid hx
      clear hx
      go_wp2
      go_ret2
      exact ⟨none, 0, rfl, own_nil _ _ _ _, HE.out.trans HX.out⟩
    · have hb : ordB (g : Int) ps = true := by simp [ordB, q]; omega
      have hl : ordL (g : Int) ps = foldsL ps 9 (setL (2 ^ g - 1)) := by rw [ordL, hb]; simp
      rw [hb, hl]
      have hz' : ((g : Int) == 0) = false := by rw [beq_eq_false_iff_ne]; exact hz
      clear hb hl g0 g1 hz
      go_enter Try.func21, Try.ntmps21
      go_wp2_with fail
      refine (IsGraph_c (g : Int) gA gn gc ps _ HA.out).mono ?_
      rintro e w1 ⟨rfl, hx⟩
      rw [q]
      have d0 := hx.cell (cell_new w #[.int .i64 (g : Int), .slice gA gn gc] 28 0 _ rfl)
      have d1 := hx.cell (cell_new w #[.int .i64 (g : Int), .slice gA gn gc] 28 1 _ rfl)
      have HX := Lib.hid hx
      clear hx
      go_wp2_with fail
      refine (folds_c g gn gc gA ps _ (HA.out.ext HX.out) hg8 hgood).mono ?_
      rintro e w2 ⟨A, c, rfl, ho, hx2⟩
      have HO := Lib.hid ho; have HX2 := Lib.hid hx2
      clear ho hx2 d0 d1
      go_wp2
      go_ret2
      exact ⟨A, c, rfl, own_mono HO.out (HE.out.trans HX.out).size, (HE.out.trans HX.out).trans HX2.out⟩

set_option maxHeartbeats 1000000 in
theorem CanFoldI_c (sz : Int) (gn gc : Nat) (gA : Option Addr) (ps : List (Int × Int)) (w : World) (h : SlP w gA gn ps) :
    Calls Try.prog 19 #[.agg #[.int .i64 sz, .slice gA gn gc]] w fun e w' =>
      e = .returned (.tuple #[.bool (ordB sz ps && (((ordL sz ps).length : Int) == sz - 1)), .bool (ordB sz ps)]) ∧ Ext w w' := by
  have hE := (Ext.refl w).alloc (.cells #[.int .i64 sz, .slice gA gn gc] 28)
  have HA := Lib.hid (h.ext hE)
  have HE := Lib.hid hE
  clear hE h
  cases q : ordB sz ps with
  | false =>
    go_enter Try.func19, Try.ntmps19
    go_wp2_with fail
    refine (FoldOrderI_c sz gn gc gA ps _ HA.out).mono ?_
    rintro e w1 ⟨A, c, rfl, ho, hx⟩
    rw [q]
    have HX := Lib.hid hx
    clear ho hx
    go_wp2
    go_ret2
    exact ⟨rfl, HE.out.trans HX.out⟩
  | true =>
    have hr : 0 ≤ sz ∧ sz ≤ 8 := by
      simp only [ordB, Bool.and_eq_true] at q
      exact goodG_range q.1
    have hw : IntKind.i64.wrap (sz - 1) = sz - 1 := IntWalk.i64_in _ (by omega)
    go_enter Try.func19, Try.ntmps19
    go_wp2_with fail
    refine (FoldOrderI_c sz gn gc gA ps _ HA.out).mono ?_
    rintro e w1 ⟨A, c, rfl, ho, hx⟩
    rw [q]
    have d0 := hx.cell (cell_new w #[.int .i64 sz, .slice gA gn gc] 28 0 _ rfl)
    have HX := Lib.hid hx
    clear ho hx
    go_wp2
    go_ret2
    exact ⟨rfl, HE.out.trans HX.out⟩
end Go.Proofs.Ytkfbkflneppggaa
