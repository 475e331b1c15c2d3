/-
  The law FnExactCountMaps: it answers true. Conditions: none beyond the slices' readings.
-/
import Derived.Test.YtkfbkflneppggaaSd
import Derived.Test.YtkfbkflneppggaaMb
import Derived.Test.YtkfbkflneppggaaLa
namespace Go.Proofs.Ytkfbkflneppggaa
open Go.RowKit
set_option linter.unusedVariables false
set_option linter.unusedSimpArgs false

theorem count_same (gs : Int) (gps : List (Int × Int)) (hs : Int) (hps : List (Int × Int)) (lz : Bool) :
    (if goodM gs gps hs hps then ((allM hs.toNat (okB gps hps gs.toNat lz) gs.toNat []).length : Int) else 0) = countS gs gps hs hps lz := by
  unfold countS
  cases q : goodM gs gps hs hps with
  | false => rfl
  | true =>
    have hr := goodM_range q
    have hg : goodP gps (gs.toNat : Int) = true := by
      rw [Int.toNat_of_nonneg hr.1.1]
      simp only [goodM, goodG, Bool.and_eq_true] at q
      exact q.1.1.2
    have hh : goodP hps hs = true := by
      simp only [goodM, goodG, Bool.and_eq_true] at q
      exact q.1.2.2
    rw [if_pos rfl, if_pos rfl, allM_congr (fun pre v hp => ok_same hg hh lz pre v hp) gs.toNat [] (by simp)]

theorem own_slp {w : World} {base n c : Nat} {A : Option Addr} {e : TypeId} {xs : List (Int × Int)} (h : w.ownsRow base e 2 (.slice A n c) n (prs xs)) : SlP w A n xs := by
  obtain ⟨A', c', hv, hs⟩ := own_sl h
  obtain ⟨rfl, _⟩ : A = A' ∧ c = c' := by injection hv with h1 h2 h3; exact ⟨h1, h3⟩
  exact hs

set_option maxHeartbeats 2000000 in
theorem FnCountMaps_c (gs hs : Int) (gn gc hn hc : Nat) (gA hA : Option Addr) (lz : Bool) (gps hps : List (Int × Int)) (w : World) (hgp : SlP w gA gn gps) (hhp : SlP w hA hn hps) (bg : gn ≤ 9223372036854775807) (bh : hn ≤ 9223372036854775807) :
    Calls Try.prog 3 #[.agg #[.int .i64 gs, .slice gA gn gc], .agg #[.int .i64 hs, .slice hA hn hc], .bool lz] w fun e w' => e = .returned (.bool true) ∧ Ext w w' := by
  have hE := ((Ext.refl w).alloc (.cells #[.int .i64 gs, .slice gA gn gc] 24)).alloc (.cells #[.int .i64 hs, .slice hA hn hc] 24)
  have c1 := cell_old (.cells #[.int .i64 hs, .slice hA hn hc] 24) (cell_new w #[.int .i64 gs, .slice gA gn gc] 24 0 _ rfl)
  have c1' := cell_old (.cells #[.int .i64 hs, .slice hA hn hc] 24) (cell_new w #[.int .i64 gs, .slice gA gn gc] 24 1 _ rfl)
  have c2 := cell_new (w.alloc (.cells #[.int .i64 gs, .slice gA gn gc] 24)) #[.int .i64 hs, .slice hA hn hc] 24 0 _ rfl
  have c2' := cell_new (w.alloc (.cells #[.int .i64 gs, .slice gA gn gc] 24)) #[.int .i64 hs, .slice hA hn hc] 24 1 _ rfl
  simp only [alloc_size] at c2 c2'
  have C1 := Lib.hid c1; have C1' := Lib.hid c1'; have C2 := Lib.hid c2; have C2' := Lib.hid c2'
  have HA := Lib.hid (hgp.ext hE)
  have HB := Lib.hid (hhp.ext hE)
  have HE := Lib.hid hE
  clear hE hgp hhp c1 c1' c2 c2'
  have HN1 := Lib.hid (show leftOf 1048576 gn = if (1048576 : Int) < gn then -1 else 1048576 - (gn : Int) from rfl)
  by_cases hg : (1048576 : Int) < gn
  · rw [if_pos hg] at HN1
    clear hg
    go_enter Try.func3, Try.ntmps3
    go_wp2_with fail
    refine (szGraph_c gs gA gn gc 1048576 _ bg (by omega) (by omega)).mono ?_
    rintro e w1 ⟨rfl, hx⟩
    rw [HN1.out]
    go_wp2
    go_ret
    exact ⟨rfl, HE.out.trans hx⟩
  rw [if_neg hg] at HN1
  have HN2 := Lib.hid (show leftOf (1048576 - (gn : Int)) hn = if (1048576 - (gn : Int)) < hn then -1 else (1048576 - (gn : Int)) - (hn : Int) from rfl)
  have t1 : decide ((1048576 - (gn : Int)) < 0) = false := by simp; omega
  by_cases hh : (1048576 - (gn : Int)) < hn
  · rw [if_pos hh] at HN2
    clear hh
    go_enter Try.func3, Try.ntmps3
    go_wp2_with fail
    refine (szGraph_c gs gA gn gc 1048576 _ bg (by omega) (by omega)).mono ?_
    rintro e w1 ⟨rfl, hx⟩
    rw [HN1.out]
    have d2 := hx.cell C2.out
    have d2' := hx.cell C2'.out
    have Hx := Lib.hid hx; clear hx
    go_wp2_with fail
    refine (szGraph_c hs hA hn hc (1048576 - (gn : Int)) _ bh (by omega) (by omega)).mono ?_
    rintro e w2 ⟨rfl, hy⟩
    rw [HN2.out]
    clear d2 d2'
    go_wp2
    go_ret
    exact ⟨rfl, HE.out.trans (Hx.out.trans hy)⟩
  rw [if_neg hh] at HN2
  have t2 : decide ((1048576 - (gn : Int)) - (hn : Int) < 0) = false := by simp; omega
  have hg20 : gn ≤ 1048576 := by omega
  have hh20 : hn ≤ 1048576 := by omega
  have HG0 := Lib.hid hg; have HH0 := Lib.hid hh; clear hg hh
  go_enter Try.func3, Try.ntmps3
  go_wp2_with fail
  refine (szGraph_c gs gA gn gc 1048576 _ bg (by omega) (by omega)).mono ?_
  rintro e w1 ⟨rfl, hx⟩
  rw [HN1.out]
  have d2 := hx.cell C2.out
  have d2' := hx.cell C2'.out
  have Hx := Lib.hid hx; clear hx
  go_wp2_with fail
  refine (szGraph_c hs hA hn hc (1048576 - (gn : Int)) _ bh (by have := HG0.out; omega) (by omega)).mono ?_
  rintro e w2 ⟨rfl, hy⟩
  rw [HN2.out]
  clear d2 d2'
  have Hy := Lib.hid (Hx.out.trans hy); clear hy Hx
  have e1 := fun w' (e : Ext w2 w') => e.cell (Hy.out.cell C1.out)
  have e1' := fun w' (e : Ext w2 w') => e.cell (Hy.out.cell C1'.out)
  have e2 := fun w' (e : Ext w2 w') => e.cell (Hy.out.cell C2.out)
  have e2' := fun w' (e : Ext w2 w') => e.cell (Hy.out.cell C2'.out)
  have HA2 := Lib.hid (HA.out.ext Hy.out)
  have HB2 := Lib.hid (HB.out.ext Hy.out)
  go_wp2_with fail
  go_region_held3 (fun w' => Ext w2 w')
    (first
      | exact (Ext.refl _).drew
      | assumption
      | exact Ext.trans (by assumption) hy1)
    (first
      | ((fail_if_success (have _h1 := ho1)); go_at_call 15; refine (toGraph_c gs gA gn gc gps _ (HA2.out.ext (by assumption)) hg20).mono ?_; rintro e w3 ⟨A1, cc1, rfl, ho1, hy1⟩; have hz1 := hy1)
      | (have _h1 := ho1; (fail_if_success (have _h1 := ho2)); go_at_call 15; refine (toGraph_c hs hA hn hc hps _ (HB2.out.ext (by assumption)) hh20).mono ?_; rintro e w3 ⟨A2, cc2, rfl, ho2, hy1⟩; have hz2 := hy1)
      | (have _h1 := ho2; go_at_call 14; refine (CountS_c gs hs gn _ hn _ _ _ lz gps hps _ (by first | exact own_slp ho1 | exact (own_slp ho1).ext hz2) (by first | exact own_slp ho2 | exact (own_slp ho2).ext hz1)).mono ?_; rintro e w3 ⟨rfl, hy1⟩))
  have HW3 := Lib.hid (show Ext w2 w3 from by assumption)
  clear e1 e1' e2 e2' ho1 ho2 hz1 hz2
  have f1 := HW3.out.cell (Hy.out.cell C1.out)
  have f1' := HW3.out.cell (Hy.out.cell C1'.out)
  go_wp2_with fail
  refine (toGraph_c gs gA gn gc gps _ (HA2.out.ext HW3.out) hg20).mono ?_
  rintro e w4 ⟨A4, c4, rfl, ho4, hx4⟩
  have HO4 := Lib.hid ho4; have HX4 := Lib.hid hx4
  have f2 := cell_old (.cells #[.int .i64 gs, .slice A4 gn c4] 28) (hx4.cell (HW3.out.cell (Hy.out.cell C2.out)))
  have f2' := cell_old (.cells #[.int .i64 gs, .slice A4 gn c4] 28) (hx4.cell (HW3.out.cell (Hy.out.cell C2'.out)))
  clear ho4 hx4 f1 f1'
  go_wp2_with fail
  refine (toGraph_c hs hA hn hc hps _ (((HB2.out.ext HW3.out).ext HX4.out).ext ((Ext.refl w4).alloc _)) hh20).mono ?_
  rintro e w5 ⟨A5, c5, rfl, ho5, hx5⟩
  clear f2 f2'
  have HX5 := Lib.hid (((Ext.refl w4).alloc _).trans hx5)
  have G1 := Lib.hid (own_slp (own_ext HO4.out HX5.out))
  have G2 := Lib.hid (own_slp ho5)
  have h1 := cell_old (.cells #[.int .i64 hs, .slice A5 hn c5] 28) (hx5.cell (cell_new w4 #[.int .i64 gs, .slice A4 gn c4] 28 0 _ rfl))
  have h1' := cell_old (.cells #[.int .i64 hs, .slice A5 hn c5] 28) (hx5.cell (cell_new w4 #[.int .i64 gs, .slice A4 gn c4] 28 1 _ rfl))
  have h2 := cell_new w5 #[.int .i64 hs, .slice A5 hn c5] 28 0 _ rfl
  have h2' := cell_new w5 #[.int .i64 hs, .slice A5 hn c5] 28 1 _ rfl
  have K1 := Lib.hid h1; have K1' := Lib.hid h1'; have K2 := Lib.hid h2; have K2' := Lib.hid h2'
  clear ho5 hx5
  go_wp2_with fail
  refine (CountMaps_c gs hs gn c4 hn c5 A4 A5 lz gps hps _ (G1.out.ext ((Ext.refl w5).alloc _)) (G2.out.ext ((Ext.refl w5).alloc _))).mono ?_
  rintro e w6 ⟨rfl, hx6⟩
  clear h1 h1' h2 h2'
  rw [count_same]
  have HX6 := Lib.hid (((((Hy.out.trans HW3.out).trans HX4.out).trans HX5.out).trans ((Ext.refl w5).alloc _)).trans hx6)
  have L1 := Lib.hid (hx6.cell K1.out); have L1' := Lib.hid (hx6.cell K1'.out); have L2 := Lib.hid (hx6.cell K2.out); have L2' := Lib.hid (hx6.cell K2'.out)
  have G1' := Lib.hid ((G1.out.ext ((Ext.refl w5).alloc _)).ext hx6)
  have G2' := Lib.hid ((G2.out.ext ((Ext.refl w5).alloc _)).ext hx6)
  clear hx6
  have q1 : (countS gs gps hs hps lz != countS gs gps hs hps lz) = false := by simp
  have q2 : (goodM gs gps hs hps != goodM gs gps hs hps) = false := by simp
  have l1 := fun w' (e : Ext w6 w') => e.cell L1.out
  have l1' := fun w' (e : Ext w6 w') => e.cell L1'.out
  have l2 := fun w' (e : Ext w6 w') => e.cell (HX6.out.cell C1.out)
  have l2' := fun w' (e : Ext w6 w') => e.cell (HX6.out.cell C1'.out)
  go_wp2_with fail
  go_region_held3 (fun w' => Ext w6 w')
    (first
      | exact (Ext.refl _).drew
      | assumption
      | exact Ext.trans (by assumption) hy1)
    (first
      | ((fail_if_success (have _h1 := ho1)); go_at_call 15; refine (toGraph_c gs gA gn gc gps _ ((HA.out.ext HX6.out).ext (by assumption)) hg20).mono ?_; rintro e w7 ⟨A1, cc1, rfl, ho1, hy1⟩; have hz1 := Ext.trans (a := w6) (by assumption) hy1)
      | (have _h1 := ho1; go_at_call 17; refine (eqGraph_c gs A4 A1 gn c4 cc1 gps _ (G1'.out.ext hz1) (own_slp ho1)).mono ?_; rintro e w7 ⟨rfl, hy1⟩))
  have HW7 := Lib.hid (show Ext w6 w7 from by assumption)
  clear l1 l1' l2 l2' ho1 hz1
  have l1 := fun w' (e : Ext w7 w') => e.cell (HW7.out.cell L2.out)
  have l1' := fun w' (e : Ext w7 w') => e.cell (HW7.out.cell L2'.out)
  have l2 := fun w' (e : Ext w7 w') => e.cell (HW7.out.cell (HX6.out.cell C2.out))
  have l2' := fun w' (e : Ext w7 w') => e.cell (HW7.out.cell (HX6.out.cell C2'.out))
  go_wp2_with fail
  go_region_held3 (fun w' => Ext w7 w')
    (first
      | exact (Ext.refl _).drew
      | assumption
      | exact Ext.trans (by assumption) hy1)
    (first
      | ((fail_if_success (have _h1 := ho1)); go_at_call 15; refine (toGraph_c hs hA hn hc hps _ (((HB.out.ext HX6.out).ext HW7.out).ext (by assumption)) hh20).mono ?_; rintro e w8 ⟨A1, cc1, rfl, ho1, hy1⟩; have hz1 := Ext.trans (a := w7) (by assumption) hy1)
      | (have _h1 := ho1; go_at_call 17; refine (eqGraph_c hs A5 A1 hn c5 cc1 hps _ ((G2'.out.ext HW7.out).ext hz1) (own_slp ho1)).mono ?_; rintro e w8 ⟨rfl, hy1⟩))
  have HW8 := Lib.hid (show Ext w7 w8 from by assumption)
  go_wp2
  go_ret
  exact ⟨rfl, HE.out.trans ((HX6.out.trans HW7.out).trans HW8.out)⟩
end Go.Proofs.Ytkfbkflneppggaa
