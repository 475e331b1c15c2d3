/-
  The law FnExactFoldOrder: it answers true where the program's function and the reference's answer alike. Conditions: these contracts.
-/
import Derived.Test.YtkfbkflneppggaaTg
import Derived.BigQuiet
import Derived.Deep.RegionHeld3
namespace Go.Proofs.Ytkfbkflneppggaa
open Go.RowKit
set_option linter.unusedVariables false
set_option linter.unusedSimpArgs false

set_option maxHeartbeats 4000000 in
theorem LawFoldOrder_c (d0 : GrD) (a0 : SlA) (v0 : List (Int × Int)) (v1 : Bool) (w : World) (h0 : RdG w a0 d0)
    (hS : (∀ (a0 : SlA) (w : World), RdG w a0 d0 → Calls Try.prog 20 #[.agg #[.int .i64 d0.sz, .slice a0.A d0.ps.length a0.c]] w fun e w' => ∃ r : SlA, e = .returned (.tuple #[.slice r.A v0.length r.c, .bool v1]) ∧ RdP w' r v0 ∧ Ext w w'))
    (hI : (∀ (a0 : SlA) (w : World), RdG w a0 d0 → Calls Try.prog 21 #[.agg #[.int .i64 d0.sz, .slice a0.A d0.ps.length a0.c]] w fun e w' => ∃ r : SlA, e = .returned (.tuple #[.slice r.A v0.length r.c, .bool v1]) ∧ OwP w' w.heap.size w'.heap.size r v0 ∧ Ext w w')) (hv : BdP v0) :
    Calls Try.prog 5 #[.agg #[.int .i64 d0.sz, .slice a0.A d0.ps.length a0.c]] w fun e w' => e = .returned (.bool true) ∧ Ext w w' := by
  have hE : Ext w ((w).alloc (.cells #[.int .i64 d0.sz, .slice a0.A d0.ps.length a0.c] 24)) := (Ext.refl w).alloc _
  have c := cell_new (w) #[.int .i64 d0.sz, .slice a0.A d0.ps.length a0.c] 24 0 _ rfl
  have C1 := Lib.hid c; clear c
  have c := cell_new (w) #[.int .i64 d0.sz, .slice a0.A d0.ps.length a0.c] 24 1 _ rfl
  have C2 := Lib.hid c; clear c
  have H0 := Lib.hid (h0.ext hE); clear h0
  have HE := Lib.hid hE; clear hE
  have KS := Lib.hid hS; have KI := Lib.hid hI; clear hS hI
  have HV := Lib.hid hv; have HC := Lib.hid (cntP_le hv); clear hv
  have EW := Lib.hid (Ext.refl ((w).alloc (.cells #[.int .i64 d0.sz, .slice a0.A d0.ps.length a0.c] 24)))
  have hq1 : (v1 != v1) = false := by simp
  obtain ⟨l0, hl0⟩ : ∃ l, l = leftG 1048576 d0 := ⟨_, rfl⟩
  have HL0 := Lib.hid hl0.symm
  have hle0 := @leftG_le 1048576 d0
  rw [← hl0] at hle0
  by_cases n0 : l0 < 0
  · clear hl0 hle0
    go_enter Try.func5, Try.ntmps5
    have f3 := (EW.out).cell C1.out
    have f4 := (EW.out).cell C2.out
    go_wp2_with fail
    refine (szG_t d0 a0 1048576 _ (H0.out.ext EW.out) (by omega) (by omega)).mono ?_
    rintro e w5 ⟨rfl, hx⟩
    rw [HL0.out]
    have E6 := Lib.hid ((EW.out).trans hx)
    have N7 := Lib.hid (Ext.size hx)
    clear hx f3 f4
    go_wp2
    go_ret
    exact ⟨rfl, HE.out.trans E6.out⟩
  have LB0 := Lib.hid (show 0 ≤ l0 ∧ l0 ≤ 1048576 by omega)
  have HB0 := Lib.hid ((leftG_ok (hl0 ▸ n0)).resolve_right (by omega))
  have m0 : decide (l0 < 0) = false := by simp; omega
  clear hl0 hle0 n0
  go_enter Try.func5, Try.ntmps5
  have f8 := (EW.out).cell C1.out
  have f9 := (EW.out).cell C2.out
  go_wp2_with fail
  refine (szG_t d0 a0 1048576 _ (H0.out.ext EW.out) (by omega) (by omega)).mono ?_
  rintro e w10 ⟨rfl, hx⟩
  rw [HL0.out]
  have E11 := Lib.hid ((EW.out).trans hx)
  have N12 := Lib.hid (Ext.size hx)
  clear hx f8 f9
  have f15 := (E11.out).cell C1.out
  have f16 := (E11.out).cell C2.out
  go_wp2_with fail
  refine (toG_t d0 a0 _ (H0.out.ext E11.out) HB0.out).mono ?_
  rintro e w18 ⟨b17, rfl, ho, hx⟩
  have O19 := Lib.hid ho
  have E20 := Lib.hid ((E11.out).trans hx)
  have N21 := Lib.hid (Ext.size hx)
  clear ho hx f15 f16
  have E22 := Lib.hid (Ext.refl (w18))
  go_wp2_with fail
  refine (KS.out b17 _ (O19.out.rd.ext E22.out)).mono ?_
  rintro e w14 ⟨r13, rfl, ho, hx⟩
  have O23 := Lib.hid ho
  have E24 := Lib.hid ((E20.out).trans hx)
  have E25 := Lib.hid ((E22.out).trans hx)
  have N26 := Lib.hid (Ext.size hx)
  clear hx ho
  have E27 := Lib.hid (Ext.refl (w14))
  have f28 := (E24.out).cell C1.out
  have f29 := (E24.out).cell C2.out
  go_wp2_with fail
  refine (toG_t d0 a0 _ (H0.out.ext E24.out) HB0.out).mono ?_
  rintro e w31 ⟨x30, rfl, ho, hx⟩
  have O32 := Lib.hid ho
  have E33 := Lib.hid ((E24.out).trans hx)
  have E34 := Lib.hid ((E25.out).trans hx)
  have E35 := Lib.hid ((E27.out).trans hx)
  have N36 := Lib.hid (Ext.size hx)
  clear ho hx f28 f29
  have E37 := Lib.hid (Ext.refl (w31))
  have C38 := Lib.hid (cell_new (w31) #[.int .i64 d0.sz, .slice x30.A d0.ps.length x30.c] 28 0 _ rfl)
  have C39 := Lib.hid (cell_new (w31) #[.int .i64 d0.sz, .slice x30.A d0.ps.length x30.c] 28 1 _ rfl)
  have E40 := Lib.hid ((E33.out).alloc (.cells #[.int .i64 d0.sz, .slice x30.A d0.ps.length x30.c] 28))
  have E41 := Lib.hid ((E34.out).alloc (.cells #[.int .i64 d0.sz, .slice x30.A d0.ps.length x30.c] 28))
  have E42 := Lib.hid ((E35.out).alloc (.cells #[.int .i64 d0.sz, .slice x30.A d0.ps.length x30.c] 28))
  have E43 := Lib.hid ((E37.out).alloc (.cells #[.int .i64 d0.sz, .slice x30.A d0.ps.length x30.c] 28))
  have N44 := Lib.hid (alloc_size (w31) (.cells #[.int .i64 d0.sz, .slice x30.A d0.ps.length x30.c] 28))
  have E45 := Lib.hid (Ext.refl ((w31).alloc (.cells #[.int .i64 d0.sz, .slice x30.A d0.ps.length x30.c] 28)))
  have f46 := (E45.out).cell C38.out
  have f47 := (E45.out).cell C39.out
  go_wp2_with fail
  refine (KI.out x30 _ (O32.out.rd.ext E43.out)).mono ?_
  rintro e w49 ⟨r48, rfl, ho, hx⟩
  have O50 := Lib.hid ho
  have E51 := Lib.hid ((E40.out).trans hx)
  have E52 := Lib.hid ((E41.out).trans hx)
  have E53 := Lib.hid ((E42.out).trans hx)
  have E54 := Lib.hid ((E43.out).trans hx)
  have E55 := Lib.hid ((E45.out).trans hx)
  have N56 := Lib.hid (Ext.size hx)
  clear hx ho f46 f47
  have E57 := Lib.hid (Ext.refl (w49))
  go_wp2_with fail
  refine (eqP_t v0 r48 r13 _ (O50.out.rd.ext E57.out) (O23.out.ext E53.out)).mono ?_
  rintro e w58 ⟨rfl, hx⟩
  have E59 := Lib.hid ((E51.out).trans hx)
  have E60 := Lib.hid ((E52.out).trans hx)
  have E61 := Lib.hid ((E53.out).trans hx)
  have E62 := Lib.hid ((E54.out).trans hx)
  have E63 := Lib.hid ((E55.out).trans hx)
  have E64 := Lib.hid ((E57.out).trans hx)
  have N65 := Lib.hid (Ext.size hx)
  clear hx
  have f66 := fun w' (e : Ext (w58) w') => e.cell ((E63.out).cell C38.out)
  have f67 := fun w' (e : Ext (w58) w') => e.cell ((E63.out).cell C39.out)
  have f68 := fun w' (e : Ext (w58) w') => e.cell ((E59.out).cell C1.out)
  have f69 := fun w' (e : Ext (w58) w') => e.cell ((E59.out).cell C2.out)
  go_wp2_with fail
  go_region_held3 (fun w' => Ext (w58) w')
    (first
      | exact (Ext.refl _).drew
      | assumption
      | exact Ext.trans (by assumption) hy1)
    (first
      | ((fail_if_success (have _h1 := ho1)); go_at_call 15; refine (toG_t d0 a0 _ ((H0.out.ext E59.out).ext (by assumption)) HB0.out).mono ?_; rintro e ww ⟨A1, rfl, ho1, hy1⟩; have hz1 := Ext.trans (a := w58) (by assumption) hy1)
      | (have _h1 := ho1; go_at_call 17; refine (eqG_t d0 x30 A1 _ ((O32.out.rd.ext E62.out).ext hz1) ho1.rd).mono ?_; rintro e w70 ⟨rfl, hy1⟩))
  have hx : Ext (w58) w70 := by assumption
  have E71 := Lib.hid ((E59.out).trans hx)
  have E72 := Lib.hid ((E60.out).trans hx)
  have E73 := Lib.hid ((E61.out).trans hx)
  have E74 := Lib.hid ((E62.out).trans hx)
  have E75 := Lib.hid ((E63.out).trans hx)
  have E76 := Lib.hid ((E64.out).trans hx)
  have N77 := Lib.hid (Ext.size hx)
  clear hx ho1 hz1 f66 f67 f68 f69
  have O78 := Lib.hid (O32.out.ext E74.out)
  have C79 := Lib.hid ((E75.out).cell C38.out)
  have C80 := Lib.hid ((E75.out).cell C39.out)
  have O81 := Lib.hid (O50.out.ext E76.out)
  have E82 := Lib.hid (Ext.refl (w70))
  have f83 := (E82.out).cell C79.out
  have f84 := (E82.out).cell C80.out
  go_wp2_with fail
  refine (markG_t d0 x30 _ _ (1) _ (O78.out.ext E82.out) HB0.out (by omega) (by omega)).mono ?_
  rintro e w85 ⟨rfl, ho, hch⟩
  have E86 := Lib.hid (hch.ext E71.out (fun k h => by (try simp only [alloc_size] at h); have n12q := N12.out; have n21q := N21.out; have n26q := N26.out; have n36q := N36.out; have n44q := N44.out; have n56q := N56.out; have n65q := N65.out; have n77q := N77.out; (try simp only [alloc_size] at *); omega))
  have E87 := Lib.hid (hch.ext E73.out (fun k h => by (try simp only [alloc_size] at h); have n12q := N12.out; have n21q := N21.out; have n26q := N26.out; have n36q := N36.out; have n44q := N44.out; have n56q := N56.out; have n65q := N65.out; have n77q := N77.out; (try simp only [alloc_size] at *); omega))
  have O88 := Lib.hid ((O81.out.ext E82.out).chg hch (fun k h1 h2 h => by (try simp only [alloc_size] at h h1 h2); have n12q := N12.out; have n21q := N21.out; have n26q := N26.out; have n36q := N36.out; have n44q := N44.out; have n56q := N56.out; have n65q := N65.out; have n77q := N77.out; (try simp only [alloc_size] at *); omega))
  have N89 := Lib.hid hch.size
  have E90 := Lib.hid (Ext.refl (w85))
  clear ho hch f83 f84
  have mk : decide (1 + cntG d0 < 0) = false := by have c0 := (cntG_le HB0.out); rw [decide_eq_false_iff_not]; omega
  go_wp2_with fail
  refine (eqP_t v0 r48 r13 _ (O88.out.rd.ext E90.out) (O23.out.ext E87.out)).mono ?_
  rintro e w91 ⟨rfl, hx⟩
  have E92 := Lib.hid ((E86.out).trans hx)
  have E93 := Lib.hid ((E87.out).trans hx)
  have E94 := Lib.hid ((E90.out).trans hx)
  have N95 := Lib.hid (Ext.size hx)
  clear hx
  clear mk
  go_wp2_with fail
  refine (markP_t v0 r48 _ _ 1 _ (O88.out.ext E94.out) HV.out (by omega) (by omega)).mono ?_
  rintro e w96 ⟨rfl, ho, hch⟩
  have E97 := Lib.hid (hch.ext E92.out (fun k h => by (try simp only [alloc_size] at h); have n12q := N12.out; have n21q := N21.out; have n26q := N26.out; have n36q := N36.out; have n44q := N44.out; have n56q := N56.out; have n65q := N65.out; have n77q := N77.out; have n89q := N89.out; have n95q := N95.out; (try simp only [alloc_size] at *); omega))
  have E98 := Lib.hid (hch.ext E93.out (fun k h => by (try simp only [alloc_size] at h); have n12q := N12.out; have n21q := N21.out; have n26q := N26.out; have n36q := N36.out; have n44q := N44.out; have n56q := N56.out; have n65q := N65.out; have n77q := N77.out; have n89q := N89.out; have n95q := N95.out; (try simp only [alloc_size] at *); omega))
  have N99 := Lib.hid hch.size
  have E100 := Lib.hid (Ext.refl (w96))
  have O101 := Lib.hid ho; clear ho hch
  have E102 := Lib.hid (Ext.refl (w96))
  go_wp2_with fail
  refine (heldP_t v0 r48 1 _ (O101.out.rd.ext E102.out) HV.out (by omega) (by omega)).mono ?_
  rintro e w103 ⟨rfl, hx⟩
  have E104 := Lib.hid ((E97.out).trans hx)
  have E105 := Lib.hid ((E98.out).trans hx)
  have E106 := Lib.hid ((E102.out).trans hx)
  have N107 := Lib.hid (Ext.size hx)
  clear hx
  have mq : decide (1 + cntP v0 < 0) = false := by have := HC.out; rw [decide_eq_false_iff_not]; omega
  have mr : ((1 + cntP v0) != (1 + cntP v0)) = false := by simp
  have f110 := (E104.out).cell C1.out
  have f111 := (E104.out).cell C2.out
  go_wp2_with fail
  refine (toG_t d0 a0 _ (H0.out.ext E104.out) HB0.out).mono ?_
  rintro e w113 ⟨b112, rfl, ho, hx⟩
  have O114 := Lib.hid ho
  have E115 := Lib.hid ((E104.out).trans hx)
  have E116 := Lib.hid ((E105.out).trans hx)
  have E117 := Lib.hid ((E106.out).trans hx)
  have N118 := Lib.hid (Ext.size hx)
  clear ho hx f110 f111
  have E119 := Lib.hid (Ext.refl (w113))
  go_wp2_with fail
  refine (KI.out b112 _ (O114.out.rd.ext E119.out)).mono ?_
  rintro e w109 ⟨r108, rfl, ho, hx⟩
  have O120 := Lib.hid ho
  have E121 := Lib.hid ((E115.out).trans hx)
  have E122 := Lib.hid ((E116.out).trans hx)
  have E123 := Lib.hid ((E117.out).trans hx)
  have E124 := Lib.hid ((E119.out).trans hx)
  have N125 := Lib.hid (Ext.size hx)
  clear hx ho
  have E126 := Lib.hid (Ext.refl (w109))
  go_wp2_with fail
  refine (eqP_t v0 r108 r13 _ (O120.out.rd.ext E126.out) (O23.out.ext E122.out)).mono ?_
  rintro e w127 ⟨rfl, hx⟩
  have E128 := Lib.hid ((E121.out).trans hx)
  have E129 := Lib.hid ((E122.out).trans hx)
  have E130 := Lib.hid ((E123.out).trans hx)
  have E131 := Lib.hid ((E124.out).trans hx)
  have E132 := Lib.hid ((E126.out).trans hx)
  have N133 := Lib.hid (Ext.size hx)
  clear hx
  go_wp2_with fail
  refine (heldP_t v0 r48 1 _ (O101.out.rd.ext E130.out) HV.out (by omega) (by omega)).mono ?_
  rintro e w134 ⟨rfl, hx⟩
  have E135 := Lib.hid ((E128.out).trans hx)
  have E136 := Lib.hid ((E129.out).trans hx)
  have E137 := Lib.hid ((E130.out).trans hx)
  have E138 := Lib.hid ((E131.out).trans hx)
  have E139 := Lib.hid ((E132.out).trans hx)
  have N140 := Lib.hid (Ext.size hx)
  clear hx
  go_wp2
  go_ret
  exact ⟨rfl, HE.out.trans E135.out⟩
end Go.Proofs.Ytkfbkflneppggaa
