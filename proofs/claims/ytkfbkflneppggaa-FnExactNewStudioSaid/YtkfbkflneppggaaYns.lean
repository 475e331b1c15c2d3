/-
  The law FnExactNewStudio: it answers true where the program's function and the reference's answer alike. Conditions: these contracts.
-/
import Derived.Test.YtkfbkflneppggaaTu
import Derived.BigQuiet
import Derived.Deep.RegionHeld3
namespace Go.Proofs.Ytkfbkflneppggaa
open Go.RowKit
set_option linter.unusedVariables false
set_option linter.unusedSimpArgs false

set_option maxHeartbeats 4000000 in
theorem LawNewStudio_c (d0 : GrD) (d1 : Int) (a0 : SlA) (v0 : StD) (v1 : Bool) (w : World) (h0 : RdG w a0 d0)
    (hS : (∀ (a0 : SlA) (w : World), RdG w a0 d0 → BdG d0 → Calls Try.prog 48 #[.agg #[.int .i64 d0.sz, .slice a0.A d0.ps.length a0.c], .int .i64 d1] w fun e w' => ∃ r : StA, e = .returned (.tuple #[.agg #[.int .i64 v0.g.sz, .slice r.g.A v0.g.ps.length r.g.c, .int .i64 v0.kinds, .slice r.tok.A v0.tok.length r.tok.c, .slice r.col.A v0.col.length r.col.c, .slice r.brd.A v0.brd.length r.brd.c, .int .i64 v0.count], .bool v1]) ∧ RdU w' r v0 ∧ Ext w w'))
    (hI : (∀ (a0 : SlA) (w : World), RdG w a0 d0 → BdG d0 → Calls Try.prog 49 #[.agg #[.int .i64 d0.sz, .slice a0.A d0.ps.length a0.c], .int .i64 d1] w fun e w' => ∃ r : StA, e = .returned (.tuple #[.agg #[.int .i64 v0.g.sz, .slice r.g.A v0.g.ps.length r.g.c, .int .i64 v0.kinds, .slice r.tok.A v0.tok.length r.tok.c, .slice r.col.A v0.col.length r.col.c, .slice r.brd.A v0.brd.length r.brd.c, .int .i64 v0.count], .bool v1]) ∧ OwU w' w.heap.size w'.heap.size r v0 ∧ Ext w w')) (hv : BdG d0 → BdU v0) :
    Calls Try.prog 11 #[.agg #[.int .i64 d0.sz, .slice a0.A d0.ps.length a0.c], .int .i64 d1] w fun e w' => e = .returned (.bool true) ∧ Ext w w' := by
  have hE : Ext w ((w).alloc (.cells #[.int .i64 d0.sz, .slice a0.A d0.ps.length a0.c] 24)) := (Ext.refl w).alloc _
  have c := cell_new (w) #[.int .i64 d0.sz, .slice a0.A d0.ps.length a0.c] 24 0 _ rfl
  have C1 := Lib.hid c; clear c
  have c := cell_new (w) #[.int .i64 d0.sz, .slice a0.A d0.ps.length a0.c] 24 1 _ rfl
  have C2 := Lib.hid c; clear c
  have H0 := Lib.hid (h0.ext hE); clear h0
  have HE := Lib.hid hE; clear hE
  have KS := Lib.hid hS; have KI := Lib.hid hI; clear hS hI
  have HVV := Lib.hid hv; clear hv
  have EW := Lib.hid (Ext.refl ((w).alloc (.cells #[.int .i64 d0.sz, .slice a0.A d0.ps.length a0.c] 24)))
  have hq1 : (v1 != v1) = false := by simp
  obtain ⟨l0, hl0⟩ : ∃ l, l = leftG 1048576 d0 := ⟨_, rfl⟩
  have HL0 := Lib.hid hl0.symm
  have hle0 := @leftG_le 1048576 d0
  rw [← hl0] at hle0
  by_cases n0 : l0 < 0
  · clear hl0 hle0
    go_enter Try.func11, Try.ntmps11
    have f3 := (EW.out).cell C1.out
    have f4 := (EW.out).cell C2.out
    go_wp2_with fail
    refine (szG_t d0 a0 1048576 _ (H0.out.ext EW.out) (by omega) (by omega)).mono ?_
    rintro e w5 ⟨rfl, hx⟩
    rw [HL0.out]
    have E6 := Lib.hid ((EW.out).trans hx)
    have N7 := Lib.hid (Ext.size hx)
    clear hx f3 f4
    go_wp2
    go_ret
    exact ⟨rfl, HE.out.trans E6.out⟩
  have LB0 := Lib.hid (show 0 ≤ l0 ∧ l0 ≤ 1048576 by omega)
  have HB0 := Lib.hid ((leftG_ok (hl0 ▸ n0)).resolve_right (by omega))
  have m0 : decide (l0 < 0) = false := by simp; omega
  clear hl0 hle0 n0
  have HV := Lib.hid (HVV.out HB0.out); have HC := Lib.hid (cntU_le HV.out); clear HVV
  go_enter Try.func11, Try.ntmps11
  have f8 := (EW.out).cell C1.out
  have f9 := (EW.out).cell C2.out
  go_wp2_with fail
  refine (szG_t d0 a0 1048576 _ (H0.out.ext EW.out) (by omega) (by omega)).mono ?_
  rintro e w10 ⟨rfl, hx⟩
  rw [HL0.out]
  have E11 := Lib.hid ((EW.out).trans hx)
  have N12 := Lib.hid (Ext.size hx)
  clear hx f8 f9
  have f15 := (E11.out).cell C1.out
  have f16 := (E11.out).cell C2.out
  go_wp2_with fail
  refine (toG_t d0 a0 _ (H0.out.ext E11.out) HB0.out).mono ?_
  rintro e w18 ⟨b17, rfl, ho, hx⟩
  have O19 := Lib.hid ho
  have E20 := Lib.hid ((E11.out).trans hx)
  have N21 := Lib.hid (Ext.size hx)
  clear ho hx f15 f16
  have E22 := Lib.hid (Ext.refl (w18))
  go_wp2_with fail
  refine (KS.out b17 _ (O19.out.rd.ext E22.out) HB0.out).mono ?_
  rintro e w14 ⟨r13, rfl, ho, hx⟩
  have O23 := Lib.hid ho
  have E24 := Lib.hid ((E20.out).trans hx)
  have E25 := Lib.hid ((E22.out).trans hx)
  have N26 := Lib.hid (Ext.size hx)
  clear hx ho
  have E27 := Lib.hid (Ext.refl (w14))
  have C28 := Lib.hid (cell_new (w14) #[.int .i64 v0.g.sz, .slice r13.g.A v0.g.ps.length r13.g.c, .int .i64 v0.kinds, .slice r13.tok.A v0.tok.length r13.tok.c, .slice r13.col.A v0.col.length r13.col.c, .slice r13.brd.A v0.brd.length r13.brd.c, .int .i64 v0.count] 66 0 _ rfl)
  have C29 := Lib.hid (cell_new (w14) #[.int .i64 v0.g.sz, .slice r13.g.A v0.g.ps.length r13.g.c, .int .i64 v0.kinds, .slice r13.tok.A v0.tok.length r13.tok.c, .slice r13.col.A v0.col.length r13.col.c, .slice r13.brd.A v0.brd.length r13.brd.c, .int .i64 v0.count] 66 1 _ rfl)
  have C30 := Lib.hid (cell_new (w14) #[.int .i64 v0.g.sz, .slice r13.g.A v0.g.ps.length r13.g.c, .int .i64 v0.kinds, .slice r13.tok.A v0.tok.length r13.tok.c, .slice r13.col.A v0.col.length r13.col.c, .slice r13.brd.A v0.brd.length r13.brd.c, .int .i64 v0.count] 66 2 _ rfl)
  have C31 := Lib.hid (cell_new (w14) #[.int .i64 v0.g.sz, .slice r13.g.A v0.g.ps.length r13.g.c, .int .i64 v0.kinds, .slice r13.tok.A v0.tok.length r13.tok.c, .slice r13.col.A v0.col.length r13.col.c, .slice r13.brd.A v0.brd.length r13.brd.c, .int .i64 v0.count] 66 3 _ rfl)
  have C32 := Lib.hid (cell_new (w14) #[.int .i64 v0.g.sz, .slice r13.g.A v0.g.ps.length r13.g.c, .int .i64 v0.kinds, .slice r13.tok.A v0.tok.length r13.tok.c, .slice r13.col.A v0.col.length r13.col.c, .slice r13.brd.A v0.brd.length r13.brd.c, .int .i64 v0.count] 66 4 _ rfl)
  have C33 := Lib.hid (cell_new (w14) #[.int .i64 v0.g.sz, .slice r13.g.A v0.g.ps.length r13.g.c, .int .i64 v0.kinds, .slice r13.tok.A v0.tok.length r13.tok.c, .slice r13.col.A v0.col.length r13.col.c, .slice r13.brd.A v0.brd.length r13.brd.c, .int .i64 v0.count] 66 5 _ rfl)
  have C34 := Lib.hid (cell_new (w14) #[.int .i64 v0.g.sz, .slice r13.g.A v0.g.ps.length r13.g.c, .int .i64 v0.kinds, .slice r13.tok.A v0.tok.length r13.tok.c, .slice r13.col.A v0.col.length r13.col.c, .slice r13.brd.A v0.brd.length r13.brd.c, .int .i64 v0.count] 66 6 _ rfl)
  have E35 := Lib.hid ((E24.out).alloc (.cells #[.int .i64 v0.g.sz, .slice r13.g.A v0.g.ps.length r13.g.c, .int .i64 v0.kinds, .slice r13.tok.A v0.tok.length r13.tok.c, .slice r13.col.A v0.col.length r13.col.c, .slice r13.brd.A v0.brd.length r13.brd.c, .int .i64 v0.count] 66))
  have E36 := Lib.hid ((E25.out).alloc (.cells #[.int .i64 v0.g.sz, .slice r13.g.A v0.g.ps.length r13.g.c, .int .i64 v0.kinds, .slice r13.tok.A v0.tok.length r13.tok.c, .slice r13.col.A v0.col.length r13.col.c, .slice r13.brd.A v0.brd.length r13.brd.c, .int .i64 v0.count] 66))
  have E37 := Lib.hid ((E27.out).alloc (.cells #[.int .i64 v0.g.sz, .slice r13.g.A v0.g.ps.length r13.g.c, .int .i64 v0.kinds, .slice r13.tok.A v0.tok.length r13.tok.c, .slice r13.col.A v0.col.length r13.col.c, .slice r13.brd.A v0.brd.length r13.brd.c, .int .i64 v0.count] 66))
  have N38 := Lib.hid (alloc_size (w14) (.cells #[.int .i64 v0.g.sz, .slice r13.g.A v0.g.ps.length r13.g.c, .int .i64 v0.kinds, .slice r13.tok.A v0.tok.length r13.tok.c, .slice r13.col.A v0.col.length r13.col.c, .slice r13.brd.A v0.brd.length r13.brd.c, .int .i64 v0.count] 66))
  have E39 := Lib.hid (Ext.refl ((w14).alloc (.cells #[.int .i64 v0.g.sz, .slice r13.g.A v0.g.ps.length r13.g.c, .int .i64 v0.kinds, .slice r13.tok.A v0.tok.length r13.tok.c, .slice r13.col.A v0.col.length r13.col.c, .slice r13.brd.A v0.brd.length r13.brd.c, .int .i64 v0.count] 66)))
  have f40 := (E35.out).cell C1.out
  have f41 := (E35.out).cell C2.out
  go_wp2_with fail
  refine (toG_t d0 a0 _ (H0.out.ext E35.out) HB0.out).mono ?_
  rintro e w43 ⟨x42, rfl, ho, hx⟩
  have O44 := Lib.hid ho
  have E45 := Lib.hid ((E35.out).trans hx)
  have E46 := Lib.hid ((E36.out).trans hx)
  have E47 := Lib.hid ((E37.out).trans hx)
  have E48 := Lib.hid ((E39.out).trans hx)
  have N49 := Lib.hid (Ext.size hx)
  clear ho hx f40 f41
  have E50 := Lib.hid (Ext.refl (w43))
  have C51 := Lib.hid (cell_new (w43) #[.int .i64 d0.sz, .slice x42.A d0.ps.length x42.c] 28 0 _ rfl)
  have C52 := Lib.hid (cell_new (w43) #[.int .i64 d0.sz, .slice x42.A d0.ps.length x42.c] 28 1 _ rfl)
  have E53 := Lib.hid ((E45.out).alloc (.cells #[.int .i64 d0.sz, .slice x42.A d0.ps.length x42.c] 28))
  have E54 := Lib.hid ((E46.out).alloc (.cells #[.int .i64 d0.sz, .slice x42.A d0.ps.length x42.c] 28))
  have E55 := Lib.hid ((E47.out).alloc (.cells #[.int .i64 d0.sz, .slice x42.A d0.ps.length x42.c] 28))
  have E56 := Lib.hid ((E48.out).alloc (.cells #[.int .i64 d0.sz, .slice x42.A d0.ps.length x42.c] 28))
  have E57 := Lib.hid ((E50.out).alloc (.cells #[.int .i64 d0.sz, .slice x42.A d0.ps.length x42.c] 28))
  have N58 := Lib.hid (alloc_size (w43) (.cells #[.int .i64 d0.sz, .slice x42.A d0.ps.length x42.c] 28))
  have E59 := Lib.hid (Ext.refl ((w43).alloc (.cells #[.int .i64 d0.sz, .slice x42.A d0.ps.length x42.c] 28)))
  have f60 := (E59.out).cell C51.out
  have f61 := (E59.out).cell C52.out
  go_wp2_with fail
  refine (KI.out x42 _ (O44.out.rd.ext E57.out) HB0.out).mono ?_
  rintro e w63 ⟨r62, rfl, ho, hx⟩
  have O64 := Lib.hid ho
  have E65 := Lib.hid ((E53.out).trans hx)
  have E66 := Lib.hid ((E54.out).trans hx)
  have E67 := Lib.hid ((E55.out).trans hx)
  have E68 := Lib.hid ((E56.out).trans hx)
  have E69 := Lib.hid ((E57.out).trans hx)
  have E70 := Lib.hid ((E59.out).trans hx)
  have N71 := Lib.hid (Ext.size hx)
  clear hx ho f60 f61
  have E72 := Lib.hid (Ext.refl (w63))
  have C73 := Lib.hid (cell_new (w63) #[.int .i64 v0.g.sz, .slice r62.g.A v0.g.ps.length r62.g.c, .int .i64 v0.kinds, .slice r62.tok.A v0.tok.length r62.tok.c, .slice r62.col.A v0.col.length r62.col.c, .slice r62.brd.A v0.brd.length r62.brd.c, .int .i64 v0.count] 66 0 _ rfl)
  have C74 := Lib.hid (cell_new (w63) #[.int .i64 v0.g.sz, .slice r62.g.A v0.g.ps.length r62.g.c, .int .i64 v0.kinds, .slice r62.tok.A v0.tok.length r62.tok.c, .slice r62.col.A v0.col.length r62.col.c, .slice r62.brd.A v0.brd.length r62.brd.c, .int .i64 v0.count] 66 1 _ rfl)
  have C75 := Lib.hid (cell_new (w63) #[.int .i64 v0.g.sz, .slice r62.g.A v0.g.ps.length r62.g.c, .int .i64 v0.kinds, .slice r62.tok.A v0.tok.length r62.tok.c, .slice r62.col.A v0.col.length r62.col.c, .slice r62.brd.A v0.brd.length r62.brd.c, .int .i64 v0.count] 66 2 _ rfl)
  have C76 := Lib.hid (cell_new (w63) #[.int .i64 v0.g.sz, .slice r62.g.A v0.g.ps.length r62.g.c, .int .i64 v0.kinds, .slice r62.tok.A v0.tok.length r62.tok.c, .slice r62.col.A v0.col.length r62.col.c, .slice r62.brd.A v0.brd.length r62.brd.c, .int .i64 v0.count] 66 3 _ rfl)
  have C77 := Lib.hid (cell_new (w63) #[.int .i64 v0.g.sz, .slice r62.g.A v0.g.ps.length r62.g.c, .int .i64 v0.kinds, .slice r62.tok.A v0.tok.length r62.tok.c, .slice r62.col.A v0.col.length r62.col.c, .slice r62.brd.A v0.brd.length r62.brd.c, .int .i64 v0.count] 66 4 _ rfl)
  have C78 := Lib.hid (cell_new (w63) #[.int .i64 v0.g.sz, .slice r62.g.A v0.g.ps.length r62.g.c, .int .i64 v0.kinds, .slice r62.tok.A v0.tok.length r62.tok.c, .slice r62.col.A v0.col.length r62.col.c, .slice r62.brd.A v0.brd.length r62.brd.c, .int .i64 v0.count] 66 5 _ rfl)
  have C79 := Lib.hid (cell_new (w63) #[.int .i64 v0.g.sz, .slice r62.g.A v0.g.ps.length r62.g.c, .int .i64 v0.kinds, .slice r62.tok.A v0.tok.length r62.tok.c, .slice r62.col.A v0.col.length r62.col.c, .slice r62.brd.A v0.brd.length r62.brd.c, .int .i64 v0.count] 66 6 _ rfl)
  have E80 := Lib.hid ((E65.out).alloc (.cells #[.int .i64 v0.g.sz, .slice r62.g.A v0.g.ps.length r62.g.c, .int .i64 v0.kinds, .slice r62.tok.A v0.tok.length r62.tok.c, .slice r62.col.A v0.col.length r62.col.c, .slice r62.brd.A v0.brd.length r62.brd.c, .int .i64 v0.count] 66))
  have E81 := Lib.hid ((E66.out).alloc (.cells #[.int .i64 v0.g.sz, .slice r62.g.A v0.g.ps.length r62.g.c, .int .i64 v0.kinds, .slice r62.tok.A v0.tok.length r62.tok.c, .slice r62.col.A v0.col.length r62.col.c, .slice r62.brd.A v0.brd.length r62.brd.c, .int .i64 v0.count] 66))
  have E82 := Lib.hid ((E67.out).alloc (.cells #[.int .i64 v0.g.sz, .slice r62.g.A v0.g.ps.length r62.g.c, .int .i64 v0.kinds, .slice r62.tok.A v0.tok.length r62.tok.c, .slice r62.col.A v0.col.length r62.col.c, .slice r62.brd.A v0.brd.length r62.brd.c, .int .i64 v0.count] 66))
  have E83 := Lib.hid ((E68.out).alloc (.cells #[.int .i64 v0.g.sz, .slice r62.g.A v0.g.ps.length r62.g.c, .int .i64 v0.kinds, .slice r62.tok.A v0.tok.length r62.tok.c, .slice r62.col.A v0.col.length r62.col.c, .slice r62.brd.A v0.brd.length r62.brd.c, .int .i64 v0.count] 66))
  have E84 := Lib.hid ((E69.out).alloc (.cells #[.int .i64 v0.g.sz, .slice r62.g.A v0.g.ps.length r62.g.c, .int .i64 v0.kinds, .slice r62.tok.A v0.tok.length r62.tok.c, .slice r62.col.A v0.col.length r62.col.c, .slice r62.brd.A v0.brd.length r62.brd.c, .int .i64 v0.count] 66))
  have E85 := Lib.hid ((E70.out).alloc (.cells #[.int .i64 v0.g.sz, .slice r62.g.A v0.g.ps.length r62.g.c, .int .i64 v0.kinds, .slice r62.tok.A v0.tok.length r62.tok.c, .slice r62.col.A v0.col.length r62.col.c, .slice r62.brd.A v0.brd.length r62.brd.c, .int .i64 v0.count] 66))
  have E86 := Lib.hid ((E72.out).alloc (.cells #[.int .i64 v0.g.sz, .slice r62.g.A v0.g.ps.length r62.g.c, .int .i64 v0.kinds, .slice r62.tok.A v0.tok.length r62.tok.c, .slice r62.col.A v0.col.length r62.col.c, .slice r62.brd.A v0.brd.length r62.brd.c, .int .i64 v0.count] 66))
  have N87 := Lib.hid (alloc_size (w63) (.cells #[.int .i64 v0.g.sz, .slice r62.g.A v0.g.ps.length r62.g.c, .int .i64 v0.kinds, .slice r62.tok.A v0.tok.length r62.tok.c, .slice r62.col.A v0.col.length r62.col.c, .slice r62.brd.A v0.brd.length r62.brd.c, .int .i64 v0.count] 66))
  have E88 := Lib.hid (Ext.refl ((w63).alloc (.cells #[.int .i64 v0.g.sz, .slice r62.g.A v0.g.ps.length r62.g.c, .int .i64 v0.kinds, .slice r62.tok.A v0.tok.length r62.tok.c, .slice r62.col.A v0.col.length r62.col.c, .slice r62.brd.A v0.brd.length r62.brd.c, .int .i64 v0.count] 66)))
  have f89 := (E88.out).cell C73.out
  have f90 := (E88.out).cell C74.out
  have f91 := (E88.out).cell C75.out
  have f92 := (E88.out).cell C76.out
  have f93 := (E88.out).cell C77.out
  have f94 := (E88.out).cell C78.out
  have f95 := (E88.out).cell C79.out
  have f96 := (E83.out).cell C28.out
  have f97 := (E83.out).cell C29.out
  have f98 := (E83.out).cell C30.out
  have f99 := (E83.out).cell C31.out
  have f100 := (E83.out).cell C32.out
  have f101 := (E83.out).cell C33.out
  have f102 := (E83.out).cell C34.out
  go_wp2_with fail
  refine (eqU_t v0 r62 r13 _ (O64.out.rd.ext E86.out) (O23.out.ext E82.out)).mono ?_
  rintro e w103 ⟨rfl, hx⟩
  have E104 := Lib.hid ((E80.out).trans hx)
  have E105 := Lib.hid ((E81.out).trans hx)
  have E106 := Lib.hid ((E82.out).trans hx)
  have E107 := Lib.hid ((E83.out).trans hx)
  have E108 := Lib.hid ((E84.out).trans hx)
  have E109 := Lib.hid ((E85.out).trans hx)
  have E110 := Lib.hid ((E86.out).trans hx)
  have E111 := Lib.hid ((E88.out).trans hx)
  have N112 := Lib.hid (Ext.size hx)
  clear hx f89 f90 f91 f92 f93 f94 f95 f96 f97 f98 f99 f100 f101 f102
  have f113 := fun w' (e : Ext (w103) w') => e.cell ((E109.out).cell C51.out)
  have f114 := fun w' (e : Ext (w103) w') => e.cell ((E109.out).cell C52.out)
  have f115 := fun w' (e : Ext (w103) w') => e.cell ((E104.out).cell C1.out)
  have f116 := fun w' (e : Ext (w103) w') => e.cell ((E104.out).cell C2.out)
  go_wp2_with fail
  go_region_held3 (fun w' => Ext (w103) w')
    (first
      | exact (Ext.refl _).drew
      | assumption
      | exact Ext.trans (by assumption) hy1)
    (first
      | ((fail_if_success (have _h1 := ho1)); go_at_call 15; refine (toG_t d0 a0 _ ((H0.out.ext E104.out).ext (by assumption)) HB0.out).mono ?_; rintro e ww ⟨A1, rfl, ho1, hy1⟩; have hz1 := Ext.trans (a := w103) (by assumption) hy1)
      | (have _h1 := ho1; go_at_call 17; refine (eqG_t d0 x42 A1 _ ((O44.out.rd.ext E108.out).ext hz1) ho1.rd).mono ?_; rintro e w117 ⟨rfl, hy1⟩))
  have hx : Ext (w103) w117 := by assumption
  have E118 := Lib.hid ((E104.out).trans hx)
  have E119 := Lib.hid ((E105.out).trans hx)
  have E120 := Lib.hid ((E106.out).trans hx)
  have E121 := Lib.hid ((E107.out).trans hx)
  have E122 := Lib.hid ((E108.out).trans hx)
  have E123 := Lib.hid ((E109.out).trans hx)
  have E124 := Lib.hid ((E110.out).trans hx)
  have E125 := Lib.hid ((E111.out).trans hx)
  have N126 := Lib.hid (Ext.size hx)
  clear hx ho1 hz1 f113 f114 f115 f116
  have O127 := Lib.hid (O44.out.ext E122.out)
  have C128 := Lib.hid ((E123.out).cell C51.out)
  have C129 := Lib.hid ((E123.out).cell C52.out)
  have O130 := Lib.hid (O64.out.ext E124.out)
  have C131 := Lib.hid ((E125.out).cell C73.out)
  have C132 := Lib.hid ((E125.out).cell C74.out)
  have C133 := Lib.hid ((E125.out).cell C75.out)
  have C134 := Lib.hid ((E125.out).cell C76.out)
  have C135 := Lib.hid ((E125.out).cell C77.out)
  have C136 := Lib.hid ((E125.out).cell C78.out)
  have C137 := Lib.hid ((E125.out).cell C79.out)
  have E138 := Lib.hid (Ext.refl (w117))
  have f139 := (E138.out).cell C128.out
  have f140 := (E138.out).cell C129.out
  go_wp2_with fail
  refine (markG_t d0 x42 _ _ (1) _ (O127.out.ext E138.out) (by have n12q := N12.out; have n21q := N21.out; have n26q := N26.out; have n38q := N38.out; have n49q := N49.out; have n58q := N58.out; have n71q := N71.out; have n87q := N87.out; have n112q := N112.out; have n126q := N126.out; (try simp only [alloc_size] at *); omega) HB0.out (by omega) (by omega)).mono ?_
  rintro e w141 ⟨rfl, ho, hch⟩
  have E142 := Lib.hid (hch.ext E118.out (fun k h => by (try simp only [alloc_size] at h); have n12q := N12.out; have n21q := N21.out; have n26q := N26.out; have n38q := N38.out; have n49q := N49.out; have n58q := N58.out; have n71q := N71.out; have n87q := N87.out; have n112q := N112.out; have n126q := N126.out; (try simp only [alloc_size] at *); omega))
  have E143 := Lib.hid (hch.ext E120.out (fun k h => by (try simp only [alloc_size] at h); have n12q := N12.out; have n21q := N21.out; have n26q := N26.out; have n38q := N38.out; have n49q := N49.out; have n58q := N58.out; have n71q := N71.out; have n87q := N87.out; have n112q := N112.out; have n126q := N126.out; (try simp only [alloc_size] at *); omega))
  have E144 := Lib.hid (hch.ext E121.out (fun k h => by (try simp only [alloc_size] at h); have n12q := N12.out; have n21q := N21.out; have n26q := N26.out; have n38q := N38.out; have n49q := N49.out; have n58q := N58.out; have n71q := N71.out; have n87q := N87.out; have n112q := N112.out; have n126q := N126.out; (try simp only [alloc_size] at *); omega))
  have O145 := Lib.hid ((O130.out.ext E138.out).chg hch (fun k h1 h2 h => by (try simp only [alloc_size] at h h1 h2); have n12q := N12.out; have n21q := N21.out; have n26q := N26.out; have n38q := N38.out; have n49q := N49.out; have n58q := N58.out; have n71q := N71.out; have n87q := N87.out; have n112q := N112.out; have n126q := N126.out; (try simp only [alloc_size] at *); omega))
  have C146 := Lib.hid (hch.cell ((E138.out).cell C131.out) (fun h => by (try simp only [alloc_size] at h); have n12q := N12.out; have n21q := N21.out; have n26q := N26.out; have n38q := N38.out; have n49q := N49.out; have n58q := N58.out; have n71q := N71.out; have n87q := N87.out; have n112q := N112.out; have n126q := N126.out; (try simp only [alloc_size] at *); omega))
  have C147 := Lib.hid (hch.cell ((E138.out).cell C132.out) (fun h => by (try simp only [alloc_size] at h); have n12q := N12.out; have n21q := N21.out; have n26q := N26.out; have n38q := N38.out; have n49q := N49.out; have n58q := N58.out; have n71q := N71.out; have n87q := N87.out; have n112q := N112.out; have n126q := N126.out; (try simp only [alloc_size] at *); omega))
  have C148 := Lib.hid (hch.cell ((E138.out).cell C133.out) (fun h => by (try simp only [alloc_size] at h); have n12q := N12.out; have n21q := N21.out; have n26q := N26.out; have n38q := N38.out; have n49q := N49.out; have n58q := N58.out; have n71q := N71.out; have n87q := N87.out; have n112q := N112.out; have n126q := N126.out; (try simp only [alloc_size] at *); omega))
  have C149 := Lib.hid (hch.cell ((E138.out).cell C134.out) (fun h => by (try simp only [alloc_size] at h); have n12q := N12.out; have n21q := N21.out; have n26q := N26.out; have n38q := N38.out; have n49q := N49.out; have n58q := N58.out; have n71q := N71.out; have n87q := N87.out; have n112q := N112.out; have n126q := N126.out; (try simp only [alloc_size] at *); omega))
  have C150 := Lib.hid (hch.cell ((E138.out).cell C135.out) (fun h => by (try simp only [alloc_size] at h); have n12q := N12.out; have n21q := N21.out; have n26q := N26.out; have n38q := N38.out; have n49q := N49.out; have n58q := N58.out; have n71q := N71.out; have n87q := N87.out; have n112q := N112.out; have n126q := N126.out; (try simp only [alloc_size] at *); omega))
  have C151 := Lib.hid (hch.cell ((E138.out).cell C136.out) (fun h => by (try simp only [alloc_size] at h); have n12q := N12.out; have n21q := N21.out; have n26q := N26.out; have n38q := N38.out; have n49q := N49.out; have n58q := N58.out; have n71q := N71.out; have n87q := N87.out; have n112q := N112.out; have n126q := N126.out; (try simp only [alloc_size] at *); omega))
  have C152 := Lib.hid (hch.cell ((E138.out).cell C137.out) (fun h => by (try simp only [alloc_size] at h); have n12q := N12.out; have n21q := N21.out; have n26q := N26.out; have n38q := N38.out; have n49q := N49.out; have n58q := N58.out; have n71q := N71.out; have n87q := N87.out; have n112q := N112.out; have n126q := N126.out; (try simp only [alloc_size] at *); omega))
  have N153 := Lib.hid hch.size
  have E154 := Lib.hid (Ext.refl (w141))
  clear ho hch f139 f140
  have mk : decide (1 + cntG d0 < 0) = false := by have c0 := (cntG_le HB0.out); rw [decide_eq_false_iff_not]; omega
  have f155 := (E154.out).cell C146.out
  have f156 := (E154.out).cell C147.out
  have f157 := (E154.out).cell C148.out
  have f158 := (E154.out).cell C149.out
  have f159 := (E154.out).cell C150.out
  have f160 := (E154.out).cell C151.out
  have f161 := (E154.out).cell C152.out
  have f162 := (E144.out).cell C28.out
  have f163 := (E144.out).cell C29.out
  have f164 := (E144.out).cell C30.out
  have f165 := (E144.out).cell C31.out
  have f166 := (E144.out).cell C32.out
  have f167 := (E144.out).cell C33.out
  have f168 := (E144.out).cell C34.out
  go_wp2_with fail
  refine (eqU_t v0 r62 r13 _ (O145.out.rd.ext E154.out) (O23.out.ext E143.out)).mono ?_
  rintro e w169 ⟨rfl, hx⟩
  have E170 := Lib.hid ((E142.out).trans hx)
  have E171 := Lib.hid ((E143.out).trans hx)
  have E172 := Lib.hid ((E144.out).trans hx)
  have E173 := Lib.hid ((E154.out).trans hx)
  have N174 := Lib.hid (Ext.size hx)
  clear hx f155 f156 f157 f158 f159 f160 f161 f162 f163 f164 f165 f166 f167 f168
  clear mk
  have f175 := (E173.out).cell C146.out
  have f176 := (E173.out).cell C147.out
  have f177 := (E173.out).cell C148.out
  have f178 := (E173.out).cell C149.out
  have f179 := (E173.out).cell C150.out
  have f180 := (E173.out).cell C151.out
  have f181 := (E173.out).cell C152.out
  go_wp2_with fail
  refine (markU_t v0 r62 _ _ 1 _ (O145.out.ext E173.out) (by have n12q := N12.out; have n21q := N21.out; have n26q := N26.out; have n38q := N38.out; have n49q := N49.out; have n58q := N58.out; have n71q := N71.out; have n87q := N87.out; have n112q := N112.out; have n126q := N126.out; have n153q := N153.out; have n174q := N174.out; (try simp only [alloc_size] at *); omega) HV.out (by omega) (by omega)).mono ?_
  rintro e w182 ⟨rfl, ho, hch⟩
  have E183 := Lib.hid (hch.ext E170.out (fun k h => by (try simp only [alloc_size] at h); have n12q := N12.out; have n21q := N21.out; have n26q := N26.out; have n38q := N38.out; have n49q := N49.out; have n58q := N58.out; have n71q := N71.out; have n87q := N87.out; have n112q := N112.out; have n126q := N126.out; have n153q := N153.out; have n174q := N174.out; (try simp only [alloc_size] at *); omega))
  have E184 := Lib.hid (hch.ext E171.out (fun k h => by (try simp only [alloc_size] at h); have n12q := N12.out; have n21q := N21.out; have n26q := N26.out; have n38q := N38.out; have n49q := N49.out; have n58q := N58.out; have n71q := N71.out; have n87q := N87.out; have n112q := N112.out; have n126q := N126.out; have n153q := N153.out; have n174q := N174.out; (try simp only [alloc_size] at *); omega))
  have E185 := Lib.hid (hch.ext E172.out (fun k h => by (try simp only [alloc_size] at h); have n12q := N12.out; have n21q := N21.out; have n26q := N26.out; have n38q := N38.out; have n49q := N49.out; have n58q := N58.out; have n71q := N71.out; have n87q := N87.out; have n112q := N112.out; have n126q := N126.out; have n153q := N153.out; have n174q := N174.out; (try simp only [alloc_size] at *); omega))
  have C186 := Lib.hid (hch.cell ((E173.out).cell C146.out) (fun h => by (try simp only [alloc_size] at h); have n12q := N12.out; have n21q := N21.out; have n26q := N26.out; have n38q := N38.out; have n49q := N49.out; have n58q := N58.out; have n71q := N71.out; have n87q := N87.out; have n112q := N112.out; have n126q := N126.out; have n153q := N153.out; have n174q := N174.out; (try simp only [alloc_size] at *); omega))
  have C187 := Lib.hid (hch.cell ((E173.out).cell C147.out) (fun h => by (try simp only [alloc_size] at h); have n12q := N12.out; have n21q := N21.out; have n26q := N26.out; have n38q := N38.out; have n49q := N49.out; have n58q := N58.out; have n71q := N71.out; have n87q := N87.out; have n112q := N112.out; have n126q := N126.out; have n153q := N153.out; have n174q := N174.out; (try simp only [alloc_size] at *); omega))
  have C188 := Lib.hid (hch.cell ((E173.out).cell C148.out) (fun h => by (try simp only [alloc_size] at h); have n12q := N12.out; have n21q := N21.out; have n26q := N26.out; have n38q := N38.out; have n49q := N49.out; have n58q := N58.out; have n71q := N71.out; have n87q := N87.out; have n112q := N112.out; have n126q := N126.out; have n153q := N153.out; have n174q := N174.out; (try simp only [alloc_size] at *); omega))
  have C189 := Lib.hid (hch.cell ((E173.out).cell C149.out) (fun h => by (try simp only [alloc_size] at h); have n12q := N12.out; have n21q := N21.out; have n26q := N26.out; have n38q := N38.out; have n49q := N49.out; have n58q := N58.out; have n71q := N71.out; have n87q := N87.out; have n112q := N112.out; have n126q := N126.out; have n153q := N153.out; have n174q := N174.out; (try simp only [alloc_size] at *); omega))
  have C190 := Lib.hid (hch.cell ((E173.out).cell C150.out) (fun h => by (try simp only [alloc_size] at h); have n12q := N12.out; have n21q := N21.out; have n26q := N26.out; have n38q := N38.out; have n49q := N49.out; have n58q := N58.out; have n71q := N71.out; have n87q := N87.out; have n112q := N112.out; have n126q := N126.out; have n153q := N153.out; have n174q := N174.out; (try simp only [alloc_size] at *); omega))
  have C191 := Lib.hid (hch.cell ((E173.out).cell C151.out) (fun h => by (try simp only [alloc_size] at h); have n12q := N12.out; have n21q := N21.out; have n26q := N26.out; have n38q := N38.out; have n49q := N49.out; have n58q := N58.out; have n71q := N71.out; have n87q := N87.out; have n112q := N112.out; have n126q := N126.out; have n153q := N153.out; have n174q := N174.out; (try simp only [alloc_size] at *); omega))
  have C192 := Lib.hid (hch.cell ((E173.out).cell C152.out) (fun h => by (try simp only [alloc_size] at h); have n12q := N12.out; have n21q := N21.out; have n26q := N26.out; have n38q := N38.out; have n49q := N49.out; have n58q := N58.out; have n71q := N71.out; have n87q := N87.out; have n112q := N112.out; have n126q := N126.out; have n153q := N153.out; have n174q := N174.out; (try simp only [alloc_size] at *); omega))
  have N193 := Lib.hid hch.size
  have E194 := Lib.hid (Ext.refl (w182))
  have O195 := Lib.hid ho; clear ho hch f175 f176 f177 f178 f179 f180 f181
  have E196 := Lib.hid (Ext.refl (w182))
  have f197 := (E196.out).cell C186.out
  have f198 := (E196.out).cell C187.out
  have f199 := (E196.out).cell C188.out
  have f200 := (E196.out).cell C189.out
  have f201 := (E196.out).cell C190.out
  have f202 := (E196.out).cell C191.out
  have f203 := (E196.out).cell C192.out
  go_wp2_with fail
  refine (heldU_t v0 r62 1 _ (O195.out.rd.ext E196.out) HV.out (by omega) (by omega)).mono ?_
  rintro e w204 ⟨rfl, hx⟩
  have E205 := Lib.hid ((E183.out).trans hx)
  have E206 := Lib.hid ((E184.out).trans hx)
  have E207 := Lib.hid ((E185.out).trans hx)
  have E208 := Lib.hid ((E196.out).trans hx)
  have N209 := Lib.hid (Ext.size hx)
  clear hx f197 f198 f199 f200 f201 f202 f203
  have mq : decide (1 + cntU v0 < 0) = false := by have := HC.out; rw [decide_eq_false_iff_not]; omega
  have mr : ((1 + cntU v0) != (1 + cntU v0)) = false := by simp
  have f212 := (E205.out).cell C1.out
  have f213 := (E205.out).cell C2.out
  go_wp2_with fail
  refine (toG_t d0 a0 _ (H0.out.ext E205.out) HB0.out).mono ?_
  rintro e w215 ⟨b214, rfl, ho, hx⟩
  have O216 := Lib.hid ho
  have E217 := Lib.hid ((E205.out).trans hx)
  have E218 := Lib.hid ((E206.out).trans hx)
  have E219 := Lib.hid ((E207.out).trans hx)
  have E220 := Lib.hid ((E208.out).trans hx)
  have N221 := Lib.hid (Ext.size hx)
  clear ho hx f212 f213
  have E222 := Lib.hid (Ext.refl (w215))
  go_wp2_with fail
  refine (KI.out b214 _ (O216.out.rd.ext E222.out) HB0.out).mono ?_
  rintro e w211 ⟨r210, rfl, ho, hx⟩
  have O223 := Lib.hid ho
  have E224 := Lib.hid ((E217.out).trans hx)
  have E225 := Lib.hid ((E218.out).trans hx)
  have E226 := Lib.hid ((E219.out).trans hx)
  have E227 := Lib.hid ((E220.out).trans hx)
  have E228 := Lib.hid ((E222.out).trans hx)
  have N229 := Lib.hid (Ext.size hx)
  clear hx ho
  have E230 := Lib.hid (Ext.refl (w211))
  have C231 := Lib.hid (cell_new (w211) #[.int .i64 v0.g.sz, .slice r210.g.A v0.g.ps.length r210.g.c, .int .i64 v0.kinds, .slice r210.tok.A v0.tok.length r210.tok.c, .slice r210.col.A v0.col.length r210.col.c, .slice r210.brd.A v0.brd.length r210.brd.c, .int .i64 v0.count] 66 0 _ rfl)
  have C232 := Lib.hid (cell_new (w211) #[.int .i64 v0.g.sz, .slice r210.g.A v0.g.ps.length r210.g.c, .int .i64 v0.kinds, .slice r210.tok.A v0.tok.length r210.tok.c, .slice r210.col.A v0.col.length r210.col.c, .slice r210.brd.A v0.brd.length r210.brd.c, .int .i64 v0.count] 66 1 _ rfl)
  have C233 := Lib.hid (cell_new (w211) #[.int .i64 v0.g.sz, .slice r210.g.A v0.g.ps.length r210.g.c, .int .i64 v0.kinds, .slice r210.tok.A v0.tok.length r210.tok.c, .slice r210.col.A v0.col.length r210.col.c, .slice r210.brd.A v0.brd.length r210.brd.c, .int .i64 v0.count] 66 2 _ rfl)
  have C234 := Lib.hid (cell_new (w211) #[.int .i64 v0.g.sz, .slice r210.g.A v0.g.ps.length r210.g.c, .int .i64 v0.kinds, .slice r210.tok.A v0.tok.length r210.tok.c, .slice r210.col.A v0.col.length r210.col.c, .slice r210.brd.A v0.brd.length r210.brd.c, .int .i64 v0.count] 66 3 _ rfl)
  have C235 := Lib.hid (cell_new (w211) #[.int .i64 v0.g.sz, .slice r210.g.A v0.g.ps.length r210.g.c, .int .i64 v0.kinds, .slice r210.tok.A v0.tok.length r210.tok.c, .slice r210.col.A v0.col.length r210.col.c, .slice r210.brd.A v0.brd.length r210.brd.c, .int .i64 v0.count] 66 4 _ rfl)
  have C236 := Lib.hid (cell_new (w211) #[.int .i64 v0.g.sz, .slice r210.g.A v0.g.ps.length r210.g.c, .int .i64 v0.kinds, .slice r210.tok.A v0.tok.length r210.tok.c, .slice r210.col.A v0.col.length r210.col.c, .slice r210.brd.A v0.brd.length r210.brd.c, .int .i64 v0.count] 66 5 _ rfl)
  have C237 := Lib.hid (cell_new (w211) #[.int .i64 v0.g.sz, .slice r210.g.A v0.g.ps.length r210.g.c, .int .i64 v0.kinds, .slice r210.tok.A v0.tok.length r210.tok.c, .slice r210.col.A v0.col.length r210.col.c, .slice r210.brd.A v0.brd.length r210.brd.c, .int .i64 v0.count] 66 6 _ rfl)
  have E238 := Lib.hid ((E224.out).alloc (.cells #[.int .i64 v0.g.sz, .slice r210.g.A v0.g.ps.length r210.g.c, .int .i64 v0.kinds, .slice r210.tok.A v0.tok.length r210.tok.c, .slice r210.col.A v0.col.length r210.col.c, .slice r210.brd.A v0.brd.length r210.brd.c, .int .i64 v0.count] 66))
  have E239 := Lib.hid ((E225.out).alloc (.cells #[.int .i64 v0.g.sz, .slice r210.g.A v0.g.ps.length r210.g.c, .int .i64 v0.kinds, .slice r210.tok.A v0.tok.length r210.tok.c, .slice r210.col.A v0.col.length r210.col.c, .slice r210.brd.A v0.brd.length r210.brd.c, .int .i64 v0.count] 66))
  have E240 := Lib.hid ((E226.out).alloc (.cells #[.int .i64 v0.g.sz, .slice r210.g.A v0.g.ps.length r210.g.c, .int .i64 v0.kinds, .slice r210.tok.A v0.tok.length r210.tok.c, .slice r210.col.A v0.col.length r210.col.c, .slice r210.brd.A v0.brd.length r210.brd.c, .int .i64 v0.count] 66))
  have E241 := Lib.hid ((E227.out).alloc (.cells #[.int .i64 v0.g.sz, .slice r210.g.A v0.g.ps.length r210.g.c, .int .i64 v0.kinds, .slice r210.tok.A v0.tok.length r210.tok.c, .slice r210.col.A v0.col.length r210.col.c, .slice r210.brd.A v0.brd.length r210.brd.c, .int .i64 v0.count] 66))
  have E242 := Lib.hid ((E228.out).alloc (.cells #[.int .i64 v0.g.sz, .slice r210.g.A v0.g.ps.length r210.g.c, .int .i64 v0.kinds, .slice r210.tok.A v0.tok.length r210.tok.c, .slice r210.col.A v0.col.length r210.col.c, .slice r210.brd.A v0.brd.length r210.brd.c, .int .i64 v0.count] 66))
  have E243 := Lib.hid ((E230.out).alloc (.cells #[.int .i64 v0.g.sz, .slice r210.g.A v0.g.ps.length r210.g.c, .int .i64 v0.kinds, .slice r210.tok.A v0.tok.length r210.tok.c, .slice r210.col.A v0.col.length r210.col.c, .slice r210.brd.A v0.brd.length r210.brd.c, .int .i64 v0.count] 66))
  have N244 := Lib.hid (alloc_size (w211) (.cells #[.int .i64 v0.g.sz, .slice r210.g.A v0.g.ps.length r210.g.c, .int .i64 v0.kinds, .slice r210.tok.A v0.tok.length r210.tok.c, .slice r210.col.A v0.col.length r210.col.c, .slice r210.brd.A v0.brd.length r210.brd.c, .int .i64 v0.count] 66))
  have E245 := Lib.hid (Ext.refl ((w211).alloc (.cells #[.int .i64 v0.g.sz, .slice r210.g.A v0.g.ps.length r210.g.c, .int .i64 v0.kinds, .slice r210.tok.A v0.tok.length r210.tok.c, .slice r210.col.A v0.col.length r210.col.c, .slice r210.brd.A v0.brd.length r210.brd.c, .int .i64 v0.count] 66)))
  have f246 := (E245.out).cell C231.out
  have f247 := (E245.out).cell C232.out
  have f248 := (E245.out).cell C233.out
  have f249 := (E245.out).cell C234.out
  have f250 := (E245.out).cell C235.out
  have f251 := (E245.out).cell C236.out
  have f252 := (E245.out).cell C237.out
  have f253 := (E240.out).cell C28.out
  have f254 := (E240.out).cell C29.out
  have f255 := (E240.out).cell C30.out
  have f256 := (E240.out).cell C31.out
  have f257 := (E240.out).cell C32.out
  have f258 := (E240.out).cell C33.out
  have f259 := (E240.out).cell C34.out
  go_wp2_with fail
  refine (eqU_t v0 r210 r13 _ (O223.out.rd.ext E243.out) (O23.out.ext E239.out)).mono ?_
  rintro e w260 ⟨rfl, hx⟩
  have E261 := Lib.hid ((E238.out).trans hx)
  have E262 := Lib.hid ((E239.out).trans hx)
  have E263 := Lib.hid ((E240.out).trans hx)
  have E264 := Lib.hid ((E241.out).trans hx)
  have E265 := Lib.hid ((E242.out).trans hx)
  have E266 := Lib.hid ((E243.out).trans hx)
  have E267 := Lib.hid ((E245.out).trans hx)
  have N268 := Lib.hid (Ext.size hx)
  clear hx f246 f247 f248 f249 f250 f251 f252 f253 f254 f255 f256 f257 f258 f259
  have f269 := (E264.out).cell C186.out
  have f270 := (E264.out).cell C187.out
  have f271 := (E264.out).cell C188.out
  have f272 := (E264.out).cell C189.out
  have f273 := (E264.out).cell C190.out
  have f274 := (E264.out).cell C191.out
  have f275 := (E264.out).cell C192.out
  go_wp2_with fail
  refine (heldU_t v0 r62 1 _ (O195.out.rd.ext E264.out) HV.out (by omega) (by omega)).mono ?_
  rintro e w276 ⟨rfl, hx⟩
  have E277 := Lib.hid ((E261.out).trans hx)
  have E278 := Lib.hid ((E262.out).trans hx)
  have E279 := Lib.hid ((E263.out).trans hx)
  have E280 := Lib.hid ((E264.out).trans hx)
  have E281 := Lib.hid ((E265.out).trans hx)
  have E282 := Lib.hid ((E266.out).trans hx)
  have E283 := Lib.hid ((E267.out).trans hx)
  have N284 := Lib.hid (Ext.size hx)
  clear hx f269 f270 f271 f272 f273 f274 f275
  go_wp2
  go_ret
  exact ⟨rfl, HE.out.trans E277.out⟩
end Go.Proofs.Ytkfbkflneppggaa
