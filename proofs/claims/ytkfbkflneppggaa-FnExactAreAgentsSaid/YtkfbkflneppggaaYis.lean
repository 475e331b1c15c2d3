/-
  The law FnExactIsStudio: it answers true where the program's function and the reference's answer alike. Conditions: these contracts.
-/
import Derived.Test.YtkfbkflneppggaaTu
import Derived.BigQuiet
import Derived.Deep.RegionHeld3
namespace Go.Proofs.Ytkfbkflneppggaa
open Go.RowKit
set_option linter.unusedVariables false
set_option linter.unusedSimpArgs false

set_option maxHeartbeats 4000000 in
theorem LawIsStudio_c (d0 : StD) (a0 : StA) (v0 : Bool) (w : World) (h0 : RdU w a0 d0)
    (hS : (∀ (a0 : StA) (w : World), RdU w a0 d0 → Calls Try.prog 44 #[.agg #[.int .i64 d0.g.sz, .slice a0.g.A d0.g.ps.length a0.g.c, .int .i64 d0.kinds, .slice a0.tok.A d0.tok.length a0.tok.c, .slice a0.col.A d0.col.length a0.col.c, .slice a0.brd.A d0.brd.length a0.brd.c, .int .i64 d0.count]] w fun e w' => e = .returned (.bool v0) ∧ Ext w w'))
    (hI : (∀ (a0 : StA) (w : World), RdU w a0 d0 → Calls Try.prog 46 #[.agg #[.int .i64 d0.g.sz, .slice a0.g.A d0.g.ps.length a0.g.c, .int .i64 d0.kinds, .slice a0.tok.A d0.tok.length a0.tok.c, .slice a0.col.A d0.col.length a0.col.c, .slice a0.brd.A d0.brd.length a0.brd.c, .int .i64 d0.count]] w fun e w' => e = .returned (.bool v0) ∧ Ext w w')) :
    Calls Try.prog 10 #[.agg #[.int .i64 d0.g.sz, .slice a0.g.A d0.g.ps.length a0.g.c, .int .i64 d0.kinds, .slice a0.tok.A d0.tok.length a0.tok.c, .slice a0.col.A d0.col.length a0.col.c, .slice a0.brd.A d0.brd.length a0.brd.c, .int .i64 d0.count]] w fun e w' => e = .returned (.bool true) ∧ Ext w w' := by
  have hE : Ext w ((w).alloc (.cells #[.int .i64 d0.g.sz, .slice a0.g.A d0.g.ps.length a0.g.c, .int .i64 d0.kinds, .slice a0.tok.A d0.tok.length a0.tok.c, .slice a0.col.A d0.col.length a0.col.c, .slice a0.brd.A d0.brd.length a0.brd.c, .int .i64 d0.count] 62)) := (Ext.refl w).alloc _
  have c := cell_new (w) #[.int .i64 d0.g.sz, .slice a0.g.A d0.g.ps.length a0.g.c, .int .i64 d0.kinds, .slice a0.tok.A d0.tok.length a0.tok.c, .slice a0.col.A d0.col.length a0.col.c, .slice a0.brd.A d0.brd.length a0.brd.c, .int .i64 d0.count] 62 0 _ rfl
  have C1 := Lib.hid c; clear c
  have c := cell_new (w) #[.int .i64 d0.g.sz, .slice a0.g.A d0.g.ps.length a0.g.c, .int .i64 d0.kinds, .slice a0.tok.A d0.tok.length a0.tok.c, .slice a0.col.A d0.col.length a0.col.c, .slice a0.brd.A d0.brd.length a0.brd.c, .int .i64 d0.count] 62 1 _ rfl
  have C2 := Lib.hid c; clear c
  have c := cell_new (w) #[.int .i64 d0.g.sz, .slice a0.g.A d0.g.ps.length a0.g.c, .int .i64 d0.kinds, .slice a0.tok.A d0.tok.length a0.tok.c, .slice a0.col.A d0.col.length a0.col.c, .slice a0.brd.A d0.brd.length a0.brd.c, .int .i64 d0.count] 62 2 _ rfl
  have C3 := Lib.hid c; clear c
  have c := cell_new (w) #[.int .i64 d0.g.sz, .slice a0.g.A d0.g.ps.length a0.g.c, .int .i64 d0.kinds, .slice a0.tok.A d0.tok.length a0.tok.c, .slice a0.col.A d0.col.length a0.col.c, .slice a0.brd.A d0.brd.length a0.brd.c, .int .i64 d0.count] 62 3 _ rfl
  have C4 := Lib.hid c; clear c
  have c := cell_new (w) #[.int .i64 d0.g.sz, .slice a0.g.A d0.g.ps.length a0.g.c, .int .i64 d0.kinds, .slice a0.tok.A d0.tok.length a0.tok.c, .slice a0.col.A d0.col.length a0.col.c, .slice a0.brd.A d0.brd.length a0.brd.c, .int .i64 d0.count] 62 4 _ rfl
  have C5 := Lib.hid c; clear c
  have c := cell_new (w) #[.int .i64 d0.g.sz, .slice a0.g.A d0.g.ps.length a0.g.c, .int .i64 d0.kinds, .slice a0.tok.A d0.tok.length a0.tok.c, .slice a0.col.A d0.col.length a0.col.c, .slice a0.brd.A d0.brd.length a0.brd.c, .int .i64 d0.count] 62 5 _ rfl
  have C6 := Lib.hid c; clear c
  have c := cell_new (w) #[.int .i64 d0.g.sz, .slice a0.g.A d0.g.ps.length a0.g.c, .int .i64 d0.kinds, .slice a0.tok.A d0.tok.length a0.tok.c, .slice a0.col.A d0.col.length a0.col.c, .slice a0.brd.A d0.brd.length a0.brd.c, .int .i64 d0.count] 62 6 _ rfl
  have C7 := Lib.hid c; clear c
  have H0 := Lib.hid (h0.ext hE); clear h0
  have HE := Lib.hid hE; clear hE
  have KS := Lib.hid hS; have KI := Lib.hid hI; clear hS hI
  have EW := Lib.hid (Ext.refl ((w).alloc (.cells #[.int .i64 d0.g.sz, .slice a0.g.A d0.g.ps.length a0.g.c, .int .i64 d0.kinds, .slice a0.tok.A d0.tok.length a0.tok.c, .slice a0.col.A d0.col.length a0.col.c, .slice a0.brd.A d0.brd.length a0.brd.c, .int .i64 d0.count] 62)))
  have hq0 : (v0 != v0) = false := by simp
  obtain ⟨l0, hl0⟩ : ∃ l, l = leftU 1048576 d0 := ⟨_, rfl⟩
  have HL0 := Lib.hid hl0.symm
  have hle0 := @leftU_le 1048576 d0
  rw [← hl0] at hle0
  by_cases n0 : l0 < 0
  · clear hl0 hle0
    go_enter Try.func10, Try.ntmps10
    have f8 := (EW.out).cell C1.out
    have f9 := (EW.out).cell C2.out
    have f10 := (EW.out).cell C3.out
    have f11 := (EW.out).cell C4.out
    have f12 := (EW.out).cell C5.out
    have f13 := (EW.out).cell C6.out
    have f14 := (EW.out).cell C7.out
    go_wp2_with fail
    refine (szU_t d0 a0 1048576 _ (H0.out.ext EW.out) (by omega) (by omega)).mono ?_
    rintro e w15 ⟨rfl, hx⟩
    rw [HL0.out]
    have E16 := Lib.hid ((EW.out).trans hx)
    have N17 := Lib.hid (Ext.size hx)
    clear hx f8 f9 f10 f11 f12 f13 f14
    go_wp2
    go_ret
    exact ⟨rfl, HE.out.trans E16.out⟩
  have LB0 := Lib.hid (show 0 ≤ l0 ∧ l0 ≤ 1048576 by omega)
  have HB0 := Lib.hid ((leftU_ok (hl0 ▸ n0)).resolve_right (by omega))
  have m0 : decide (l0 < 0) = false := by simp; omega
  clear hl0 hle0 n0
  go_enter Try.func10, Try.ntmps10
  have f18 := (EW.out).cell C1.out
  have f19 := (EW.out).cell C2.out
  have f20 := (EW.out).cell C3.out
  have f21 := (EW.out).cell C4.out
  have f22 := (EW.out).cell C5.out
  have f23 := (EW.out).cell C6.out
  have f24 := (EW.out).cell C7.out
  go_wp2_with fail
  refine (szU_t d0 a0 1048576 _ (H0.out.ext EW.out) (by omega) (by omega)).mono ?_
  rintro e w25 ⟨rfl, hx⟩
  rw [HL0.out]
  have E26 := Lib.hid ((EW.out).trans hx)
  have N27 := Lib.hid (Ext.size hx)
  clear hx f18 f19 f20 f21 f22 f23 f24
  have f30 := (E26.out).cell C1.out
  have f31 := (E26.out).cell C2.out
  have f32 := (E26.out).cell C3.out
  have f33 := (E26.out).cell C4.out
  have f34 := (E26.out).cell C5.out
  have f35 := (E26.out).cell C6.out
  have f36 := (E26.out).cell C7.out
  go_wp2_with fail
  refine (toU_t d0 a0 _ (H0.out.ext E26.out) HB0.out).mono ?_
  rintro e w38 ⟨b37, rfl, ho, hx⟩
  have O39 := Lib.hid ho
  have E40 := Lib.hid ((E26.out).trans hx)
  have N41 := Lib.hid (Ext.size hx)
  clear ho hx f30 f31 f32 f33 f34 f35 f36
  have E42 := Lib.hid (Ext.refl (w38))
  go_wp2_with fail
  refine (KS.out b37 _ (O39.out.rd.ext E42.out)).mono ?_
  rintro e w29 ⟨rfl, hx⟩
  have E43 := Lib.hid ((E40.out).trans hx)
  have E44 := Lib.hid ((E42.out).trans hx)
  have N45 := Lib.hid (Ext.size hx)
  clear hx
  have E46 := Lib.hid (Ext.refl (w29))
  have f47 := (E43.out).cell C1.out
  have f48 := (E43.out).cell C2.out
  have f49 := (E43.out).cell C3.out
  have f50 := (E43.out).cell C4.out
  have f51 := (E43.out).cell C5.out
  have f52 := (E43.out).cell C6.out
  have f53 := (E43.out).cell C7.out
  go_wp2_with fail
  refine (toU_t d0 a0 _ (H0.out.ext E43.out) HB0.out).mono ?_
  rintro e w55 ⟨x54, rfl, ho, hx⟩
  have O56 := Lib.hid ho
  have E57 := Lib.hid ((E43.out).trans hx)
  have E58 := Lib.hid ((E44.out).trans hx)
  have E59 := Lib.hid ((E46.out).trans hx)
  have N60 := Lib.hid (Ext.size hx)
  clear ho hx f47 f48 f49 f50 f51 f52 f53
  have E61 := Lib.hid (Ext.refl (w55))
  have C62 := Lib.hid (cell_new (w55) #[.int .i64 d0.g.sz, .slice x54.g.A d0.g.ps.length x54.g.c, .int .i64 d0.kinds, .slice x54.tok.A d0.tok.length x54.tok.c, .slice x54.col.A d0.col.length x54.col.c, .slice x54.brd.A d0.brd.length x54.brd.c, .int .i64 d0.count] 66 0 _ rfl)
  have C63 := Lib.hid (cell_new (w55) #[.int .i64 d0.g.sz, .slice x54.g.A d0.g.ps.length x54.g.c, .int .i64 d0.kinds, .slice x54.tok.A d0.tok.length x54.tok.c, .slice x54.col.A d0.col.length x54.col.c, .slice x54.brd.A d0.brd.length x54.brd.c, .int .i64 d0.count] 66 1 _ rfl)
  have C64 := Lib.hid (cell_new (w55) #[.int .i64 d0.g.sz, .slice x54.g.A d0.g.ps.length x54.g.c, .int .i64 d0.kinds, .slice x54.tok.A d0.tok.length x54.tok.c, .slice x54.col.A d0.col.length x54.col.c, .slice x54.brd.A d0.brd.length x54.brd.c, .int .i64 d0.count] 66 2 _ rfl)
  have C65 := Lib.hid (cell_new (w55) #[.int .i64 d0.g.sz, .slice x54.g.A d0.g.ps.length x54.g.c, .int .i64 d0.kinds, .slice x54.tok.A d0.tok.length x54.tok.c, .slice x54.col.A d0.col.length x54.col.c, .slice x54.brd.A d0.brd.length x54.brd.c, .int .i64 d0.count] 66 3 _ rfl)
  have C66 := Lib.hid (cell_new (w55) #[.int .i64 d0.g.sz, .slice x54.g.A d0.g.ps.length x54.g.c, .int .i64 d0.kinds, .slice x54.tok.A d0.tok.length x54.tok.c, .slice x54.col.A d0.col.length x54.col.c, .slice x54.brd.A d0.brd.length x54.brd.c, .int .i64 d0.count] 66 4 _ rfl)
  have C67 := Lib.hid (cell_new (w55) #[.int .i64 d0.g.sz, .slice x54.g.A d0.g.ps.length x54.g.c, .int .i64 d0.kinds, .slice x54.tok.A d0.tok.length x54.tok.c, .slice x54.col.A d0.col.length x54.col.c, .slice x54.brd.A d0.brd.length x54.brd.c, .int .i64 d0.count] 66 5 _ rfl)
  have C68 := Lib.hid (cell_new (w55) #[.int .i64 d0.g.sz, .slice x54.g.A d0.g.ps.length x54.g.c, .int .i64 d0.kinds, .slice x54.tok.A d0.tok.length x54.tok.c, .slice x54.col.A d0.col.length x54.col.c, .slice x54.brd.A d0.brd.length x54.brd.c, .int .i64 d0.count] 66 6 _ rfl)
  have E69 := Lib.hid ((E57.out).alloc (.cells #[.int .i64 d0.g.sz, .slice x54.g.A d0.g.ps.length x54.g.c, .int .i64 d0.kinds, .slice x54.tok.A d0.tok.length x54.tok.c, .slice x54.col.A d0.col.length x54.col.c, .slice x54.brd.A d0.brd.length x54.brd.c, .int .i64 d0.count] 66))
  have E70 := Lib.hid ((E58.out).alloc (.cells #[.int .i64 d0.g.sz, .slice x54.g.A d0.g.ps.length x54.g.c, .int .i64 d0.kinds, .slice x54.tok.A d0.tok.length x54.tok.c, .slice x54.col.A d0.col.length x54.col.c, .slice x54.brd.A d0.brd.length x54.brd.c, .int .i64 d0.count] 66))
  have E71 := Lib.hid ((E59.out).alloc (.cells #[.int .i64 d0.g.sz, .slice x54.g.A d0.g.ps.length x54.g.c, .int .i64 d0.kinds, .slice x54.tok.A d0.tok.length x54.tok.c, .slice x54.col.A d0.col.length x54.col.c, .slice x54.brd.A d0.brd.length x54.brd.c, .int .i64 d0.count] 66))
  have E72 := Lib.hid ((E61.out).alloc (.cells #[.int .i64 d0.g.sz, .slice x54.g.A d0.g.ps.length x54.g.c, .int .i64 d0.kinds, .slice x54.tok.A d0.tok.length x54.tok.c, .slice x54.col.A d0.col.length x54.col.c, .slice x54.brd.A d0.brd.length x54.brd.c, .int .i64 d0.count] 66))
  have N73 := Lib.hid (alloc_size (w55) (.cells #[.int .i64 d0.g.sz, .slice x54.g.A d0.g.ps.length x54.g.c, .int .i64 d0.kinds, .slice x54.tok.A d0.tok.length x54.tok.c, .slice x54.col.A d0.col.length x54.col.c, .slice x54.brd.A d0.brd.length x54.brd.c, .int .i64 d0.count] 66))
  have E74 := Lib.hid (Ext.refl ((w55).alloc (.cells #[.int .i64 d0.g.sz, .slice x54.g.A d0.g.ps.length x54.g.c, .int .i64 d0.kinds, .slice x54.tok.A d0.tok.length x54.tok.c, .slice x54.col.A d0.col.length x54.col.c, .slice x54.brd.A d0.brd.length x54.brd.c, .int .i64 d0.count] 66)))
  have f75 := (E74.out).cell C62.out
  have f76 := (E74.out).cell C63.out
  have f77 := (E74.out).cell C64.out
  have f78 := (E74.out).cell C65.out
  have f79 := (E74.out).cell C66.out
  have f80 := (E74.out).cell C67.out
  have f81 := (E74.out).cell C68.out
  go_wp2_with fail
  refine (KI.out x54 _ (O56.out.rd.ext E72.out)).mono ?_
  rintro e w83 ⟨rfl, hx⟩
  have E84 := Lib.hid ((E69.out).trans hx)
  have E85 := Lib.hid ((E70.out).trans hx)
  have E86 := Lib.hid ((E71.out).trans hx)
  have E87 := Lib.hid ((E72.out).trans hx)
  have E88 := Lib.hid ((E74.out).trans hx)
  have N89 := Lib.hid (Ext.size hx)
  clear hx f75 f76 f77 f78 f79 f80 f81
  have E90 := Lib.hid (Ext.refl (w83))
  have f91 := fun w' (e : Ext (w83) w') => e.cell ((E88.out).cell C62.out)
  have f92 := fun w' (e : Ext (w83) w') => e.cell ((E88.out).cell C63.out)
  have f93 := fun w' (e : Ext (w83) w') => e.cell ((E88.out).cell C64.out)
  have f94 := fun w' (e : Ext (w83) w') => e.cell ((E88.out).cell C65.out)
  have f95 := fun w' (e : Ext (w83) w') => e.cell ((E88.out).cell C66.out)
  have f96 := fun w' (e : Ext (w83) w') => e.cell ((E88.out).cell C67.out)
  have f97 := fun w' (e : Ext (w83) w') => e.cell ((E88.out).cell C68.out)
  have f98 := fun w' (e : Ext (w83) w') => e.cell ((E84.out).cell C1.out)
  have f99 := fun w' (e : Ext (w83) w') => e.cell ((E84.out).cell C2.out)
  have f100 := fun w' (e : Ext (w83) w') => e.cell ((E84.out).cell C3.out)
  have f101 := fun w' (e : Ext (w83) w') => e.cell ((E84.out).cell C4.out)
  have f102 := fun w' (e : Ext (w83) w') => e.cell ((E84.out).cell C5.out)
  have f103 := fun w' (e : Ext (w83) w') => e.cell ((E84.out).cell C6.out)
  have f104 := fun w' (e : Ext (w83) w') => e.cell ((E84.out).cell C7.out)
  go_wp2_with fail
  go_region_held3 (fun w' => Ext (w83) w')
    (first
      | exact (Ext.refl _).drew
      | assumption
      | exact Ext.trans (by assumption) hy1)
    (first
      | ((fail_if_success (have _h1 := ho1)); go_at_call 45; refine (toU_t d0 a0 _ ((H0.out.ext E84.out).ext (by assumption)) HB0.out).mono ?_; rintro e ww ⟨A1, rfl, ho1, hy1⟩; have hz1 := Ext.trans (a := w83) (by assumption) hy1)
      | (have _h1 := ho1; go_at_call 47; refine (eqU_t d0 x54 A1 _ ((O56.out.rd.ext E87.out).ext hz1) ho1.rd).mono ?_; rintro e w105 ⟨rfl, hy1⟩))
  have hx : Ext (w83) w105 := by assumption
  have E106 := Lib.hid ((E84.out).trans hx)
  have E107 := Lib.hid ((E85.out).trans hx)
  have E108 := Lib.hid ((E86.out).trans hx)
  have E109 := Lib.hid ((E87.out).trans hx)
  have E110 := Lib.hid ((E88.out).trans hx)
  have E111 := Lib.hid ((E90.out).trans hx)
  have N112 := Lib.hid (Ext.size hx)
  clear hx ho1 hz1 f91 f92 f93 f94 f95 f96 f97 f98 f99 f100 f101 f102 f103 f104
  go_wp2
  go_ret
  exact ⟨rfl, HE.out.trans E106.out⟩
end Go.Proofs.Ytkfbkflneppggaa
