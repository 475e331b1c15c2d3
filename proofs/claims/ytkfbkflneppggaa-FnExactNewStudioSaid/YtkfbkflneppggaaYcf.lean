/-
  The law FnExactCanFold: it answers true where the program's function and the reference's answer alike. Conditions: these contracts.
-/
import Derived.Test.YtkfbkflneppggaaTg
import Derived.BigQuiet
import Derived.Deep.RegionHeld3
namespace Go.Proofs.Ytkfbkflneppggaa
open Go.RowKit
set_option linter.unusedVariables false
set_option linter.unusedSimpArgs false

set_option maxHeartbeats 4000000 in
theorem LawCanFold_c (d0 : GrD) (a0 : SlA) (v0 : Bool) (v1 : Bool) (w : World) (h0 : RdG w a0 d0)
    (hS : (∀ (a0 : SlA) (w : World), RdG w a0 d0 → Calls Try.prog 18 #[.agg #[.int .i64 d0.sz, .slice a0.A d0.ps.length a0.c]] w fun e w' => e = .returned (.tuple #[.bool v0, .bool v1]) ∧ Ext w w'))
    (hI : (∀ (a0 : SlA) (w : World), RdG w a0 d0 → Calls Try.prog 19 #[.agg #[.int .i64 d0.sz, .slice a0.A d0.ps.length a0.c]] w fun e w' => e = .returned (.tuple #[.bool v0, .bool v1]) ∧ Ext w w')) :
    Calls Try.prog 4 #[.agg #[.int .i64 d0.sz, .slice a0.A d0.ps.length a0.c]] w fun e w' => e = .returned (.bool true) ∧ Ext w w' := by
  have hE : Ext w ((w).alloc (.cells #[.int .i64 d0.sz, .slice a0.A d0.ps.length a0.c] 24)) := (Ext.refl w).alloc _
  have c := cell_new (w) #[.int .i64 d0.sz, .slice a0.A d0.ps.length a0.c] 24 0 _ rfl
  have C1 := Lib.hid c; clear c
  have c := cell_new (w) #[.int .i64 d0.sz, .slice a0.A d0.ps.length a0.c] 24 1 _ rfl
  have C2 := Lib.hid c; clear c
  have H0 := Lib.hid (h0.ext hE); clear h0
  have HE := Lib.hid hE; clear hE
  have KS := Lib.hid hS; have KI := Lib.hid hI; clear hS hI
  have EW := Lib.hid (Ext.refl ((w).alloc (.cells #[.int .i64 d0.sz, .slice a0.A d0.ps.length a0.c] 24)))
  have hq0 : (v0 != v0) = false := by simp
  have hq1 : (v1 != v1) = false := by simp
  obtain ⟨l0, hl0⟩ : ∃ l, l = leftG 1048576 d0 := ⟨_, rfl⟩
  have HL0 := Lib.hid hl0.symm
  have hle0 := @leftG_le 1048576 d0
  rw [← hl0] at hle0
  by_cases n0 : l0 < 0
  · clear hl0 hle0
    go_enter Try.func4, Try.ntmps4
    have f3 := (EW.out).cell C1.out
    have f4 := (EW.out).cell C2.out
    go_wp2_with fail
    refine (szG_t d0 a0 1048576 _ (H0.out.ext EW.out) (by omega) (by omega)).mono ?_
    rintro e w5 ⟨rfl, hx⟩
    rw [HL0.out]
    have E6 := Lib.hid ((EW.out).trans hx)
    have N7 := Lib.hid (Ext.size hx)
    clear hx f3 f4
    go_wp2
    go_ret
    exact ⟨rfl, HE.out.trans E6.out⟩
  have LB0 := Lib.hid (show 0 ≤ l0 ∧ l0 ≤ 1048576 by omega)
  have HB0 := Lib.hid ((leftG_ok (hl0 ▸ n0)).resolve_right (by omega))
  have m0 : decide (l0 < 0) = false := by simp; omega
  clear hl0 hle0 n0
  go_enter Try.func4, Try.ntmps4
  have f8 := (EW.out).cell C1.out
  have f9 := (EW.out).cell C2.out
  go_wp2_with fail
  refine (szG_t d0 a0 1048576 _ (H0.out.ext EW.out) (by omega) (by omega)).mono ?_
  rintro e w10 ⟨rfl, hx⟩
  rw [HL0.out]
  have E11 := Lib.hid ((EW.out).trans hx)
  have N12 := Lib.hid (Ext.size hx)
  clear hx f8 f9
  have f15 := (E11.out).cell C1.out
  have f16 := (E11.out).cell C2.out
  go_wp2_with fail
  refine (toG_t d0 a0 _ (H0.out.ext E11.out) HB0.out).mono ?_
  rintro e w18 ⟨b17, rfl, ho, hx⟩
  have O19 := Lib.hid ho
  have E20 := Lib.hid ((E11.out).trans hx)
  have N21 := Lib.hid (Ext.size hx)
  clear ho hx f15 f16
  have E22 := Lib.hid (Ext.refl (w18))
  go_wp2_with fail
  refine (KS.out b17 _ (O19.out.rd.ext E22.out)).mono ?_
  rintro e w14 ⟨rfl, hx⟩
  have E23 := Lib.hid ((E20.out).trans hx)
  have E24 := Lib.hid ((E22.out).trans hx)
  have N25 := Lib.hid (Ext.size hx)
  clear hx
  have E26 := Lib.hid (Ext.refl (w14))
  have f27 := (E23.out).cell C1.out
  have f28 := (E23.out).cell C2.out
  go_wp2_with fail
  refine (toG_t d0 a0 _ (H0.out.ext E23.out) HB0.out).mono ?_
  rintro e w30 ⟨x29, rfl, ho, hx⟩
  have O31 := Lib.hid ho
  have E32 := Lib.hid ((E23.out).trans hx)
  have E33 := Lib.hid ((E24.out).trans hx)
  have E34 := Lib.hid ((E26.out).trans hx)
  have N35 := Lib.hid (Ext.size hx)
  clear ho hx f27 f28
  have E36 := Lib.hid (Ext.refl (w30))
  have C37 := Lib.hid (cell_new (w30) #[.int .i64 d0.sz, .slice x29.A d0.ps.length x29.c] 28 0 _ rfl)
  have C38 := Lib.hid (cell_new (w30) #[.int .i64 d0.sz, .slice x29.A d0.ps.length x29.c] 28 1 _ rfl)
  have E39 := Lib.hid ((E32.out).alloc (.cells #[.int .i64 d0.sz, .slice x29.A d0.ps.length x29.c] 28))
  have E40 := Lib.hid ((E33.out).alloc (.cells #[.int .i64 d0.sz, .slice x29.A d0.ps.length x29.c] 28))
  have E41 := Lib.hid ((E34.out).alloc (.cells #[.int .i64 d0.sz, .slice x29.A d0.ps.length x29.c] 28))
  have E42 := Lib.hid ((E36.out).alloc (.cells #[.int .i64 d0.sz, .slice x29.A d0.ps.length x29.c] 28))
  have N43 := Lib.hid (alloc_size (w30) (.cells #[.int .i64 d0.sz, .slice x29.A d0.ps.length x29.c] 28))
  have E44 := Lib.hid (Ext.refl ((w30).alloc (.cells #[.int .i64 d0.sz, .slice x29.A d0.ps.length x29.c] 28)))
  have f45 := (E44.out).cell C37.out
  have f46 := (E44.out).cell C38.out
  go_wp2_with fail
  refine (KI.out x29 _ (O31.out.rd.ext E42.out)).mono ?_
  rintro e w48 ⟨rfl, hx⟩
  have E49 := Lib.hid ((E39.out).trans hx)
  have E50 := Lib.hid ((E40.out).trans hx)
  have E51 := Lib.hid ((E41.out).trans hx)
  have E52 := Lib.hid ((E42.out).trans hx)
  have E53 := Lib.hid ((E44.out).trans hx)
  have N54 := Lib.hid (Ext.size hx)
  clear hx f45 f46
  have E55 := Lib.hid (Ext.refl (w48))
  have f56 := fun w' (e : Ext (w48) w') => e.cell ((E53.out).cell C37.out)
  have f57 := fun w' (e : Ext (w48) w') => e.cell ((E53.out).cell C38.out)
  have f58 := fun w' (e : Ext (w48) w') => e.cell ((E49.out).cell C1.out)
  have f59 := fun w' (e : Ext (w48) w') => e.cell ((E49.out).cell C2.out)
  go_wp2_with fail
  go_region_held3 (fun w' => Ext (w48) w')
    (first
      | exact (Ext.refl _).drew
      | assumption
      | exact Ext.trans (by assumption) hy1)
    (first
      | ((fail_if_success (have _h1 := ho1)); go_at_call 15; refine (toG_t d0 a0 _ ((H0.out.ext E49.out).ext (by assumption)) HB0.out).mono ?_; rintro e ww ⟨A1, rfl, ho1, hy1⟩; have hz1 := Ext.trans (a := w48) (by assumption) hy1)
      | (have _h1 := ho1; go_at_call 17; refine (eqG_t d0 x29 A1 _ ((O31.out.rd.ext E52.out).ext hz1) ho1.rd).mono ?_; rintro e w60 ⟨rfl, hy1⟩))
  have hx : Ext (w48) w60 := by assumption
  have E61 := Lib.hid ((E49.out).trans hx)
  have E62 := Lib.hid ((E50.out).trans hx)
  have E63 := Lib.hid ((E51.out).trans hx)
  have E64 := Lib.hid ((E52.out).trans hx)
  have E65 := Lib.hid ((E53.out).trans hx)
  have E66 := Lib.hid ((E55.out).trans hx)
  have N67 := Lib.hid (Ext.size hx)
  clear hx ho1 hz1 f56 f57 f58 f59
  go_wp2
  go_ret
  exact ⟨rfl, HE.out.trans E61.out⟩
end Go.Proofs.Ytkfbkflneppggaa
