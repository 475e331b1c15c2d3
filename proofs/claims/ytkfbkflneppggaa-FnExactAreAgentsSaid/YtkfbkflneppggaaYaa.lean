/-
  The law FnExactAreAgents: it answers true where the program's function and the reference's answer alike. Conditions: these contracts.
-/
import Derived.Test.YtkfbkflneppggaaTs
import Derived.BigQuiet
import Derived.Deep.RegionHeld3
namespace Go.Proofs.Ytkfbkflneppggaa
open Go.RowKit
set_option linter.unusedVariables false
set_option linter.unusedSimpArgs false

set_option maxHeartbeats 4000000 in
theorem LawAreAgents_c (d0 : SpD) (d1 : List Int) (a0 : SpA) (a1 : SlA) (v0 : Bool) (v1 : Bool) (w : World) (h0 : RdS w a0 d0) (h1 : RdI w a1 d1)
    (hS : (∀ (a0 : SpA) (a1 : SlA) (w : World), RdS w a0 d0 → RdI w a1 d1 → BdS d0 → BdI d1 → d1.length ≤ a1.c → Calls Try.prog 39 #[.agg #[.slice a0.s.A d0.st.length a0.s.c, .slice a0.t.A d0.tp.length a0.t.c], .slice a1.A d1.length a1.c] w fun e w' => e = .returned (.tuple #[.bool v0, .bool v1]) ∧ Ext w w'))
    (hI : (∀ (a0 : SpA) (a1 : SlA) (w : World), RdS w a0 d0 → RdI w a1 d1 → BdS d0 → BdI d1 → d1.length ≤ a1.c → Calls Try.prog 40 #[.agg #[.slice a0.s.A d0.st.length a0.s.c, .slice a0.t.A d0.tp.length a0.t.c], .slice a1.A d1.length a1.c] w fun e w' => e = .returned (.tuple #[.bool v0, .bool v1]) ∧ Ext w w')) :
    Calls Try.prog 8 #[.agg #[.slice a0.s.A d0.st.length a0.s.c, .slice a0.t.A d0.tp.length a0.t.c], .slice a1.A d1.length a1.c] w fun e w' => e = .returned (.bool true) ∧ Ext w w' := by
  have hE : Ext w ((w).alloc (.cells #[.slice a0.s.A d0.st.length a0.s.c, .slice a0.t.A d0.tp.length a0.t.c] 47)) := (Ext.refl w).alloc _
  have c := cell_new (w) #[.slice a0.s.A d0.st.length a0.s.c, .slice a0.t.A d0.tp.length a0.t.c] 47 0 _ rfl
  have C1 := Lib.hid c; clear c
  have c := cell_new (w) #[.slice a0.s.A d0.st.length a0.s.c, .slice a0.t.A d0.tp.length a0.t.c] 47 1 _ rfl
  have C2 := Lib.hid c; clear c
  have H0 := Lib.hid (h0.ext hE); clear h0
  have H1 := Lib.hid (h1.ext hE); clear h1
  have HE := Lib.hid hE; clear hE
  have KS := Lib.hid hS; have KI := Lib.hid hI; clear hS hI
  have EW := Lib.hid (Ext.refl ((w).alloc (.cells #[.slice a0.s.A d0.st.length a0.s.c, .slice a0.t.A d0.tp.length a0.t.c] 47)))
  have hq0 : (v0 != v0) = false := by simp
  have hq1 : (v1 != v1) = false := by simp
  by_cases q1 : (1048576 : Int) < (d1.length : Int)
  · go_enter Try.func8, Try.ntmps8
    go_wp2
    go_ret
    exact ⟨rfl, HE.out.trans EW.out⟩
  have HB1 := Lib.hid (show BdI d1 by unfold BdI; omega)
  have HT1 := Lib.hid q1; clear q1
  have t1 : decide ((1048576 : Int) < (d1.length : Int)) = false := by have := HT1.out; simp; omega
  obtain ⟨l0, hl0⟩ : ∃ l, l = leftS 1048576 d0 := ⟨_, rfl⟩
  have HL0 := Lib.hid hl0.symm
  have hle0 := @leftS_le 1048576 d0
  rw [← hl0] at hle0
  by_cases n0 : l0 < 0
  · clear hl0 hle0
    go_enter Try.func8, Try.ntmps8
    have f3 := (EW.out).cell C1.out
    have f4 := (EW.out).cell C2.out
    go_wp2_with fail
    refine (szS_t d0 a0 1048576 _ (H0.out.ext EW.out) (by omega) (by omega)).mono ?_
    rintro e w5 ⟨rfl, hx⟩
    rw [HL0.out]
    have E6 := Lib.hid ((EW.out).trans hx)
    have N7 := Lib.hid (Ext.size hx)
    clear hx f3 f4
    go_wp2
    go_ret
    exact ⟨rfl, HE.out.trans E6.out⟩
  have LB0 := Lib.hid (show 0 ≤ l0 ∧ l0 ≤ 1048576 by omega)
  have HB0 := Lib.hid ((leftS_ok (hl0 ▸ n0)).resolve_right (by omega))
  have m0 : decide (l0 < 0) = false := by simp; omega
  clear hl0 hle0 n0
  go_enter Try.func8, Try.ntmps8
  have f8 := (EW.out).cell C1.out
  have f9 := (EW.out).cell C2.out
  go_wp2_with fail
  refine (szS_t d0 a0 1048576 _ (H0.out.ext EW.out) (by omega) (by omega)).mono ?_
  rintro e w10 ⟨rfl, hx⟩
  rw [HL0.out]
  have E11 := Lib.hid ((EW.out).trans hx)
  have N12 := Lib.hid (Ext.size hx)
  clear hx f8 f9
  have f15 := (E11.out).cell C1.out
  have f16 := (E11.out).cell C2.out
  go_wp2_with fail
  refine (toS_t d0 a0 _ (H0.out.ext E11.out) HB0.out).mono ?_
  rintro e w18 ⟨b17, rfl, ho, hx⟩
  have O19 := Lib.hid ho
  have E20 := Lib.hid ((E11.out).trans hx)
  have N21 := Lib.hid (Ext.size hx)
  clear ho hx f15 f16
  have E22 := Lib.hid (Ext.refl (w18))
  go_wp2_with fail
  refine (toI_t d1 a1 _ (H1.out.ext E20.out) HB1.out).mono ?_
  rintro e w24 ⟨b23, rfl, ho, hx⟩
  have O25 := Lib.hid ho
  have E26 := Lib.hid ((E20.out).trans hx)
  have E27 := Lib.hid ((E22.out).trans hx)
  have N28 := Lib.hid (Ext.size hx)
  clear ho hx
  have E29 := Lib.hid (Ext.refl (w24))
  go_wp2_with fail
  refine (KS.out b17 b23 _ (O19.out.rd.ext E27.out) (O25.out.rd.ext E29.out) HB0.out HB1.out (RowB.cap O25.out)).mono ?_
  rintro e w14 ⟨rfl, hx⟩
  have E30 := Lib.hid ((E26.out).trans hx)
  have E31 := Lib.hid ((E27.out).trans hx)
  have E32 := Lib.hid ((E29.out).trans hx)
  have N33 := Lib.hid (Ext.size hx)
  clear hx
  have E34 := Lib.hid (Ext.refl (w14))
  have f35 := (E30.out).cell C1.out
  have f36 := (E30.out).cell C2.out
  go_wp2_with fail
  refine (toS_t d0 a0 _ (H0.out.ext E30.out) HB0.out).mono ?_
  rintro e w38 ⟨x37, rfl, ho, hx⟩
  have O39 := Lib.hid ho
  have E40 := Lib.hid ((E30.out).trans hx)
  have E41 := Lib.hid ((E31.out).trans hx)
  have E42 := Lib.hid ((E32.out).trans hx)
  have E43 := Lib.hid ((E34.out).trans hx)
  have N44 := Lib.hid (Ext.size hx)
  clear ho hx f35 f36
  have E45 := Lib.hid (Ext.refl (w38))
  have C46 := Lib.hid (cell_new (w38) #[.slice x37.s.A d0.st.length x37.s.c, .slice x37.t.A d0.tp.length x37.t.c] 49 0 _ rfl)
  have C47 := Lib.hid (cell_new (w38) #[.slice x37.s.A d0.st.length x37.s.c, .slice x37.t.A d0.tp.length x37.t.c] 49 1 _ rfl)
  have E48 := Lib.hid ((E40.out).alloc (.cells #[.slice x37.s.A d0.st.length x37.s.c, .slice x37.t.A d0.tp.length x37.t.c] 49))
  have E49 := Lib.hid ((E41.out).alloc (.cells #[.slice x37.s.A d0.st.length x37.s.c, .slice x37.t.A d0.tp.length x37.t.c] 49))
  have E50 := Lib.hid ((E42.out).alloc (.cells #[.slice x37.s.A d0.st.length x37.s.c, .slice x37.t.A d0.tp.length x37.t.c] 49))
  have E51 := Lib.hid ((E43.out).alloc (.cells #[.slice x37.s.A d0.st.length x37.s.c, .slice x37.t.A d0.tp.length x37.t.c] 49))
  have E52 := Lib.hid ((E45.out).alloc (.cells #[.slice x37.s.A d0.st.length x37.s.c, .slice x37.t.A d0.tp.length x37.t.c] 49))
  have N53 := Lib.hid (alloc_size (w38) (.cells #[.slice x37.s.A d0.st.length x37.s.c, .slice x37.t.A d0.tp.length x37.t.c] 49))
  have E54 := Lib.hid (Ext.refl ((w38).alloc (.cells #[.slice x37.s.A d0.st.length x37.s.c, .slice x37.t.A d0.tp.length x37.t.c] 49)))
  go_wp2_with fail
  refine (toI_t d1 a1 _ (H1.out.ext E48.out) HB1.out).mono ?_
  rintro e w56 ⟨x55, rfl, ho, hx⟩
  have O57 := Lib.hid ho
  have E58 := Lib.hid ((E48.out).trans hx)
  have E59 := Lib.hid ((E49.out).trans hx)
  have E60 := Lib.hid ((E50.out).trans hx)
  have E61 := Lib.hid ((E51.out).trans hx)
  have E62 := Lib.hid ((E52.out).trans hx)
  have E63 := Lib.hid ((E54.out).trans hx)
  have N64 := Lib.hid (Ext.size hx)
  clear ho hx
  have E65 := Lib.hid (Ext.refl (w56))
  have f66 := (E63.out).cell C46.out
  have f67 := (E63.out).cell C47.out
  go_wp2_with fail
  refine (KI.out x37 x55 _ (O39.out.rd.ext E62.out) (O57.out.rd.ext E65.out) HB0.out HB1.out (RowB.cap O57.out)).mono ?_
  rintro e w69 ⟨rfl, hx⟩
  have E70 := Lib.hid ((E58.out).trans hx)
  have E71 := Lib.hid ((E59.out).trans hx)
  have E72 := Lib.hid ((E60.out).trans hx)
  have E73 := Lib.hid ((E61.out).trans hx)
  have E74 := Lib.hid ((E62.out).trans hx)
  have E75 := Lib.hid ((E63.out).trans hx)
  have E76 := Lib.hid ((E65.out).trans hx)
  have N77 := Lib.hid (Ext.size hx)
  clear hx f66 f67
  have E78 := Lib.hid (Ext.refl (w69))
  have f79 := fun w' (e : Ext (w69) w') => e.cell ((E75.out).cell C46.out)
  have f80 := fun w' (e : Ext (w69) w') => e.cell ((E75.out).cell C47.out)
  have f81 := fun w' (e : Ext (w69) w') => e.cell ((E70.out).cell C1.out)
  have f82 := fun w' (e : Ext (w69) w') => e.cell ((E70.out).cell C2.out)
  go_wp2_with fail
  go_region_held3 (fun w' => Ext (w69) w')
    (first
      | exact (Ext.refl _).drew
      | assumption
      | exact Ext.trans (by assumption) hy1)
    (first
      | ((fail_if_success (have _h1 := ho1)); go_at_call 33; refine (toS_t d0 a0 _ ((H0.out.ext E70.out).ext (by assumption)) HB0.out).mono ?_; rintro e ww ⟨A1, rfl, ho1, hy1⟩; have hz1 := Ext.trans (a := w69) (by assumption) hy1)
      | (have _h1 := ho1; go_at_call 36; refine (eqS_t d0 x37 A1 _ ((O39.out.rd.ext E74.out).ext hz1) ho1.rd).mono ?_; rintro e w83 ⟨rfl, hy1⟩))
  have hx : Ext (w69) w83 := by assumption
  have E84 := Lib.hid ((E70.out).trans hx)
  have E85 := Lib.hid ((E71.out).trans hx)
  have E86 := Lib.hid ((E72.out).trans hx)
  have E87 := Lib.hid ((E73.out).trans hx)
  have E88 := Lib.hid ((E74.out).trans hx)
  have E89 := Lib.hid ((E75.out).trans hx)
  have E90 := Lib.hid ((E76.out).trans hx)
  have E91 := Lib.hid ((E78.out).trans hx)
  have N92 := Lib.hid (Ext.size hx)
  clear hx ho1 hz1 f79 f80 f81 f82
  go_wp2_with fail
  refine (toI_t d1 a1 _ (H1.out.ext E84.out) HB1.out).mono ?_
  rintro e w93 ⟨y94, rfl, ho, hx⟩
  have O95 := Lib.hid ho
  have E96 := Lib.hid ((E84.out).trans hx)
  have E97 := Lib.hid ((E85.out).trans hx)
  have E98 := Lib.hid ((E86.out).trans hx)
  have E99 := Lib.hid ((E87.out).trans hx)
  have E100 := Lib.hid ((E88.out).trans hx)
  have E101 := Lib.hid ((E89.out).trans hx)
  have E102 := Lib.hid ((E90.out).trans hx)
  have E103 := Lib.hid ((E91.out).trans hx)
  have N104 := Lib.hid (Ext.size hx)
  clear ho hx
  go_wp2_with fail
  refine (eqI_t d1 x55 y94 _ (O57.out.rd.ext E102.out) O95.out.rd).mono ?_
  rintro e w105 ⟨rfl, hx⟩
  have E106 := Lib.hid ((E96.out).trans hx)
  have E107 := Lib.hid ((E97.out).trans hx)
  have E108 := Lib.hid ((E98.out).trans hx)
  have E109 := Lib.hid ((E99.out).trans hx)
  have E110 := Lib.hid ((E100.out).trans hx)
  have E111 := Lib.hid ((E101.out).trans hx)
  have E112 := Lib.hid ((E102.out).trans hx)
  have E113 := Lib.hid ((E103.out).trans hx)
  have N114 := Lib.hid (Ext.size hx)
  clear hx
  go_wp2
  go_ret
  exact ⟨rfl, HE.out.trans E106.out⟩
end Go.Proofs.Ytkfbkflneppggaa
