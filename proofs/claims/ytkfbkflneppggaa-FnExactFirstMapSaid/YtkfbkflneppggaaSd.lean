/-
  The contract of the reference's CountMaps. Conditions: none.
-/
import Derived.Test.YtkfbkflneppggaaSc
namespace Go.Proofs.Ytkfbkflneppggaa
open Go.RowKit
set_option linter.unusedVariables false
set_option linter.unusedSimpArgs false

/-- The number of maps (as the reference counts them). -/
def countS (gs : Int) (gps : List (Int × Int)) (hs : Int) (hps : List (Int × Int)) (lz : Bool) : Int := if goodM gs gps hs hps then ((allM hs.toNat (okS gps hps lz) gs.toNat []).length : Int) else 0

set_option maxHeartbeats 1000000 in
theorem CountS_c (gs hs : Int) (gn gc hn hc : Nat) (gA hA : Option Addr) (lz : Bool) (gps hps : List (Int × Int)) (w : World) (hgp : SlP w gA gn gps) (hhp : SlP w hA hn hps) :
    Calls Try.prog 14 #[.agg #[.int .i64 gs, .slice gA gn gc], .agg #[.int .i64 hs, .slice hA hn hc], .bool lz] w fun e w' =>
      e = .returned (.tuple #[.int .i64 (countS gs gps hs hps lz), .bool (goodM gs gps hs hps)]) ∧ Ext w w' := by
  have hE := ((Ext.refl w).alloc (.cells #[.int .i64 gs, .slice gA gn gc] 28)).alloc (.cells #[.int .i64 hs, .slice hA hn hc] 28)
  have HA := Lib.hid (hgp.ext hE)
  have HB := Lib.hid (hhp.ext hE)
  have HE := Lib.hid hE
  have HQ := Lib.hid (show countS gs gps hs hps lz = if goodM gs gps hs hps then ((allM hs.toNat (okS gps hps lz) gs.toNat []).length : Int) else 0 from rfl)
  clear hE hgp hhp
  cases q : goodM gs gps hs hps with
  | false =>
    rw [q] at HQ
    go_enter Try.func14, Try.ntmps14
    go_wp2_with (go_at_call 55; refine (l10Good_c _ _ gA hA gn hn gc hc gps hps _ HA.out HB.out).mono ?_; rintro e w1 ⟨rfl, hx⟩)
    go_ret2
    exact ⟨by rw [HQ.out]; rfl, HE.out.trans hx⟩
  | true =>
    rw [q] at HQ
    obtain ⟨⟨g0, g1⟩, h0, h1⟩ := goodM_range q
    obtain ⟨g, rfl⟩ := Int.eq_ofNat_of_zero_le g0
    obtain ⟨h, rfl⟩ := Int.eq_ofNat_of_zero_le h0
    have hg8 : g ≤ 8 := by omega
    have hh8 : h ≤ 8 := by omega
    clear g0 g1 h0 h1
    go_enter Try.func14, Try.ntmps14
    go_wp2_with fail
    refine (l10Good_c _ _ gA hA gn hn gc hc gps hps _ HA.out HB.out).mono ?_
    rintro e w1 ⟨rfl, hx⟩
    rw [q]
    have HX := Lib.hid hx
    have d1 := hx.cell (cell_old (.cells #[.int .i64 (h : Int), .slice hA hn hc] 28) (cell_new w #[.int .i64 (g : Int), .slice gA gn gc] 28 0 _ rfl))
    have d1' := hx.cell (cell_old (.cells #[.int .i64 (h : Int), .slice hA hn hc] 28) (cell_new w #[.int .i64 (g : Int), .slice gA gn gc] 28 1 _ rfl))
    have d2 := hx.cell (cell_new (w.alloc (.cells #[.int .i64 (g : Int), .slice gA gn gc] 28)) #[.int .i64 (h : Int), .slice hA hn hc] 28 0 _ rfl)
    have d2' := hx.cell (cell_new (w.alloc (.cells #[.int .i64 (g : Int), .slice gA gn gc] 28)) #[.int .i64 (h : Int), .slice hA hn hc] 28 1 _ rfl)
    simp only [alloc_size] at d2 d2'
    clear hx
    go_wp2_with fail
    have hcall := l10Count_c g h gn gc hn hc gA hA lz gps hps hg8 hh8 g 0 (some ⟨w1.heap.size, 0, none⟩) 0 [] (w1.alloc (.cells #[] 3)) (by omega) (own_sl1' (xs := []) (own_empty w1 3 1 0 #[] rfl (by omega))) ((HA.out.ext HX.out).ext ((Ext.refl w1).alloc _)) ((HB.out.ext HX.out).ext ((Ext.refl w1).alloc _))
    refine hcall.mono ?_
    rintro e w2 ⟨rfl, hy⟩
    have HF := Lib.hid ((HE.out.trans HX.out).trans (((Ext.refl w1).alloc _).trans hy))
    clear hy hcall d1 d1' d2 d2'
    go_wp2
    go_ret2
    refine ⟨?_, HF.out⟩
    rw [HQ.out]; simp
end Go.Proofs.Ytkfbkflneppggaa
