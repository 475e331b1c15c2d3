/-
  The contract of the reference's FirstMap, and that the two agree. Conditions: none.
-/
import Derived.Test.YtkfbkflneppggaaFm
namespace Go.Proofs.Ytkfbkflneppggaa
open Go.RowKit
set_option linter.unusedVariables false
set_option linter.unusedSimpArgs false

theorem Cut.head {l r : List (List Int)} {most : Int} (h : Cut l most r) (hr : r ≠ []) : headM l = headM r ∧ anyM l = true := by
  obtain ⟨rest, rfl, _⟩ := h
  cases r with
  | nil => exact absurd rfl hr
  | cons m r => exact ⟨rfl, rfl⟩

set_option maxHeartbeats 1000000 in
theorem FirstMapS_c (gs hs : Int) (gn gc hn hc : Nat) (gA hA : Option Addr) (lz : Bool) (gps hps : List (Int × Int)) (w : World) (hgp : SlP w gA gn gps) (hhp : SlP w hA hn hps) :
    Calls Try.prog 26 #[.agg #[.int .i64 gs, .slice gA gn gc], .agg #[.int .i64 hs, .slice hA hn hc], .bool lz] w fun e w' =>
      ∃ A n c l b, e = .returned (.tuple #[.slice A n c, .bool b]) ∧ SlI w' A n l ∧ Ext w w' ∧
        (goodM gs gps hs hps = true → l = headM (allM hs.toNat (okS gps hps lz) gs.toNat []) ∧ b = anyM (allM hs.toNat (okS gps hps lz) gs.toNat [])) ∧ (goodM gs gps hs hps = false → l = [] ∧ b = false) := by
  have hE := ((Ext.refl w).alloc (.cells #[.int .i64 gs, .slice gA gn gc] 28)).alloc (.cells #[.int .i64 hs, .slice hA hn hc] 28)
  have HA := Lib.hid (hgp.ext hE)
  have HB := Lib.hid (hhp.ext hE)
  have HE := Lib.hid hE
  clear hE hgp hhp
  cases q : goodM gs gps hs hps with
  | false =>
    go_enter Try.func26, Try.ntmps26
    go_wp2_with (go_at_call 55; refine (l10Good_c _ _ gA hA gn hn gc hc gps hps _ HA.out HB.out).mono ?_; rintro e w1 ⟨rfl, hx⟩)
    go_ret2
    exact ⟨_, 0, 0, [], false, rfl, SlI.nil _ _, (HE.out.trans hx).alloc _, by simp, by simp⟩
  | true =>
    obtain ⟨⟨g0, g1⟩, h0, h1⟩ := goodM_range q
    obtain ⟨g, rfl⟩ := Int.eq_ofNat_of_zero_le g0
    obtain ⟨h, rfl⟩ := Int.eq_ofNat_of_zero_le h0
    have hg8 : g ≤ 8 := by omega
    have hh8 : h ≤ 8 := by omega
    clear g0 g1 h0 h1
    go_enter Try.func26, Try.ntmps26
    go_wp2_with fail
    refine (l10Good_c _ _ gA hA gn hn gc hc gps hps _ HA.out HB.out).mono ?_
    rintro e w1 ⟨rfl, hx⟩
    rw [q]
    have HX := Lib.hid hx
    have d1 := hx.cell (cell_old (.cells #[.int .i64 (h : Int), .slice hA hn hc] 28) (cell_new w #[.int .i64 (g : Int), .slice gA gn gc] 28 0 _ rfl))
    have d1' := hx.cell (cell_old (.cells #[.int .i64 (h : Int), .slice hA hn hc] 28) (cell_new w #[.int .i64 (g : Int), .slice gA gn gc] 28 1 _ rfl))
    have d2 := hx.cell (cell_new (w.alloc (.cells #[.int .i64 (g : Int), .slice gA gn gc] 28)) #[.int .i64 (h : Int), .slice hA hn hc] 28 0 _ rfl)
    have d2' := hx.cell (cell_new (w.alloc (.cells #[.int .i64 (g : Int), .slice gA gn gc] 28)) #[.int .i64 (h : Int), .slice hA hn hc] 28 1 _ rfl)
    simp only [alloc_size] at d2 d2'
    clear hx
    go_wp2_with fail
    have hcall := l10All_c g h gn gc hn hc gA hA lz gps hps hg8 hh8 g 0 (some ⟨w1.heap.size, 0, none⟩) 0 [] 0 (w1.alloc (.cells #[] 3)) (by omega) (by omega) (by omega) (own_sl1' (xs := []) (own_empty w1 3 1 0 #[] rfl (by omega)))
      (fun b hb => by rw [alloc_size]; have : w1.heap.size = b := (by simpa [Value.ownBlock] using hb); omega) ((HA.out.ext HX.out).ext ((Ext.refl w1).alloc _)) ((HB.out.ext HX.out).ext ((Ext.refl w1).alloc _))
    refine hcall.mono ?_
    rintro e w2 ⟨A, c, vs, L, rfl, ho, hll, hcut, hy⟩
    have HF := Lib.hid ((HE.out.trans HX.out).trans (((Ext.refl w1).alloc _).trans hy))
    have HCut := Lib.hid hcut
    have hlen := hll.length
    cases L with
    | nil =>
      obtain rfl : vs = [] := List.eq_nil_of_length_eq_zero hlen
      clear hy hcall d1 d1' d2 d2' ho hll hcut hlen
      go_wp2
      go_ret2
      refine ⟨_, 0, 0, [], false, rfl, SlI.nil _ _, HF.out.alloc _, fun _ => ?_, by simp⟩
      have hnil := (HCut.out.nil _ (by omega)).1 rfl
      simp only [Int.toNat_natCast]
      rw [hnil]; exact ⟨rfl, rfl⟩
    | cons m L =>
      obtain ⟨A1, c1, hv, hs1⟩ := hll.get 0 (by simp)
      obtain ⟨b, o, hA1, _, hcell⟩ := (own_slv ho).2.2 (by rw [hlen]; simp)
      subst hA1
      have hc0 := hcell 0 _ hv
      simp only [List.getElem_cons_zero, Nat.add_zero] at hc0 hs1
      have HS := Lib.hid hs1
      have hpos : 0 < vs.length := by rw [hlen]; simp
      have i0 : (0 : Int) < (vs.length : Int) := by omega
      have i1 : ((vs.length : Int) == 0) = false := by rw [beq_eq_false_iff_ne]; omega
      have HL := Lib.hid hlen
      clear hy hcall d1 d1' d2 d2' ho hll hcut hlen hcell hv hs1 hpos
      go_wp2
      go_ret2
      refine ⟨A1, m.length, c1, m, true, rfl, HS.out, HF.out, fun _ => ?_, by simp⟩
      obtain ⟨e1, e2⟩ := HCut.out.head (by simp)
      simp only [Int.toNat_natCast]
      exact ⟨e1.symm, e2.symm⟩
end Go.Proofs.Ytkfbkflneppggaa
