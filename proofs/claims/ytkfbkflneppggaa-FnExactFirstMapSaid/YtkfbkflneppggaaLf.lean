/-
  The law FnExactFirstMap: it answers true. Conditions: none beyond the slices' readings.
-/
import Derived.Test.YtkfbkflneppggaaFn
import Derived.Test.YtkfbkflneppggaaLc
import Derived.Test.YtkfbkflneppggaaMk
namespace Go.Proofs.Ytkfbkflneppggaa
open Go.RowKit
set_option linter.unusedVariables false
set_option linter.unusedSimpArgs false

theorem allM_each (hs : Nat) (ok : List Int → Int → Bool) : ∀ (m : Nat) (pre l : List Int), l ∈ allM hs ok m pre → l.length = pre.length + m
  | 0, pre, l, h => by simp only [allM, List.mem_singleton] at h; rw [h]; rfl
  | m + 1, pre, l, h => by
    simp only [allM, List.mem_flatMap] at h
    obtain ⟨y, _, hy⟩ := h
    split at hy
    · have := allM_each hs ok m _ l hy
      rw [this]; simp; omega
    · simp at hy

/-- The first map and whether there is one. -/
def firstL (gs : Int) (gps : List (Int × Int)) (hs : Int) (hps : List (Int × Int)) (lz : Bool) : List Int := if goodM gs gps hs hps then headM (allM hs.toNat (okS gps hps lz) gs.toNat []) else []
def firstB (gs : Int) (gps : List (Int × Int)) (hs : Int) (hps : List (Int × Int)) (lz : Bool) : Bool := if goodM gs gps hs hps then anyM (allM hs.toNat (okS gps hps lz) gs.toNat []) else false
theorem firstL_length (gs : Int) (gps : List (Int × Int)) (hs : Int) (hps : List (Int × Int)) (lz : Bool) : (firstL gs gps hs hps lz).length ≤ 8 := by
  unfold firstL
  split
  · rename_i q
    have hr := goodM_range q
    cases hl : allM hs.toNat (okS gps hps lz) gs.toNat [] with
    | nil => simp [headM]
    | cons m L =>
      have := allM_each hs.toNat (okS gps hps lz) gs.toNat [] m (by rw [hl]; simp)
      simp only [headM, List.length_nil] at this ⊢
      omega
  · simp
theorem all_same {gs hs : Int} {gps hps : List (Int × Int)} (q : goodM gs gps hs hps = true) (lz : Bool) : allM hs.toNat (okB gps hps gs.toNat lz) gs.toNat [] = allM hs.toNat (okS gps hps lz) gs.toNat [] := by
  have hr := goodM_range q
  have hg : goodP gps (gs.toNat : Int) = true := by
    rw [Int.toNat_of_nonneg hr.1.1]
    simp only [goodM, goodG, Bool.and_eq_true] at q
    exact q.1.1.2
  have hh : goodP hps hs = true := by
    simp only [goodM, goodG, Bool.and_eq_true] at q
    exact q.1.2.2
  exact allM_congr (fun pre v hp => ok_same hg hh lz pre v hp) gs.toNat [] (by simp)

theorem FirstS_c (gs hs : Int) (gn gc hn hc : Nat) (gA hA : Option Addr) (lz : Bool) (gps hps : List (Int × Int)) (w : World) (hgp : SlP w gA gn gps) (hhp : SlP w hA hn hps) :
    Calls Try.prog 26 #[.agg #[.int .i64 gs, .slice gA gn gc], .agg #[.int .i64 hs, .slice hA hn hc], .bool lz] w fun e w' =>
      ∃ A c, e = .returned (.tuple #[.slice A (firstL gs gps hs hps lz).length c, .bool (firstB gs gps hs hps lz)]) ∧ SlI w' A (firstL gs gps hs hps lz).length (firstL gs gps hs hps lz) ∧ Ext w w' := by
  refine (FirstMapS_c gs hs gn gc hn hc gA hA lz gps hps w hgp hhp).mono ?_
  rintro e w' ⟨A, n, c, l, b, rfl, hs1, hx, h1, h0⟩
  obtain ⟨rfl, rfl⟩ : l = firstL gs gps hs hps lz ∧ b = firstB gs gps hs hps lz := by
    unfold firstL firstB
    cases q : goodM gs gps hs hps with
    | true => simpa using h1 q
    | false => simpa using h0 q
  have := hs1.len
  subst this
  exact ⟨A, c, rfl, hs1, hx⟩
theorem FirstI_c (gs hs : Int) (gn gc hn hc : Nat) (gA hA : Option Addr) (lz : Bool) (gps hps : List (Int × Int)) (w : World) (hgp : SlP w gA gn gps) (hhp : SlP w hA hn hps) :
    Calls Try.prog 27 #[.agg #[.int .i64 gs, .slice gA gn gc], .agg #[.int .i64 hs, .slice hA hn hc], .bool lz] w fun e w' =>
      ∃ A c, e = .returned (.tuple #[.slice A (firstL gs gps hs hps lz).length c, .bool (firstB gs gps hs hps lz)]) ∧ w'.ownsRow w.heap.size 3 1 (.slice A (firstL gs gps hs hps lz).length c) (firstL gs gps hs hps lz).length (ints (firstL gs gps hs hps lz)) ∧ Ext w w' := by
  refine (FirstMapI_c gs hs gn gc hn hc gA hA lz gps hps w hgp hhp).mono ?_
  rintro e w' ⟨A, n, c, l, b, rfl, hs1, hx, h1, h0⟩
  obtain ⟨rfl, rfl⟩ : l = firstL gs gps hs hps lz ∧ b = firstB gs gps hs hps lz := by
    unfold firstL firstB
    cases q : goodM gs gps hs hps with
    | true => rw [all_same q] at h1; simpa using h1 q
    | false => simpa using h0 q
  have := (own_sl1' hs1).len
  subst this
  exact ⟨A, c, rfl, hs1, hx⟩

theorem own_far {w w' : World} {base n c : Nat} {A : Option Addr} {e : TypeId} {size : Nat} {xs : List Value} {D : Nat → Prop} (h : w.ownsRow base e size (.slice A n c) n xs) (x : Chg D w w') (hD : ∀ k, base ≤ k → k < w.heap.size → ¬ D k) : w'.ownsRow base e size (.slice A n c) n xs :=
  own_block h (fun k hk => x.block k (h.lt k hk).2 (hD k (h.lt k hk).1 (h.lt k hk).2))

set_option maxHeartbeats 4000000 in
theorem FnFirstMap_c (gs hs : Int) (gn gc hn hc : Nat) (gA hA : Option Addr) (lz : Bool) (gps hps : List (Int × Int)) (w : World) (hgp : SlP w gA gn gps) (hhp : SlP w hA hn hps) (bg : gn ≤ 9223372036854775807) (bh : hn ≤ 9223372036854775807) :
    Calls Try.prog 6 #[.agg #[.int .i64 gs, .slice gA gn gc], .agg #[.int .i64 hs, .slice hA hn hc], .bool lz] w fun e w' => e = .returned (.bool true) ∧ Ext w w' := by
  have hE := ((Ext.refl w).alloc (.cells #[.int .i64 gs, .slice gA gn gc] 24)).alloc (.cells #[.int .i64 hs, .slice hA hn hc] 24)
  have c1 := cell_old (.cells #[.int .i64 hs, .slice hA hn hc] 24) (cell_new w #[.int .i64 gs, .slice gA gn gc] 24 0 _ rfl)
  have c1' := cell_old (.cells #[.int .i64 hs, .slice hA hn hc] 24) (cell_new w #[.int .i64 gs, .slice gA gn gc] 24 1 _ rfl)
  have c2 := cell_new (w.alloc (.cells #[.int .i64 gs, .slice gA gn gc] 24)) #[.int .i64 hs, .slice hA hn hc] 24 0 _ rfl
  have c2' := cell_new (w.alloc (.cells #[.int .i64 gs, .slice gA gn gc] 24)) #[.int .i64 hs, .slice hA hn hc] 24 1 _ rfl
  simp only [alloc_size] at c2 c2'
  have C1 := Lib.hid c1; have C1' := Lib.hid c1'; have C2 := Lib.hid c2; have C2' := Lib.hid c2'
  have HA := Lib.hid (hgp.ext hE)
  have HB := Lib.hid (hhp.ext hE)
  have HE := Lib.hid hE
  clear hE hgp hhp c1 c1' c2 c2'
  have HN1 := Lib.hid (show leftOf 1048576 gn = if (1048576 : Int) < gn then -1 else 1048576 - (gn : Int) from rfl)
  by_cases hg : (1048576 : Int) < gn
  · rw [if_pos hg] at HN1
    clear hg
    go_enter Try.func6, Try.ntmps6
    go_wp2_with fail
    refine (szGraph_c gs gA gn gc 1048576 _ bg (by omega) (by omega)).mono ?_
    rintro e w1 ⟨rfl, hx⟩
    rw [HN1.out]
    go_wp2
    go_ret
    exact ⟨rfl, HE.out.trans hx⟩
  rw [if_neg hg] at HN1
  have HN2 := Lib.hid (show leftOf (1048576 - (gn : Int)) hn = if (1048576 - (gn : Int)) < hn then -1 else (1048576 - (gn : Int)) - (hn : Int) from rfl)
  have t1 : decide ((1048576 - (gn : Int)) < 0) = false := by simp; omega
  by_cases hh : (1048576 - (gn : Int)) < hn
  · rw [if_pos hh] at HN2
    clear hh
    go_enter Try.func6, Try.ntmps6
    go_wp2_with fail
    refine (szGraph_c gs gA gn gc 1048576 _ bg (by omega) (by omega)).mono ?_
    rintro e w1 ⟨rfl, hx⟩
    rw [HN1.out]
    have d2 := hx.cell C2.out
    have d2' := hx.cell C2'.out
    have Hx := Lib.hid hx; clear hx
    go_wp2_with fail
    refine (szGraph_c hs hA hn hc (1048576 - (gn : Int)) _ bh (by omega) (by omega)).mono ?_
    rintro e w2 ⟨rfl, hy⟩
    rw [HN2.out]
    clear d2 d2'
    go_wp2
    go_ret
    exact ⟨rfl, HE.out.trans (Hx.out.trans hy)⟩
  rw [if_neg hh] at HN2
  have t2 : decide ((1048576 - (gn : Int)) - (hn : Int) < 0) = false := by simp; omega
  have hg20 : gn ≤ 1048576 := by omega
  have hh20 : hn ≤ 1048576 := by omega
  have HG0 := Lib.hid hg; have HH0 := Lib.hid hh; clear hg hh
  go_enter Try.func6, Try.ntmps6
  go_wp2_with fail
  refine (szGraph_c gs gA gn gc 1048576 _ bg (by omega) (by omega)).mono ?_
  rintro e w1 ⟨rfl, hx⟩
  rw [HN1.out]
  have d2 := hx.cell C2.out
  have d2' := hx.cell C2'.out
  have Hx := Lib.hid hx; clear hx
  go_wp2_with fail
  refine (szGraph_c hs hA hn hc (1048576 - (gn : Int)) _ bh (by have := HG0.out; omega) (by omega)).mono ?_
  rintro e w2 ⟨rfl, hy⟩
  rw [HN2.out]
  clear d2 d2'
  have Hy := Lib.hid (Hx.out.trans hy); clear hy Hx
  have e1 := fun w' (e : Ext w2 w') => e.cell (Hy.out.cell C1.out)
  have e1' := fun w' (e : Ext w2 w') => e.cell (Hy.out.cell C1'.out)
  have e2 := fun w' (e : Ext w2 w') => e.cell (Hy.out.cell C2.out)
  have e2' := fun w' (e : Ext w2 w') => e.cell (Hy.out.cell C2'.out)
  have HA2 := Lib.hid (HA.out.ext Hy.out)
  have HB2 := Lib.hid (HB.out.ext Hy.out)
  go_wp2_with fail
  go_region_held3 (fun w' => Ext w2 w')
    (first
      | exact (Ext.refl _).drew
      | assumption
      | exact Ext.trans (by assumption) hy1)
    (first
      | ((fail_if_success (have _h1 := ho1)); go_at_call 15; refine (toGraph_c gs gA gn gc gps _ (HA2.out.ext (by assumption)) hg20).mono ?_; rintro e w3 ⟨A1, cc1, rfl, ho1, hy1⟩; have hz1 := hy1)
      | (have _h1 := ho1; (fail_if_success (have _h1 := ho2)); go_at_call 15; refine (toGraph_c hs hA hn hc hps _ (HB2.out.ext (by assumption)) hh20).mono ?_; rintro e w3 ⟨A2, cc2, rfl, ho2, hy1⟩; have hz2 := hy1)
      | (have _h1 := ho2; go_at_call 26; refine (FirstS_c gs hs gn _ hn _ _ _ lz gps hps _ (by first | exact own_slp ho1 | exact (own_slp ho1).ext hz2) (by first | exact own_slp ho2 | exact (own_slp ho2).ext hz1)).mono ?_; rintro e w3 ⟨A3, c3, rfl, hs3, hy1⟩))
  have HW3 := Lib.hid (show Ext w2 w3 from by assumption)
  have HS3 := Lib.hid hs3
  clear e1 e1' e2 e2' ho1 ho2 hz1 hz2 hs3
  obtain ⟨l, hl⟩ : ∃ l, l = firstL gs gps hs hps lz := ⟨_, rfl⟩
  obtain ⟨bb, hbb⟩ : ∃ b, b = firstB gs gps hs hps lz := ⟨_, rfl⟩
  have HL := Lib.hid hl; have HBB := Lib.hid hbb
  rw [← hl, ← hbb]
  rw [← hl] at HS3
  have hl8 : l.length ≤ 8 := by rw [hl]; exact firstL_length _ _ _ _ _
  have HL8 := Lib.hid hl8
  clear hl hbb hl8
  have f1 := HW3.out.cell (Hy.out.cell C1.out)
  have f1' := HW3.out.cell (Hy.out.cell C1'.out)
  go_wp2_with fail
  refine (toGraph_c gs gA gn gc gps _ (HA2.out.ext HW3.out) hg20).mono ?_
  rintro e w4 ⟨A4, c4, rfl, ho4, hx4⟩
  have HO4 := Lib.hid ho4; have HX4 := Lib.hid hx4
  have f2 := cell_old (.cells #[.int .i64 gs, .slice A4 gn c4] 28) (hx4.cell (HW3.out.cell (Hy.out.cell C2.out)))
  have f2' := cell_old (.cells #[.int .i64 gs, .slice A4 gn c4] 28) (hx4.cell (HW3.out.cell (Hy.out.cell C2'.out)))
  clear ho4 hx4 f1 f1'
  go_wp2_with fail
  refine (toGraph_c hs hA hn hc hps _ (((HB2.out.ext HW3.out).ext HX4.out).ext ((Ext.refl w4).alloc _)) hh20).mono ?_
  rintro e w5 ⟨A5, c5, rfl, ho5, hx5⟩
  clear f2 f2'
  have HX5 := Lib.hid (((Ext.refl w4).alloc _).trans hx5)
  have HO5 := Lib.hid ho5
  have G1 := Lib.hid (own_slp (own_ext HO4.out HX5.out))
  have G2 := Lib.hid (own_slp ho5)
  have h1 := cell_old (.cells #[.int .i64 hs, .slice A5 hn c5] 28) (hx5.cell (cell_new w4 #[.int .i64 gs, .slice A4 gn c4] 28 0 _ rfl))
  have h1' := cell_old (.cells #[.int .i64 hs, .slice A5 hn c5] 28) (hx5.cell (cell_new w4 #[.int .i64 gs, .slice A4 gn c4] 28 1 _ rfl))
  have h2 := cell_new w5 #[.int .i64 hs, .slice A5 hn c5] 28 0 _ rfl
  have h2' := cell_new w5 #[.int .i64 hs, .slice A5 hn c5] 28 1 _ rfl
  have K1 := Lib.hid h1; have K1' := Lib.hid h1'; have K2 := Lib.hid h2; have K2' := Lib.hid h2'
  clear ho5 hx5
  go_wp2_with fail
  refine (FirstI_c gs hs gn c4 hn c5 A4 A5 lz gps hps _ (G1.out.ext ((Ext.refl w5).alloc _)) (G2.out.ext ((Ext.refl w5).alloc _))).mono ?_
  rintro e w6 ⟨A6, c6, rfl, ho6, hx6⟩
  clear h1 h1' h2 h2'
  rw [← HL.out, ← HBB.out]
  rw [← HL.out] at ho6
  have HO6 := Lib.hid ho6
  have HX6 := Lib.hid hx6
  have H36 := Lib.hid (((HX4.out.trans HX5.out).trans ((Ext.refl w5).alloc _)).trans hx6)
  have HX26 := Lib.hid ((Hy.out.trans HW3.out).trans H36.out)
  have q2 : (bb != bb) = false := by simp
  clear hx6 ho6
  go_wp2_with fail
  refine (eqIntS_c A6 A3 l.length c6 c3 l _ (own_sl1' HO6.out) (HS3.out.ext H36.out)).mono ?_
  rintro e w7 ⟨rfl, hx7⟩
  have HX7 := Lib.hid hx7
  have l1 := fun w' (e : Ext w7 w') => e.cell (HX7.out.cell (HX6.out.cell K1.out))
  have l1' := fun w' (e : Ext w7 w') => e.cell (HX7.out.cell (HX6.out.cell K1'.out))
  have l2 := fun w' (e : Ext w7 w') => e.cell (HX7.out.cell (HX26.out.cell C1.out))
  have l2' := fun w' (e : Ext w7 w') => e.cell (HX7.out.cell (HX26.out.cell C1'.out))
  clear hx7
  go_wp2_with fail
  go_region_held3 (fun w' => Ext w7 w')
    (first
      | exact (Ext.refl _).drew
      | assumption
      | exact Ext.trans (by assumption) hy1)
    (first
      | ((fail_if_success (have _h1 := ho1)); go_at_call 15; refine (toGraph_c gs gA gn gc gps _ (((HA.out.ext HX26.out).ext HX7.out).ext (by assumption)) hg20).mono ?_; rintro e w8 ⟨A1, cc1, rfl, ho1, hy1⟩; have hz1 := Ext.trans (a := w7) (by assumption) hy1)
      | (have _h1 := ho1; go_at_call 17; refine (eqGraph_c gs A4 A1 gn c4 cc1 gps _ ((((G1.out.ext ((Ext.refl w5).alloc _)).ext HX6.out).ext HX7.out).ext hz1) (own_slp ho1)).mono ?_; rintro e w8 ⟨rfl, hy1⟩))
  have HX8 := Lib.hid (HX7.out.trans (show Ext w7 w8 from by assumption))
  clear l1 l1' l2 l2' ho1 hz1
  have l1 := fun w' (e : Ext w8 w') => e.cell (HX8.out.cell (HX6.out.cell K2.out))
  have l1' := fun w' (e : Ext w8 w') => e.cell (HX8.out.cell (HX6.out.cell K2'.out))
  have l2 := fun w' (e : Ext w8 w') => e.cell (HX8.out.cell (HX26.out.cell C2.out))
  have l2' := fun w' (e : Ext w8 w') => e.cell (HX8.out.cell (HX26.out.cell C2'.out))
  go_wp2_with fail
  go_region_held3 (fun w' => Ext w8 w')
    (first
      | exact (Ext.refl _).drew
      | assumption
      | exact Ext.trans (by assumption) hy1)
    (first
      | ((fail_if_success (have _h1 := ho1)); go_at_call 15; refine (toGraph_c hs hA hn hc hps _ (((HB.out.ext HX26.out).ext HX8.out).ext (by assumption)) hh20).mono ?_; rintro e w9 ⟨A1, cc1, rfl, ho1, hy1⟩; have hz1 := Ext.trans (a := w8) (by assumption) hy1)
      | (have _h1 := ho1; go_at_call 17; refine (eqGraph_c hs A5 A1 hn c5 cc1 hps _ ((((G2.out.ext ((Ext.refl w5).alloc _)).ext HX6.out).ext HX8.out).ext hz1) (own_slp ho1)).mono ?_; rintro e w9 ⟨rfl, hy1⟩))
  have H69 := Lib.hid (HX8.out.trans (show Ext w8 w9 from by assumption))
  clear l1 l1' l2 l2' ho1 hz1
  have z4 := HX4.out.size
  have z5 := HX5.out.size
  have z6 := HX6.out.size
  have z9 := H69.out.size
  simp only [alloc_size] at z6
  have D0 := HO4.out.lt
  have D1 := HO5.out.lt
  have D2 := HO6.out.lt
  simp only [alloc_size] at D1 D2
  have Z4 := Lib.hid z4; have Z5 := Lib.hid z5; have Z6 := Lib.hid z6; have Z9 := Lib.hid z9; have D0 := Lib.hid D0; have D1 := Lib.hid D1; have D2 := Lib.hid D2
  clear z4 z5 z6 z9
  have p1 := H69.out.cell (HX6.out.cell K1.out)
  have p1' := H69.out.cell (HX6.out.cell K1'.out)
  go_wp2_with fail
  refine (markGraph_c gs A4 gn c4 _ 1 gps _ (own_ext (own_ext (own_ext HO4.out HX5.out) ((Ext.refl w5).alloc _)) (HX6.out.trans H69.out)) (by omega) (by omega) (by omega)).mono ?_
  rintro e w10 ⟨rfl, ho10, hch10⟩
  clear p1 p1'
  have HCh10 := Lib.hid hch10
  have p2 := hch10.cell (H69.out.cell (HX6.out.cell K2.out)) (fun h => by have h1 := (D0.out _ h).2; have h2 := Z5.out; simp only at h1; omega)
  have p2' := hch10.cell (H69.out.cell (HX6.out.cell K2'.out)) (fun h => by have h1 := (D0.out _ h).2; have h2 := Z5.out; simp only at h1; omega)
  have HO5' := Lib.hid (own_far (own_ext (own_ext HO5.out ((Ext.refl w5).alloc _)) (HX6.out.trans H69.out)) hch10 (fun k hk _ h => by have h1 := (D0.out _ h).2; simp only [alloc_size] at hk; omega))
  have HO6' := Lib.hid (own_far (own_ext HO6.out H69.out) hch10 (fun k hk _ h => by have h1 := (D0.out _ h).2; have := Z5.out; simp only [alloc_size] at hk; omega))
  have H310 := Lib.hid (hch10.ext (H36.out.trans H69.out) (fun k h => (D0.out _ h).1))
  clear ho10 hch10
  go_wp2_with fail
  refine (markGraph_c hs A5 hn c5 _ (1 + 2 * (gn : Int)) hps _ HO5'.out (by omega) (by omega) (by omega)).mono ?_
  rintro e w11 ⟨rfl, ho11, hch11⟩
  clear p2 p2'
  have HO6b := Lib.hid (own_far HO6'.out hch11 (fun k hk _ h => by have h1 := (D1.out _ h).2; simp only [alloc_size] at hk; omega))
  have H311 := Lib.hid (hch11.ext H310.out (fun k h => by have h1 := (D1.out _ h).1; have := Z4.out; omega))
  have t3 : decide (1 + 2 * (gn : Int) + 2 * (hn : Int) < 0) = false := by rw [decide_eq_false_iff_not]; omega
  clear ho11 hch11
  go_wp2_with fail
  refine (eqIntS_c A6 A3 l.length c6 c3 l _ (own_sl1' HO6b.out) (HS3.out.ext H311.out)).mono ?_
  rintro e w12 ⟨rfl, hx12⟩
  have HX12 := Lib.hid hx12; clear hx12
  go_wp2_with fail
  refine (markIntS_c A6 l.length c6 _ 1 l _ (own_ext HO6b.out HX12.out) (by have := HL8.out; omega) (by omega) (by omega)).mono ?_
  rintro e w13 ⟨rfl, ho13, hch13⟩
  have HO13 := Lib.hid ho13
  have H313 := Lib.hid (hch13.ext (H311.out.trans HX12.out) (fun k h => by have h1 := (D2.out _ h).1; have := Z4.out; have := Z5.out; omega))
  clear ho13 hch13
  go_wp2_with fail
  refine (heldIntS_c A6 l.length c6 1 _ (own_sl1' HO13.out) (by have := HL8.out; omega) (by omega) (by omega)).mono ?_
  rintro e w14 ⟨rfl, hx14⟩
  subst hx14
  have t4 : decide (1 + (l.length : Int) < 0) = false := by rw [decide_eq_false_iff_not]; omega
  have t5 : ((1 + (l.length : Int)) != (1 + (l.length : Int))) = false := by simp
  have l1 := fun w' (e : Ext w13 w') => e.cell (H313.out.cell (HW3.out.cell (Hy.out.cell C1.out)))
  have l1' := fun w' (e : Ext w13 w') => e.cell (H313.out.cell (HW3.out.cell (Hy.out.cell C1'.out)))
  have l2 := fun w' (e : Ext w13 w') => e.cell (H313.out.cell (HW3.out.cell (Hy.out.cell C2.out)))
  have l2' := fun w' (e : Ext w13 w') => e.cell (H313.out.cell (HW3.out.cell (Hy.out.cell C2'.out)))
  have HA13 := Lib.hid ((HA2.out.ext HW3.out).ext H313.out)
  have HB13 := Lib.hid ((HB2.out.ext HW3.out).ext H313.out)
  go_wp2_with fail
  go_region_held3 (fun w' => Ext w13 w')
    (first
      | exact (Ext.refl _).drew
      | assumption
      | exact Ext.trans (by assumption) hy1)
    (first
      | ((fail_if_success (have _h1 := ho1)); go_at_call 15; refine (toGraph_c gs gA gn gc gps _ (HA13.out.ext (by assumption)) hg20).mono ?_; rintro e w14 ⟨A1, cc1, rfl, ho1, hy1⟩; have hz1 := hy1)
      | (have _h1 := ho1; (fail_if_success (have _h1 := ho2)); go_at_call 15; refine (toGraph_c hs hA hn hc hps _ (HB13.out.ext (by assumption)) hh20).mono ?_; rintro e w14 ⟨A2, cc2, rfl, ho2, hy1⟩; have hz2 := hy1)
      | (have _h1 := ho2; go_at_call 27; refine (FirstI_c gs hs gn _ hn _ _ _ lz gps hps _ (by first | exact own_slp ho1 | exact (own_slp ho1).ext hz2) (by first | exact own_slp ho2 | exact (own_slp ho2).ext hz1)).mono ?_; rintro e w14 ⟨A14, c14, rfl, ho14, hy1⟩))
  have HX14 := Lib.hid (show Ext w13 w14 from by assumption)
  rw [← HL.out] at ho14
  have HO14 := Lib.hid ho14
  clear l1 l1' l2 l2' ho1 ho2 hz1 hz2 ho14
  rw [← HL.out, ← HBB.out]
  go_wp2_with fail
  refine (eqIntS_c A14 A3 l.length c14 c3 l _ (own_sl1' HO14.out) ((HS3.out.ext H313.out).ext HX14.out)).mono ?_
  rintro e w15 ⟨rfl, hx15⟩
  have HX15 := Lib.hid hx15; clear hx15
  go_wp2_with fail
  refine (heldIntS_c A6 l.length c6 1 _ (((own_sl1' HO13.out).ext HX14.out).ext HX15.out) (by have := HL8.out; omega) (by omega) (by omega)).mono ?_
  rintro e w16 ⟨rfl, hx16⟩
  subst hx16
  go_wp2
  go_ret
  exact ⟨rfl, ((HE.out.trans Hy.out).trans HW3.out).trans ((H313.out.trans HX14.out).trans HX15.out)⟩
end Go.Proofs.Ytkfbkflneppggaa
