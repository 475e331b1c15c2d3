/-
  The contract of the reference's l10All. Conditions: none.
-/
import Derived.Test.YtkfbkflneppggaaSc
import Derived.Test.YtkfbkflneppggaaPw
import Derived.Test.YtkfbkflneppggaaRl
namespace Go.Proofs.Ytkfbkflneppggaa
open Go.RowKit
set_option linter.unusedVariables false
set_option linter.unusedSimpArgs false

theorem infoL : (Try.prog.info? 40).map (fun i => (i.zero, i.size, i.bytes)) = some (some (.slice none 0 0), 1, 24) := by kernel_rfl

/-- What l10All returns: a row of rows that holds a cut of a list. -/
def AllPost (l : List (List Int)) (most : Int) (ob : Option Nat) (w : World) (e : Ending) (w' : World) : Prop :=
  ∃ A' c' vs L, e = .returned (.slice A' vs.length c') ∧ w'.ownsRow w.heap.size 40 1 (.slice A' vs.length c') vs.length vs ∧ LL w' (fun b => w.heap.size ≤ b ∨ ob = some b) vs L ∧ Cut l most L ∧ Ext w w'

set_option maxHeartbeats 8000000 in
theorem l10All_c (gs hs gn gc hn hc : Nat) (gA hA : Option Addr) (lz : Bool) (gps hps : List (Int × Int)) (hgs : gs ≤ 8) (hhs : hs ≤ 8) :
    ∀ (m x : Nat) (A : Option Addr) (c : Nat) (pre : List Int) (most : Int) (w : World), x + m = gs → 0 ≤ most → most ≤ 1073741824 → SlI w A x pre → (∀ b, (Value.slice A x c).ownBlock = some b → b < w.heap.size) → SlP w gA gn gps → SlP w hA hn hps →
      Calls Try.prog 66 #[.agg #[.int .i64 (gs : Int), .slice gA gn gc], .agg #[.int .i64 (hs : Int), .slice hA hn hc], .bool lz, .slice A x c, .int .i64 most] w
        (AllPost (allM hs (okS gps hps lz) m pre) most (Value.slice A x c).ownBlock w) := by
  intro m
  induction m with
  | zero =>
    intro x A c pre most w hx hm0 hm1 hp hab hg hh
    obtain rfl : x = gs := by omega
    have q0 : ((x : Int) == (x : Int)) = true := by simp
    have hE := ((Ext.refl w).alloc (.cells #[.int .i64 (x : Int), .slice gA gn gc] 28)).alloc (.cells #[.int .i64 (hs : Int), .slice hA hn hc] 28)
    have HE := Lib.hid hE
    have HP := Lib.hid hp; have HAB := Lib.hid hab
    clear hx hp hg hh hE hab
    go_enter Try.func66, Try.ntmps66
    go_wp2
    go_ret
    have hz := (HE.out.alloc (.cells #[] 40)).alloc (.cells #[.slice A x c] 40)
    have h1 := own_one (((w.alloc (.cells #[.int .i64 (x : Int), .slice gA gn gc] 28)).alloc (.cells #[.int .i64 (hs : Int), .slice hA hn hc] 28)).alloc (.cells #[] 40)) 40 (.slice A x c)
    simp only [alloc_size] at h1
    exact ⟨_, _, [.slice A x c], [pre], rfl, own_mono h1 (by omega), LL.one (HP.out.ext hz) (fun b hb => ⟨.inr hb, Nat.lt_of_lt_of_le (HAB.out b hb) hz.size⟩), Cut.all _ _, hz⟩
  | succ m ih =>
    intro x A c pre most w hx hm0 hm1 hp hab hg hh
    have hpl := hp.len
    have q0 : ((x : Int) == (gs : Int)) = false := by simp; omega
    have hx8 : x ≤ 8 := by omega
    have hE := ((Ext.refl w).alloc (.cells #[.int .i64 (gs : Int), .slice gA gn gc] 28)).alloc (.cells #[.int .i64 (hs : Int), .slice hA hn hc] 28)
    have HG := Lib.hid (hg.ext hE); have HH := Lib.hid (hh.ext hE); have HP := Lib.hid (hp.ext hE); have HE := Lib.hid hE; have HX := Lib.hid hx; have HIH := Lib.hid ih; have HPL := Lib.hid hpl
    have HM0 := Lib.hid hm0; have HM1 := Lib.hid hm1
    have HK := Lib.hid (show ∀ wr, Ext ((w.alloc (.cells #[.int .i64 (gs : Int), .slice gA gn gc] 28)).alloc (.cells #[.int .i64 (hs : Int), .slice hA hn hc] 28)) wr →
        wr.cell? ⟨w.heap.size, 0, none⟩ = some (.int .i64 (gs : Int)) ∧ wr.cell? ⟨w.heap.size, 1, none⟩ = some (.slice gA gn gc) ∧ wr.cell? ⟨w.heap.size + 1, 0, none⟩ = some (.int .i64 (hs : Int)) ∧ wr.cell? ⟨w.heap.size + 1, 1, none⟩ = some (.slice hA hn hc) from fun wr hx => by
      have e0 := hx.cell (cell_old _ (cell_new w #[.int .i64 (gs : Int), .slice gA gn gc] 28 0 _ rfl))
      have e1 := hx.cell (cell_old _ (cell_new w #[.int .i64 (gs : Int), .slice gA gn gc] 28 1 _ rfl))
      have e2 := hx.cell (cell_new (w.alloc (.cells #[.int .i64 (gs : Int), .slice gA gn gc] 28)) #[.int .i64 (hs : Int), .slice hA hn hc] 28 0 _ rfl)
      have e3 := hx.cell (cell_new (w.alloc (.cells #[.int .i64 (gs : Int), .slice gA gn gc] 28)) #[.int .i64 (hs : Int), .slice hA hn hc] 28 1 _ rfl)
      simp only [alloc_size] at e2 e3
      exact ⟨e0, e1, e2, e3⟩)
    clear hx hp hg hh hE ih hpl hab
    go_enter Try.func66, Try.ntmps66
    go_wp2
    have hout := own_empty ((w.alloc (.cells #[.int .i64 (gs : Int), .slice gA gn gc] 28)).alloc (.cells #[.int .i64 (hs : Int), .slice hA hn hc] 28)) 40 1 0 #[] rfl (by omega)
    simp only [alloc_size] at hout
    have HOut := Lib.hid hout; clear hout
    go_loopw [12, 13] (fun o v wr => ∃ (k : Nat) (A1 : Option Addr) (c1 : Nat) (vs : List Value) (L : List (List Int)), k ≤ hs ∧ v = .int .i64 (k : Int) ∧ o = .slice A1 vs.length c1 ∧
      wr.ownsRow (w.heap.size + 1 + 1) 40 1 (.slice A1 vs.length c1) vs.length vs ∧ LL wr (fun b => w.heap.size + 1 + 1 ≤ b ∧ (Value.slice A1 vs.length c1).ownBlock ≠ some b) vs L ∧ Cut (someM hs (okS gps hps lz) m pre k) most L ∧ Ext ((w.alloc (.cells #[.int .i64 (gs : Int), .slice gA gn gc] 28)).alloc (.cells #[.int .i64 (hs : Int), .slice hA hn hc] 28)) wr) (fun _ v _ => hs - (intOf v).toNat)
    case atStart => exact ⟨0, _, _, [], [], Nat.zero_le _, rfl, rfl, HOut.out, trivial, ⟨[], rfl, .inl rfl⟩, (Ext.refl _).alloc _⟩
    case round =>
      obtain ⟨k, A1, c1, vs, L, hk, rfl, rfl, ho, hll, hcut, hx⟩ := hrel
      obtain ⟨q0', q1', q2', q3'⟩ := HK.out wr hx
      have Hx := Lib.hid hx; clear hx
      have HO := Lib.hid ho; have HLL := Lib.hid hll; have HC := Lib.hid hcut
      have hvl : vs.length = L.length := hll.length
      have HVL := Lib.hid hvl
      clear ho hll hcut hvl
      by_cases hlt : k < hs
      · by_cases hle : (vs.length : Int) ≤ most
        · have HS := Lib.hid (someM_succ hs (okS gps hps lz) m pre k)
          have HU := Lib.hid (show okS gps hps lz pre (k : Int) = okUpto gps hps lz (x : Int) pre (k : Int) x by rw [okS, HPL.out])
          go_wp2
          obtain ⟨wo, rfl⟩ : ∃ wo : World, wo = wr := ⟨_, rfl⟩
          go_loopw [14, 15] (fun b t wr => ∃ j : Nat, j ≤ x ∧ t = .int .i64 (j : Int) ∧ b = .bool (okUpto gps hps lz (x : Int) pre (k : Int) j) ∧ Ext wo wr) (fun _ t _ => x - (intOf t).toNat)
          case atStart => exact ⟨0, Nat.zero_le _, rfl, rfl, Ext.refl _⟩
          case round =>
            obtain ⟨j, hj, rfl, rfl, hy⟩ := hrel
            obtain ⟨k0, k1, k2, k3⟩ := HK.out wr (Hx.out.trans hy)
            have Hy := Lib.hid hy; clear hy
            have HSU := Lib.hid (okUpto_succ gps hps lz (x : Int) pre (k : Int) j)
            cases qb : okUpto gps hps lz (x : Int) pre (k : Int) j with
            | false =>
              have HF := Lib.hid (okUpto_false qb hj)
              have HNo := Lib.hid (show okS gps hps lz pre (k : Int) = false by rw [HU.out]; exact HF.out)
              by_cases hjx : j < x
              · go_wp2
                go_roundw
                case rel => exact ⟨k + 1, A1, c1, vs, L, by omega, by go_num, rfl, own_ext HO.out Hy.out, (HLL.out).ext Hy.out, by rw [HS.out, HNo.out]; simpa using HC.out, Hx.out.trans Hy.out⟩
                case measure => simp [intOf]; omega
              · go_wp2
                go_roundw
                case rel => exact ⟨k + 1, A1, c1, vs, L, by omega, by go_num, rfl, own_ext HO.out Hy.out, (HLL.out).ext Hy.out, by rw [HS.out, HNo.out]; simpa using HC.out, Hx.out.trans Hy.out⟩
                case measure => simp [intOf]; omega
            | true =>
              by_cases hjx : j < x
              · rw [qb] at HSU
                obtain ⟨b, o, rfl, e1⟩ := ((HP.out.ext Hx.out).ext Hy.out).at j (by have := HPL.out; omega)
                have d0 := fun d : EW wr => d.cell k0
                have d1 := fun d : EW wr => d.cell k1
                have d2 := fun d : EW wr => d.cell k2
                have d3 := fun d : EW wr => d.cell k3
                have d4 := fun d : EW wr => d.cell e1
                have i0 : (0 : Int) ≤ (j : Int) := by omega
                have i1 : (j : Int) < (x : Int) := by omega
                cases q1 : nearE gps (j : Int) (x : Int) with
                | false =>
                  have HO := Lib.hid (show okUpto gps hps lz (x : Int) pre (k : Int) (j + 1) = true by rw [HSU.out, okS1, q1]; rfl)
                  go_wp2_with fail
                  refine wp_region_ext (by kernel_rfl) (by kernel_rfl) ?_
                  repeat (go_big_quiet_step (first | (go_at_call 111; refine quiet_ext (l2Near_c _ _ _ _ gps _ _ _ ?_); exact ((HG.out.ext Hx.out).ext Hy.out).ext (EW.h _))))
                  refine wpQuiet_nil ?_
                  rintro _ ⟨⟨w1, hx1⟩, rfl⟩
                  have HX1 := Lib.hid hx1; clear hx1 d0 d1 d2 d3 d4
                  go_wp2
                  go_roundw
                  case rel => exact ⟨j + 1, by omega, by go_num, by rw [HO.out], Hy.out.trans HX1.out⟩
                  case measure => simp [intOf]; omega
                | true =>
                  have HO := Lib.hid (show okUpto gps hps lz (x : Int) pre (k : Int) (j + 1) = fitE hps (gI pre j) (k : Int) lz by rw [HSU.out, okS1, q1]; simp)
                  go_wp2_with fail
                  refine wp_region_ext (by kernel_rfl) (by kernel_rfl) ?_
                  repeat (go_big_quiet_step (first | (go_at_call 111; refine quiet_ext (l2Near_c _ _ _ _ gps _ _ _ ?_); exact ((HG.out.ext Hx.out).ext Hy.out).ext (EW.h _)) | (go_at_call 112; refine quiet_ext (l10Fits_c _ _ _ _ hps _ _ _ _ ?_); exact ((HH.out.ext Hx.out).ext Hy.out).ext (EW.h _))))
                  refine wpQuiet_nil ?_
                  rintro _ ⟨⟨w1, hx1⟩, rfl⟩
                  have HX1 := Lib.hid hx1; clear hx1 d0 d1 d2 d3 d4
                  go_wp2
                  go_roundw
                  case rel => exact ⟨j + 1, by omega, by go_num, by rw [HO.out], Hy.out.trans HX1.out⟩
                  case measure => simp [intOf]; omega
              · obtain rfl : j = x := by omega
                have HYes := Lib.hid (show okS gps hps lz pre (k : Int) = true by rw [HU.out]; exact qb)
                have hb1 := allM_length hs (okS gps hps lz) hhs m (pre ++ [(k : Int)]) (by have := HX.out; omega)
                have hb2 := Nat.le_trans HC.out.le (someM_length hs (okS gps hps lz) hhs m pre k (by omega) (by have := HX.out; omega))
                have HB1 := Lib.hid hb1
                have HB2 := Lib.hid hb2
                have hwr : IntKind.i64.wrap (most - (vs.length : Int)) = most - (vs.length : Int) := IntWalk.i64_in _ (by omega)
                clear hb1 hb2
                obtain ⟨D, hD⟩ : ∃ D : Nat → Prop, D = fun b => (Value.slice A1 vs.length c1).ownBlock = some b := ⟨_, rfl⟩
                have ho' := own_ext HO.out Hy.out
                have hDb : ∀ b, D b → w.heap.size + 1 + 1 ≤ b ∧ b < wr.heap.size := fun b hb => by rw [hD] at hb; exact ho'.lt b hb
                have d0 := fun w' (e : Chg D wr w') => e.cell k0 (fun h => by have := (hDb _ h).1; simp only at this; omega)
                have d1 := fun w' (e : Chg D wr w') => e.cell k1 (fun h => by have := (hDb _ h).1; simp only at this; omega)
                have d2 := fun w' (e : Chg D wr w') => e.cell k2 (fun h => by have := (hDb _ h).1; simp only at this; omega)
                have d3 := fun w' (e : Chg D wr w') => e.cell k3 (fun h => by have := (hDb _ h).1; simp only at this; omega)
                have HD := Lib.hid hD
                have HDB := Lib.hid hDb
                have HW2 := Lib.hid (fun w' (e : Chg D wr w') => Chg.ext e (Hx.out.trans Hy.out) (fun b hb => by have := (hDb b hb).1; simp only [alloc_size]; omega))
                have HO2 := Lib.hid (show wr.ownsRow (((w.alloc (.cells #[.int .i64 (gs : Int), .slice gA gn gc] 28)).alloc (.cells #[.int .i64 (hs : Int), .slice hA hn hc] 28))).heap.size 40 1 (.slice A1 vs.length c1) vs.length vs by simp only [alloc_size]; exact ho')
                have HW2S := Lib.hid (show (((w.alloc (.cells #[.int .i64 (gs : Int), .slice gA gn gc] 28)).alloc (.cells #[.int .i64 (hs : Int), .slice hA hn hc] 28))).heap.size = w.heap.size + 1 + 1 by simp only [alloc_size])
                clear ho' hDb hD
                go_wp2_with fail
                go_region_held3 (fun w' => Chg D wr w')
                  (first
                    | exact (Ext.refl _).drew.chg _
                    | assumption
                    | exact Chg.alloc (by assumption) _
                    | exact hz4
                    | exact hz3.chg _
                    | exact hz2.chg _
                    | exact hz1.chg _)
                  (first
                    | ((fail_if_success (have _h1 := ho1)); go_at_call 113; refine (l1Own_c A j c pre _ (HP.out.ext (HW2.out _ (by assumption))) (by omega)).mono ?_; rintro e w1 ⟨A2, c2, rfl, ho1, hy1⟩; have hm0 := (fun {mm : World} (p : Ext mm w1) (q : Ext wr mm) => q) hy1 (by first | exact (Ext.refl _).drew | exact (Ext.refl _).drew.alloc _); have hz1 := hm0.trans hy1)
                    | (have _h1 := ho1; (fail_if_success (have _h2 := hown2)); refine step_append_one 40 3 (.int .i64 0) 1 8 Try.underlying40 infoI rfl (by decide) rfl _ _ rfl _ _ _ (ints pre) [.int .i64 (k : Int)] rfl rfl rfl (by simp [Value.oneCell']) ?_ ho1 ?_ ?_ (by omega) (by omega) ?_
                       · intro i u hi
                         obtain ⟨rfl, rfl⟩ := one_get hi
                         first | exact cell_new _ _ _ 0 _ rfl | exact hy1.cell (cell_new _ _ _ 0 _ rfl)
                       · first | exact (Ext.refl _).alloc _ | exact Ext.refl _
                       · first | exact hy1.alloc _ | exact hy1
                       intro g1 cap1 w2 hown2 hy2 _
                       have hz2 := hm0.trans hy2)
                    | (have _h2 := hown2; (fail_if_success (have _h3 := ho3)); go_at_call 66; refine (HIH.out (j + 1) _ _ (pre ++ [(k : Int)]) (most - (vs.length : Int)) _ (by have := HX.out; omega) (by omega) (by have := HM1.out; omega) (own_sl1' (by rw [ints_append_one] at hown2; exact hown2)) (fun b hb => (hown2.lt b hb).2) ((HG.out).ext (HW2.out _ (by assumption))) (HH.out.ext (HW2.out _ (by assumption)))).mono ?_; rintro e w3 ⟨A3, c3, vs3, L3, rfl, ho3, hll3, hcut3, hy3⟩; have hz3 := hz2.trans hy3)
                    | (have _h3 := ho3; refine step_append_all (w0 := ((w.alloc (.cells #[.int .i64 (gs : Int), .slice gA gn gc] 28)).alloc (.cells #[.int .i64 (hs : Int), .slice hA hn hc] 28))) (wo := wr) 45 40 (.slice none 0 0) 1 24 Try.underlying45 infoL rfl (by decide) rfl _ _ rfl (.slice A1 vs.length c1) vs.length vs3.length _ _ vs vs3 rfl rfl (own_slv ho3) hll3.one_cell HO2.out hz3 (HW2.out _ (by assumption)) (by have := HB1.out; have := HB2.out; have := hcut3.le; have := hll3.length; have := HVL.out; omega) (by omega) ?_
                       intro A4 cap4 w4 hown4 hy4 hg4 hat4
                       have hz4 : Chg D wr w4 := (hz3.chg D).trans (Chg.grown hg4) (fun b _ h => by rw [HD.out]; exact h)))
                all_goals (
                  have hm0s := hm0.size
                  have hjoin := ll_join (m2 := w2) (ob1 := (Value.slice (some ⟨g1, 0, none⟩) (j + 1) cap1).ownBlock) (ob4 := (Value.slice A4 (vs.length + vs3.length) cap4).ownBlock) HLL.out Hy.out (fun b hb => HDB.out b (by rw [HD.out]; exact hb)) (by have := (Hx.out.trans Hy.out).size; simp only [alloc_size] at this; exact this) hz3 hll3 hz2.size (fun b hb => Nat.le_trans hm0s (hown2.lt b hb).1) hg4 hat4
                  have HJ := Lib.hid hjoin
                  have HO4 := Lib.hid (show w4.ownsRow (w.heap.size + 1 + 1) 40 1 (.slice A4 (vs.length + vs3.length) cap4) (vs.length + vs3.length) (vs ++ vs3) by rw [HW2S.out] at hown4; exact hown4)
                  have HC4 := Lib.hid (show Cut (someM hs (okS gps hps lz) m pre (k + 1)) most (L ++ L3) by
                    rw [HS.out, HYes.out]
                    simp only [if_true]
                    refine HC.out.join (by have := HVL.out; omega) ?_
                    rw [← HVL.out]; exact hcut3)
                  have HZ4 := Lib.hid hy4
                  clear hjoin hown4 hy4 hg4 hat4 hz4 hz3 hz2 hcut3 hll3 ho3 hown2 hm0 hm0s d0 d1 d2 d3
                  go_wp2
                  go_roundw)
                case rel => exact ⟨k + 1, A4, cap4, vs ++ vs3, L ++ L3, by omega, by go_num, by rw [List.length_append], by rw [List.length_append]; exact HO4.out, by rw [List.length_append]; exact HJ.out, HC4.out, HZ4.out⟩
                case measure => simp [intOf]; omega
                case rel => exact ⟨k + 1, A4, cap4, vs ++ vs3, L ++ L3, by omega, by go_num, by rw [List.length_append], by rw [List.length_append]; exact HO4.out, by rw [List.length_append]; exact HJ.out, HC4.out, HZ4.out⟩
                case measure => simp [intOf]; omega
        · have HT := Lib.hid (someM_tail hs (okS gps hps lz) m pre k hk)
          go_wp2
          go_ret
          obtain ⟨rest, hr⟩ := HT.out
          exact ⟨A1, c1, vs, L, rfl, own_mono HO.out (by omega), LL.chg ((Ext.refl _).chg fun _ => False) (fun _ _ _ h => h) (fun b hb _ => .inl (by omega)) HLL.out, by rw [hr]; exact HC.out.more (by have := HVL.out; omega) rest, HE.out.trans Hx.out⟩
      · obtain rfl : k = hs := by omega
        go_wp2
        go_ret
        exact ⟨A1, c1, vs, L, rfl, own_mono HO.out (by omega), LL.chg ((Ext.refl _).chg fun _ => False) (fun _ _ _ h => h) (fun b hb _ => .inl (by omega)) HLL.out, HC.out, HE.out.trans Hx.out⟩
end Go.Proofs.Ytkfbkflneppggaa
