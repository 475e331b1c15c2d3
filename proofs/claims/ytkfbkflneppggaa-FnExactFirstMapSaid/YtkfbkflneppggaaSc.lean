/-
  The contract of the reference's l10Count and CountMaps. Conditions: none.
-/
import Derived.Test.YtkfbkflneppggaaSb
import Derived.Test.YtkfbkflneppggaaPv
import Derived.Test.YtkfbkflneppggaaRe
namespace Go.Proofs.Ytkfbkflneppggaa
open Go.RowKit
set_option linter.unusedVariables false
set_option linter.unusedSimpArgs false

theorem one_get {x u : Value} {j : Nat} (h : [x][j]? = some u) : j = 0 ∧ u = x := by
  cases j with
  | zero => exact ⟨rfl, by simpa [eq_comm] using h⟩
  | succ j => simp at h
theorem ints_append_one (l : List Int) (x : Int) : ints l ++ [.int .i64 x] = ints (l ++ [x]) := by simp [ints]
theorem own_sl1' {w : World} {base n c : Nat} {A : Option Addr} {e : TypeId} {xs : List Int} (h : w.ownsRow base e 1 (.slice A n c) n (ints xs)) : SlI w A n xs := by
  obtain ⟨A', c', hv, hs⟩ := own_sl h
  obtain ⟨rfl, _⟩ : A = A' ∧ c = c' := by injection hv with h1 h2 h3; exact ⟨h1, h3⟩
  exact hs

set_option maxHeartbeats 4000000 in
theorem l10Count_c (gs hs gn gc hn hc : Nat) (gA hA : Option Addr) (lz : Bool) (gps hps : List (Int × Int)) (hgs : gs ≤ 8) (hhs : hs ≤ 8) :
    ∀ (m x : Nat) (A : Option Addr) (c : Nat) (pre : List Int) (w : World), x + m = gs → SlI w A x pre → SlP w gA gn gps → SlP w hA hn hps →
      Calls Try.prog 56 #[.agg #[.int .i64 (gs : Int), .slice gA gn gc], .agg #[.int .i64 (hs : Int), .slice hA hn hc], .bool lz, .slice A x c] w
        fun e w' => e = .returned (.int .i64 ((allM hs (okS gps hps lz) m pre).length : Int)) ∧ Ext w w' := by
  intro m
  induction m with
  | zero =>
    intro x A c pre w hx hp hg hh
    obtain rfl : x = gs := by omega
    have q0 : ((x : Int) == (x : Int)) = true := by simp
    have HE := Lib.hid (((Ext.refl w).alloc (.cells #[.int .i64 (x : Int), .slice gA gn gc] 28)).alloc (.cells #[.int .i64 (hs : Int), .slice hA hn hc] 28))
    clear hx hp hg hh
    go_enter Try.func56, Try.ntmps56
    go_wp2
    go_ret
    exact ⟨ret_int (by simp [allM]), HE.out⟩
  | succ m ih =>
    intro x A c pre w hx hp hg hh
    have hpl := hp.len
    have q0 : ((x : Int) == (gs : Int)) = false := by simp; omega
    have hx8 : x ≤ 8 := by omega
    have hE := ((Ext.refl w).alloc (.cells #[.int .i64 (gs : Int), .slice gA gn gc] 28)).alloc (.cells #[.int .i64 (hs : Int), .slice hA hn hc] 28)
    have HG := Lib.hid (hg.ext hE); have HH := Lib.hid (hh.ext hE); have HP := Lib.hid (hp.ext hE); have HE := Lib.hid hE; have HX := Lib.hid hx; have HIH := Lib.hid ih; have HPL := Lib.hid hpl
    have HK := Lib.hid (show ∀ wr, Ext ((w.alloc (.cells #[.int .i64 (gs : Int), .slice gA gn gc] 28)).alloc (.cells #[.int .i64 (hs : Int), .slice hA hn hc] 28)) wr →
        wr.cell? ⟨w.heap.size, 0, none⟩ = some (.int .i64 (gs : Int)) ∧ wr.cell? ⟨w.heap.size, 1, none⟩ = some (.slice gA gn gc) ∧ wr.cell? ⟨w.heap.size + 1, 0, none⟩ = some (.int .i64 (hs : Int)) ∧ wr.cell? ⟨w.heap.size + 1, 1, none⟩ = some (.slice hA hn hc) from fun wr hx => by
      have e0 := hx.cell (cell_old _ (cell_new w #[.int .i64 (gs : Int), .slice gA gn gc] 28 0 _ rfl))
      have e1 := hx.cell (cell_old _ (cell_new w #[.int .i64 (gs : Int), .slice gA gn gc] 28 1 _ rfl))
      have e2 := hx.cell (cell_new (w.alloc (.cells #[.int .i64 (gs : Int), .slice gA gn gc] 28)) #[.int .i64 (hs : Int), .slice hA hn hc] 28 0 _ rfl)
      have e3 := hx.cell (cell_new (w.alloc (.cells #[.int .i64 (gs : Int), .slice gA gn gc] 28)) #[.int .i64 (hs : Int), .slice hA hn hc] 28 1 _ rfl)
      simp only [alloc_size] at e2 e3
      exact ⟨e0, e1, e2, e3⟩)
    clear hx hp hg hh hE ih hpl
    go_enter Try.func56, Try.ntmps56
    go_wp2
    go_loopw [10, 11] (fun s v wr => ∃ k : Nat, k ≤ hs ∧ v = .int .i64 (k : Int) ∧ s = .int .i64 ((someM hs (okS gps hps lz) m pre k).length : Int) ∧
      Ext ((w.alloc (.cells #[.int .i64 (gs : Int), .slice gA gn gc] 28)).alloc (.cells #[.int .i64 (hs : Int), .slice hA hn hc] 28)) wr) (fun _ v _ => hs - (intOf v).toNat)
    case atStart => exact ⟨0, Nat.zero_le _, rfl, by rw [someM_zero]; rfl, Ext.refl _⟩
    case round =>
      obtain ⟨k, hk, rfl, rfl, hx⟩ := hrel
      obtain ⟨c0, c1, c2, c3⟩ := HK.out wr hx
      have Hx := Lib.hid hx; clear hx
      by_cases hlt : k < hs
      · have HS := Lib.hid (someM_succ hs (okS gps hps lz) m pre k)
        have HU := Lib.hid (show okS gps hps lz pre (k : Int) = okUpto gps hps lz (x : Int) pre (k : Int) x by rw [okS, HPL.out])
        go_wp2
        obtain ⟨wo, rfl⟩ : ∃ wo : World, wo = wr := ⟨_, rfl⟩
        go_loopw [12, 13] (fun b t wr => ∃ j : Nat, j ≤ x ∧ t = .int .i64 (j : Int) ∧ b = .bool (okUpto gps hps lz (x : Int) pre (k : Int) j) ∧ Ext wo wr) (fun _ t _ => x - (intOf t).toNat)
        case atStart => exact ⟨0, Nat.zero_le _, rfl, rfl, Ext.refl _⟩
        case round =>
          obtain ⟨j, hj, rfl, rfl, hy⟩ := hrel
          obtain ⟨k0, k1, k2, k3⟩ := HK.out wr (Hx.out.trans hy)
          have Hy := Lib.hid hy; clear hy
          have HSU := Lib.hid (okUpto_succ gps hps lz (x : Int) pre (k : Int) j)
          cases qb : okUpto gps hps lz (x : Int) pre (k : Int) j with
          | false =>
            have HF := Lib.hid (okUpto_false qb hj)
            have HNo := Lib.hid (show okS gps hps lz pre (k : Int) = false by rw [HU.out]; exact HF.out)
            by_cases hjx : j < x
            · go_wp2
              go_roundw
              case rel => exact ⟨k + 1, by omega, by go_num, by rw [HS.out, HNo.out]; simp, Hx.out.trans Hy.out⟩
              case measure => simp [intOf]; omega
            · go_wp2
              go_roundw
              case rel => exact ⟨k + 1, by omega, by go_num, by rw [HS.out, HNo.out]; simp, Hx.out.trans Hy.out⟩
              case measure => simp [intOf]; omega
          | true =>
            by_cases hjx : j < x
            · rw [qb] at HSU
              obtain ⟨b, o, rfl, e1⟩ := ((HP.out.ext Hx.out).ext Hy.out).at j (by have := HPL.out; omega)
              have d0 := fun d : EW wr => d.cell k0
              have d1 := fun d : EW wr => d.cell k1
              have d2 := fun d : EW wr => d.cell k2
              have d3 := fun d : EW wr => d.cell k3
              have d4 := fun d : EW wr => d.cell e1
              have i0 : (0 : Int) ≤ (j : Int) := by omega
              have i1 : (j : Int) < (x : Int) := by omega
              cases q1 : nearE gps (j : Int) (x : Int) with
              | false =>
                have HO := Lib.hid (show okUpto gps hps lz (x : Int) pre (k : Int) (j + 1) = true by rw [HSU.out, okS1, q1]; rfl)
                go_wp2_with fail
                refine wp_region_ext (by kernel_rfl) (by kernel_rfl) ?_
                repeat (go_big_quiet_step (first | (go_at_call 111; refine quiet_ext (l2Near_c _ _ _ _ gps _ _ _ ?_); exact ((HG.out.ext Hx.out).ext Hy.out).ext (EW.h _))))
                refine wpQuiet_nil ?_
                rintro _ ⟨⟨w1, hx1⟩, rfl⟩
                have HX1 := Lib.hid hx1; clear hx1 d0 d1 d2 d3 d4
                go_wp2
                go_roundw
                case rel => exact ⟨j + 1, by omega, by go_num, by rw [HO.out], Hy.out.trans HX1.out⟩
                case measure => simp [intOf]; omega
              | true =>
                have HO := Lib.hid (show okUpto gps hps lz (x : Int) pre (k : Int) (j + 1) = fitE hps (gI pre j) (k : Int) lz by rw [HSU.out, okS1, q1]; simp)
                go_wp2_with fail
                refine wp_region_ext (by kernel_rfl) (by kernel_rfl) ?_
                repeat (go_big_quiet_step (first | (go_at_call 111; refine quiet_ext (l2Near_c _ _ _ _ gps _ _ _ ?_); exact ((HG.out.ext Hx.out).ext Hy.out).ext (EW.h _)) | (go_at_call 112; refine quiet_ext (l10Fits_c _ _ _ _ hps _ _ _ _ ?_); exact ((HH.out.ext Hx.out).ext Hy.out).ext (EW.h _))))
                refine wpQuiet_nil ?_
                rintro _ ⟨⟨w1, hx1⟩, rfl⟩
                have HX1 := Lib.hid hx1; clear hx1 d0 d1 d2 d3 d4
                go_wp2
                go_roundw
                case rel => exact ⟨j + 1, by omega, by go_num, by rw [HO.out], Hy.out.trans HX1.out⟩
                case measure => simp [intOf]; omega
            · obtain rfl : j = x := by omega
              have HYes := Lib.hid (show okS gps hps lz pre (k : Int) = true by rw [HU.out]; exact qb)
              have hb1 := allM_length hs (okS gps hps lz) hhs m (pre ++ [(k : Int)]) (by have := HX.out; omega)
              have hb2 := someM_length hs (okS gps hps lz) hhs m pre k (by omega) (by have := HX.out; omega)
              have hwr : IntKind.i64.wrap (((someM hs (okS gps hps lz) m pre k).length : Int) + ((allM hs (okS gps hps lz) m (pre ++ [(k : Int)])).length : Int)) = ((someM hs (okS gps hps lz) m pre k).length : Int) + ((allM hs (okS gps hps lz) m (pre ++ [(k : Int)])).length : Int) := IntWalk.i64_in _ (by omega)
              clear hb1 hb2
              have d0 := fun w' (e : Ext wr w') => e.cell k0
              have d1 := fun w' (e : Ext wr w') => e.cell k1
              have d2 := fun w' (e : Ext wr w') => e.cell k2
              have d3 := fun w' (e : Ext wr w') => e.cell k3
              go_wp2_with fail
              go_region_held3 (fun w' => Ext wr w')
                (first
                  | exact (Ext.refl _).drew
                  | assumption
                  | exact Ext.alloc (by assumption) _
                  | exact Ext.trans h00 hy1
                  | exact Ext.trans (by assumption) hy1)
                (first
                  | (go_at_call 113; refine (l1Own_c A j c pre _ ((((HP.out.ext Hx.out).ext Hy.out)).ext (by assumption)) (by omega)).mono ?_; rintro e w1 ⟨A1, c1, rfl, ho, hy1⟩; have h00 := (fun {m : World} (p : Ext m w1) (q : Ext wr m) => q) hy1 (by assumption))
                  | (have _h1 := ho; (fail_if_success (have _h2 := hown2)); refine step_append_one 40 3 (.int .i64 0) 1 8 Try.underlying40 infoI rfl (by decide) rfl _ _ rfl _ _ _ (ints pre) [.int .i64 (k : Int)] rfl rfl rfl (by simp [Value.oneCell']) ?_ ho ?_ ?_ (by omega) (by omega) ?_
                     · intro i u hi
                       obtain ⟨rfl, rfl⟩ := one_get hi
                       first | exact cell_new _ _ _ 0 _ rfl | exact hy1.cell (cell_new _ _ _ 0 _ rfl)
                     · first | exact (Ext.refl _).alloc _ | exact Ext.refl _
                     · first | exact hy1.alloc _ | exact hy1
                     intro g1 cap1 w1 hown2 hy1 _)
                  | (have _h2 := hown2; go_at_call 56; refine (HIH.out (j + 1) _ _ (pre ++ [(k : Int)]) _ (by have := HX.out; omega) (own_sl1' (by rw [ints_append_one] at hown2; exact hown2)) (((HG.out.ext Hx.out).ext Hy.out).ext (by assumption)) (((HH.out.ext Hx.out).ext Hy.out).ext (by assumption))).mono ?_; rintro e w1 ⟨rfl, hy1⟩))
              all_goals (have HFin := Lib.hid (show Ext wr _ from by assumption); clear d0 d1 d2 d3; go_wp2; go_roundw)
              case rel => exact ⟨k + 1, by omega, by go_num, by rw [HS.out, HYes.out]; simp, Hx.out.trans (Hy.out.trans HFin.out)⟩
              case measure => simp [intOf]; omega
              case rel => exact ⟨k + 1, by omega, by go_num, by rw [HS.out, HYes.out]; simp, Hx.out.trans (Hy.out.trans HFin.out)⟩
              case measure => simp [intOf]; omega
      · obtain rfl : k = hs := by omega
        go_wp2
        go_ret
        exact ⟨ret_int (by rw [someM_all]), HE.out.trans Hx.out⟩
end Go.Proofs.Ytkfbkflneppggaa
