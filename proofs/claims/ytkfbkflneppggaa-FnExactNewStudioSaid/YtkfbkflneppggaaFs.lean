/-
  The reference's folding: l10Covers, l2Bits, l4Without. Conditions: none.
-/
import Derived.Test.YtkfbkflneppggaaFq
import Derived.Test.YtkfbkflneppggaaSb
namespace Go.Proofs.Ytkfbkflneppggaa
open Go.RowKit
set_option linter.unusedVariables false
set_option linter.unusedSimpArgs false

set_option maxHeartbeats 2000000 in
theorem l10Covers_c (sz : Int) (gA : Option Addr) (gn gc : Nat) (gps : List (Int × Int)) (A : Option Addr) (n c : Nat) (l : List Int) (x y : Int) (w : World) (h : SlP w gA gn gps) (hl : SlI w A n l) :
    Calls Try.prog 164 #[.agg #[.int .i64 sz, .slice gA gn gc], .slice A n c, .int .i64 x, .int .i64 y] w fun e w' => e = .returned (.bool (covS gps l x y)) ∧ Ext w w' := by
  have hE := (Ext.refl w).alloc (.cells #[.int .i64 sz, .slice gA gn gc] 28)
  have HE := Lib.hid hE; have HG := Lib.hid (h.ext hE); have HL := Lib.hid (hl.ext hE)
  have hlen := hl.len
  have hm := hl.le
  have c0 := cell_new w #[.int .i64 sz, .slice gA gn gc] 28 0 _ rfl
  have c1 := cell_new w #[.int .i64 sz, .slice gA gn gc] 28 1 _ rfl
  have C0 := Lib.hid c0; have C1 := Lib.hid c1; have HLen := Lib.hid hlen
  clear hE h hl c0 c1 hlen
  go_enter Try.func164, Try.ntmps164
  go_wp2
  go_loopw [9] (fun i wr => ∃ k : Nat, k ≤ n ∧ i = .int .i64 (k : Int) ∧ Ext (w.alloc (.cells #[.int .i64 sz, .slice gA gn gc] 28)) wr ∧ covS gps l x y = (l.drop k).all fun z => !((z == x || nearE gps x z) && z != y && !nearE gps y z)) (fun i _ => n - (intOf i).toNat)
  case atStart => exact ⟨0, Nat.zero_le _, rfl, Ext.refl _, rfl⟩
  case round =>
    obtain ⟨k, hk, rfl, hx, hcov⟩ := hrel
    have Hx := Lib.hid hx; have HCov := Lib.hid hcov
    clear hx hcov
    by_cases hlt : k < n
    · obtain ⟨b, o, rfl, p1⟩ := (HL.out.ext Hx.out).at k (by have := HLen.out; omega)
      have HD := Lib.hid (show (l.drop k).all (fun z => !((z == x || nearE gps x z) && z != y && !nearE gps y z)) = (!((gI l k == x || nearE gps x (gI l k)) && gI l k != y && !nearE gps y (gI l k)) && (l.drop (k + 1)).all fun z => !((z == x || nearE gps x z) && z != y && !nearE gps y z)) by
        rw [List.drop_eq_getElem_cons (by have := HLen.out; omega), List.all_cons, gI_eq l k (by have := HLen.out; omega)])
      have i0 : (0 : Int) ≤ (k : Int) := by omega
      have i1 : (k : Int) < (n : Int) := by omega
      have d0 := Hx.out.cell C0.out
      have d1 := Hx.out.cell C1.out
      obtain ⟨z, hz⟩ : ∃ z, z = gI l k := ⟨_, rfl⟩
      rw [← hz] at p1 HD
      clear hz
      cases q1 : (z == x) with
      | true =>
        cases q3 : (z != y) with
        | false =>
          have HF := Lib.hid (show covS gps l x y = (l.drop (k + 1)).all fun z => !((z == x || nearE gps x z) && z != y && !nearE gps y z) by rw [HCov.out, HD.out, q3]; simp)
          go_wp2
          go_roundw
          case rel => exact ⟨k + 1, by omega, by go_num, Hx.out, HF.out⟩
          case measure => simp [intOf]; omega
        | true =>
          cases q4 : nearE gps y z with
          | true =>
            have HF := Lib.hid (show covS gps l x y = (l.drop (k + 1)).all fun z => !((z == x || nearE gps x z) && z != y && !nearE gps y z) by rw [HCov.out, HD.out, q4]; simp)
            have HQ := Lib.hid q4
            go_wp2_with fail
            refine (l2Near_c _ _ _ _ gps _ _ _ (HG.out.ext Hx.out)).mono ?_
            rintro e w2 ⟨rfl, hy⟩
            rw [HQ.out]
            have HY := Lib.hid hy
            clear hy d0 d1 p1
            go_wp2
            go_roundw
            case rel => exact ⟨k + 1, by omega, by go_num, Hx.out.trans HY.out, HF.out⟩
            case measure => simp [intOf]; omega
          | false =>
            have HF := Lib.hid (show covS gps l x y = false by rw [HCov.out, HD.out, q1, q3, q4]; simp)
            have HQ := Lib.hid q4
            go_wp2_with fail
            refine (l2Near_c _ _ _ _ gps _ _ _ (HG.out.ext Hx.out)).mono ?_
            rintro e w2 ⟨rfl, hy⟩
            rw [HQ.out]
            have HY := Lib.hid hy
            clear hy d0 d1 p1
            go_wp2
            go_ret
            exact ⟨ret_bool HF.out.symm, HE.out.trans (Hx.out.trans HY.out)⟩
      | false =>
        cases q2 : nearE gps x z with
        | false =>
          have HF := Lib.hid (show covS gps l x y = (l.drop (k + 1)).all fun z => !((z == x || nearE gps x z) && z != y && !nearE gps y z) by rw [HCov.out, HD.out, q1, q2]; simp)
          have HQ2 := Lib.hid q2
          go_wp2_with fail
          refine (l2Near_c _ _ _ _ gps _ _ _ (HG.out.ext Hx.out)).mono ?_
          rintro e w2 ⟨rfl, hy⟩
          rw [HQ2.out]
          have HY := Lib.hid hy
          clear hy d0 d1 p1
          go_wp2
          go_roundw
          case rel => exact ⟨k + 1, by omega, by go_num, Hx.out.trans HY.out, HF.out⟩
          case measure => simp [intOf]; omega
        | true =>
          have HQ2 := Lib.hid q2
          cases q3 : (z != y) with
          | false =>
            have HF := Lib.hid (show covS gps l x y = (l.drop (k + 1)).all fun z => !((z == x || nearE gps x z) && z != y && !nearE gps y z) by rw [HCov.out, HD.out, q3]; simp)
            go_wp2_with fail
            refine (l2Near_c _ _ _ _ gps _ _ _ (HG.out.ext Hx.out)).mono ?_
            rintro e w2 ⟨rfl, hy⟩
            rw [HQ2.out]
            have HY := Lib.hid hy
            clear hy d0 d1 p1
            go_wp2
            go_roundw
            case rel => exact ⟨k + 1, by omega, by go_num, Hx.out.trans HY.out, HF.out⟩
            case measure => simp [intOf]; omega
          | true =>
            have e0 := d0
            cases q4 : nearE gps y z with
            | true =>
              have HF := Lib.hid (show covS gps l x y = (l.drop (k + 1)).all fun z => !((z == x || nearE gps x z) && z != y && !nearE gps y z) by rw [HCov.out, HD.out, q4]; simp)
              have HQ := Lib.hid q4
              go_wp2_with fail
              refine (l2Near_c _ _ _ _ gps _ _ _ (HG.out.ext Hx.out)).mono ?_
              rintro e w2 ⟨rfl, hy⟩
              rw [HQ2.out]
              have HY := Lib.hid hy
              have d2 := hy.cell d0
              have d3 := hy.cell d1
              clear hy d0 d1 p1 e0
              go_wp2_with fail
              refine (l2Near_c _ _ _ _ gps _ _ _ ((HG.out.ext Hx.out).ext HY.out)).mono ?_
              rintro e w3 ⟨rfl, hy3⟩
              rw [HQ.out]
              have HY3 := Lib.hid hy3
              clear hy3 d2 d3
              go_wp2
              go_roundw
              case rel => exact ⟨k + 1, by omega, by go_num, (Hx.out.trans HY.out).trans HY3.out, HF.out⟩
              case measure => simp [intOf]; omega
            | false =>
              have HF := Lib.hid (show covS gps l x y = false by rw [HCov.out, HD.out, q2, q3, q4]; simp)
              have HQ := Lib.hid q4
              go_wp2_with fail
              refine (l2Near_c _ _ _ _ gps _ _ _ (HG.out.ext Hx.out)).mono ?_
              rintro e w2 ⟨rfl, hy⟩
              rw [HQ2.out]
              have HY := Lib.hid hy
              have d2 := hy.cell d0
              have d3 := hy.cell d1
              clear hy d0 d1 p1 e0
              go_wp2_with fail
              refine (l2Near_c _ _ _ _ gps _ _ _ ((HG.out.ext Hx.out).ext HY.out)).mono ?_
              rintro e w3 ⟨rfl, hy3⟩
              rw [HQ.out]
              have HY3 := Lib.hid hy3
              clear hy3 d2 d3
              go_wp2
              go_ret
              exact ⟨ret_bool HF.out.symm, HE.out.trans ((Hx.out.trans HY.out).trans HY3.out)⟩
    · obtain rfl : k = n := by omega
      have HT := Lib.hid (show covS gps l x y = true by rw [HCov.out, List.drop_of_length_le (by have := HLen.out; omega)]; rfl)
      go_wp2
      go_ret
      exact ⟨ret_bool HT.out.symm, HE.out.trans Hx.out⟩
end Go.Proofs.Ytkfbkflneppggaa
