/-
  The program's IsStudio and the reference's, both as one Bool of the studio. Conditions: none.
-/
import Derived.Test.YtkfbkflneppggaaUe
import Derived.Test.YtkfbkflneppggaaUg
import Derived.Test.YtkfbkflneppggaaUd
import Derived.Test.YtkfbkflneppggaaTu
namespace Go.Proofs.Ytkfbkflneppggaa
open Go.RowKit
set_option linter.unusedVariables false
set_option linter.unusedSimpArgs false

theorem ext_eq {w w' : World} (h : w = w') : Ext w w' := by subst h; exact Ext.refl _
/-- Is a list of colours empty, or a colouring? -/
def colE (d : StD) : Bool := ((d.col.length : Int) == 0) || colB d.g.sz d.g.ps d.kinds d.col
/-- Is a studio valid? -/
def stuB (d : StD) : Bool := inB d.count 0 1000 && askB d.g.sz d.g.ps d.kinds && indB d.g.sz d.g.ps d.tok && colE d && brdB d.g.sz d.g.ps d.brd
theorem askB_good {sz k : Int} {ps : List (Int × Int)} (h : askB sz ps k = true) : goodG sz ps = true := by simp only [askB, Bool.and_eq_true] at h; exact h.1

set_option maxHeartbeats 4000000 in
theorem IsStudioI_c (d : StD) (a : StA) (w : World) (h : RdU w a d) :
    Calls Try.prog 46 #[.agg #[.int .i64 d.g.sz, .slice a.g.A d.g.ps.length a.g.c, .int .i64 d.kinds, .slice a.tok.A d.tok.length a.tok.c, .slice a.col.A d.col.length a.col.c, .slice a.brd.A d.brd.length a.brd.c, .int .i64 d.count]] w fun e w' => e = .returned (.bool (stuB d)) ∧ Ext w w' := by
  have hE := (Ext.refl w).alloc (.cells #[.int .i64 d.g.sz, .slice a.g.A d.g.ps.length a.g.c, .int .i64 d.kinds, .slice a.tok.A d.tok.length a.tok.c, .slice a.col.A d.col.length a.col.c, .slice a.brd.A d.brd.length a.brd.c, .int .i64 d.count] 66)
  have HR := Lib.hid (h.ext hE); have HE := Lib.hid hE
  have HB := Lib.hid (Bx.new w [.int .i64 d.g.sz, .slice a.g.A d.g.ps.length a.g.c, .int .i64 d.kinds, .slice a.tok.A d.tok.length a.tok.c, .slice a.col.A d.col.length a.col.c, .slice a.brd.A d.brd.length a.brd.c, .int .i64 d.count] 66)
  have EW := Lib.hid (Ext.refl (w.alloc (.cells #[.int .i64 d.g.sz, .slice a.g.A d.g.ps.length a.g.c, .int .i64 d.kinds, .slice a.tok.A d.tok.length a.tok.c, .slice a.col.A d.col.length a.col.c, .slice a.brd.A d.brd.length a.brd.c, .int .i64 d.count] 66)))
  have hlc := SlI.le h.2.2.1
  clear hE h
  cases q0 : inB d.count 0 1000 with
  | false =>
    have HV := Lib.hid (show stuB d = false by unfold stuB colE; simp [q0])
    go_enter Try.func46, Try.ntmps46
    have f0 := HB.out.c 0 rfl
    have f1 := HB.out.c 1 rfl
    have f2 := HB.out.c 2 rfl
    have f3 := HB.out.c 3 rfl
    have f4 := HB.out.c 4 rfl
    have f5 := HB.out.c 5 rfl
    have f6 := HB.out.c 6 rfl
    go_wp2_with fail
    refine ((between_c d.count 0 1000 _).mono (fun e w' h => show e = .returned (.bool (inB d.count 0 1000)) ∧ Ext _ w' from ⟨h.1, ext_eq h.2⟩)).mono ?_
    rw [q0]
    rintro e w1 ⟨rfl, hx⟩
    have HB1 := Lib.hid (HB.out.ext hx); have EW1 := Lib.hid (EW.out.trans hx); clear hx f0 f1 f2 f3 f4 f5 f6
    have f0 := HB1.out.c 0 rfl
    have f1 := HB1.out.c 1 rfl
    have f2 := HB1.out.c 2 rfl
    have f3 := HB1.out.c 3 rfl
    have f4 := HB1.out.c 4 rfl
    have f5 := HB1.out.c 5 rfl
    have f6 := HB1.out.c 6 rfl
    go_wp2
    go_ret
    exact ⟨ret_bool HV.out.symm, HE.out.trans EW1.out⟩
  | true =>
    cases q1 : askB d.g.sz d.g.ps d.kinds with
    | false =>
      have HV := Lib.hid (show stuB d = false by unfold stuB colE; simp [q0, q1])
      go_enter Try.func46, Try.ntmps46
      have f0 := HB.out.c 0 rfl
      have f1 := HB.out.c 1 rfl
      have f2 := HB.out.c 2 rfl
      have f3 := HB.out.c 3 rfl
      have f4 := HB.out.c 4 rfl
      have f5 := HB.out.c 5 rfl
      have f6 := HB.out.c 6 rfl
      go_wp2_with fail
      refine ((between_c d.count 0 1000 _).mono (fun e w' h => show e = .returned (.bool (inB d.count 0 1000)) ∧ Ext _ w' from ⟨h.1, ext_eq h.2⟩)).mono ?_
      rw [q0]
      rintro e w2 ⟨rfl, hx⟩
      have HB2 := Lib.hid (HB.out.ext hx); have EW2 := Lib.hid (EW.out.trans hx); clear hx f0 f1 f2 f3 f4 f5 f6
      have f0 := HB2.out.c 0 rfl
      have f1 := HB2.out.c 1 rfl
      have f2 := HB2.out.c 2 rfl
      have f3 := HB2.out.c 3 rfl
      have f4 := HB2.out.c 4 rfl
      have f5 := HB2.out.c 5 rfl
      have f6 := HB2.out.c 6 rfl
      go_wp2_with fail
      refine (isColourCase_c d.g.sz d.kinds a.g.A d.g.ps.length a.g.c d.g.ps _ ((HR.out.1.ext EW2.out))).mono ?_
      rw [q1]
      rintro e w3 ⟨rfl, hx⟩
      have HB3 := Lib.hid (HB2.out.ext hx); have EW3 := Lib.hid (EW2.out.trans hx); clear hx f0 f1 f2 f3 f4 f5 f6
      have f0 := HB3.out.c 0 rfl
      have f1 := HB3.out.c 1 rfl
      have f2 := HB3.out.c 2 rfl
      have f3 := HB3.out.c 3 rfl
      have f4 := HB3.out.c 4 rfl
      have f5 := HB3.out.c 5 rfl
      have f6 := HB3.out.c 6 rfl
      go_wp2
      go_ret
      exact ⟨ret_bool HV.out.symm, HE.out.trans EW3.out⟩
    | true =>
      cases q2 : indB d.g.sz d.g.ps d.tok with
      | false =>
        have HV := Lib.hid (show stuB d = false by unfold stuB colE; simp [q0, q1, q2])
        go_enter Try.func46, Try.ntmps46
        have f0 := HB.out.c 0 rfl
        have f1 := HB.out.c 1 rfl
        have f2 := HB.out.c 2 rfl
        have f3 := HB.out.c 3 rfl
        have f4 := HB.out.c 4 rfl
        have f5 := HB.out.c 5 rfl
        have f6 := HB.out.c 6 rfl
        go_wp2_with fail
        refine ((between_c d.count 0 1000 _).mono (fun e w' h => show e = .returned (.bool (inB d.count 0 1000)) ∧ Ext _ w' from ⟨h.1, ext_eq h.2⟩)).mono ?_
        rw [q0]
        rintro e w4 ⟨rfl, hx⟩
        have HB4 := Lib.hid (HB.out.ext hx); have EW4 := Lib.hid (EW.out.trans hx); clear hx f0 f1 f2 f3 f4 f5 f6
        have f0 := HB4.out.c 0 rfl
        have f1 := HB4.out.c 1 rfl
        have f2 := HB4.out.c 2 rfl
        have f3 := HB4.out.c 3 rfl
        have f4 := HB4.out.c 4 rfl
        have f5 := HB4.out.c 5 rfl
        have f6 := HB4.out.c 6 rfl
        go_wp2_with fail
        refine (isColourCase_c d.g.sz d.kinds a.g.A d.g.ps.length a.g.c d.g.ps _ ((HR.out.1.ext EW4.out))).mono ?_
        rw [q1]
        rintro e w5 ⟨rfl, hx⟩
        have HB5 := Lib.hid (HB4.out.ext hx); have EW5 := Lib.hid (EW4.out.trans hx); clear hx f0 f1 f2 f3 f4 f5 f6
        have f0 := HB5.out.c 0 rfl
        have f1 := HB5.out.c 1 rfl
        have f2 := HB5.out.c 2 rfl
        have f3 := HB5.out.c 3 rfl
        have f4 := HB5.out.c 4 rfl
        have f5 := HB5.out.c 5 rfl
        have f6 := HB5.out.c 6 rfl
        go_wp2_with fail
        refine (isIndependent_c d.g.sz a.g.A d.g.ps.length a.g.c d.g.ps a.tok.A d.tok.length a.tok.c d.tok _ ((HR.out.1.ext EW5.out)) ((HR.out.2.1.ext EW5.out)) (askB_good q1)).mono ?_
        rw [q2]
        rintro e w6 ⟨rfl, hx⟩
        have HB6 := Lib.hid (HB5.out.ext hx); have EW6 := Lib.hid (EW5.out.trans hx); clear hx f0 f1 f2 f3 f4 f5 f6
        have f0 := HB6.out.c 0 rfl
        have f1 := HB6.out.c 1 rfl
        have f2 := HB6.out.c 2 rfl
        have f3 := HB6.out.c 3 rfl
        have f4 := HB6.out.c 4 rfl
        have f5 := HB6.out.c 5 rfl
        have f6 := HB6.out.c 6 rfl
        go_wp2
        go_ret
        exact ⟨ret_bool HV.out.symm, HE.out.trans EW6.out⟩
      | true =>
        cases qe : ((d.col.length : Int) == 0) with
        | true =>
          cases q4 : brdB d.g.sz d.g.ps d.brd with
          | false =>
            have HV := Lib.hid (show stuB d = false by unfold stuB colE; simp [q0, q1, q2, qe, q4])
            go_enter Try.func46, Try.ntmps46
            have f0 := HB.out.c 0 rfl
            have f1 := HB.out.c 1 rfl
            have f2 := HB.out.c 2 rfl
            have f3 := HB.out.c 3 rfl
            have f4 := HB.out.c 4 rfl
            have f5 := HB.out.c 5 rfl
            have f6 := HB.out.c 6 rfl
            go_wp2_with fail
            refine ((between_c d.count 0 1000 _).mono (fun e w' h => show e = .returned (.bool (inB d.count 0 1000)) ∧ Ext _ w' from ⟨h.1, ext_eq h.2⟩)).mono ?_
            rw [q0]
            rintro e w7 ⟨rfl, hx⟩
            have HB7 := Lib.hid (HB.out.ext hx); have EW7 := Lib.hid (EW.out.trans hx); clear hx f0 f1 f2 f3 f4 f5 f6
            have f0 := HB7.out.c 0 rfl
            have f1 := HB7.out.c 1 rfl
            have f2 := HB7.out.c 2 rfl
            have f3 := HB7.out.c 3 rfl
            have f4 := HB7.out.c 4 rfl
            have f5 := HB7.out.c 5 rfl
            have f6 := HB7.out.c 6 rfl
            go_wp2_with fail
            refine (isColourCase_c d.g.sz d.kinds a.g.A d.g.ps.length a.g.c d.g.ps _ ((HR.out.1.ext EW7.out))).mono ?_
            rw [q1]
            rintro e w8 ⟨rfl, hx⟩
            have HB8 := Lib.hid (HB7.out.ext hx); have EW8 := Lib.hid (EW7.out.trans hx); clear hx f0 f1 f2 f3 f4 f5 f6
            have f0 := HB8.out.c 0 rfl
            have f1 := HB8.out.c 1 rfl
            have f2 := HB8.out.c 2 rfl
            have f3 := HB8.out.c 3 rfl
            have f4 := HB8.out.c 4 rfl
            have f5 := HB8.out.c 5 rfl
            have f6 := HB8.out.c 6 rfl
            go_wp2_with fail
            refine (isIndependent_c d.g.sz a.g.A d.g.ps.length a.g.c d.g.ps a.tok.A d.tok.length a.tok.c d.tok _ ((HR.out.1.ext EW8.out)) ((HR.out.2.1.ext EW8.out)) (askB_good q1)).mono ?_
            rw [q2]
            rintro e w9 ⟨rfl, hx⟩
            have HB9 := Lib.hid (HB8.out.ext hx); have EW9 := Lib.hid (EW8.out.trans hx); clear hx f0 f1 f2 f3 f4 f5 f6
            have f0 := HB9.out.c 0 rfl
            have f1 := HB9.out.c 1 rfl
            have f2 := HB9.out.c 2 rfl
            have f3 := HB9.out.c 3 rfl
            have f4 := HB9.out.c 4 rfl
            have f5 := HB9.out.c 5 rfl
            have f6 := HB9.out.c 6 rfl
            go_wp2_with fail
            refine (isBoard_c d.g.sz a.g.A d.g.ps.length a.g.c d.g.ps a.brd.A a.brd.c d.brd _ ((HR.out.1.ext EW9.out)) ((HR.out.2.2.2.ext EW9.out))).mono ?_
            rw [q4]
            rintro e w10 ⟨rfl, hx⟩
            have HB10 := Lib.hid (HB9.out.ext hx); have EW10 := Lib.hid (EW9.out.trans hx); clear hx f0 f1 f2 f3 f4 f5 f6
            have f0 := HB10.out.c 0 rfl
            have f1 := HB10.out.c 1 rfl
            have f2 := HB10.out.c 2 rfl
            have f3 := HB10.out.c 3 rfl
            have f4 := HB10.out.c 4 rfl
            have f5 := HB10.out.c 5 rfl
            have f6 := HB10.out.c 6 rfl
            go_wp2
            go_ret
            exact ⟨ret_bool HV.out.symm, HE.out.trans EW10.out⟩
          | true =>
            have HV := Lib.hid (show stuB d = true by unfold stuB colE; simp [q0, q1, q2, qe, q4])
            go_enter Try.func46, Try.ntmps46
            have f0 := HB.out.c 0 rfl
            have f1 := HB.out.c 1 rfl
            have f2 := HB.out.c 2 rfl
            have f3 := HB.out.c 3 rfl
            have f4 := HB.out.c 4 rfl
            have f5 := HB.out.c 5 rfl
            have f6 := HB.out.c 6 rfl
            go_wp2_with fail
            refine ((between_c d.count 0 1000 _).mono (fun e w' h => show e = .returned (.bool (inB d.count 0 1000)) ∧ Ext _ w' from ⟨h.1, ext_eq h.2⟩)).mono ?_
            rw [q0]
            rintro e w11 ⟨rfl, hx⟩
            have HB11 := Lib.hid (HB.out.ext hx); have EW11 := Lib.hid (EW.out.trans hx); clear hx f0 f1 f2 f3 f4 f5 f6
            have f0 := HB11.out.c 0 rfl
            have f1 := HB11.out.c 1 rfl
            have f2 := HB11.out.c 2 rfl
            have f3 := HB11.out.c 3 rfl
            have f4 := HB11.out.c 4 rfl
            have f5 := HB11.out.c 5 rfl
            have f6 := HB11.out.c 6 rfl
            go_wp2_with fail
            refine (isColourCase_c d.g.sz d.kinds a.g.A d.g.ps.length a.g.c d.g.ps _ ((HR.out.1.ext EW11.out))).mono ?_
            rw [q1]
            rintro e w12 ⟨rfl, hx⟩
            have HB12 := Lib.hid (HB11.out.ext hx); have EW12 := Lib.hid (EW11.out.trans hx); clear hx f0 f1 f2 f3 f4 f5 f6
            have f0 := HB12.out.c 0 rfl
            have f1 := HB12.out.c 1 rfl
            have f2 := HB12.out.c 2 rfl
            have f3 := HB12.out.c 3 rfl
            have f4 := HB12.out.c 4 rfl
            have f5 := HB12.out.c 5 rfl
            have f6 := HB12.out.c 6 rfl
            go_wp2_with fail
            refine (isIndependent_c d.g.sz a.g.A d.g.ps.length a.g.c d.g.ps a.tok.A d.tok.length a.tok.c d.tok _ ((HR.out.1.ext EW12.out)) ((HR.out.2.1.ext EW12.out)) (askB_good q1)).mono ?_
            rw [q2]
            rintro e w13 ⟨rfl, hx⟩
            have HB13 := Lib.hid (HB12.out.ext hx); have EW13 := Lib.hid (EW12.out.trans hx); clear hx f0 f1 f2 f3 f4 f5 f6
            have f0 := HB13.out.c 0 rfl
            have f1 := HB13.out.c 1 rfl
            have f2 := HB13.out.c 2 rfl
            have f3 := HB13.out.c 3 rfl
            have f4 := HB13.out.c 4 rfl
            have f5 := HB13.out.c 5 rfl
            have f6 := HB13.out.c 6 rfl
            go_wp2_with fail
            refine (isBoard_c d.g.sz a.g.A d.g.ps.length a.g.c d.g.ps a.brd.A a.brd.c d.brd _ ((HR.out.1.ext EW13.out)) ((HR.out.2.2.2.ext EW13.out))).mono ?_
            rw [q4]
            rintro e w14 ⟨rfl, hx⟩
            have HB14 := Lib.hid (HB13.out.ext hx); have EW14 := Lib.hid (EW13.out.trans hx); clear hx f0 f1 f2 f3 f4 f5 f6
            have f0 := HB14.out.c 0 rfl
            have f1 := HB14.out.c 1 rfl
            have f2 := HB14.out.c 2 rfl
            have f3 := HB14.out.c 3 rfl
            have f4 := HB14.out.c 4 rfl
            have f5 := HB14.out.c 5 rfl
            have f6 := HB14.out.c 6 rfl
            go_wp2
            go_ret
            exact ⟨ret_bool HV.out.symm, HE.out.trans EW14.out⟩
        | false =>
          cases q3 : colB d.g.sz d.g.ps d.kinds d.col with
          | false =>
            have HV := Lib.hid (show stuB d = false by unfold stuB colE; simp [q0, q1, q2, qe, q3])
            go_enter Try.func46, Try.ntmps46
            have f0 := HB.out.c 0 rfl
            have f1 := HB.out.c 1 rfl
            have f2 := HB.out.c 2 rfl
            have f3 := HB.out.c 3 rfl
            have f4 := HB.out.c 4 rfl
            have f5 := HB.out.c 5 rfl
            have f6 := HB.out.c 6 rfl
            go_wp2_with fail
            refine ((between_c d.count 0 1000 _).mono (fun e w' h => show e = .returned (.bool (inB d.count 0 1000)) ∧ Ext _ w' from ⟨h.1, ext_eq h.2⟩)).mono ?_
            rw [q0]
            rintro e w15 ⟨rfl, hx⟩
            have HB15 := Lib.hid (HB.out.ext hx); have EW15 := Lib.hid (EW.out.trans hx); clear hx f0 f1 f2 f3 f4 f5 f6
            have f0 := HB15.out.c 0 rfl
            have f1 := HB15.out.c 1 rfl
            have f2 := HB15.out.c 2 rfl
            have f3 := HB15.out.c 3 rfl
            have f4 := HB15.out.c 4 rfl
            have f5 := HB15.out.c 5 rfl
            have f6 := HB15.out.c 6 rfl
            go_wp2_with fail
            refine (isColourCase_c d.g.sz d.kinds a.g.A d.g.ps.length a.g.c d.g.ps _ ((HR.out.1.ext EW15.out))).mono ?_
            rw [q1]
            rintro e w16 ⟨rfl, hx⟩
            have HB16 := Lib.hid (HB15.out.ext hx); have EW16 := Lib.hid (EW15.out.trans hx); clear hx f0 f1 f2 f3 f4 f5 f6
            have f0 := HB16.out.c 0 rfl
            have f1 := HB16.out.c 1 rfl
            have f2 := HB16.out.c 2 rfl
            have f3 := HB16.out.c 3 rfl
            have f4 := HB16.out.c 4 rfl
            have f5 := HB16.out.c 5 rfl
            have f6 := HB16.out.c 6 rfl
            go_wp2_with fail
            refine (isIndependent_c d.g.sz a.g.A d.g.ps.length a.g.c d.g.ps a.tok.A d.tok.length a.tok.c d.tok _ ((HR.out.1.ext EW16.out)) ((HR.out.2.1.ext EW16.out)) (askB_good q1)).mono ?_
            rw [q2]
            rintro e w17 ⟨rfl, hx⟩
            have HB17 := Lib.hid (HB16.out.ext hx); have EW17 := Lib.hid (EW16.out.trans hx); clear hx f0 f1 f2 f3 f4 f5 f6
            have f0 := HB17.out.c 0 rfl
            have f1 := HB17.out.c 1 rfl
            have f2 := HB17.out.c 2 rfl
            have f3 := HB17.out.c 3 rfl
            have f4 := HB17.out.c 4 rfl
            have f5 := HB17.out.c 5 rfl
            have f6 := HB17.out.c 6 rfl
            go_wp2_with fail
            refine (isColouring_c d.g.sz d.kinds a.g.A d.g.ps.length a.g.c d.g.ps a.col.A d.col.length a.col.c d.col _ ((HR.out.1.ext EW17.out)) ((HR.out.2.2.1.ext EW17.out)) q1).mono ?_
            rw [q3]
            rintro e w18 ⟨rfl, hx⟩
            have HB18 := Lib.hid (HB17.out.ext hx); have EW18 := Lib.hid (EW17.out.trans hx); clear hx f0 f1 f2 f3 f4 f5 f6
            have f0 := HB18.out.c 0 rfl
            have f1 := HB18.out.c 1 rfl
            have f2 := HB18.out.c 2 rfl
            have f3 := HB18.out.c 3 rfl
            have f4 := HB18.out.c 4 rfl
            have f5 := HB18.out.c 5 rfl
            have f6 := HB18.out.c 6 rfl
            go_wp2
            go_ret
            exact ⟨ret_bool HV.out.symm, HE.out.trans EW18.out⟩
          | true =>
            cases q4 : brdB d.g.sz d.g.ps d.brd with
            | false =>
              have HV := Lib.hid (show stuB d = false by unfold stuB colE; simp [q0, q1, q2, qe, q3, q4])
              go_enter Try.func46, Try.ntmps46
              have f0 := HB.out.c 0 rfl
              have f1 := HB.out.c 1 rfl
              have f2 := HB.out.c 2 rfl
              have f3 := HB.out.c 3 rfl
              have f4 := HB.out.c 4 rfl
              have f5 := HB.out.c 5 rfl
              have f6 := HB.out.c 6 rfl
              go_wp2_with fail
              refine ((between_c d.count 0 1000 _).mono (fun e w' h => show e = .returned (.bool (inB d.count 0 1000)) ∧ Ext _ w' from ⟨h.1, ext_eq h.2⟩)).mono ?_
              rw [q0]
              rintro e w19 ⟨rfl, hx⟩
              have HB19 := Lib.hid (HB.out.ext hx); have EW19 := Lib.hid (EW.out.trans hx); clear hx f0 f1 f2 f3 f4 f5 f6
              have f0 := HB19.out.c 0 rfl
              have f1 := HB19.out.c 1 rfl
              have f2 := HB19.out.c 2 rfl
              have f3 := HB19.out.c 3 rfl
              have f4 := HB19.out.c 4 rfl
              have f5 := HB19.out.c 5 rfl
              have f6 := HB19.out.c 6 rfl
              go_wp2_with fail
              refine (isColourCase_c d.g.sz d.kinds a.g.A d.g.ps.length a.g.c d.g.ps _ ((HR.out.1.ext EW19.out))).mono ?_
              rw [q1]
              rintro e w20 ⟨rfl, hx⟩
              have HB20 := Lib.hid (HB19.out.ext hx); have EW20 := Lib.hid (EW19.out.trans hx); clear hx f0 f1 f2 f3 f4 f5 f6
              have f0 := HB20.out.c 0 rfl
              have f1 := HB20.out.c 1 rfl
              have f2 := HB20.out.c 2 rfl
              have f3 := HB20.out.c 3 rfl
              have f4 := HB20.out.c 4 rfl
              have f5 := HB20.out.c 5 rfl
              have f6 := HB20.out.c 6 rfl
              go_wp2_with fail
              refine (isIndependent_c d.g.sz a.g.A d.g.ps.length a.g.c d.g.ps a.tok.A d.tok.length a.tok.c d.tok _ ((HR.out.1.ext EW20.out)) ((HR.out.2.1.ext EW20.out)) (askB_good q1)).mono ?_
              rw [q2]
              rintro e w21 ⟨rfl, hx⟩
              have HB21 := Lib.hid (HB20.out.ext hx); have EW21 := Lib.hid (EW20.out.trans hx); clear hx f0 f1 f2 f3 f4 f5 f6
              have f0 := HB21.out.c 0 rfl
              have f1 := HB21.out.c 1 rfl
              have f2 := HB21.out.c 2 rfl
              have f3 := HB21.out.c 3 rfl
              have f4 := HB21.out.c 4 rfl
              have f5 := HB21.out.c 5 rfl
              have f6 := HB21.out.c 6 rfl
              go_wp2_with fail
              refine (isColouring_c d.g.sz d.kinds a.g.A d.g.ps.length a.g.c d.g.ps a.col.A d.col.length a.col.c d.col _ ((HR.out.1.ext EW21.out)) ((HR.out.2.2.1.ext EW21.out)) q1).mono ?_
              rw [q3]
              rintro e w22 ⟨rfl, hx⟩
              have HB22 := Lib.hid (HB21.out.ext hx); have EW22 := Lib.hid (EW21.out.trans hx); clear hx f0 f1 f2 f3 f4 f5 f6
              have f0 := HB22.out.c 0 rfl
              have f1 := HB22.out.c 1 rfl
              have f2 := HB22.out.c 2 rfl
              have f3 := HB22.out.c 3 rfl
              have f4 := HB22.out.c 4 rfl
              have f5 := HB22.out.c 5 rfl
              have f6 := HB22.out.c 6 rfl
              go_wp2_with fail
              refine (isBoard_c d.g.sz a.g.A d.g.ps.length a.g.c d.g.ps a.brd.A a.brd.c d.brd _ ((HR.out.1.ext EW22.out)) ((HR.out.2.2.2.ext EW22.out))).mono ?_
              rw [q4]
              rintro e w23 ⟨rfl, hx⟩
              have HB23 := Lib.hid (HB22.out.ext hx); have EW23 := Lib.hid (EW22.out.trans hx); clear hx f0 f1 f2 f3 f4 f5 f6
              have f0 := HB23.out.c 0 rfl
              have f1 := HB23.out.c 1 rfl
              have f2 := HB23.out.c 2 rfl
              have f3 := HB23.out.c 3 rfl
              have f4 := HB23.out.c 4 rfl
              have f5 := HB23.out.c 5 rfl
              have f6 := HB23.out.c 6 rfl
              go_wp2
              go_ret
              exact ⟨ret_bool HV.out.symm, HE.out.trans EW23.out⟩
            | true =>
              have HV := Lib.hid (show stuB d = true by unfold stuB colE; simp [q0, q1, q2, qe, q3, q4])
              go_enter Try.func46, Try.ntmps46
              have f0 := HB.out.c 0 rfl
              have f1 := HB.out.c 1 rfl
              have f2 := HB.out.c 2 rfl
              have f3 := HB.out.c 3 rfl
              have f4 := HB.out.c 4 rfl
              have f5 := HB.out.c 5 rfl
              have f6 := HB.out.c 6 rfl
              go_wp2_with fail
              refine ((between_c d.count 0 1000 _).mono (fun e w' h => show e = .returned (.bool (inB d.count 0 1000)) ∧ Ext _ w' from ⟨h.1, ext_eq h.2⟩)).mono ?_
              rw [q0]
              rintro e w24 ⟨rfl, hx⟩
              have HB24 := Lib.hid (HB.out.ext hx); have EW24 := Lib.hid (EW.out.trans hx); clear hx f0 f1 f2 f3 f4 f5 f6
              have f0 := HB24.out.c 0 rfl
              have f1 := HB24.out.c 1 rfl
              have f2 := HB24.out.c 2 rfl
              have f3 := HB24.out.c 3 rfl
              have f4 := HB24.out.c 4 rfl
              have f5 := HB24.out.c 5 rfl
              have f6 := HB24.out.c 6 rfl
              go_wp2_with fail
              refine (isColourCase_c d.g.sz d.kinds a.g.A d.g.ps.length a.g.c d.g.ps _ ((HR.out.1.ext EW24.out))).mono ?_
              rw [q1]
              rintro e w25 ⟨rfl, hx⟩
              have HB25 := Lib.hid (HB24.out.ext hx); have EW25 := Lib.hid (EW24.out.trans hx); clear hx f0 f1 f2 f3 f4 f5 f6
              have f0 := HB25.out.c 0 rfl
              have f1 := HB25.out.c 1 rfl
              have f2 := HB25.out.c 2 rfl
              have f3 := HB25.out.c 3 rfl
              have f4 := HB25.out.c 4 rfl
              have f5 := HB25.out.c 5 rfl
              have f6 := HB25.out.c 6 rfl
              go_wp2_with fail
              refine (isIndependent_c d.g.sz a.g.A d.g.ps.length a.g.c d.g.ps a.tok.A d.tok.length a.tok.c d.tok _ ((HR.out.1.ext EW25.out)) ((HR.out.2.1.ext EW25.out)) (askB_good q1)).mono ?_
              rw [q2]
              rintro e w26 ⟨rfl, hx⟩
              have HB26 := Lib.hid (HB25.out.ext hx); have EW26 := Lib.hid (EW25.out.trans hx); clear hx f0 f1 f2 f3 f4 f5 f6
              have f0 := HB26.out.c 0 rfl
              have f1 := HB26.out.c 1 rfl
              have f2 := HB26.out.c 2 rfl
              have f3 := HB26.out.c 3 rfl
              have f4 := HB26.out.c 4 rfl
              have f5 := HB26.out.c 5 rfl
              have f6 := HB26.out.c 6 rfl
              go_wp2_with fail
              refine (isColouring_c d.g.sz d.kinds a.g.A d.g.ps.length a.g.c d.g.ps a.col.A d.col.length a.col.c d.col _ ((HR.out.1.ext EW26.out)) ((HR.out.2.2.1.ext EW26.out)) q1).mono ?_
              rw [q3]
              rintro e w27 ⟨rfl, hx⟩
              have HB27 := Lib.hid (HB26.out.ext hx); have EW27 := Lib.hid (EW26.out.trans hx); clear hx f0 f1 f2 f3 f4 f5 f6
              have f0 := HB27.out.c 0 rfl
              have f1 := HB27.out.c 1 rfl
              have f2 := HB27.out.c 2 rfl
              have f3 := HB27.out.c 3 rfl
              have f4 := HB27.out.c 4 rfl
              have f5 := HB27.out.c 5 rfl
              have f6 := HB27.out.c 6 rfl
              go_wp2_with fail
              refine (isBoard_c d.g.sz a.g.A d.g.ps.length a.g.c d.g.ps a.brd.A a.brd.c d.brd _ ((HR.out.1.ext EW27.out)) ((HR.out.2.2.2.ext EW27.out))).mono ?_
              rw [q4]
              rintro e w28 ⟨rfl, hx⟩
              have HB28 := Lib.hid (HB27.out.ext hx); have EW28 := Lib.hid (EW27.out.trans hx); clear hx f0 f1 f2 f3 f4 f5 f6
              have f0 := HB28.out.c 0 rfl
              have f1 := HB28.out.c 1 rfl
              have f2 := HB28.out.c 2 rfl
              have f3 := HB28.out.c 3 rfl
              have f4 := HB28.out.c 4 rfl
              have f5 := HB28.out.c 5 rfl
              have f6 := HB28.out.c 6 rfl
              go_wp2
              go_ret
              exact ⟨ret_bool HV.out.symm, HE.out.trans EW28.out⟩
theorem goodP_of {sz : Int} {ps : List (Int × Int)} (h : goodG sz ps = true) : goodP ps sz = true := by simp only [goodG, Bool.and_eq_true] at h; exact h.2
set_option maxHeartbeats 4000000 in
theorem l12Good_c (d : StD) (a : StA) (w : World) (h : RdU w a d) :
    Calls Try.prog 94 #[.agg #[.int .i64 d.g.sz, .slice a.g.A d.g.ps.length a.g.c, .int .i64 d.kinds, .slice a.tok.A d.tok.length a.tok.c, .slice a.col.A d.col.length a.col.c, .slice a.brd.A d.brd.length a.brd.c, .int .i64 d.count]] w fun e w' => e = .returned (.bool (stuB d)) ∧ Ext w w' := by
  have hE := (Ext.refl w).alloc (.cells #[.int .i64 d.g.sz, .slice a.g.A d.g.ps.length a.g.c, .int .i64 d.kinds, .slice a.tok.A d.tok.length a.tok.c, .slice a.col.A d.col.length a.col.c, .slice a.brd.A d.brd.length a.brd.c, .int .i64 d.count] 66)
  have HR := Lib.hid (h.ext hE); have HE := Lib.hid hE
  have HB := Lib.hid (Bx.new w [.int .i64 d.g.sz, .slice a.g.A d.g.ps.length a.g.c, .int .i64 d.kinds, .slice a.tok.A d.tok.length a.tok.c, .slice a.col.A d.col.length a.col.c, .slice a.brd.A d.brd.length a.brd.c, .int .i64 d.count] 66)
  have EW := Lib.hid (Ext.refl (w.alloc (.cells #[.int .i64 d.g.sz, .slice a.g.A d.g.ps.length a.g.c, .int .i64 d.kinds, .slice a.tok.A d.tok.length a.tok.c, .slice a.col.A d.col.length a.col.c, .slice a.brd.A d.brd.length a.brd.c, .int .i64 d.count] 66)))
  have hlc := SlI.le h.2.2.1
  clear hE h
  cases q1 : askB d.g.sz d.g.ps d.kinds with
  | false =>
    have HV := Lib.hid (show stuB d = false by unfold stuB colE; simp [q1])
    go_enter Try.func94, Try.ntmps94
    have f0 := HB.out.c 0 rfl
    have f1 := HB.out.c 1 rfl
    have f2 := HB.out.c 2 rfl
    have f3 := HB.out.c 3 rfl
    have f4 := HB.out.c 4 rfl
    have f5 := HB.out.c 5 rfl
    have f6 := HB.out.c 6 rfl
    go_wp2_with fail
    refine (l5Ask_c d.g.sz d.kinds a.g.A d.g.ps.length a.g.c d.g.ps _ ((HR.out.1.ext EW.out))).mono ?_
    rw [q1]
    rintro e w1 ⟨rfl, hx⟩
    have HB1 := Lib.hid (HB.out.ext hx); have EW1 := Lib.hid (EW.out.trans hx); clear hx f0 f1 f2 f3 f4 f5 f6
    have f0 := HB1.out.c 0 rfl
    have f1 := HB1.out.c 1 rfl
    have f2 := HB1.out.c 2 rfl
    have f3 := HB1.out.c 3 rfl
    have f4 := HB1.out.c 4 rfl
    have f5 := HB1.out.c 5 rfl
    have f6 := HB1.out.c 6 rfl
    go_wp2
    go_ret
    exact ⟨ret_bool HV.out.symm, HE.out.trans EW1.out⟩
  | true =>
    cases q4 : brdB d.g.sz d.g.ps d.brd with
    | false =>
      have HV := Lib.hid (show stuB d = false by unfold stuB colE; simp [q1, q4])
      go_enter Try.func94, Try.ntmps94
      have f0 := HB.out.c 0 rfl
      have f1 := HB.out.c 1 rfl
      have f2 := HB.out.c 2 rfl
      have f3 := HB.out.c 3 rfl
      have f4 := HB.out.c 4 rfl
      have f5 := HB.out.c 5 rfl
      have f6 := HB.out.c 6 rfl
      go_wp2_with fail
      refine (l5Ask_c d.g.sz d.kinds a.g.A d.g.ps.length a.g.c d.g.ps _ ((HR.out.1.ext EW.out))).mono ?_
      rw [q1]
      rintro e w2 ⟨rfl, hx⟩
      have HB2 := Lib.hid (HB.out.ext hx); have EW2 := Lib.hid (EW.out.trans hx); clear hx f0 f1 f2 f3 f4 f5 f6
      have f0 := HB2.out.c 0 rfl
      have f1 := HB2.out.c 1 rfl
      have f2 := HB2.out.c 2 rfl
      have f3 := HB2.out.c 3 rfl
      have f4 := HB2.out.c 4 rfl
      have f5 := HB2.out.c 5 rfl
      have f6 := HB2.out.c 6 rfl
      go_wp2_with fail
      refine (l9Board_c d.g.sz a.g.A d.g.ps.length a.g.c d.g.ps a.brd.A a.brd.c d.brd _ ((HR.out.1.ext EW2.out)) ((HR.out.2.2.2.ext EW2.out))).mono ?_
      rw [q4]
      rintro e w3 ⟨rfl, hx⟩
      have HB3 := Lib.hid (HB2.out.ext hx); have EW3 := Lib.hid (EW2.out.trans hx); clear hx f0 f1 f2 f3 f4 f5 f6
      have f0 := HB3.out.c 0 rfl
      have f1 := HB3.out.c 1 rfl
      have f2 := HB3.out.c 2 rfl
      have f3 := HB3.out.c 3 rfl
      have f4 := HB3.out.c 4 rfl
      have f5 := HB3.out.c 5 rfl
      have f6 := HB3.out.c 6 rfl
      go_wp2
      go_ret
      exact ⟨ret_bool HV.out.symm, HE.out.trans EW3.out⟩
    | true =>
      cases q2 : indB d.g.sz d.g.ps d.tok with
      | false =>
        have HV := Lib.hid (show stuB d = false by unfold stuB colE; simp [q1, q4, q2])
        go_enter Try.func94, Try.ntmps94
        have f0 := HB.out.c 0 rfl
        have f1 := HB.out.c 1 rfl
        have f2 := HB.out.c 2 rfl
        have f3 := HB.out.c 3 rfl
        have f4 := HB.out.c 4 rfl
        have f5 := HB.out.c 5 rfl
        have f6 := HB.out.c 6 rfl
        go_wp2_with fail
        refine (l5Ask_c d.g.sz d.kinds a.g.A d.g.ps.length a.g.c d.g.ps _ ((HR.out.1.ext EW.out))).mono ?_
        rw [q1]
        rintro e w4 ⟨rfl, hx⟩
        have HB4 := Lib.hid (HB.out.ext hx); have EW4 := Lib.hid (EW.out.trans hx); clear hx f0 f1 f2 f3 f4 f5 f6
        have f0 := HB4.out.c 0 rfl
        have f1 := HB4.out.c 1 rfl
        have f2 := HB4.out.c 2 rfl
        have f3 := HB4.out.c 3 rfl
        have f4 := HB4.out.c 4 rfl
        have f5 := HB4.out.c 5 rfl
        have f6 := HB4.out.c 6 rfl
        go_wp2_with fail
        refine (l9Board_c d.g.sz a.g.A d.g.ps.length a.g.c d.g.ps a.brd.A a.brd.c d.brd _ ((HR.out.1.ext EW4.out)) ((HR.out.2.2.2.ext EW4.out))).mono ?_
        rw [q4]
        rintro e w5 ⟨rfl, hx⟩
        have HB5 := Lib.hid (HB4.out.ext hx); have EW5 := Lib.hid (EW4.out.trans hx); clear hx f0 f1 f2 f3 f4 f5 f6
        have f0 := HB5.out.c 0 rfl
        have f1 := HB5.out.c 1 rfl
        have f2 := HB5.out.c 2 rfl
        have f3 := HB5.out.c 3 rfl
        have f4 := HB5.out.c 4 rfl
        have f5 := HB5.out.c 5 rfl
        have f6 := HB5.out.c 6 rfl
        go_wp2_with fail
        refine (l3Free_c d.g.sz a.g.A d.g.ps.length a.g.c d.g.ps a.tok.A d.tok.length a.tok.c d.tok _ ((HR.out.1.ext EW5.out)) ((HR.out.2.1.ext EW5.out)) (goodG_range (askB_good q1)).1 (goodG_range (askB_good q1)).2).mono ?_
        rw [ind_same (goodP_of (askB_good q1)), q2]
        rintro e w6 ⟨rfl, hx⟩
        have HB6 := Lib.hid (HB5.out.ext hx); have EW6 := Lib.hid (EW5.out.trans hx); clear hx f0 f1 f2 f3 f4 f5 f6
        have f0 := HB6.out.c 0 rfl
        have f1 := HB6.out.c 1 rfl
        have f2 := HB6.out.c 2 rfl
        have f3 := HB6.out.c 3 rfl
        have f4 := HB6.out.c 4 rfl
        have f5 := HB6.out.c 5 rfl
        have f6 := HB6.out.c 6 rfl
        go_wp2
        go_ret
        exact ⟨ret_bool HV.out.symm, HE.out.trans EW6.out⟩
      | true =>
        cases q0 : inB d.count 0 1000 with
        | false =>
          have HV := Lib.hid (show stuB d = false by unfold stuB colE; simp [q1, q4, q2, q0])
          go_enter Try.func94, Try.ntmps94
          have f0 := HB.out.c 0 rfl
          have f1 := HB.out.c 1 rfl
          have f2 := HB.out.c 2 rfl
          have f3 := HB.out.c 3 rfl
          have f4 := HB.out.c 4 rfl
          have f5 := HB.out.c 5 rfl
          have f6 := HB.out.c 6 rfl
          go_wp2_with fail
          refine (l5Ask_c d.g.sz d.kinds a.g.A d.g.ps.length a.g.c d.g.ps _ ((HR.out.1.ext EW.out))).mono ?_
          rw [q1]
          rintro e w7 ⟨rfl, hx⟩
          have HB7 := Lib.hid (HB.out.ext hx); have EW7 := Lib.hid (EW.out.trans hx); clear hx f0 f1 f2 f3 f4 f5 f6
          have f0 := HB7.out.c 0 rfl
          have f1 := HB7.out.c 1 rfl
          have f2 := HB7.out.c 2 rfl
          have f3 := HB7.out.c 3 rfl
          have f4 := HB7.out.c 4 rfl
          have f5 := HB7.out.c 5 rfl
          have f6 := HB7.out.c 6 rfl
          go_wp2_with fail
          refine (l9Board_c d.g.sz a.g.A d.g.ps.length a.g.c d.g.ps a.brd.A a.brd.c d.brd _ ((HR.out.1.ext EW7.out)) ((HR.out.2.2.2.ext EW7.out))).mono ?_
          rw [q4]
          rintro e w8 ⟨rfl, hx⟩
          have HB8 := Lib.hid (HB7.out.ext hx); have EW8 := Lib.hid (EW7.out.trans hx); clear hx f0 f1 f2 f3 f4 f5 f6
          have f0 := HB8.out.c 0 rfl
          have f1 := HB8.out.c 1 rfl
          have f2 := HB8.out.c 2 rfl
          have f3 := HB8.out.c 3 rfl
          have f4 := HB8.out.c 4 rfl
          have f5 := HB8.out.c 5 rfl
          have f6 := HB8.out.c 6 rfl
          go_wp2_with fail
          refine (l3Free_c d.g.sz a.g.A d.g.ps.length a.g.c d.g.ps a.tok.A d.tok.length a.tok.c d.tok _ ((HR.out.1.ext EW8.out)) ((HR.out.2.1.ext EW8.out)) (goodG_range (askB_good q1)).1 (goodG_range (askB_good q1)).2).mono ?_
          rw [ind_same (goodP_of (askB_good q1)), q2]
          rintro e w9 ⟨rfl, hx⟩
          have HB9 := Lib.hid (HB8.out.ext hx); have EW9 := Lib.hid (EW8.out.trans hx); clear hx f0 f1 f2 f3 f4 f5 f6
          have f0 := HB9.out.c 0 rfl
          have f1 := HB9.out.c 1 rfl
          have f2 := HB9.out.c 2 rfl
          have f3 := HB9.out.c 3 rfl
          have f4 := HB9.out.c 4 rfl
          have f5 := HB9.out.c 5 rfl
          have f6 := HB9.out.c 6 rfl
          go_wp2_with fail
          refine ((l1In_c d.count 0 1000 _).mono (fun e w' h => show e = .returned (.bool (inB d.count 0 1000)) ∧ Ext _ w' from ⟨h.1, ext_eq h.2⟩)).mono ?_
          rw [q0]
          rintro e w10 ⟨rfl, hx⟩
          have HB10 := Lib.hid (HB9.out.ext hx); have EW10 := Lib.hid (EW9.out.trans hx); clear hx f0 f1 f2 f3 f4 f5 f6
          have f0 := HB10.out.c 0 rfl
          have f1 := HB10.out.c 1 rfl
          have f2 := HB10.out.c 2 rfl
          have f3 := HB10.out.c 3 rfl
          have f4 := HB10.out.c 4 rfl
          have f5 := HB10.out.c 5 rfl
          have f6 := HB10.out.c 6 rfl
          go_wp2
          go_ret
          exact ⟨ret_bool HV.out.symm, HE.out.trans EW10.out⟩
        | true =>
          cases qe : ((d.col.length : Int) == 0) with
          | true =>
            have HV := Lib.hid (show stuB d = true by unfold stuB colE; simp [q1, q4, q2, q0, qe])
            go_enter Try.func94, Try.ntmps94
            have f0 := HB.out.c 0 rfl
            have f1 := HB.out.c 1 rfl
            have f2 := HB.out.c 2 rfl
            have f3 := HB.out.c 3 rfl
            have f4 := HB.out.c 4 rfl
            have f5 := HB.out.c 5 rfl
            have f6 := HB.out.c 6 rfl
            go_wp2_with fail
            refine (l5Ask_c d.g.sz d.kinds a.g.A d.g.ps.length a.g.c d.g.ps _ ((HR.out.1.ext EW.out))).mono ?_
            rw [q1]
            rintro e w11 ⟨rfl, hx⟩
            have HB11 := Lib.hid (HB.out.ext hx); have EW11 := Lib.hid (EW.out.trans hx); clear hx f0 f1 f2 f3 f4 f5 f6
            have f0 := HB11.out.c 0 rfl
            have f1 := HB11.out.c 1 rfl
            have f2 := HB11.out.c 2 rfl
            have f3 := HB11.out.c 3 rfl
            have f4 := HB11.out.c 4 rfl
            have f5 := HB11.out.c 5 rfl
            have f6 := HB11.out.c 6 rfl
            go_wp2_with fail
            refine (l9Board_c d.g.sz a.g.A d.g.ps.length a.g.c d.g.ps a.brd.A a.brd.c d.brd _ ((HR.out.1.ext EW11.out)) ((HR.out.2.2.2.ext EW11.out))).mono ?_
            rw [q4]
            rintro e w12 ⟨rfl, hx⟩
            have HB12 := Lib.hid (HB11.out.ext hx); have EW12 := Lib.hid (EW11.out.trans hx); clear hx f0 f1 f2 f3 f4 f5 f6
            have f0 := HB12.out.c 0 rfl
            have f1 := HB12.out.c 1 rfl
            have f2 := HB12.out.c 2 rfl
            have f3 := HB12.out.c 3 rfl
            have f4 := HB12.out.c 4 rfl
            have f5 := HB12.out.c 5 rfl
            have f6 := HB12.out.c 6 rfl
            go_wp2_with fail
            refine (l3Free_c d.g.sz a.g.A d.g.ps.length a.g.c d.g.ps a.tok.A d.tok.length a.tok.c d.tok _ ((HR.out.1.ext EW12.out)) ((HR.out.2.1.ext EW12.out)) (goodG_range (askB_good q1)).1 (goodG_range (askB_good q1)).2).mono ?_
            rw [ind_same (goodP_of (askB_good q1)), q2]
            rintro e w13 ⟨rfl, hx⟩
            have HB13 := Lib.hid (HB12.out.ext hx); have EW13 := Lib.hid (EW12.out.trans hx); clear hx f0 f1 f2 f3 f4 f5 f6
            have f0 := HB13.out.c 0 rfl
            have f1 := HB13.out.c 1 rfl
            have f2 := HB13.out.c 2 rfl
            have f3 := HB13.out.c 3 rfl
            have f4 := HB13.out.c 4 rfl
            have f5 := HB13.out.c 5 rfl
            have f6 := HB13.out.c 6 rfl
            go_wp2_with fail
            refine ((l1In_c d.count 0 1000 _).mono (fun e w' h => show e = .returned (.bool (inB d.count 0 1000)) ∧ Ext _ w' from ⟨h.1, ext_eq h.2⟩)).mono ?_
            rw [q0]
            rintro e w14 ⟨rfl, hx⟩
            have HB14 := Lib.hid (HB13.out.ext hx); have EW14 := Lib.hid (EW13.out.trans hx); clear hx f0 f1 f2 f3 f4 f5 f6
            have f0 := HB14.out.c 0 rfl
            have f1 := HB14.out.c 1 rfl
            have f2 := HB14.out.c 2 rfl
            have f3 := HB14.out.c 3 rfl
            have f4 := HB14.out.c 4 rfl
            have f5 := HB14.out.c 5 rfl
            have f6 := HB14.out.c 6 rfl
            go_wp2
            go_ret
            exact ⟨ret_bool HV.out.symm, HE.out.trans EW14.out⟩
          | false =>
            cases q3 : colB d.g.sz d.g.ps d.kinds d.col with
            | false =>
              have HV := Lib.hid (show stuB d = false by unfold stuB colE; simp [q1, q4, q2, q0, qe, q3])
              go_enter Try.func94, Try.ntmps94
              have f0 := HB.out.c 0 rfl
              have f1 := HB.out.c 1 rfl
              have f2 := HB.out.c 2 rfl
              have f3 := HB.out.c 3 rfl
              have f4 := HB.out.c 4 rfl
              have f5 := HB.out.c 5 rfl
              have f6 := HB.out.c 6 rfl
              go_wp2_with fail
              refine (l5Ask_c d.g.sz d.kinds a.g.A d.g.ps.length a.g.c d.g.ps _ ((HR.out.1.ext EW.out))).mono ?_
              rw [q1]
              rintro e w15 ⟨rfl, hx⟩
              have HB15 := Lib.hid (HB.out.ext hx); have EW15 := Lib.hid (EW.out.trans hx); clear hx f0 f1 f2 f3 f4 f5 f6
              have f0 := HB15.out.c 0 rfl
              have f1 := HB15.out.c 1 rfl
              have f2 := HB15.out.c 2 rfl
              have f3 := HB15.out.c 3 rfl
              have f4 := HB15.out.c 4 rfl
              have f5 := HB15.out.c 5 rfl
              have f6 := HB15.out.c 6 rfl
              go_wp2_with fail
              refine (l9Board_c d.g.sz a.g.A d.g.ps.length a.g.c d.g.ps a.brd.A a.brd.c d.brd _ ((HR.out.1.ext EW15.out)) ((HR.out.2.2.2.ext EW15.out))).mono ?_
              rw [q4]
              rintro e w16 ⟨rfl, hx⟩
              have HB16 := Lib.hid (HB15.out.ext hx); have EW16 := Lib.hid (EW15.out.trans hx); clear hx f0 f1 f2 f3 f4 f5 f6
              have f0 := HB16.out.c 0 rfl
              have f1 := HB16.out.c 1 rfl
              have f2 := HB16.out.c 2 rfl
              have f3 := HB16.out.c 3 rfl
              have f4 := HB16.out.c 4 rfl
              have f5 := HB16.out.c 5 rfl
              have f6 := HB16.out.c 6 rfl
              go_wp2_with fail
              refine (l3Free_c d.g.sz a.g.A d.g.ps.length a.g.c d.g.ps a.tok.A d.tok.length a.tok.c d.tok _ ((HR.out.1.ext EW16.out)) ((HR.out.2.1.ext EW16.out)) (goodG_range (askB_good q1)).1 (goodG_range (askB_good q1)).2).mono ?_
              rw [ind_same (goodP_of (askB_good q1)), q2]
              rintro e w17 ⟨rfl, hx⟩
              have HB17 := Lib.hid (HB16.out.ext hx); have EW17 := Lib.hid (EW16.out.trans hx); clear hx f0 f1 f2 f3 f4 f5 f6
              have f0 := HB17.out.c 0 rfl
              have f1 := HB17.out.c 1 rfl
              have f2 := HB17.out.c 2 rfl
              have f3 := HB17.out.c 3 rfl
              have f4 := HB17.out.c 4 rfl
              have f5 := HB17.out.c 5 rfl
              have f6 := HB17.out.c 6 rfl
              go_wp2_with fail
              refine ((l1In_c d.count 0 1000 _).mono (fun e w' h => show e = .returned (.bool (inB d.count 0 1000)) ∧ Ext _ w' from ⟨h.1, ext_eq h.2⟩)).mono ?_
              rw [q0]
              rintro e w18 ⟨rfl, hx⟩
              have HB18 := Lib.hid (HB17.out.ext hx); have EW18 := Lib.hid (EW17.out.trans hx); clear hx f0 f1 f2 f3 f4 f5 f6
              have f0 := HB18.out.c 0 rfl
              have f1 := HB18.out.c 1 rfl
              have f2 := HB18.out.c 2 rfl
              have f3 := HB18.out.c 3 rfl
              have f4 := HB18.out.c 4 rfl
              have f5 := HB18.out.c 5 rfl
              have f6 := HB18.out.c 6 rfl
              go_wp2_with fail
              refine (l5Proper_c d.g.sz d.kinds a.g.A d.g.ps.length a.g.c d.g.ps a.col.A d.col.length a.col.c d.col _ ((HR.out.1.ext EW18.out)) ((HR.out.2.2.1.ext EW18.out)) q1).mono ?_
              rw [q3]
              rintro e w19 ⟨rfl, hx⟩
              have HB19 := Lib.hid (HB18.out.ext hx); have EW19 := Lib.hid (EW18.out.trans hx); clear hx f0 f1 f2 f3 f4 f5 f6
              have f0 := HB19.out.c 0 rfl
              have f1 := HB19.out.c 1 rfl
              have f2 := HB19.out.c 2 rfl
              have f3 := HB19.out.c 3 rfl
              have f4 := HB19.out.c 4 rfl
              have f5 := HB19.out.c 5 rfl
              have f6 := HB19.out.c 6 rfl
              go_wp2
              go_ret
              exact ⟨ret_bool HV.out.symm, HE.out.trans EW19.out⟩
            | true =>
              have HV := Lib.hid (show stuB d = true by unfold stuB colE; simp [q1, q4, q2, q0, qe, q3])
              go_enter Try.func94, Try.ntmps94
              have f0 := HB.out.c 0 rfl
              have f1 := HB.out.c 1 rfl
              have f2 := HB.out.c 2 rfl
              have f3 := HB.out.c 3 rfl
              have f4 := HB.out.c 4 rfl
              have f5 := HB.out.c 5 rfl
              have f6 := HB.out.c 6 rfl
              go_wp2_with fail
              refine (l5Ask_c d.g.sz d.kinds a.g.A d.g.ps.length a.g.c d.g.ps _ ((HR.out.1.ext EW.out))).mono ?_
              rw [q1]
              rintro e w20 ⟨rfl, hx⟩
              have HB20 := Lib.hid (HB.out.ext hx); have EW20 := Lib.hid (EW.out.trans hx); clear hx f0 f1 f2 f3 f4 f5 f6
              have f0 := HB20.out.c 0 rfl
              have f1 := HB20.out.c 1 rfl
              have f2 := HB20.out.c 2 rfl
              have f3 := HB20.out.c 3 rfl
              have f4 := HB20.out.c 4 rfl
              have f5 := HB20.out.c 5 rfl
              have f6 := HB20.out.c 6 rfl
              go_wp2_with fail
              refine (l9Board_c d.g.sz a.g.A d.g.ps.length a.g.c d.g.ps a.brd.A a.brd.c d.brd _ ((HR.out.1.ext EW20.out)) ((HR.out.2.2.2.ext EW20.out))).mono ?_
              rw [q4]
              rintro e w21 ⟨rfl, hx⟩
              have HB21 := Lib.hid (HB20.out.ext hx); have EW21 := Lib.hid (EW20.out.trans hx); clear hx f0 f1 f2 f3 f4 f5 f6
              have f0 := HB21.out.c 0 rfl
              have f1 := HB21.out.c 1 rfl
              have f2 := HB21.out.c 2 rfl
              have f3 := HB21.out.c 3 rfl
              have f4 := HB21.out.c 4 rfl
              have f5 := HB21.out.c 5 rfl
              have f6 := HB21.out.c 6 rfl
              go_wp2_with fail
              refine (l3Free_c d.g.sz a.g.A d.g.ps.length a.g.c d.g.ps a.tok.A d.tok.length a.tok.c d.tok _ ((HR.out.1.ext EW21.out)) ((HR.out.2.1.ext EW21.out)) (goodG_range (askB_good q1)).1 (goodG_range (askB_good q1)).2).mono ?_
              rw [ind_same (goodP_of (askB_good q1)), q2]
              rintro e w22 ⟨rfl, hx⟩
              have HB22 := Lib.hid (HB21.out.ext hx); have EW22 := Lib.hid (EW21.out.trans hx); clear hx f0 f1 f2 f3 f4 f5 f6
              have f0 := HB22.out.c 0 rfl
              have f1 := HB22.out.c 1 rfl
              have f2 := HB22.out.c 2 rfl
              have f3 := HB22.out.c 3 rfl
              have f4 := HB22.out.c 4 rfl
              have f5 := HB22.out.c 5 rfl
              have f6 := HB22.out.c 6 rfl
              go_wp2_with fail
              refine ((l1In_c d.count 0 1000 _).mono (fun e w' h => show e = .returned (.bool (inB d.count 0 1000)) ∧ Ext _ w' from ⟨h.1, ext_eq h.2⟩)).mono ?_
              rw [q0]
              rintro e w23 ⟨rfl, hx⟩
              have HB23 := Lib.hid (HB22.out.ext hx); have EW23 := Lib.hid (EW22.out.trans hx); clear hx f0 f1 f2 f3 f4 f5 f6
              have f0 := HB23.out.c 0 rfl
              have f1 := HB23.out.c 1 rfl
              have f2 := HB23.out.c 2 rfl
              have f3 := HB23.out.c 3 rfl
              have f4 := HB23.out.c 4 rfl
              have f5 := HB23.out.c 5 rfl
              have f6 := HB23.out.c 6 rfl
              go_wp2_with fail
              refine (l5Proper_c d.g.sz d.kinds a.g.A d.g.ps.length a.g.c d.g.ps a.col.A d.col.length a.col.c d.col _ ((HR.out.1.ext EW23.out)) ((HR.out.2.2.1.ext EW23.out)) q1).mono ?_
              rw [q3]
              rintro e w24 ⟨rfl, hx⟩
              have HB24 := Lib.hid (HB23.out.ext hx); have EW24 := Lib.hid (EW23.out.trans hx); clear hx f0 f1 f2 f3 f4 f5 f6
              have f0 := HB24.out.c 0 rfl
              have f1 := HB24.out.c 1 rfl
              have f2 := HB24.out.c 2 rfl
              have f3 := HB24.out.c 3 rfl
              have f4 := HB24.out.c 4 rfl
              have f5 := HB24.out.c 5 rfl
              have f6 := HB24.out.c 6 rfl
              go_wp2
              go_ret
              exact ⟨ret_bool HV.out.symm, HE.out.trans EW24.out⟩
set_option maxHeartbeats 400000 in
theorem IsStudioS_c (d : StD) (a : StA) (w : World) (h : RdU w a d) :
    Calls Try.prog 44 #[.agg #[.int .i64 d.g.sz, .slice a.g.A d.g.ps.length a.g.c, .int .i64 d.kinds, .slice a.tok.A d.tok.length a.tok.c, .slice a.col.A d.col.length a.col.c, .slice a.brd.A d.brd.length a.brd.c, .int .i64 d.count]] w fun e w' => e = .returned (.bool (stuB d)) ∧ Ext w w' := by
  have hE := (Ext.refl w).alloc (.cells #[.int .i64 d.g.sz, .slice a.g.A d.g.ps.length a.g.c, .int .i64 d.kinds, .slice a.tok.A d.tok.length a.tok.c, .slice a.col.A d.col.length a.col.c, .slice a.brd.A d.brd.length a.brd.c, .int .i64 d.count] 66)
  have HR := Lib.hid (h.ext hE); have HE := Lib.hid hE
  clear hE h
  go_enter Try.func44, Try.ntmps44
  go_wp2_with fail
  refine (l12Good_c d a _ HR.out).mono ?_
  rintro e w1 ⟨rfl, hx⟩
  go_wp2
  go_ret
  exact ⟨rfl, HE.out.trans hx⟩
end Go.Proofs.Ytkfbkflneppggaa
