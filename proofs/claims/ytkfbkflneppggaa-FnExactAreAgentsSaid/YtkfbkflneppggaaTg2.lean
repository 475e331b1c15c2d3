/-
  The laws' helpers on graphs and rows of numbers, second part: heldGraph, szIntS. Conditions: none.
-/
import Derived.Test.YtkfbkflneppggaaTg
namespace Go.Proofs.Ytkfbkflneppggaa
open Go.RowKit
set_option linter.unusedVariables false
set_option linter.unusedSimpArgs false

set_option maxHeartbeats 400000 in
theorem heldG_t (d : GrD) (a : SlA) (k : Int) (w : World) (h : RdG w a (mkG k d)) (hb : BdG d) (h0 : 0 ≤ k) (h1 : k ≤ 1073741824) :
    Calls Try.prog 106 #[.agg #[.int .i64 d.sz, .slice a.A d.ps.length a.c], .int .i64 k] w fun e w' => e = .returned (.int .i64 (k + cntG d)) ∧ Ext w w' := by
  have hE := (Ext.refl w).alloc (.cells #[.int .i64 d.sz, .slice a.A d.ps.length a.c] 28)
  have HH := Lib.hid (show RdP _ a (mkP k d.ps) from h.ext hE)
  have HB := Lib.hid (show BdP d.ps from hb)
  have HE := Lib.hid hE
  have hc := cntP_le (show BdP d.ps from hb)
  have hl : decide (k + cntP d.ps < 0) = false := by rw [decide_eq_false_iff_not]; omega
  have hg : cntG d = cntP d.ps := rfl
  rw [hg]
  clear hE h hb hc hg
  go_enter Try.func106, Try.ntmps106
  go_wp2_with fail
  refine (heldP_t d.ps a k _ HH.out HB.out h0 h1).mono ?_
  rintro e w1 ⟨rfl, hx⟩
  have HX := Lib.hid hx; clear hx
  go_wp2
  go_ret
  exact ⟨rfl, HE.out.trans HX.out⟩

def leftI (left : Int) (xs : List Int) : Int := leftOf left xs.length
theorem leftI_ok {left : Int} {xs : List Int} (h : ¬ leftI left xs < 0) : BdI xs ∨ 1048576 < left := by unfold leftI leftOf at h; unfold BdI; split at h <;> omega
theorem leftI_le {left : Int} {xs : List Int} : leftI left xs ≤ left ∨ left < 0 := by unfold leftI leftOf; split <;> omega
def leftP (left : Int) (xs : List (Int × Int)) : Int := leftOf left xs.length
theorem leftP_ok {left : Int} {xs : List (Int × Int)} (h : ¬ leftP left xs < 0) : BdP xs ∨ 1048576 < left := by unfold leftP leftOf at h; unfold BdP; split at h <;> omega
theorem leftP_le {left : Int} {xs : List (Int × Int)} : leftP left xs ≤ left ∨ left < 0 := by unfold leftP leftOf; split <;> omega
theorem szP_t (xs : List (Int × Int)) (a : SlA) (left : Int) (w : World) (h : RdP w a xs) (h1 : 0 ≤ left) (h2 : left ≤ 1048576) :
    Calls Try.prog 54 #[.slice a.A xs.length a.c, .int .i64 left] w fun e w' => e = .returned (.int .i64 (leftP left xs)) ∧ Ext w w' :=
  szIntA2S_c a.A xs.length a.c left w (SlP.le h) h1 h2
set_option maxHeartbeats 400000 in
theorem szI_t (xs : List Int) (a : SlA) (left : Int) (w : World) (h : RdI w a xs) (h1 : 0 ≤ left) (h2 : left ≤ 1048576) :
    Calls Try.prog 93 #[.slice a.A xs.length a.c, .int .i64 left] w fun e w' => e = .returned (.int .i64 (leftI left xs)) ∧ Ext w w' := by
  have hn := SlI.le h
  obtain ⟨n, hnn⟩ : ∃ n, n = xs.length := ⟨_, rfl⟩
  unfold leftI
  rw [← hnn] at hn ⊢
  clear hnn h
  go_enter Try.func93, Try.ntmps93
  by_cases h : left < n
  · have h' : left - (n : Int) < 0 := by omega
    go_wp2
    go_ret
    exact ⟨ret_int (by rw [leftOf, if_pos (by omega)]), Ext.refl _⟩
  · have h' : ¬ left - (n : Int) < 0 := by omega
    go_wp2
    go_ret
    exact ⟨ret_int (by rw [leftOf, if_neg (by omega)]), Ext.refl _⟩
end Go.Proofs.Ytkfbkflneppggaa
