/-
  Contracts of slices.IndexFunc and slices.ContainsFunc at whole numbers and at pairs, for any function value that only reads. Conditions: none.
-/
import Derived.Test.YtkfbkflneppggaaBa
import Derived.Shelf.Abstract
namespace Go.Proofs.Ytkfbkflneppggaa
open Go.RowKit
set_option linter.unusedVariables false
set_option linter.unusedSimpArgs false

/-- A function value that tells a number, in whatever world is larger than w. -/
def TellsI (g : Nat) (caps : Array Value) (p : Int → Bool) (xs : List Int) (w : World) : Prop :=
  ∀ (W : World) (x : Int), Ext w W → x ∈ xs → Calls Try.prog g (#[.int .i64 x] ++ caps) W fun e w' => e = .returned (.bool (p x)) ∧ Ext W w'
def TellsP (g : Nat) (caps : Array Value) (p : Int × Int → Bool) (xs : List (Int × Int)) (w : World) : Prop :=
  ∀ (W : World) (x y : Int), Ext w W → (x, y) ∈ xs → Calls Try.prog g (#[.agg #[.int .i64 x, .int .i64 y]] ++ caps) W fun e w' => e = .returned (.bool (p (x, y))) ∧ Ext W w'

set_option maxHeartbeats 1000000 in
theorem IndexFuncI_c (A : Option Addr) (n c : Nat) (xs : List Int) (g : Nat) (caps : Array Value) (p : Int → Bool) (w : World) (h : SlI w A n xs) (he : Enters Try.prog g) (hp : TellsI g caps p xs w) :
    Calls Try.prog 161 #[.slice A n c, .func (.func g) #[] caps] w fun e w' => e = .returned (.int .i64 (idxI p xs 0)) ∧ Ext w w' := by
  have hl := h.len
  have hmx := h.le
  have HP := Lib.hid hp; clear hp
  unfold Enters at he
  go_enter Try.func161, Try.ntmps161
  go_wp2
  go_loopw [5, 8] (fun t i wr => ∃ k : Nat, k ≤ n ∧ i = .int .i64 k ∧ Ext w wr ∧ idxI p xs 0 = idxI p (xs.drop k) k) (fun _ i _ => n - (intOf i).toNat)
  case atStart => exact ⟨0, Nat.zero_le _, rfl, Ext.refl _, rfl⟩
  case round =>
    obtain ⟨k, hk, rfl, hx, hf⟩ := hrel
    by_cases hlt : k < n
    · obtain ⟨b, o, rfl, d1⟩ := (h.ext hx).at k (by omega)
      rw [idxI_drop p xs k (by omega)] at hf
      have HM := Lib.hid (show gI xs k ∈ xs by rw [gI_eq xs k (by omega)]; exact List.getElem_mem _)
      have Hh := Lib.hid h; clear h
      have Hx := Lib.hid hx; clear hx
      have Hf := Lib.hid hf; clear hf
      have Hl := Lib.hid hl; clear hl
      cases q : p (gI xs k) with
      | true =>
        go_wp2_with fail
        refine (HP.out wr (gI xs k) Hx.out HM.out).mono ?_
        rintro e w1 ⟨rfl, hy⟩
        go_wp2
        go_ret
        exact ⟨ret_int (by rw [Hf.out, q]; simp), Hx.out.trans hy⟩
      | false =>
        go_wp2_with fail
        refine (HP.out wr (gI xs k) Hx.out HM.out).mono ?_
        rintro e w1 ⟨rfl, hy⟩
        go_wp2
        go_roundw
        case rel => exact ⟨k + 1, by omega, by go_num, Hx.out.trans hy, by rw [Hf.out, q]; simp⟩
        case measure => simp [intOf]; omega
    · have hk' : k = n := by omega
      subst hk'
      go_wp2
      go_ret
      exact ⟨ret_int (by rw [hf, List.drop_eq_nil_of_le (by omega)]; rfl), hx⟩

theorem ContainsFuncI_c (A : Option Addr) (n c : Nat) (xs : List Int) (g : Nat) (caps : Array Value) (p : Int → Bool) (w : World) (h : SlI w A n xs) (he : Enters Try.prog g) (hp : TellsI g caps p xs w) :
    Calls Try.prog 116 #[.slice A n c, .func (.func g) #[] caps] w fun e w' => e = .returned (.bool (xs.any p)) ∧ Ext w w' := by
  have HP := Lib.hid hp; clear hp
  have HE := Lib.hid he; clear he
  have HH := Lib.hid h; clear h
  go_enter Try.func116, Try.ntmps116
  go_wp2_with (go_at_call 161; refine (IndexFuncI_c A n c xs g caps p _ HH.out HE.out HP.out).mono ?_; rintro e w1 ⟨rfl, hx⟩)
  go_ret
  exact ⟨ret_bool (idxI_any p xs), hx⟩

set_option maxHeartbeats 1000000 in
theorem IndexFuncP_c (A : Option Addr) (n c : Nat) (xs : List (Int × Int)) (g : Nat) (caps : Array Value) (p : Int × Int → Bool) (w : World) (h : SlP w A n xs) (he : Enters Try.prog g) (hp : TellsP g caps p xs w) :
    Calls Try.prog 182 #[.slice A n c, .func (.func g) #[] caps] w fun e w' => e = .returned (.int .i64 (idxI p xs 0)) ∧ Ext w w' := by
  have hl := h.len
  have hmx := h.le
  have HP := Lib.hid hp; clear hp
  unfold Enters at he
  go_enter Try.func182, Try.ntmps182
  go_wp2
  go_loopw [5, 8] (fun t i wr => ∃ k : Nat, k ≤ n ∧ i = .int .i64 k ∧ Ext w wr ∧ idxI p xs 0 = idxI p (xs.drop k) k) (fun _ i _ => n - (intOf i).toNat)
  case atStart => exact ⟨0, Nat.zero_le _, rfl, Ext.refl _, rfl⟩
  case round =>
    obtain ⟨k, hk, rfl, hx, hf⟩ := hrel
    by_cases hlt : k < n
    · obtain ⟨b, o, rfl, d1, d2⟩ := (h.ext hx).at k (by omega)
      rw [idxI_dropP p xs k (by omega)] at hf
      have HM := Lib.hid (show ((gP xs k).1, (gP xs k).2) ∈ xs by rw [gP_eq xs k (by omega)]; exact List.getElem_mem _)
      have Hh := Lib.hid h; clear h
      have Hx := Lib.hid hx; clear hx
      have Hf := Lib.hid hf; clear hf
      have Hl := Lib.hid hl; clear hl
      cases q : p (gP xs k) with
      | true =>
        go_wp2_with fail
        refine (HP.out wr (gP xs k).1 (gP xs k).2 Hx.out HM.out).mono ?_
        rintro e w1 ⟨rfl, hy⟩
        rw [show (((gP xs k).1, (gP xs k).2) : Int × Int) = gP xs k from rfl, q]
        go_wp2
        go_ret
        exact ⟨ret_int (by rw [Hf.out, q]; simp), Hx.out.trans hy⟩
      | false =>
        go_wp2_with fail
        refine (HP.out wr (gP xs k).1 (gP xs k).2 Hx.out HM.out).mono ?_
        rintro e w1 ⟨rfl, hy⟩
        rw [show (((gP xs k).1, (gP xs k).2) : Int × Int) = gP xs k from rfl, q]
        go_wp2
        go_roundw
        case rel => exact ⟨k + 1, by omega, by go_num, Hx.out.trans hy, by rw [Hf.out, q]; simp⟩
        case measure => simp [intOf]; omega
    · have hk' : k = n := by omega
      subst hk'
      go_wp2
      go_ret
      exact ⟨ret_int (by rw [hf, List.drop_eq_nil_of_le (by omega)]; rfl), hx⟩

theorem ContainsFuncP_c (A : Option Addr) (n c : Nat) (xs : List (Int × Int)) (g : Nat) (caps : Array Value) (p : Int × Int → Bool) (w : World) (h : SlP w A n xs) (he : Enters Try.prog g) (hp : TellsP g caps p xs w) :
    Calls Try.prog 155 #[.slice A n c, .func (.func g) #[] caps] w fun e w' => e = .returned (.bool (xs.any p)) ∧ Ext w w' := by
  have HP := Lib.hid hp; clear hp
  have HE := Lib.hid he; clear he
  have HH := Lib.hid h; clear h
  go_enter Try.func155, Try.ntmps155
  go_wp2_with (go_at_call 182; refine (IndexFuncP_c A n c xs g caps p _ HH.out HE.out HP.out).mono ?_; rintro e w1 ⟨rfl, hx⟩)
  go_ret
  exact ⟨ret_bool (idxI_any p xs), hx⟩
end Go.Proofs.Ytkfbkflneppggaa
