/-
  The contract of the program's neighbors. Conditions: none.
-/
import Derived.Test.YtkfbkflneppggaaIa
namespace Go.Proofs.Ytkfbkflneppggaa
open Go.RowKit
set_option linter.unusedVariables false
set_option linter.unusedSimpArgs false

set_option maxHeartbeats 1000000 in
theorem neighbors_c (sz : Nat) (A : Option Addr) (n c : Nat) (ps : List (Int × Int)) (x : Int) (w : World) (h : SlP w A n ps) (hs : sz ≤ 1048576) :
    Calls Try.prog 117 #[.agg #[.int .i64 (sz : Int), .slice A n c], .int .i64 x] w fun e w' =>
      ∃ A' c', e = .returned (.slice A' (nbrK ps x sz).length c') ∧ w'.ownsRow w.heap.size 3 1 (.slice A' (nbrK ps x sz).length c') (nbrK ps x sz).length (ints (nbrK ps x sz)) ∧ Ext w w' := by
  have hE := (Ext.refl w).alloc (.cells #[.int .i64 (sz : Int), .slice A n c] 28)
  have H := Lib.hid (h.ext hE)
  have HE := Lib.hid hE
  clear hE h
  have ho := own_empty (w.alloc (.cells #[.int .i64 (sz : Int), .slice A n c] 28)) 3 1 0 #[] rfl (by omega)
  have hoE := (Ext.refl (w.alloc (.cells #[.int .i64 (sz : Int), .slice A n c] 28))).alloc (.cells #[] 3)
  have HO := Lib.hid ho
  have HOE := Lib.hid hoE
  clear ho hoE
  go_enter Try.func117, Try.ntmps117
  go_wp2
  go_loopw [5, 6, 10] (fun v t i wr => ∃ k : Nat, k ≤ sz ∧ i = .int .i64 k ∧ Ext (w.alloc (.cells #[.int .i64 (sz : Int), .slice A n c] 28)) wr ∧
      wr.ownsRow (w.alloc (.cells #[.int .i64 (sz : Int), .slice A n c] 28)).heap.size 3 1 v (nbrK ps x k).length (ints (nbrK ps x k))) (fun _ _ i _ => sz - (intOf i).toNat)
  case atStart => exact ⟨0, Nat.zero_le _, rfl, HOE.out, by have := HO.out; simp only [alloc_size] at this ⊢; exact this⟩
  case round =>
    obtain ⟨k, hk, rfl, hx, hown⟩ := hrel
    have hc0 := hx.cell (cell_new w #[.int .i64 (sz : Int), .slice A n c] 28 0 _ rfl)
    have hc1 := hx.cell (cell_new w #[.int .i64 (sz : Int), .slice A n c] 28 1 _ rfl)
    have Hx := Lib.hid hx; clear hx
    have Hown := Lib.hid hown; clear hown
    by_cases hlt : k < sz
    · cases q1 : ((k : Int) == x) with
      | true =>
        have HN := Lib.hid (nbrK_self (ps := ps) q1)
        have q1' : ((k : Int) != x) = false := by rw [bne, q1]; rfl
        go_wp2
        go_roundw
        case rel => exact ⟨k + 1, by omega, by go_num, Hx.out, by rw [HN.out]; exact Hown.out⟩
        case measure => simp [intOf]; omega
      | false =>
        have q1' : ((k : Int) != x) = true := by rw [bne, q1]; rfl
        cases q2 : nearB ps x k with
        | false =>
          have HN := Lib.hid (nbrK_no q2)
          go_wp2_with (go_at_call 162; refine (has_c _ A n c ps _ _ _ (H.out.ext Hx.out)).mono ?_; rintro e w1 ⟨rfl, hy⟩)
          go_roundw
          case rel => exact ⟨k + 1, by omega, by go_num, Hx.out.trans hy, by rw [HN.out]; exact own_ext Hown.out hy⟩
          case measure => simp [intOf]; omega
        | true =>
          have HN := Lib.hid (nbrK_yes q1 q2)
          have hlen := nbrK_length ps x k
          go_wp2_with (first | (go_at_call 162; refine (has_c _ A n c ps _ _ _ (H.out.ext Hx.out)).mono ?_; rintro e w1 ⟨rfl, hy⟩) | (at_builtin; refine append_one (w0 := w.alloc (.cells #[.int .i64 (sz : Int), .slice A n c] 28)) 40 3 _ 1 8 Try.underlying40 infoI rfl (by omega) rfl _ _ rfl _ _ (ints (nbrK ps x k)) [.int .i64 (k : Int)] rfl rfl rfl (by simp [Value.oneCell']) (own_ext Hown.out hy) (Hx.out.trans hy) (by omega) (by omega) ?_; intro v1 w2 ho hx2 _ _))
          go_roundw
          case rel => exact ⟨k + 1, by omega, by go_num, hx2, by rw [HN.out, List.length_append, ints_append]; exact ho⟩
          case measure => simp [intOf]; omega
    · have hk' : k = sz := by omega
      subst hk'
      go_wp2
      obtain ⟨A1, c1, hv⟩ := own_slice Hown.out
      go_ret
      exact ⟨A1, c1, ret_val hv, by rw [← hv]; exact own_mono Hown.out (by rw [alloc_size]; omega), HE.out.trans Hx.out⟩
end Go.Proofs.Ytkfbkflneppggaa
