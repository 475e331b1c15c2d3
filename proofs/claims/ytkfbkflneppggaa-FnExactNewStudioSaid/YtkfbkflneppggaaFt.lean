/-
  The reference's l2Bits at a full set, l4Without. Conditions: none.
-/
import Derived.Test.YtkfbkflneppggaaFs
namespace Go.Proofs.Ytkfbkflneppggaa
open Go.RowKit
set_option linter.unusedVariables false
set_option linter.unusedSimpArgs false

theorem bits_tab : ∀ g : Fin 9, ∀ x : Fin 8, x.val < g.val → (bits BinOp.and IntKind.i64 (((2 ^ g.val - 1 : Nat) : Int) / 2 ^ x.val) 1 == 1) = true := by decide +kernel
theorem setK_full (g d : Nat) : setK (2 ^ g - 1) (g + d) = setK (2 ^ g - 1) g := by
  induction d with
  | zero => rfl
  | succ d ih =>
    rw [show g + (d + 1) = g + d + 1 by omega, setK_succ, ih, Nat.testBit_two_pow_sub_one]
    simp

set_option maxHeartbeats 1000000 in
theorem l2Bits_c (g : Nat) (hg : g ≤ 8) (w : World) :
    Calls Try.prog 121 #[.int .i64 (g : Int), .int .i64 ((2 ^ g - 1 : Nat) : Int)] w fun e w' => ∃ A c, e = .returned (.slice A (setL (2 ^ g - 1)).length c) ∧ w'.ownsRow w.heap.size 3 1 (.slice A (setL (2 ^ g - 1)).length c) (setL (2 ^ g - 1)).length (ints (setL (2 ^ g - 1))) ∧ Ext w w' := by
  obtain ⟨b, hb⟩ : ∃ b, b = 2 ^ g - 1 := ⟨_, rfl⟩
  have hfull : setL b = setK b g := by
    rw [hb]
    have := setK_full g (8 - g)
    rw [show g + (8 - g) = 8 by omega] at this
    exact this
  have htab : ∀ k, k < g → (bits BinOp.and IntKind.i64 ((b : Int) / 2 ^ k) 1 == 1) = true := fun k hk => by
    rw [hb]; exact bits_tab ⟨g, by omega⟩ ⟨k, by omega⟩ hk
  have hbit : ∀ k, k < g → setK b (k + 1) = setK b k ++ [(k : Int)] := fun k hk => by
    rw [setK_succ, hb, Nat.testBit_two_pow_sub_one]; simp [hk]
  rw [← hb]
  have HT := Lib.hid htab; have HB := Lib.hid hbit; have HF := Lib.hid hfull
  clear hb hfull htab hbit
  go_enter Try.func121, Try.ntmps121
  go_wp2
  have hown := own_empty w 3 1 0 #[] rfl (by omega)
  go_loopw [5, 6] (fun o i wr => ∃ (k : Nat) (A : Option Addr) (c : Nat), k ≤ g ∧ i = .int .i64 (k : Int) ∧ o = .slice A (setK b k).length c ∧ wr.ownsRow w.heap.size 3 1 (.slice A (setK b k).length c) (setK b k).length (ints (setK b k)) ∧ Ext w wr) (fun _ i _ => g - (intOf i).toNat)
  case atStart => exact ⟨0, _, _, Nat.zero_le _, rfl, rfl, hown, (Ext.refl w).alloc _⟩
  case round =>
    obtain ⟨k, A, c, hk, rfl, rfl, hown, hx⟩ := hrel
    have hlen := setK_length b k
    by_cases hlt : k < g
    · have h3 := HT.out k hlt
      have Hown := Lib.hid hown; have Hx := Lib.hid hx
      have i0 : (0 : Int) ≤ (k : Int) := by omega
      clear hown hx
      go_wp2_with (at_builtin; refine append_one (w0 := w) 40 3 _ 1 8 Try.underlying40 infoI rfl (by omega) rfl _ _ rfl (.slice A (setK b k).length c) (setK b k).length (ints (setK b k)) [.int .i64 (k : Int)] rfl rfl rfl (by simp [Value.oneCell']) Hown.out Hx.out (by omega) (by omega) ?_; intro v1 w2 ho hx2 _ _)
      obtain ⟨A1, c1, rfl⟩ := own_slice ho
      have HO := Lib.hid ho; have HX2 := Lib.hid hx2
      clear ho hx2
      go_wp2
      go_roundw
      case rel =>
        have hs := HB.out k hlt
        have ho := HO.out
        rw [show ints (setK b k) ++ [.int .i64 (k : Int)] = ints (setK b k ++ [(k : Int)]) by simp [ints]] at ho
        have hl2 : (setK b (k + 1)).length = (setK b k).length + 1 := by rw [hs]; simp
        exact ⟨k + 1, A1, c1, by omega, by go_num, by rw [hl2], by rw [hl2, hs]; exact ho, HX2.out⟩
      case measure => simp [intOf]; omega
    · obtain rfl : k = g := by omega
      go_wp2
      go_ret
      rw [HF.out]
      exact ⟨_, _, rfl, hown, hx⟩

theorem filt_succ (l : List Int) (x : Int) (k : Nat) (h : k < l.length) : (l.take (k + 1)).filter (fun z => z != x) = (l.take k).filter (fun z => z != x) ++ if gI l k != x then [gI l k] else [] := by
  rw [List.take_succ_eq_append_getElem h, List.filter_append, gI_eq l k h]
  congr 1
  cases hq : (l[k] != x) <;> simp [hq]

set_option maxHeartbeats 1000000 in
theorem l4Without_c (A : Option Addr) (n c : Nat) (l : List Int) (x : Int) (w : World) (h : SlI w A n l) (hn : n ≤ 8) :
    Calls Try.prog 123 #[.slice A n c, .int .i64 x] w fun e w' => ∃ A' c', e = .returned (.slice A' (l.filter fun z => z != x).length c') ∧ w'.ownsRow w.heap.size 3 1 (.slice A' (l.filter fun z => z != x).length c') (l.filter fun z => z != x).length (ints (l.filter fun z => z != x)) ∧ Ext w w' := by
  have hlen := h.len
  have HL := Lib.hid h; have HLen := Lib.hid hlen
  clear h hlen
  go_enter Try.func123, Try.ntmps123
  go_wp2
  have hown := own_empty w 3 1 0 #[] rfl (by omega)
  go_loopw [5, 6] (fun o i wr => ∃ (k : Nat) (A : Option Addr) (c : Nat) (r : List Int), k ≤ n ∧ i = .int .i64 (k : Int) ∧ o = .slice A r.length c ∧ wr.ownsRow w.heap.size 3 1 (.slice A r.length c) r.length (ints r) ∧ Ext w wr ∧ r = (l.take k).filter (fun z => z != x) ∧ r.length ≤ k) (fun _ i _ => n - (intOf i).toNat)
  case atStart => exact ⟨0, _, _, [], Nat.zero_le _, rfl, rfl, hown, (Ext.refl w).alloc _, rfl, Nat.le_refl _⟩
  case round =>
    obtain ⟨k, A1, c1, r, hk, rfl, rfl, hown, hx, hr, hrl⟩ := hrel
    by_cases hlt : k < n
    · have Hown := Lib.hid hown; have Hx := Lib.hid hx; have HR := Lib.hid hr
      have HFS := Lib.hid (filt_succ l x k (by have := HLen.out; omega))
      obtain ⟨b, o, rfl, p1⟩ := (HL.out.ext Hx.out).at k (by have := HLen.out; omega)
      have i0 : (0 : Int) ≤ (k : Int) := by omega
      have i1 : (k : Int) < (n : Int) := by omega
      obtain ⟨z, hz⟩ : ∃ z, z = gI l k := ⟨_, rfl⟩
      rw [← hz] at p1 HFS
      clear hown hx hr hz
      cases q : (z != x) with
      | false =>
        rw [q] at HFS
        go_wp2
        go_roundw
        case rel => exact ⟨k + 1, A1, c1, r, by omega, by go_num, rfl, Hown.out, Hx.out, by rw [HFS.out, ← HR.out]; simp, by omega⟩
        case measure => simp [intOf]; omega
      | true =>
        rw [q] at HFS
        go_wp2_with (at_builtin; refine append_one (w0 := w) 40 3 _ 1 8 Try.underlying40 infoI rfl (by omega) rfl _ _ rfl (.slice A1 r.length c1) r.length (ints r) [.int .i64 z] rfl rfl rfl (by simp [Value.oneCell']) Hown.out Hx.out (by omega) (by omega) ?_; intro v1 w2 ho hx2 _ _)
        obtain ⟨A2, c2, rfl⟩ := own_slice ho
        have HO := Lib.hid ho; have HX2 := Lib.hid hx2
        clear ho hx2
        go_wp2
        go_roundw
        case rel =>
          have ho := HO.out
          rw [show ints r ++ [.int .i64 z] = ints (r ++ [z]) by simp [ints]] at ho
          exact ⟨k + 1, A2, c2, r ++ [z], by omega, by go_num, by rw [List.length_append]; rfl, by rw [List.length_append]; exact ho, HX2.out, by rw [HFS.out, ← HR.out]; simp, by rw [List.length_append]; simp only [List.length_singleton]; omega⟩
        case measure => simp [intOf]; omega
    · obtain rfl : k = n := by omega
      go_wp2
      go_ret
      have he : r = l.filter (fun z => z != x) := by rw [hr, List.take_of_length_le (by have := HLen.out; omega)]
      rw [← he]
      exact ⟨_, _, rfl, hown, hx⟩
end Go.Proofs.Ytkfbkflneppggaa
