/-
  Sets of nodes as bits of a whole number: the program's bagOf, has, list, all. Conditions: none.
-/
import Derived.Test.YtkfbkflneppggaaBa
import Derived.Laws.BitsAllLaws
import Derived.BigQuiet
namespace Go.Proofs.Ytkfbkflneppggaa
open Go.RowKit
set_option linter.unusedVariables false
set_option linter.unusedSimpArgs false

theorem bit_has (b x : Nat) (hb : b < 18446744073709551616) : (bits BinOp.and IntKind.u64 ((b : Int) / 2 ^ x) 1 == 1) = b.testBit x := by
  have h0 : ((b : Int) / 2 ^ x) = ((b / 2 ^ x : Nat) : Int) := by simp
  have h1 : b / 2 ^ x < 18446744073709551616 := Nat.lt_of_le_of_lt (Nat.div_le_self _ _) hb
  rw [h0, show (1 : Int) = ((1 : Nat) : Int) from rfl, u64_and_nat _ _ h1 (by omega)]
  rw [Nat.and_one_is_mod, Nat.testBit_eq_decide_div_mod_eq, Bool.eq_iff_iff]
  simp only [beq_iff_eq, decide_eq_true_eq]
  omega

theorem wrap_pow (x : Nat) (hx : x < 64) : IntKind.u64.wrap ((2 : Int) ^ x) = ((2 ^ x : Nat) : Int) := by
  have h3 : (2 : Nat) ^ x < 18446744073709551616 := Nat.lt_of_lt_of_eq (Nat.pow_lt_pow_right (by omega) hx : 2 ^ x < 2 ^ 64) rfl
  rw [IntKind.wrap_u64, show ((2 : Int) ^ x) = ((2 ^ x : Nat) : Int) by simp]
  exact Int.emod_eq_of_lt (Int.natCast_nonneg _) (Int.lt_of_lt_of_le (Int.ofNat_lt.2 h3) (Int.le_refl _))
theorem pow_lt8 {x : Nat} (hx : x < 8) : 2 ^ x < 256 := Nat.lt_of_lt_of_eq (Nat.pow_lt_pow_right (by omega) hx : 2 ^ x < 2 ^ 8) rfl
theorem bit_or (b x : Nat) (hb : b < 256) (hx : x < 8) : bits BinOp.or IntKind.u64 (b : Int) (IntKind.u64.wrap ((2 : Int) ^ x)) = ((b ||| 2 ^ x : Nat) : Int) := by
  rw [wrap_pow x (by omega)]
  exact u64_or_nat _ _ (by omega) (by have := pow_lt8 hx; omega)
theorem bit_all (sz : Nat) (hs : sz ≤ 8) : IntKind.u64.wrap (IntKind.u64.wrap ((2 : Int) ^ sz) - 1) = ((2 ^ sz - 1 : Nat) : Int) := by
  have h1 : (2 : Nat) ^ sz ≤ 256 := Nat.le_trans (Nat.pow_le_pow_right (by omega) hs) (by decide)
  have h2 : 0 < (2 : Nat) ^ sz := Nat.pow_pos (by omega)
  rw [wrap_pow sz (by omega), IntKind.wrap_u64]
  omega

set_option maxHeartbeats 400000 in
theorem bagHas_c (b x : Nat) (hb : b < 256) (hx : x < 8) (w : World) :
    Calls Try.prog 165 #[.int .u64 (b : Int), .int .i64 (x : Int)] w fun e w' => e = .returned (.bool (b.testBit x)) ∧ w = w' := by
  have h3 := bit_has b x (by omega)
  go_enter Try.func165, Try.ntmps165
  go_wp2
  go_ret
  exact ⟨rfl, rfl⟩
set_option maxHeartbeats 400000 in
theorem bagAll_c (sz : Nat) (hs : sz ≤ 8) (A : Option Addr) (n c : Nat) (w : World) :
    Calls Try.prog 125 #[.agg #[.int .i64 (sz : Int), .slice A n c]] w fun e w' => e = .returned (.int .u64 ((2 ^ sz - 1 : Nat) : Int)) ∧ Ext w w' := by
  have hE := (Ext.refl w).alloc (.cells #[.int .i64 (sz : Int), .slice A n c] 28)
  have HE := Lib.hid hE
  clear hE
  go_enter Try.func125, Try.ntmps125
  go_wp2
  go_ret
  exact ⟨by rw [← bit_all sz hs]; rfl, HE.out⟩
set_option maxHeartbeats 400000 in
theorem bagOf_c (A : Option Addr) (n c : Nat) (xs : List Int) (w : World) (h : SlI w A n xs) (hx : ∀ x ∈ xs, 0 ≤ x ∧ x < 8) :
    Calls Try.prog 153 #[.slice A n c] w fun e w' => ∃ b : Nat, e = .returned (.int .u64 (b : Int)) ∧ w = w' ∧ b < 256 ∧ ∀ j : Nat, b.testBit j = decide ((j : Int) ∈ xs) := by
  have hl := h.len
  have hm := h.le
  go_enter Try.func153, Try.ntmps153
  go_wp2
  go_loopw [3, 8] (fun o i wr => ∃ (k b : Nat), k ≤ n ∧ i = .int .i64 (k : Int) ∧ o = .int .u64 (b : Int) ∧ b < 256 ∧ (∀ j : Nat, b.testBit j = decide ((j : Int) ∈ xs.take k)) ∧ w = wr) (fun _ i _ => n - (intOf i).toNat)
  case atStart => exact ⟨0, 0, Nat.zero_le _, rfl, rfl, by omega, by simp, by first | rfl | trivial⟩
  case round =>
    obtain ⟨k, b, hk, rfl, rfl, hb, hbit, rfl⟩ := hrel
    by_cases hlt : k < n
    · obtain ⟨b1, o, rfl, p1⟩ := h.at k (by omega)
      obtain ⟨x0, x8⟩ := hx (gI xs k) (by rw [gI_eq xs k (by omega)]; exact List.getElem_mem _)
      obtain ⟨x, hxx⟩ := Int.eq_ofNat_of_zero_le x0
      rw [hxx] at p1 x8
      have i0 : (0 : Int) ≤ (k : Int) := by omega
      have i1 : (k : Int) < (n : Int) := by omega
      have j0 : (0 : Int) ≤ (x : Int) := by omega
      have Hh := Lib.hid h; clear h
      have Hl := Lib.hid hl; clear hl
      have Hbit := Lib.hid hbit; clear hbit
      have Hxx := Lib.hid hxx; clear hxx x0
      go_wp2
      go_roundw
      case rel =>
        refine ⟨k + 1, b ||| 2 ^ x, by omega, by go_num, by rw [bit_or b x hb (by omega)], ?_, ?_, by first | rfl | trivial⟩
        · exact Nat.or_lt_two_pow (n := 8) hb (pow_lt8 (by omega))
        · intro j
          rw [Nat.testBit_or, Hbit.out j, Nat.testBit_two_pow, List.take_succ_eq_append_getElem (by have := Hl.out; omega), ← gI_eq xs k (by have := Hl.out; omega), Hxx.out]
          rw [Bool.eq_iff_iff]
          simp only [Bool.or_eq_true, decide_eq_true_eq, List.mem_append, List.mem_singleton]
          refine or_congr Iff.rfl ?_
          omega
      case measure => simp [intOf]; omega
    · have hk' : k = n := by omega
      subst hk'
      go_wp2
      go_ret
      refine ⟨b, rfl, rfl, hb, ?_⟩
      rw [List.take_of_length_le (by omega)] at hbit
      exact hbit

theorem own_slI {w : World} {base n c : Nat} {A : Option Addr} {e : TypeId} {xs : List Int} (h : w.ownsRow base e 1 (.slice A n c) n (ints xs)) : SlI w A n xs := by
  obtain ⟨A', c', hv, hs⟩ := own_sl h
  obtain ⟨rfl, _⟩ : A = A' ∧ c = c' := by injection hv with h1 h2 h3; exact ⟨h1, h3⟩
  exact hs
theorem bit_and (a b : Nat) (ha : a < 256) (hb : b < 256) : bits BinOp.and IntKind.u64 (a : Int) (b : Int) = ((a &&& b : Nat) : Int) := u64_and_nat _ _ (by omega) (by omega)

/-- The nodes of a set, in order. -/
def setK (b k : Nat) : List Int := ((List.range k).filter fun j => b.testBit j).map Int.ofNat
def setL (b : Nat) : List Int := setK b 8
theorem setK_zero (b : Nat) : setK b 0 = [] := rfl
theorem setK_succ (b k : Nat) : setK b (k + 1) = setK b k ++ if b.testBit k then [(k : Int)] else [] := by
  unfold setK
  rw [List.range_succ, List.filter_append, List.map_append]
  cases h : b.testBit k <;> simp [h]
theorem setK_length (b k : Nat) : (setK b k).length ≤ k := by
  unfold setK
  rw [List.length_map]
  exact Nat.le_trans (List.length_filter_le _ _) (by simp)
theorem setL_mem (b : Nat) (hb : b < 256) (z : Int) : z ∈ setL b ↔ ∃ j : Nat, z = (j : Int) ∧ b.testBit j = true := by
  unfold setL setK
  simp only [List.mem_map, List.mem_filter, List.mem_range]
  constructor
  · rintro ⟨j, ⟨_, h⟩, rfl⟩; exact ⟨j, rfl, h⟩
  · rintro ⟨j, rfl, h⟩
    refine ⟨j, ⟨?_, h⟩, rfl⟩
    rcases Nat.lt_or_ge j 8 with h8 | h8
    · exact h8
    · rw [Nat.testBit_lt_two_pow (Nat.lt_of_lt_of_le (show b < 2 ^ 8 from hb) (Nat.pow_le_pow_right (by omega) h8))] at h
      cases h

set_option maxHeartbeats 1000000 in
theorem bagList_c (b : Nat) (hb : b < 256) (w : World) :
    Calls Try.prog 127 #[.int .u64 (b : Int)] w fun e w' => ∃ A c, e = .returned (.slice A (setL b).length c) ∧ w'.ownsRow w.heap.size 3 1 (.slice A (setL b).length c) (setL b).length (ints (setL b)) ∧ Ext w w' := by
  go_enter Try.func127, Try.ntmps127
  go_wp2
  have hown := own_empty w 3 1 0 #[] rfl (by omega)
  go_loopw [3, 6] (fun o i wr => ∃ (k : Nat) (A : Option Addr) (c : Nat), k ≤ 8 ∧ i = .int .i64 (k : Int) ∧ o = .slice A (setK b k).length c ∧ wr.ownsRow w.heap.size 3 1 (.slice A (setK b k).length c) (setK b k).length (ints (setK b k)) ∧ Ext w wr) (fun _ i _ => 8 - (intOf i).toNat)
  case atStart => exact ⟨0, _, _, Nat.zero_le _, rfl, rfl, hown, (Ext.refl w).alloc _⟩
  case round =>
    obtain ⟨k, A, c, hk, rfl, rfl, hown, hx⟩ := hrel
    have hlen := setK_length b k
    by_cases hlt : k < 8
    · have h3 := bit_has b k (by omega)
      have HS := Lib.hid (setK_succ b k)
      have Hown := Lib.hid hown; have Hx := Lib.hid hx
      clear hown hx
      cases q : b.testBit k with
      | false =>
        rw [q] at h3 HS
        go_wp2
        go_roundw
        case rel => 
          have hs : setK b (k + 1) = setK b k := by rw [HS.out]; simp
          exact ⟨k + 1, A, c, by omega, by go_num, by rw [hs], by rw [hs]; exact Hown.out, Hx.out⟩
        case measure => simp [intOf]; omega
      | true =>
        rw [q] at h3 HS
        go_wp2_with (at_builtin; refine append_one (w0 := w) 40 3 _ 1 8 Try.underlying40 infoI rfl (by omega) rfl _ _ rfl (.slice A (setK b k).length c) (setK b k).length (ints (setK b k)) [.int .i64 (k : Int)] rfl rfl rfl (by simp [Value.oneCell']) Hown.out Hx.out (by omega) (by omega) ?_; intro v1 w2 ho hx2 _ _)
        obtain ⟨A1, c1, rfl⟩ := own_slice ho
        have HO := Lib.hid ho; have HX2 := Lib.hid hx2
        clear ho hx2
        go_wp2
        go_roundw
        case rel =>
          have hs : setK b (k + 1) = setK b k ++ [(k : Int)] := by rw [HS.out]; simp
          have ho := HO.out
          rw [show ints (setK b k) ++ [.int .i64 (k : Int)] = ints (setK b k ++ [(k : Int)]) by simp [ints]] at ho
          have hl2 : (setK b (k + 1)).length = (setK b k).length + 1 := by rw [hs]; simp
          exact ⟨k + 1, A1, c1, by omega, by go_num, by rw [hl2], by rw [hl2, hs]; exact ho, HX2.out⟩
        case measure => simp [intOf]; omega
    · obtain rfl : k = 8 := by omega
      go_wp2
      go_ret
      exact ⟨_, _, rfl, hown, hx⟩
end Go.Proofs.Ytkfbkflneppggaa
