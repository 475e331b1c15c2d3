/-
  The program's covers on sets as bits, and what it says of the lists. Conditions: none.
-/
import Derived.Test.YtkfbkflneppggaaBg
import Derived.Test.YtkfbkflneppggaaNa
import Derived.Test.YtkfbkflneppggaaPv
namespace Go.Proofs.Ytkfbkflneppggaa
open Go.RowKit
set_option linter.unusedVariables false
set_option linter.unusedSimpArgs false

/-- Can x be taken away for y (as the reference asks it; x is not y)? -/
def covS (gps : List (Int × Int)) (l : List Int) (x y : Int) : Bool := l.all fun z => !((z == x || nearE gps x z) && z != y && !nearE gps y z)
def covL (gps : List (Int × Int)) (l : List Int) (x y : Int) : Bool := x != y && covS gps l x y

theorem nbrK_iff {gps : List (Int × Int)} {gs : Nat} (hg : goodP gps (gs : Int) = true) (x z : Int) : z ∈ nbrK gps x gs ↔ nearE gps x z = true ∧ z ≠ x := by
  simp only [nbrK, List.mem_filter, List.mem_map, List.mem_range, Bool.and_eq_true, bne_iff_ne]
  rw [near_same hg]
  constructor
  · rintro ⟨_, h1, h2⟩
    refine ⟨?_, h1⟩
    first | exact h2 | (rw [nearE_comm]; exact h2)
  · rintro ⟨h, hne⟩
    refine ⟨?_, hne, ?_⟩
    · rw [nearE_iff] at h
      have : 0 ≤ z ∧ z < gs := by
        rcases h with h | h
        · have := goodP_mem hg h; simp only at this; omega
        · have := goodP_mem hg h; simp only at this; omega
      exact ⟨z.toNat, by omega, by simp; omega⟩
    · first | exact h | (rw [nearE_comm]; exact h)

theorem and_eq_iff (m n : Nat) : m &&& n = n ↔ ∀ j, n.testBit j = true → m.testBit j = true := by
  constructor
  · intro h j hj
    have := congrArg (fun t => Nat.testBit t j) h
    simp only [Nat.testBit_and, hj, Bool.and_true] at this
    exact this
  · intro h
    refine Nat.eq_of_testBit_eq fun j => ?_
    rw [Nat.testBit_and]
    cases hn : n.testBit j with
    | false => simp
    | true => simp [h j hn]

theorem cov_bits {gps : List (Int × Int)} {gs b b1 b2 x y : Nat} (hg : goodP gps (gs : Int) = true) (hb : b < 256) (hx : b.testBit x = true) (hy : b.testBit y = true)
    (h1 : ∀ j : Nat, b1.testBit j = decide ((j : Int) ∈ nbrK gps (x : Int) gs)) (h2 : ∀ j : Nat, b2.testBit j = decide ((j : Int) ∈ nbrK gps (y : Int) gs)) :
    ((b1 &&& b).testBit y && (((b2 ||| 2 ^ y) &&& (b1 &&& b)) == (b1 &&& b))) = covL gps (setL b) (x : Int) (y : Int) := by
  have key : (((b2 ||| 2 ^ y) &&& (b1 &&& b)) == (b1 &&& b)) = true ↔ ∀ z ∈ setL b, nearE gps (x : Int) z = true → z ≠ x → z = y ∨ nearE gps (y : Int) z = true := by
    rw [beq_iff_eq, and_eq_iff]
    constructor
    · intro h z hz hn hne
      obtain ⟨j, rfl, hj⟩ := (setL_mem b hb z).1 hz
      have := h j (by rw [Nat.testBit_and, h1, hj]; simp [nbrK_iff hg, hn, hne])
      rw [Nat.testBit_or, h2, Nat.testBit_two_pow] at this
      simp only [Bool.or_eq_true, decide_eq_true_eq, nbrK_iff hg] at this
      rcases this with h | h
      · exact .inr h.1
      · left; omega
    · intro h j hj
      rw [Nat.testBit_and, h1] at hj
      simp only [Bool.and_eq_true, decide_eq_true_eq, nbrK_iff hg] at hj
      have := h (j : Int) ((setL_mem b hb _).2 ⟨j, rfl, hj.2⟩) hj.1.1 hj.1.2
      rw [Nat.testBit_or, h2, Nat.testBit_two_pow]
      simp only [Bool.or_eq_true, decide_eq_true_eq, nbrK_iff hg]
      by_cases hjy : j = y
      · right; exact hjy.symm
      · left
        rcases this with h | h
        · omega
        · exact ⟨h, by omega⟩
  rw [Bool.eq_iff_iff, Bool.and_eq_true, key, Nat.testBit_and, h1, hy, Bool.and_true, decide_eq_true_eq, nbrK_iff hg]
  simp only [covL, covS, Bool.and_eq_true, bne_iff_ne, List.all_eq_true, Bool.not_eq_true', Bool.eq_false_iff, ne_eq, Bool.or_eq_true, beq_iff_eq, not_and, Decidable.not_not]
  constructor
  · rintro ⟨⟨hn, hne⟩, h⟩
    refine ⟨fun e => hne e.symm, fun z hz => ?_⟩
    rintro ⟨hz1 | hz1, hz2⟩
    · subst hz1
      rw [nearE_comm]; simpa using hn
    · by_cases hzx : z = x
      · subst hzx
        rw [nearE_comm]; simpa using hn
      · rcases h z hz hz1 hzx with h | h
        · exact absurd h hz2
        · simpa using h
  · rintro ⟨hne, h⟩
    have hxl := (setL_mem b hb (x : Int)).2 ⟨x, rfl, hx⟩
    have hn : nearE gps (x : Int) (y : Int) = true := by
      have := h _ hxl ⟨.inl rfl, hne⟩
      rw [nearE_comm]; simpa using this
    refine ⟨⟨hn, fun e => hne e.symm⟩, fun z hz hz1 hzx => ?_⟩
    by_cases hzy : z = y
    · exact .inl hzy
    · right
      have := h z hz ⟨.inr hz1, hzy⟩
      simpa using this

set_option maxHeartbeats 1000000 in
theorem covers_c (gs b x y : Nat) (gA : Option Addr) (gn gc : Nat) (gps : List (Int × Int)) (w : World) (h : SlP w gA gn gps) (hgs : gs ≤ 8) (hg : goodP gps (gs : Int) = true) (hb : b < 256) (hx : b.testBit x = true) (hy : b.testBit y = true) (hx8 : x < 8) (hy8 : y < 8) :
    Calls Try.prog 128 #[.agg #[.int .i64 (gs : Int), .slice gA gn gc], .int .u64 (b : Int), .int .i64 (x : Int), .int .i64 (y : Int)] w fun e w' => e = .returned (.bool (covL gps (setL b) (x : Int) (y : Int))) ∧ Ext w w' := by
  have hE := (Ext.refl w).alloc (.cells #[.int .i64 (gs : Int), .slice gA gn gc] 28)
  have HE := Lib.hid hE
  have H := Lib.hid (h.ext hE)
  have HG := Lib.hid hg; have HX := Lib.hid hx; have HY := Lib.hid hy
  have hr8 : ∀ (x : Int) z, z ∈ nbrK gps x gs → 0 ≤ z ∧ z < 8 := fun x z hz => by
    simp only [nbrK, List.mem_filter, List.mem_map, List.mem_range] at hz
    obtain ⟨⟨j, hj, rfl⟩, _⟩ := hz
    exact ⟨Int.natCast_nonneg _, by have : (j : Int) < 8 := by omega
                                    exact this⟩
  have HR8 := Lib.hid hr8
  clear hE h hg hx hy hr8
  go_enter Try.func128, Try.ntmps128
  go_wp2_with fail
  refine (neighbors_c gs gA gn gc gps (x : Int) _ H.out (by omega)).mono ?_
  rintro e w1 ⟨A1, c1, rfl, ho1, hx1⟩
  have HX1 := Lib.hid hx1; have HS1 := Lib.hid (own_slI ho1)
  have k0 := hx1.cell (cell_new w #[.int .i64 (gs : Int), .slice gA gn gc] 28 0 _ rfl)
  have k1 := hx1.cell (cell_new w #[.int .i64 (gs : Int), .slice gA gn gc] 28 1 _ rfl)
  have K0 := Lib.hid k0; have K1 := Lib.hid k1
  clear ho1 hx1 k0 k1
  go_wp2_with fail
  refine (bagOf_c A1 _ c1 _ _ HS1.out (HR8.out (x : Int))).mono ?_
  rintro e _ ⟨b1, rfl, rfl, hb1, hbit1⟩
  have hb3 : b1 &&& b < 256 := Nat.lt_of_le_of_lt Nat.and_le_right hb
  have HB1 := Lib.hid hbit1
  have a1 := bit_and b1 b hb1 hb
  have d0 := fun w' (e : Ext w1 w') => e.cell K0.out
  have d1 := fun w' (e : Ext w1 w') => e.cell K1.out
  clear hbit1
  cases q : (b1 &&& b).testBit y with
  | false =>
    have HQ := Lib.hid q
    have HF := Lib.hid (show ∀ b2 : Nat, (∀ j : Nat, b2.testBit j = decide ((j : Int) ∈ nbrK gps (y : Int) gs)) → covL gps (setL b) (x : Int) (y : Int) = false from fun b2 h2 => by
      rw [← cov_bits HG.out hb HX.out HY.out HB1.out h2, HQ.out]; rfl)
    have HC : covL gps (setL b) (x : Int) (y : Int) = false := by
      have hy2 := HQ.out
      rw [Nat.testBit_and, HY.out, Bool.and_true, HB1.out] at hy2
      have hne : ¬ (y : Int) ∈ nbrK gps (x : Int) gs := by simpa using hy2
      rw [Bool.eq_false_iff]
      intro hc
      apply hne
      rw [nbrK_iff HG.out]
      simp only [covL, covS, Bool.and_eq_true, bne_iff_ne, List.all_eq_true] at hc
      have hxl := (setL_mem b hb (x : Int)).2 ⟨x, rfl, HX.out⟩
      have h2 := hc.2 _ hxl
      refine ⟨?_, fun e => hc.1 e.symm⟩
      rw [nearE_comm]
      have hxy : ((x : Int) != (y : Int)) = true := by rw [bne_iff_ne]; exact hc.1
      simpa [hxy] using h2
    have HC' := Lib.hid HC
    clear HC
    go_wp2_with fail
    go_quiet ((go_at_call 165; exact quiet_eq ((bagHas_c (b1 &&& b) y hb3 hy8 _).mono (by rintro e w' ⟨rfl, rfl⟩; exact ⟨by rw [HQ.out], rfl⟩))))
    go_wp2
    go_ret
    exact ⟨ret_bool HC'.out.symm, (HE.out.trans HX1.out).drewN _⟩
  | true =>
    have HQ := Lib.hid q
    go_wp2_with fail
    go_region_held3 (fun w' => Ext w1 w')
      (first
        | exact (Ext.refl _).drew
        | assumption
        | exact Ext.trans (by assumption) hy1)
      (first
        | ((fail_if_success (have _h := hhas)); go_at_call 165; refine (bagHas_c (b1 &&& b) y hb3 hy8 _).mono ?_; rintro e w2 ⟨rfl, hw⟩; subst hw; rw [HQ.out]; have hhas := HQ)
        | (have _h := hhas; (fail_if_success (have _h2 := hs2)); go_at_call 117; refine (neighbors_c gs gA gn gc gps (y : Int) _ ((H.out.ext HX1.out).ext (by assumption)) (by omega)).mono ?_; rintro e w2 ⟨A2, c2, rfl, ho2, hy1⟩; have hs2 := own_slI ho2)
        | (have _h := hs2; go_at_call 153; refine (bagOf_c A2 _ c2 _ _ hs2 (HR8.out (y : Int))).mono ?_; rintro e _ ⟨b2, rfl, hw, hb2, hbit2⟩; subst hw; have a2 := bit_or b2 y hb2 hy8; have hb4 : b2 ||| 2 ^ y < 256 := Nat.or_lt_two_pow (n := 8) hb2 (pow_lt8 hy8); have a3 := bit_and (b2 ||| 2 ^ y) (b1 &&& b) hb4 hb3))
    have HW2 := Lib.hid (show Ext w1 w2 from by assumption)
    have HB2 := Lib.hid hbit2
    clear d0 d1 ho2 hy1 hs2 hbit2
    go_wp2
    go_ret
    refine ⟨ret_bool ?_, (HE.out.trans HX1.out).trans HW2.out⟩
    rw [← cov_bits HG.out hb HX.out HY.out HB1.out HB2.out, HQ.out, Bool.true_and, Bool.eq_iff_iff, beq_iff_eq, beq_iff_eq]
    omega
end Go.Proofs.Ytkfbkflneppggaa
