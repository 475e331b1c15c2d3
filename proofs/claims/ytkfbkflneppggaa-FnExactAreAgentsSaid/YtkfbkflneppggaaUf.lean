/-
  Independent sets: the program's isFree, isIndependent, the reference's l2Set, l3Free. Conditions: none.
-/
import Derived.Test.YtkfbkflneppggaaUp
import Derived.Test.YtkfbkflneppggaaBg
import Derived.Test.YtkfbkflneppggaaFa
import Derived.Test.YtkfbkflneppggaaSb
import Derived.Test.YtkfbkflneppggaaRe
import Derived.Laws.EntriesVeiled
namespace Go.Proofs.Ytkfbkflneppggaa
open Go.RowKit
set_option linter.unusedVariables false
set_option linter.unusedSimpArgs false

set_option maxHeartbeats 400000 in
theorem freeOne_c (x y : Int) (b bb : Nat) (W : World) (hc : W.cell? ⟨bb, 0, none⟩ = some (.int .u64 (b : Int))) (hb : b < 256) (hx0 : 0 ≤ x) (hx : x < 8) (hy0 : 0 ≤ y) (hy : y < 8) :
    Calls Try.prog 181 #[.agg #[.int .i64 x, .int .i64 y], .pointer (some ⟨bb, 0, none⟩)] W fun e w' => e = .returned (.bool (b.testBit x.toNat && b.testBit y.toNat)) ∧ Ext W w' := by
  obtain ⟨x, rfl⟩ := Int.eq_ofNat_of_zero_le hx0
  obtain ⟨y, rfl⟩ := Int.eq_ofNat_of_zero_le hy0
  simp only [Int.toNat_natCast]
  have h0 := cell_old (.cells #[.int .i64 (x : Int), .int .i64 (y : Int)] 83) hc
  have h1 := cell_new W #[.int .i64 (x : Int), .int .i64 (y : Int)] 83 0 _ rfl
  have h2 := cell_new W #[.int .i64 (x : Int), .int .i64 (y : Int)] 83 1 _ rfl
  have HE := Lib.hid ((Ext.refl W).alloc (.cells #[.int .i64 (x : Int), .int .i64 (y : Int)] 83))
  have hx8 : x < 8 := by omega
  have hy8 : y < 8 := by omega
  clear hc hx0 hy0 hx hy
  cases q : b.testBit x with
  | false =>
    go_enter Try.func181, Try.ntmps181
    go_wp2_with fail
    refine (bagHas_c b x hb hx8 _).mono ?_
    rintro e w1 ⟨rfl, rfl⟩
    rw [q]
    go_wp2
    go_ret
    exact ⟨rfl, HE.out⟩
  | true =>
    go_enter Try.func181, Try.ntmps181
    go_wp2_with fail
    refine (bagHas_c b x hb hx8 _).mono ?_
    rintro e w1 ⟨rfl, rfl⟩
    rw [q]
    go_wp2_with fail
    refine (bagHas_c b y hb hy8 _).mono ?_
    rintro e w1 ⟨rfl, rfl⟩
    go_wp2
    go_ret
    exact ⟨rfl, HE.out⟩

set_option maxHeartbeats 400000 in
theorem isFree_c (sz : Int) (A : Option Addr) (n c : Nat) (ps : List (Int × Int)) (b : Nat) (w : World) (h : SlP w A n ps) (hb : b < 256) (hps : ∀ p ∈ ps, (0 ≤ p.1 ∧ p.1 < 8) ∧ 0 ≤ p.2 ∧ p.2 < 8) :
    Calls Try.prog 152 #[.agg #[.int .i64 sz, .slice A n c], .int .u64 (b : Int)] w fun e w' => e = .returned (.bool (!ps.any fun p => b.testBit p.1.toNat && b.testBit p.2.toNat)) ∧ Ext w w' := by
  have hmf : ∀ (fn : Fn) (first cap : Array Value) (w : World), (Instr.makeFunc fn first cap).run Try.prog w = .ok (.func fn first cap) w := fun _ _ _ _ => rfl
  have hE := ((Ext.refl w).alloc (.cells #[.int .i64 sz, .slice A n c] 28)).alloc (.cells #[.int .u64 (b : Int)] 115)
  have c0 := cell_new (w.alloc (.cells #[.int .i64 sz, .slice A n c] 28)) #[.int .u64 (b : Int)] 115 0 _ rfl
  simp only [alloc_size] at c0
  have HT := Lib.hid (show TellsP 181 #[.pointer (some ⟨w.heap.size + 1, 0, none⟩)] (fun p => b.testBit p.1.toNat && b.testBit p.2.toNat) ps ((w.alloc (.cells #[.int .i64 sz, .slice A n c] 28)).alloc (.cells #[.int .u64 (b : Int)] 115)) from
    fun W x y hW hm => freeOne_c x y b (w.heap.size + 1) W (hW.cell c0) hb (hps _ hm).1.1 (hps _ hm).1.2 (hps _ hm).2.1 (hps _ hm).2.2)
  have HA := Lib.hid (h.ext hE)
  have HE := Lib.hid hE
  have HN := Lib.hid (enters_of Try.func181 (by kernel_rfl) rfl)
  clear hE h hps c0
  go_enter Try.func152, Try.ntmps152
  go_wp2_with fail
  refine (ContainsFuncP_c A n c ps _ _ _ _ HA.out HN.out HT.out).mono ?_
  rintro e w1 ⟨rfl, hx⟩
  go_wp2
  go_ret
  exact ⟨rfl, HE.out.trans hx⟩

/-- A list of nodes as bits. -/
def bagN (xs : List Int) : Nat := xs.foldl (fun b x => b ||| 2 ^ x.toNat) 0
theorem bagN_go (xs : List Int) : ∀ (b : Nat), b < 256 → (∀ x ∈ xs, 0 ≤ x ∧ x < 8) → xs.foldl (fun b x => b ||| 2 ^ x.toNat) b < 256 ∧ ∀ j : Nat, (xs.foldl (fun b x => b ||| 2 ^ x.toNat) b).testBit j = (b.testBit j || decide ((j : Int) ∈ xs)) := by
  induction xs with
  | nil => intro b hb _; exact ⟨hb, fun j => by simp⟩
  | cons x xs ih =>
    intro b hb hx
    obtain ⟨h0, h1⟩ := hx x (by simp)
    have hp : 2 ^ x.toNat < 256 := pow_lt8 (by omega)
    obtain ⟨i1, i2⟩ := ih (b ||| 2 ^ x.toNat) (Nat.or_lt_two_pow (n := 8) hb hp) (fun y hy => hx y (by simp [hy]))
    refine ⟨i1, fun j => ?_⟩
    rw [List.foldl_cons, i2 j, Nat.testBit_or, Nat.testBit_two_pow, Bool.or_assoc]
    congr 1
    rw [Bool.eq_iff_iff]
    simp only [Bool.or_eq_true, decide_eq_true_eq, List.mem_cons]
    constructor
    · rintro (h | h)
      · left; omega
      · right; exact h
    · rintro (h | h)
      · left; omega
      · right; exact h
theorem bagN_spec {xs : List Int} (h : ∀ x ∈ xs, 0 ≤ x ∧ x < 8) : bagN xs < 256 ∧ ∀ j : Nat, (bagN xs).testBit j = decide ((j : Int) ∈ xs) := by
  obtain ⟨h1, h2⟩ := bagN_go xs 0 (by omega) h
  exact ⟨h1, fun j => by rw [bagN, h2 j]; simp⟩
theorem bagOfN_c (A : Option Addr) (n c : Nat) (xs : List Int) (w : World) (h : SlI w A n xs) (hx : ∀ x ∈ xs, 0 ≤ x ∧ x < 8) :
    Calls Try.prog 153 #[.slice A n c] w fun e w' => e = .returned (.int .u64 (bagN xs : Int)) ∧ w = w' := by
  refine (bagOf_c A n c xs w h hx).mono ?_
  rintro e w' ⟨b, rfl, rfl, _, hb⟩
  obtain rfl : b = bagN xs := Nat.eq_of_testBit_eq fun j => by rw [hb j, (bagN_spec hx).2 j]
  exact ⟨rfl, rfl⟩

/-- Is no edge one of two nodes of a list? -/
def freeB (ps : List (Int × Int)) (xs : List Int) : Bool := !ps.any fun p => hasB xs p.1 && hasB xs p.2
/-- Is a list an independent set? -/
def indB (sz : Int) (ps : List (Int × Int)) (xs : List Int) : Bool := upB xs 0 (sz - 1) && freeB ps xs
theorem goodP_nodes {ps : List (Int × Int)} {sz : Int} (h : goodP ps sz = true) : ∀ p ∈ ps, (0 ≤ p.1 ∧ p.1 < p.2) ∧ p.2 < sz := fun p hp => by
  obtain ⟨k, hk, rfl⟩ := List.getElem_of_mem hp
  have := goodP_at h hk
  simp only [okAt, Bool.and_eq_true, decide_eq_true_eq, gP_eq ps k hk] at this
  omega
theorem free_bits {ps : List (Int × Int)} {xs : List Int} (h : ∀ x ∈ xs, 0 ≤ x ∧ x < 8) (hp : ∀ p ∈ ps, 0 ≤ p.1 ∧ 0 ≤ p.2) : (!ps.any fun p => (bagN xs).testBit p.1.toNat && (bagN xs).testBit p.2.toNat) = freeB ps xs := by
  unfold freeB
  congr 1
  rw [Bool.eq_iff_iff]
  simp only [List.any_eq_true, Bool.and_eq_true, (bagN_spec h).2, decide_eq_true_eq, hasB, List.contains_iff_mem]
  constructor
  · rintro ⟨p, hm, h1, h2⟩
    have := hp p hm
    exact ⟨p, hm, by rwa [Int.toNat_of_nonneg this.1] at h1, by rwa [Int.toNat_of_nonneg this.2] at h2⟩
  · rintro ⟨p, hm, h1, h2⟩
    have := hp p hm
    exact ⟨p, hm, by rwa [Int.toNat_of_nonneg this.1], by rwa [Int.toNat_of_nonneg this.2]⟩

set_option maxHeartbeats 1000000 in
theorem isIndependent_c (sz : Int) (A : Option Addr) (n c : Nat) (ps : List (Int × Int)) (B : Option Addr) (m d : Nat) (xs : List Int) (w : World) (h : SlP w A n ps) (hx : SlI w B m xs) (hg : goodG sz ps = true) :
    Calls Try.prog 96 #[.agg #[.int .i64 sz, .slice A n c], .slice B m d] w fun e w' => e = .returned (.bool (indB sz ps xs)) ∧ Ext w w' := by
  have hr := goodG_range hg
  have hgp : goodP ps sz = true := by simp only [goodG, Bool.and_eq_true] at hg; exact hg.2
  have hE := (Ext.refl w).alloc (.cells #[.int .i64 sz, .slice A n c] 28)
  have HA := Lib.hid (h.ext hE); have HB := Lib.hid (hx.ext hE); have HE := Lib.hid hE
  have d0 := fun w' (e : Ext (w.alloc (.cells #[.int .i64 sz, .slice A n c] 28)) w') => e.cell (cell_new w #[.int .i64 sz, .slice A n c] 28 0 _ rfl)
  have d1 := fun w' (e : Ext (w.alloc (.cells #[.int .i64 sz, .slice A n c] 28)) w') => e.cell (cell_new w #[.int .i64 sz, .slice A n c] 28 1 _ rfl)
  have HG := Lib.hid hgp; have HR := Lib.hid hr
  clear hE h hx hg hgp
  cases q : upB xs 0 (sz - 1) with
  | false =>
    have HQ := Lib.hid (show indB sz ps xs = false by simp [indB, q])
    have p0 := cell_new w #[.int .i64 sz, .slice A n c] 28 0 _ rfl
    have HRi := Lib.hid (show ∀ W, SlI W B m xs → Calls Try.prog 131 #[.slice B m d, .int .i64 sz] W fun e w' => e = .returned (.bool false) ∧ W = w' from
      fun W hW => (isRising_c B m d xs sz W hW HR.out.1 (by have := HR.out.2; omega)).mono fun e w' ⟨he, hw⟩ => ⟨by rw [he, q], hw⟩)
    clear hr d0 d1
    go_enter Try.func96, Try.ntmps96
    go_wp2_with fail
    go_quiet ((go_at_call 131; exact quiet_eq (HRi.out _ (HB.out.ext ((Ext.refl _).drewN _)))))
    go_wp2
    go_ret
    exact ⟨ret_bool HQ.out.symm, HE.out.drewN _⟩
  | true =>
    have hrange : ∀ x ∈ xs, 0 ≤ x ∧ x < 8 := fun x hx => by have := upB_range q x hx; omega
    have HQ := Lib.hid (show indB sz ps xs = !ps.any fun p => (bagN xs).testBit p.1.toNat && (bagN xs).testBit p.2.toNat by
      rw [free_bits hrange (fun p hp => by have := goodP_nodes HG.out p hp; omega)]; simp [indB, q])
    have HRg := Lib.hid hrange
    have HB8 := Lib.hid (bagN_spec hrange).1
    have HPs := Lib.hid (show ∀ p ∈ ps, (0 ≤ p.1 ∧ p.1 < 8) ∧ 0 ≤ p.2 ∧ p.2 < 8 from fun p hp => by have := goodP_nodes HG.out p hp; omega)
    clear hr hrange
    go_enter Try.func96, Try.ntmps96
    go_wp2_with fail
    go_region_held3 (fun w' => Ext (w.alloc (.cells #[.int .i64 sz, .slice A n c] 28)) w')
      (first
        | exact (Ext.refl _).drew
        | assumption
        | exact Ext.trans (by assumption) hy1)
      (first
        | (go_at_call 131; refine (isRising_c B m d xs sz _ (HB.out.ext (by assumption)) HR.out.1 (by have := HR.out.2; omega)).mono ?_; rw [q]; rintro e w1 ⟨rfl, rfl⟩)
        | (go_at_call 153; refine (bagOfN_c B m d xs _ (HB.out.ext (by assumption)) HRg.out).mono ?_; rintro e w1 ⟨rfl, rfl⟩)
        | (go_at_call 152; refine (isFree_c sz A n c ps _ _ (HA.out.ext (by assumption)) HB8.out HPs.out).mono ?_; rintro e w1 ⟨rfl, hy1⟩))
    go_wp2
    go_ret
    exact ⟨ret_bool HQ.out.symm, HE.out.trans (by assumption)⟩
end Go.Proofs.Ytkfbkflneppggaa
