/-
  Contracts of the reference's small functions on graphs, second part: l2Good, l10Good, l2Near, l10Fits, l1Own. Conditions: none.
-/
import Derived.Test.YtkfbkflneppggaaSa
namespace Go.Proofs.Ytkfbkflneppggaa
open Go.RowKit
set_option linter.unusedVariables false
set_option linter.unusedSimpArgs false

theorem l2Good_c (sz : Int) (A : Option Addr) (n c : Nat) (ps : List (Int × Int)) (w : World) (h : SlP w A n ps) :
    Calls Try.prog 61 #[.agg #[.int .i64 sz, .slice A n c]] w fun e w' => e = .returned (.bool (goodG sz ps)) ∧ Ext w w' := by
  have hE := (Ext.refl w).alloc (.cells #[.int .i64 sz, .slice A n c] 28)
  have H := Lib.hid (h.ext hE)
  have HE := Lib.hid hE
  clear hE h
  go_enter Try.func61, Try.ntmps61
  cases q : inB sz 0 8 with
  | false =>
    go_wp2_with (go_at_call 71; refine (l1In_c _ _ _ _).mono ?_; rintro e w1 ⟨rfl, rfl⟩)
    go_ret
    exact ⟨ret_bool (by simp [goodG, q]), HE.out⟩
  | true =>
    have hb := inB_true.1 q
    have h0 := hb.1
    have h8 := hb.2
    clear hb
    go_wp2_with (first | (go_at_call 71; refine (l1In_c _ _ _ _).mono ?_; rintro e w1 ⟨rfl, rfl⟩) | (go_at_call 120; refine (l2Pairs_c A n c ps sz _ H.out h0 (by omega)).mono ?_; rintro e w1 ⟨rfl, hx⟩))
    go_ret
    exact ⟨ret_bool (by simp [goodG, q]), HE.out.trans hx⟩

theorem l10Good_c (s1 s2 : Int) (A B : Option Addr) (n m c d : Nat) (ps qs : List (Int × Int)) (w : World) (hA : SlP w A n ps) (hB : SlP w B m qs) :
    Calls Try.prog 55 #[.agg #[.int .i64 s1, .slice A n c], .agg #[.int .i64 s2, .slice B m d]] w fun e w' => e = .returned (.bool (goodM s1 ps s2 qs)) ∧ Ext w w' := by
  have hE := ((Ext.refl w).alloc (.cells #[.int .i64 s1, .slice A n c] 28)).alloc (.cells #[.int .i64 s2, .slice B m d] 28)
  have HA := Lib.hid (hA.ext hE)
  have HB := Lib.hid (hB.ext hE)
  have HE := Lib.hid hE
  clear hE hA hB
  go_enter Try.func55, Try.ntmps55
  cases q : goodG s1 ps with
  | false =>
    go_wp2_with (go_at_call 61; refine (l2Good_c s1 A n c ps _ HA.out).mono ?_; rintro e w1 ⟨rfl, hx⟩)
    go_ret
    exact ⟨ret_bool (by simp [goodM, q]), HE.out.trans hx⟩
  | true =>
    go_wp2_with fail
    refine (l2Good_c s1 A n c ps _ HA.out).mono ?_
    rintro e w1 ⟨rfl, hx⟩
    obtain ⟨hc, hf⟩ := hx.rules
    have HX := Lib.hid hx; clear hx
    go_wp2_with fail
    refine (l2Good_c s2 B m d qs _ (HB.out.ext HX.out)).mono ?_
    rintro e w2 ⟨rfl, hy⟩
    obtain ⟨hc2, hf2⟩ := hy.rules
    have hs := HX.out.size
    simp only [alloc_size] at hs
    have HY := Lib.hid hy; clear hy
    cases q2 : goodG s2 qs with
    | false =>
      go_wp2
      go_ret
      exact ⟨ret_bool (by simp [goodM, q, q2]), (HE.out.trans HX.out).trans HY.out⟩
    | true =>
      have hc3 := fun o => hc2 w.heap.size o (by omega)
      clear hc2 hf2
      go_wp2
      go_ret
      exact ⟨ret_bool (by simp [goodM, q, q2]), (HE.out.trans HX.out).trans HY.out⟩

set_option maxHeartbeats 1000000 in
theorem l2Near_c (sz : Int) (A : Option Addr) (n c : Nat) (ps : List (Int × Int)) (x y : Int) (w : World) (h : SlP w A n ps) :
    Calls Try.prog 111 #[.agg #[.int .i64 sz, .slice A n c], .int .i64 x, .int .i64 y] w fun e w' => e = .returned (.bool (nearE ps x y)) ∧ Ext w w' := by
  have hl := h.len
  have hmx := h.le
  have hE := (Ext.refl w).alloc (.cells #[.int .i64 sz, .slice A n c] 28)
  have HE := Lib.hid hE
  clear hE
  go_enter Try.func111, Try.ntmps111
  go_wp2
  go_loopw [7] (fun i wr => ∃ k : Nat, k ≤ n ∧ i = .int .i64 k ∧ Ext (w.alloc (.cells #[.int .i64 sz, .slice A n c] 28)) wr ∧ ∀ j, j < k → matchE (gP ps j) x y = false) (fun i _ => n - (intOf i).toNat)
  case atStart => exact ⟨0, Nat.zero_le _, rfl, Ext.refl _, fun j hj => absurd hj (by omega)⟩
  case round =>
    obtain ⟨k, hk, rfl, hx, hok⟩ := hrel
    have hcell := hx.cell (cell_new w #[.int .i64 sz, .slice A n c] 28 1 _ rfl)
    by_cases hlt : k < n
    · obtain ⟨b, o, rfl, p1, p2⟩ := (h.ext (HE.out.trans hx)).at k (by omega)
      have HA := Lib.hid h; clear h
      have Hx := Lib.hid hx; clear hx
      have Hl := Lib.hid hl; clear hl
      have Hok := Lib.hid hok; clear hok
      have HQ := Lib.hid (matchE_eq (gP ps k) x y)
      cases e1 : ((gP ps k).1 == x) <;> cases e2 : ((gP ps k).2 == y) <;> cases e3 : ((gP ps k).1 == y) <;> cases e4 : ((gP ps k).2 == x)
      all_goals rw [e1, e2, e3, e4] at HQ
      all_goals go_wp2
      all_goals first
        | (go_ret
           exact ⟨ret_bool (nearE_true (by have := Hl.out; omega) HQ.out).symm, (HE.out.trans Hx.out).alloc _⟩)
        | (go_roundw
           case rel =>
             exact ⟨k + 1, by omega, by go_num, Hx.out.alloc _, fun j hj => by
               rcases Nat.lt_or_ge j k with h | h
               · exact Hok.out j h
               · obtain rfl : j = k := by omega
                 exact HQ.out⟩
           case measure => simp [intOf]; omega)
    · have hk' : k = n := by omega
      subst hk'
      go_wp2
      go_ret
      exact ⟨ret_bool (nearE_false (fun j hj => hok j (by omega))).symm, HE.out.trans hx⟩

theorem l10Fits_c (sz : Int) (A : Option Addr) (n c : Nat) (ps : List (Int × Int)) (x y : Int) (z : Bool) (w : World) (h : SlP w A n ps) :
    Calls Try.prog 112 #[.agg #[.int .i64 sz, .slice A n c], .int .i64 x, .int .i64 y, .bool z] w fun e w' => e = .returned (.bool (fitE ps x y z)) ∧ Ext w w' := by
  have hE := (Ext.refl w).alloc (.cells #[.int .i64 sz, .slice A n c] 28)
  have H := Lib.hid (h.ext hE)
  have HE := Lib.hid hE
  clear hE h
  have HQ := Lib.hid (fitE_eq ps x y z)
  go_enter Try.func112, Try.ntmps112
  cases q : nearE ps x y <;> cases z <;> cases e : (x == y)
  all_goals rw [q, e] at HQ
  all_goals go_wp2_with (go_at_call 111; refine (l2Near_c sz A n c ps x y _ H.out).mono ?_; rintro e w1 ⟨rfl, hx⟩)
  all_goals go_ret
  all_goals exact ⟨ret_bool HQ.out.symm, HE.out.trans hx⟩

theorem l1Own_c (A : Option Addr) (n c : Nat) (xs : List Int) (w : World) (h : SlI w A n xs) (hn : n ≤ 1048576) :
    Calls Try.prog 113 #[.slice A n c] w fun e w' => ∃ A' c', e = .returned (.slice A' n c') ∧ w'.ownsRow w.heap.size 3 1 (.slice A' n c') n (ints xs) ∧ Ext w w' := by
  go_enter Try.func113, Try.ntmps113
  have hS := Sl.ext h ((Ext.refl w).alloc (.cells #[] 3))
  have H := Lib.hid hS
  clear hS h
  go_wp2_with (at_builtin; refine append_all (w0 := w) 40 3 _ 1 8 Try.underlying40 infoI rfl (by omega) rfl _ _ rfl _ 0 n c A [] (ints xs) rfl rfl H.out (ints_one _) (own_empty w 3 1 0 #[] rfl (by omega)) ((Ext.refl w).alloc _) (by omega) (by omega) ?_; intro v1 w1 ho hx _ _)
  simp only [Nat.zero_add, List.nil_append] at ho
  obtain ⟨A1, c1, hv⟩ := own_slice ho
  go_ret
  exact ⟨A1, c1, ret_val hv, by rw [← hv]; exact ho, hx⟩
end Go.Proofs.Ytkfbkflneppggaa
