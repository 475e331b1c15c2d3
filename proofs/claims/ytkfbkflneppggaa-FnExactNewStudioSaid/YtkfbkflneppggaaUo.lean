/-
  The reference's NewStudio. Conditions: none.
-/
import Derived.Test.YtkfbkflneppggaaUn
namespace Go.Proofs.Ytkfbkflneppggaa
open Go.RowKit
set_option linter.unusedVariables false
set_option linter.unusedSimpArgs false

theorem bitsH_tab : ∀ g : Fin 9, ∀ x : Fin 8, x.val < g.val → (bits BinOp.and IntKind.i64 (((2 ^ g.val - 1 : Nat) : Int) / 2 ^ x.val) 1 == 1) = true := by decide +kernel
set_option maxHeartbeats 1000000 in
theorem l2BitsH_c (g b : Nat) (hg : g ≤ 8) (hb : b = 2 ^ g - 1) (w : World) :
    Calls Try.prog 121 #[.int .i64 (g : Int), .int .i64 (b : Int)] w fun e w' => ∃ A c, e = .returned (.slice A g c) ∧ w'.ownsRow w.heap.size 3 1 (.slice A g c) g (ints (homeL g)) ∧ Ext w w' := by
  have htab : ∀ k, k < g → (bits BinOp.and IntKind.i64 ((b : Int) / 2 ^ k) 1 == 1) = true := fun k hk => by
    rw [hb]; exact bitsH_tab ⟨g, by omega⟩ ⟨k, by omega⟩ hk
  have HT := Lib.hid htab
  clear hb htab
  go_enter Try.func121, Try.ntmps121
  go_wp2
  have hown := own_empty w 3 1 0 #[] rfl (by omega)
  go_loopw [5, 6] (fun o i wr => ∃ (k : Nat) (A : Option Addr) (c : Nat), k ≤ g ∧ i = .int .i64 (k : Int) ∧ o = .slice A k c ∧ wr.ownsRow w.heap.size 3 1 (.slice A k c) k (ints (homeL k)) ∧ Ext w wr) (fun _ i _ => g - (intOf i).toNat)
  case atStart => exact ⟨0, _, _, Nat.zero_le _, rfl, rfl, hown, (Ext.refl w).alloc _⟩
  case round =>
    obtain ⟨k, A, c, hk, rfl, rfl, hown, hx⟩ := hrel
    by_cases hlt : k < g
    · have h3 := HT.out k hlt
      have Hown := Lib.hid hown; have Hx := Lib.hid hx
      have i0 : (0 : Int) ≤ (k : Int) := by omega
      clear hown hx
      go_wp2_with (at_builtin; refine append_one (w0 := w) 40 3 _ 1 8 Try.underlying40 infoI rfl (by omega) rfl _ _ rfl (.slice A k c) k (ints (homeL k)) [.int .i64 (k : Int)] rfl rfl rfl (by simp [Value.oneCell']) Hown.out Hx.out (by omega) (by omega) ?_; intro v1 w2 ho hx2 _ _)
      obtain ⟨A1, c1, rfl⟩ := own_slice ho
      have HO := Lib.hid ho; have HX2 := Lib.hid hx2
      clear ho hx2
      go_wp2
      go_roundw
      case rel =>
        have ho := HO.out
        rw [show ints (homeL k) ++ [.int .i64 (k : Int)] = ints (homeL (k + 1)) by rw [homeL_succ]; simp [ints]] at ho
        exact ⟨k + 1, A1, c1, by omega, by go_num, rfl, ho, HX2.out⟩
      case measure => simp [intOf]; omega
    · obtain rfl : k = g := by omega
      go_wp2
      go_ret
      exact ⟨_, _, rfl, hown, hx⟩
theorem powH (g p : Nat) (hg : g ≤ 8) (hp : p = 2 ^ g) : IntKind.i64.wrap ((2 : Int) ^ g) = (p : Int) := by
  have h1 : (2 : Nat) ^ g ≤ 256 := Nat.le_trans (Nat.pow_le_pow_right (by omega) hg) (by decide)
  have h3 : ((2 : Int) ^ g) = ((2 ^ g : Nat) : Int) := by simp
  rw [h3, ← hp, IntWalk.i64_in _ (by omega)]
theorem codeH (g p q : Nat) (hg : g ≤ 8) (hp : p = 2 ^ g) (hq : q = 2 ^ g - 1) : IntKind.i64.wrap ((p : Int) - 1) = (q : Int) := by
  have h1 : (2 : Nat) ^ g ≤ 256 := Nat.le_trans (Nat.pow_le_pow_right (by omega) hg) (by decide)
  have h2 : 0 < (2 : Nat) ^ g := Nat.pow_pos (by omega)
  rw [IntWalk.i64_in _ (by omega)]
  omega
set_option maxHeartbeats 1000000 in
theorem l9Home_c (n : Nat) (hn : n ≤ 8) (w : World) :
    Calls Try.prog 102 #[.int .i64 (n : Int)] w fun e w' => ∃ A c, e = .returned (.slice A n c) ∧ w'.ownsRow w.heap.size 3 1 (.slice A n c) n (ints (homeL n)) ∧ Ext w w' := by
  obtain ⟨p, hp⟩ : ∃ p : Nat, p = 2 ^ n := ⟨_, rfl⟩
  obtain ⟨q, hq⟩ : ∃ q : Nat, q = 2 ^ n - 1 := ⟨_, rfl⟩
  have hpow := powH n p hn hp
  have hcode := codeH n p q hn hp hq
  have HB := Lib.hid (fun w => l2BitsH_c n q hn hq w)
  clear hp hq
  go_enter Try.func102, Try.ntmps102
  go_wp2_with fail
  refine (HB.out _).mono ?_
  rintro e w1 ⟨A1, c1, rfl, ho, hx⟩
  have HO := Lib.hid ho; have HX := Lib.hid hx
  clear ho hx
  go_wp2
  go_ret
  exact ⟨A1, c1, rfl, HO.out, HX.out⟩

set_option maxHeartbeats 400000 in
theorem l7Some_c (sz : Int) (A : Option Addr) (n c : Nat) (ps : List (Int × Int)) (w : World) (h : SlP w A n ps) :
    Calls Try.prog 99 #[.agg #[.int .i64 sz, .slice A n c]] w fun e w' => e = .returned (.bool (goodG sz ps && decide (0 < sz))) ∧ Ext w w' := by
  have hE := (Ext.refl w).alloc (.cells #[.int .i64 sz, .slice A n c] 28)
  have HA := Lib.hid (h.ext hE); have HE := Lib.hid hE
  have C0 := Lib.hid (cell_new w #[.int .i64 sz, .slice A n c] 28 0 _ rfl)
  clear hE h
  cases q : goodG sz ps with
  | false =>
    go_enter Try.func99, Try.ntmps99
    go_wp2_with fail
    refine (l2Good_c sz A n c ps _ HA.out).mono ?_
    rw [q]
    rintro e w1 ⟨rfl, hx⟩
    go_wp2
    go_ret
    exact ⟨rfl, HE.out.trans hx⟩
  | true =>
    go_enter Try.func99, Try.ntmps99
    go_wp2_with fail
    refine (l2Good_c sz A n c ps _ HA.out).mono ?_
    rw [q]
    rintro e w1 ⟨rfl, hx⟩
    have c0 := hx.cell C0.out
    have HX := Lib.hid hx; clear hx
    go_wp2
    go_ret
    exact ⟨rfl, HE.out.trans HX.out⟩

theorem home_perm {n : Nat} (hn : n ≤ 8) : perm9 (homeL n) = true := by
  simp only [perm9, homeL_length, hn, decide_true, Bool.true_and, eachB, List.all_eq_true, List.mem_range, hasB, List.contains_iff_mem]
  intro k hk
  simp only [homeL, List.mem_map, List.mem_range]
  exact ⟨k, hk, rfl⟩
theorem nsB_eq (g : GrD) (kinds : Int) : nsB g kinds = (goodG g.sz g.ps && decide (0 < g.sz) && decide (g.sz ≤ 6) && askB g.sz g.ps kinds) := by
  unfold nsB
  cases q : goodG g.sz g.ps with
  | false => rfl
  | true =>
    obtain ⟨h0, h8⟩ := goodG_range q
    have e1 : perm9 (homeL g.sz.toNat) = true := home_perm (by omega)
    have e2 : (((homeL g.sz.toNat).length : Int) == g.sz) = true := by rw [homeL_length, beq_iff_eq]; omega
    have e3 : inB g.sz 1 6 = (decide (0 < g.sz) && decide (g.sz ≤ 6)) := by
      rw [Bool.eq_iff_iff, inB_true]; simp; omega
    unfold stuB nsD colE indB brdB
    simp only [e1, e2, e3, q]
    have e4 : inB 0 0 1000 = true := by decide
    have e5 : upB [] 0 (g.sz - 1) = true := rfl
    have e6 : freeB g.ps [] = true := by simp [freeB, hasB]
    simp only [e4, e5, e6]
    cases askB g.sz g.ps kinds <;> cases decide (0 < g.sz) <;> cases decide (g.sz ≤ 6) <;> rfl

set_option maxHeartbeats 4000000 in
theorem NewStudioS_c (g : GrD) (kinds : Int) (a : SlA) (w : World) (h : RdG w a g) (hb : BdG g) :
    Calls Try.prog 48 #[.agg #[.int .i64 g.sz, .slice a.A g.ps.length a.c], .int .i64 kinds] w fun e w' => ∃ b : StA, e = .returned (.tuple #[.agg #[.int .i64 (nsV g kinds).g.sz, .slice b.g.A (nsV g kinds).g.ps.length b.g.c, .int .i64 (nsV g kinds).kinds, .slice b.tok.A (nsV g kinds).tok.length b.tok.c, .slice b.col.A (nsV g kinds).col.length b.col.c, .slice b.brd.A (nsV g kinds).brd.length b.brd.c, .int .i64 (nsV g kinds).count], .bool (nsB g kinds)]) ∧ RdU w' b (nsV g kinds) ∧ Ext w w' := by
  obtain ⟨W, hW⟩ : ∃ W, W = (w.alloc (.cells #[.int .i64 g.sz, .slice a.A g.ps.length a.c] 28)).alloc (.cells #[.int .i64 0, .slice none 0 0, .int .i64 0, .slice none 0 0, .slice none 0 0, .slice none 0 0, .int .i64 0] 66) := ⟨_, rfl⟩
  have hE : Ext w W := by rw [hW]; exact ((Ext.refl w).alloc _).alloc _
  have hsz : W.heap.size = w.heap.size + 2 := by rw [hW]; simp only [alloc_size]
  have hA : Bx W w.heap.size [.int .i64 g.sz, .slice a.A g.ps.length a.c] := by rw [hW]; exact (Bx.new w _ _).alloc _
  have hR : Bx W (w.heap.size + 1) [.int .i64 0, .slice none 0 0, .int .i64 0, .slice none 0 0, .slice none 0 0, .slice none 0 0, .int .i64 0] := by
    rw [hW]; have := Bx.new (w.alloc (.cells #[.int .i64 g.sz, .slice a.A g.ps.length a.c] 28)) [.int .i64 0, .slice none 0 0, .int .i64 0, .slice none 0 0, .slice none 0 0, .slice none 0 0, .int .i64 0] 66; simpa only [alloc_size] using this
  have HRd := Lib.hid (h.ext hE); have HE := Lib.hid hE; have BA := Lib.hid hA; have BR := Lib.hid hR; have HSz := Lib.hid hsz; have HB := Lib.hid hb; have HW := Lib.hid hW
  have HEq := nsB_eq g kinds
  clear h hb hE hA hR hsz hW
  cases q : (goodG g.sz g.ps && decide (0 < g.sz)) with
  | false =>
    have hv : nsB g kinds = false := by rw [HEq, q]; rfl
    clear HEq
    have hv2 : nsV g kinds = zeroU := by simp [nsV, hv]
    rw [hv, hv2]
    clear hv hv2
    go_enter Try.func48, Try.ntmps48
    go_wp2_with fail
    rw [← HW.out]
    refine (l7Some_c g.sz a.A g.ps.length a.c g.ps _ HRd.out).mono ?_
    rw [q]
    rintro e w1 ⟨rfl, hx⟩
    have BA1 := Lib.hid (BA.out.ext hx); have BR1 := Lib.hid (BR.out.ext hx); have E1 := Lib.hid (HE.out.trans hx); have X1 := Lib.hid hx
    clear hx
    have a0 := BA1.out.c 0 rfl; have a1 := BA1.out.c 1 rfl
    have r0 := BR1.out.c 0 rfl; have gr0 := BR1.out.f 0 (Nat.lt_of_lt_of_eq (by decide : 0 < 7) rfl); have r1 := BR1.out.c 1 rfl; have gr1 := BR1.out.f 1 (Nat.lt_of_lt_of_eq (by decide : 1 < 7) rfl); have r2 := BR1.out.c 2 rfl; have gr2 := BR1.out.f 2 (Nat.lt_of_lt_of_eq (by decide : 2 < 7) rfl); have r3 := BR1.out.c 3 rfl; have gr3 := BR1.out.f 3 (Nat.lt_of_lt_of_eq (by decide : 3 < 7) rfl); have r4 := BR1.out.c 4 rfl; have gr4 := BR1.out.f 4 (Nat.lt_of_lt_of_eq (by decide : 4 < 7) rfl); have r5 := BR1.out.c 5 rfl; have gr5 := BR1.out.f 5 (Nat.lt_of_lt_of_eq (by decide : 5 < 7) rfl); have r6 := BR1.out.c 6 rfl; have gr6 := BR1.out.f 6 (Nat.lt_of_lt_of_eq (by decide : 6 < 7) rfl)
    go_wp2
    exact bodyPost_ret (v := .tuple #[.agg #[.int .i64 0, .slice none 0 0, .int .i64 0, .slice none 0 0, .slice none 0 0, .slice none 0 0, .int .i64 0], .bool false]) (by simp [results, Try.results48, go_sem, r0, gr0, r1, gr1, r2, gr2, r3, gr3, r4, gr4, r5, gr5, r6, gr6]) rfl ⟨⟨⟨none, 0⟩, ⟨none, 0⟩, ⟨none, 0⟩, ⟨none, 0⟩⟩, rfl, (nil_own _ 0).rd, setR E1.out _ (Nat.le_succ _) _ _ _ _ _ _ _⟩
  | true =>
    obtain ⟨qg, q0⟩ : goodG g.sz g.ps = true ∧ 0 < g.sz := by simpa using q
    obtain ⟨g0, g8⟩ := goodG_range qg
    cases q6 : decide (g.sz ≤ 6) with
    | false =>
      have hv : nsB g kinds = false := by rw [HEq, q, q6]; rfl
      have t6 : decide ((6 : Int) < g.sz) = true := by simp at q6 ⊢; omega
      clear HEq
      have hv2 : nsV g kinds = zeroU := by simp [nsV, hv]
      rw [hv, hv2]
      clear hv hv2
      go_enter Try.func48, Try.ntmps48
      go_wp2_with fail
      rw [← HW.out]
      refine (l7Some_c g.sz a.A g.ps.length a.c g.ps _ HRd.out).mono ?_
      rw [q]
      rintro e w1 ⟨rfl, hx⟩
      have BA1 := Lib.hid (BA.out.ext hx); have BR1 := Lib.hid (BR.out.ext hx); have E1 := Lib.hid (HE.out.trans hx); have X1 := Lib.hid hx
      clear hx
      have a0 := BA1.out.c 0 rfl; have a1 := BA1.out.c 1 rfl
      have r0 := BR1.out.c 0 rfl; have gr0 := BR1.out.f 0 (Nat.lt_of_lt_of_eq (by decide : 0 < 7) rfl); have r1 := BR1.out.c 1 rfl; have gr1 := BR1.out.f 1 (Nat.lt_of_lt_of_eq (by decide : 1 < 7) rfl); have r2 := BR1.out.c 2 rfl; have gr2 := BR1.out.f 2 (Nat.lt_of_lt_of_eq (by decide : 2 < 7) rfl); have r3 := BR1.out.c 3 rfl; have gr3 := BR1.out.f 3 (Nat.lt_of_lt_of_eq (by decide : 3 < 7) rfl); have r4 := BR1.out.c 4 rfl; have gr4 := BR1.out.f 4 (Nat.lt_of_lt_of_eq (by decide : 4 < 7) rfl); have r5 := BR1.out.c 5 rfl; have gr5 := BR1.out.f 5 (Nat.lt_of_lt_of_eq (by decide : 5 < 7) rfl); have r6 := BR1.out.c 6 rfl; have gr6 := BR1.out.f 6 (Nat.lt_of_lt_of_eq (by decide : 6 < 7) rfl)
      go_wp2
      exact bodyPost_ret (v := .tuple #[.agg #[.int .i64 0, .slice none 0 0, .int .i64 0, .slice none 0 0, .slice none 0 0, .slice none 0 0, .int .i64 0], .bool false]) (by simp [results, Try.results48, go_sem, r0, gr0, r1, gr1, r2, gr2, r3, gr3, r4, gr4, r5, gr5, r6, gr6]) rfl ⟨⟨⟨none, 0⟩, ⟨none, 0⟩, ⟨none, 0⟩, ⟨none, 0⟩⟩, rfl, (nil_own _ 0).rd, setR E1.out _ (Nat.le_succ _) _ _ _ _ _ _ _⟩
    | true =>
      have t6 : decide ((6 : Int) < g.sz) = false := by simp at q6 ⊢; omega
      cases qa : askB g.sz g.ps kinds with
      | false =>
        have hv : nsB g kinds = false := by rw [HEq, q, q6, qa]; rfl
        clear HEq
        have hv2 : nsV g kinds = zeroU := by simp [nsV, hv]
        rw [hv, hv2]
        clear hv hv2
        go_enter Try.func48, Try.ntmps48
        go_wp2_with fail
        rw [← HW.out]
        refine (l7Some_c g.sz a.A g.ps.length a.c g.ps _ HRd.out).mono ?_
        rw [q]
        rintro e w1 ⟨rfl, hx⟩
        have BA1 := Lib.hid (BA.out.ext hx); have BR1 := Lib.hid (BR.out.ext hx); have E1 := Lib.hid (HE.out.trans hx); have X1 := Lib.hid hx
        clear hx
        have a0 := BA1.out.c 0 rfl; have a1 := BA1.out.c 1 rfl
        go_wp2_with fail
        refine (l5Ask_c g.sz kinds a.A g.ps.length a.c g.ps _ (HRd.out.ext X1.out)).mono ?_
        rw [qa]
        rintro e w2 ⟨rfl, hx⟩
        have BR2 := Lib.hid (BR1.out.ext hx); have E2 := Lib.hid (E1.out.trans hx)
        clear hx a0 a1
        have r0 := BR2.out.c 0 rfl; have gr0 := BR2.out.f 0 (Nat.lt_of_lt_of_eq (by decide : 0 < 7) rfl); have r1 := BR2.out.c 1 rfl; have gr1 := BR2.out.f 1 (Nat.lt_of_lt_of_eq (by decide : 1 < 7) rfl); have r2 := BR2.out.c 2 rfl; have gr2 := BR2.out.f 2 (Nat.lt_of_lt_of_eq (by decide : 2 < 7) rfl); have r3 := BR2.out.c 3 rfl; have gr3 := BR2.out.f 3 (Nat.lt_of_lt_of_eq (by decide : 3 < 7) rfl); have r4 := BR2.out.c 4 rfl; have gr4 := BR2.out.f 4 (Nat.lt_of_lt_of_eq (by decide : 4 < 7) rfl); have r5 := BR2.out.c 5 rfl; have gr5 := BR2.out.f 5 (Nat.lt_of_lt_of_eq (by decide : 5 < 7) rfl); have r6 := BR2.out.c 6 rfl; have gr6 := BR2.out.f 6 (Nat.lt_of_lt_of_eq (by decide : 6 < 7) rfl)
        go_wp2
        exact bodyPost_ret (v := .tuple #[.agg #[.int .i64 0, .slice none 0 0, .int .i64 0, .slice none 0 0, .slice none 0 0, .slice none 0 0, .int .i64 0], .bool false]) (by simp [results, Try.results48, go_sem, r0, gr0, r1, gr1, r2, gr2, r3, gr3, r4, gr4, r5, gr5, r6, gr6]) rfl ⟨⟨⟨none, 0⟩, ⟨none, 0⟩, ⟨none, 0⟩, ⟨none, 0⟩⟩, rfl, (nil_own _ 0).rd, setR E2.out _ (Nat.le_succ _) _ _ _ _ _ _ _⟩
      | true =>
        have hv : nsB g kinds = true := by rw [HEq, q, q6, qa]; rfl
        obtain ⟨n, hn⟩ := Int.eq_ofNat_of_zero_le g0
        have hnn : g.sz.toNat = n := by omega
        have hn8 : n ≤ 8 := by omega
        have hv2 : nsV g kinds = nsD g kinds n := by simp [nsV, hv, hnn]
        rw [hv, hv2]
        have hlen : (nsD g kinds n).brd.length = n := homeL_length n
        rw [hlen]
        have d0 := fun w' (e : Chg (fun k => k = w.heap.size + 1) W w') => e.cell (BA.out.c 0 rfl) (show ¬ w.heap.size = w.heap.size + 1 by omega)
        have d1 := fun w' (e : Chg (fun k => k = w.heap.size + 1) W w') => e.cell (BA.out.c 1 rfl) (show ¬ w.heap.size = w.heap.size + 1 by omega)
        have HHome := Lib.hid (show ∀ w, Calls Try.prog 102 #[.int .i64 g.sz] w fun e w' => ∃ A c, e = .returned (.slice A n c) ∧ w'.ownsRow w.heap.size 3 1 (.slice A n c) n (ints (homeL n)) ∧ Ext w w' from fun w => by rw [hn]; exact l9Home_c n (by omega) w)
        clear HEq hv hv2 hlen hn hnn g0 g8 q0 qg
        go_enter Try.func48, Try.ntmps48
        go_wp2_with fail
        rw [← HW.out]
        refine (l7Some_c g.sz a.A g.ps.length a.c g.ps _ HRd.out).mono ?_
        rw [q]
        rintro e w1 ⟨rfl, hx⟩
        have X1 := Lib.hid hx
        have BA1 := Lib.hid (BA.out.ext hx)
        clear hx
        have a0 := BA1.out.c 0 rfl; have a1 := BA1.out.c 1 rfl
        go_wp2_with fail
        refine (l5Ask_c g.sz kinds a.A g.ps.length a.c g.ps _ (HRd.out.ext X1.out)).mono ?_
        rw [qa]
        rintro e w2 ⟨rfl, hx⟩
        have X2 := Lib.hid (X1.out.trans hx)
        have hc0 : Chg (fun k => k = w.heap.size + 1) W w2.drew := X2.out.drew.chg _
        clear hx a0 a1
        go_wp2_with fail
        go_region_held3 (fun w' => Chg (fun k => k = w.heap.size + 1) W w')
          (first
            | with_reducible assumption
            | with_reducible exact hc0)
          (first
            | ((fail_if_success (have _h := ho1)); go_at_call 102; refine (HHome.out _).mono ?_; rintro e w3 ⟨A1, c1, rfl, ho1, hy1⟩; have hz1 := (X2.out.drew).trans hy1; have hc1 : Chg (fun k => k = w.heap.size + 1) W w3 := hz1.chg _)
            | ((have _h := ho1); go_at_call 101; refine (ownN_c g kinds n c1 a A1 _ (HRd.out.ext hz1) HB.out (own_sli ho1) (by omega)).mono ?_; rintro e w4 ⟨b2, rfl, ho2, hy1⟩; have hz2 := hz1.trans hy1; have hc2 : Chg (fun k => k = w.heap.size + 1) W w4 := hz2.chg _; have hq2 := hz1.size; have hc3 := hc2.trans (setC (w1 := w4) (w.heap.size + 1) (.int .i64 g.sz) (.slice b2.g.A g.ps.length b2.g.c) (.int .i64 kinds) (.slice b2.tok.A 0 b2.tok.c) (.slice b2.col.A 0 b2.col.c) (.slice b2.brd.A n b2.brd.c) (.int .i64 0)) (fun _ _ h => h); have BR4 := BR.out.ext hz2; have r0 := BR4.c 0 rfl; have gr0 := BR4.f 0 (Nat.lt_of_lt_of_eq (by decide : 0 < 7) rfl); have r1 := BR4.c 1 rfl; have gr1 := BR4.f 1 (Nat.lt_of_lt_of_eq (by decide : 1 < 7) rfl); have r2 := BR4.c 2 rfl; have gr2 := BR4.f 2 (Nat.lt_of_lt_of_eq (by decide : 2 < 7) rfl); have r3 := BR4.c 3 rfl; have gr3 := BR4.f 3 (Nat.lt_of_lt_of_eq (by decide : 3 < 7) rfl); have r4 := BR4.c 4 rfl; have gr4 := BR4.f 4 (Nat.lt_of_lt_of_eq (by decide : 4 < 7) rfl); have r5 := BR4.c 5 rfl; have gr5 := BR4.f 5 (Nat.lt_of_lt_of_eq (by decide : 5 < 7) rfl); have r6 := BR4.c 6 rfl; have gr6 := BR4.f 6 (Nat.lt_of_lt_of_eq (by decide : 6 < 7) rfl)))
        have HO2 := Lib.hid ho2; have HZ2 := Lib.hid (HE.out.trans hz2); have HQ2 := Lib.hid hq2
        clear hc0 hc1 hc2 hc3 d0 d1 ho1 ho2 hy1 hz1 hz2 hq2 _h BR4
        go_wp2
        refine bodyPost_ret (v := .tuple #[.agg #[.int .i64 g.sz, .slice b2.g.A g.ps.length b2.g.c, .int .i64 kinds, .slice b2.tok.A 0 b2.tok.c, .slice b2.col.A 0 b2.col.c, .slice b2.brd.A n b2.brd.c, .int .i64 0], .bool true]) (by simp [results, Try.results48, go_sem, r0, gr0, r1, gr1, r2, gr2, r3, gr3, r4, gr4, r5, gr5, r6, gr6]) rfl ⟨b2, rfl, ?_, setR HZ2.out _ (Nat.le_succ _) _ _ _ _ _ _ _⟩
        exact (HO2.out.chg (setC (w.heap.size + 1) _ _ _ _ _ _ _) (fun k h1 _ h => by have := HQ2.out; have := HSz.out; (try simp only at h); omega)).rd
end Go.Proofs.Ytkfbkflneppggaa
