/-
  The program's home and copied, and slices.Clone at pairs. Conditions: none.
-/
import Derived.Test.YtkfbkflneppggaaTu
import Derived.Test.YtkfbkflneppggaaCl
import Derived.BigQuiet
import Derived.BigRegion
import Derived.Deep.RegionWith
namespace Go.Proofs.Ytkfbkflneppggaa
open Go.RowKit
set_option linter.unusedVariables false
set_option linter.unusedSimpArgs false

set_option maxRecDepth 100000 in
set_option maxHeartbeats 400000 in
theorem CloneP_c (A : Option Addr) (n c : Nat) (xs : List (Int × Int)) (w : World) (h : SlP w A n xs) (hn : n ≤ 1048576) :
    Calls Try.prog 158 #[.slice A n c] w fun e w' => ∃ A' c', e = .returned (.slice A' n c') ∧ w'.ownsRow w.heap.size 83 2 (.slice A' n c') n (prs xs) ∧ Ext w w' := by
  cases A with
  | none =>
    have hn0 : n = 0 := by
      rcases Nat.eq_zero_or_pos n with h0 | h0
      · exact h0
      · obtain ⟨b, o, hA, _⟩ := h.2.2 h0
        exact absurd hA (by simp)
    subst hn0
    have hxs : xs = [] := List.eq_nil_of_length_eq_zero h.len
    subst hxs
    clear h
    have hn1 := fun (W : World) => Lib.run_eql_slice_nil (P := Try.prog) W 22 83 none 0 c 0 0 Try.underlying22
    go_enter Try.func158, Try.ntmps158
    go_wp2
    go_ret
    exact ⟨_, _, rfl, own_nil w _ _ _, Ext.refl w⟩
  | some ad =>
    have hS := Sl.ext h ((Ext.refl w).alloc (.cells #[] 83))
    have H := Lib.hid hS
    clear hS h
    have hn1 := fun (W : World) => Lib.run_eql_slice_nil (P := Try.prog) W 22 83 (some ad) n c 0 0 Try.underlying22
    go_enter Try.func158, Try.ntmps158
    go_wp2_with (at_builtin; refine append_all (w0 := w) 22 83 _ 2 16 Try.underlying22 infoP rfl (by omega) rfl _ _ rfl _ 0 n c (some ad) [] (prs xs) rfl rfl H.out (prs_one _) (own_empty w 83 2 0 #[] rfl (by omega)) ((Ext.refl w).alloc _) (by omega) (by omega) ?_; intro v1 w1 ho hx _ _)
    rw [Nat.zero_add, List.nil_append] at ho
    obtain ⟨A1, c1, rfl⟩ := own_slice ho
    go_ret
    exact ⟨_, _, rfl, ho, hx⟩
theorem CloneI_t (xs : List Int) (a : SlA) (w : World) (h : RdI w a xs) (hb : BdI xs) :
    Calls Try.prog 68 #[.slice a.A xs.length a.c] w fun e w' => ∃ b : SlA, e = .returned (.slice b.A xs.length b.c) ∧ OwI w' w.heap.size w'.heap.size b xs ∧ Ext w w' :=
  (CloneI_c a.A xs.length a.c xs w h hb).mono fun e w' ⟨A', c', he, ho, hx⟩ => ⟨⟨A', c'⟩, he, RowB.mk' ho, hx⟩
theorem CloneP_t (xs : List (Int × Int)) (a : SlA) (w : World) (h : RdP w a xs) (hb : BdP xs) :
    Calls Try.prog 158 #[.slice a.A xs.length a.c] w fun e w' => ∃ b : SlA, e = .returned (.slice b.A xs.length b.c) ∧ OwP w' w.heap.size w'.heap.size b xs ∧ Ext w w' :=
  (CloneP_c a.A xs.length a.c xs w h hb).mono fun e w' ⟨A', c', he, ho, hx⟩ => ⟨⟨A', c'⟩, he, RowB.mk' ho, hx⟩

/-- All nodes, in order. -/
def homeL (n : Nat) : List Int := (List.range n).map Int.ofNat
theorem homeL_length (n : Nat) : (homeL n).length = n := by simp [homeL]
theorem homeL_succ (n : Nat) : homeL (n + 1) = homeL n ++ [(n : Int)] := by simp [homeL, List.range_succ]
set_option maxHeartbeats 1000000 in
theorem home_c (n : Nat) (hn : n ≤ 1048576) (w : World) :
    Calls Try.prog 104 #[.int .i64 (n : Int)] w fun e w' => ∃ A c, e = .returned (.slice A n c) ∧ w'.ownsRow w.heap.size 3 1 (.slice A n c) n (ints (homeL n)) ∧ Ext w w' := by
  go_enter Try.func104, Try.ntmps104
  go_wp2
  have hown := own_empty w 3 1 0 #[] rfl (by omega)
  go_loopw [3, 7] (fun o i wr => ∃ (k : Nat) (A : Option Addr) (c : Nat), k ≤ n ∧ i = .int .i64 (k : Int) ∧ o = .slice A k c ∧ wr.ownsRow w.heap.size 3 1 (.slice A k c) k (ints (homeL k)) ∧ Ext w wr) (fun _ i _ => n - (intOf i).toNat)
  case atStart => exact ⟨0, _, _, Nat.zero_le _, rfl, rfl, hown, (Ext.refl w).alloc _⟩
  case round =>
    obtain ⟨k, A, c, hk, rfl, rfl, hown, hx⟩ := hrel
    by_cases hlt : k < n
    · have Hown := Lib.hid hown; have Hx := Lib.hid hx
      have i0 : (0 : Int) ≤ (k : Int) := by omega
      clear hown hx
      go_wp2_with (at_builtin; refine append_one (w0 := w) 40 3 _ 1 8 Try.underlying40 infoI rfl (by omega) rfl _ _ rfl (.slice A k c) k (ints (homeL k)) [.int .i64 (k : Int)] rfl rfl rfl (by simp [Value.oneCell']) Hown.out Hx.out (by omega) (by omega) ?_; intro v1 w2 ho hx2 _ _)
      obtain ⟨A1, c1, rfl⟩ := own_slice ho
      have HO := Lib.hid ho; have HX2 := Lib.hid hx2
      clear ho hx2
      go_wp2
      go_roundw
      case rel =>
        have ho := HO.out
        rw [show ints (homeL k) ++ [.int .i64 (k : Int)] = ints (homeL (k + 1)) by rw [homeL_succ]; simp [ints]] at ho
        exact ⟨k + 1, A1, c1, by omega, by go_num, rfl, ho, HX2.out⟩
      case measure => simp [intOf]; omega
    · obtain rfl : k = n := by omega
      go_wp2
      go_ret
      exact ⟨_, _, rfl, hown, hx⟩


theorem copied_fin {w w1 w1' w2 w3 w4 F : World} {lo0 : Nat} {b1 b2 b3 b4 : SlA} {d : StD} (hlo : w.heap.size + 1 < lo0) (h0 : Ext w w1) (hq0 : lo0 ≤ w1.heap.size) (o0 : OwP w1 lo0 w1.heap.size b1 d.g.ps) (c0 : Chg (fun k => k = w.heap.size ∨ k = w.heap.size + 1) w1 w1') (hz1 : Ext w1' w2) (o1 : OwI w2 w1'.heap.size w2.heap.size b2 d.tok)
    (hz2 : Ext w2 w3) (o2 : OwI w3 w2.heap.size w3.heap.size b3 d.col) (hz3 : Ext w3 w4) (o3 : OwI w4 w3.heap.size w4.heap.size b4 d.brd) (hF : Chg (fun k => k = w.heap.size ∨ k = w.heap.size + 1) w4 F) :
    OwU F w.heap.size F.heap.size ⟨b1, b2, b3, b4⟩ d ∧ Ext w F := by
  have s0 := h0.size; have s1 := c0.size; have s2 := hz1.size; have s3 := hz2.size; have s4 := hz3.size; have s5 := hF.size
  have k3 : Chg (fun k => k = w.heap.size ∨ k = w.heap.size + 1) w3 F := (hz3.chg _).trans hF (fun _ _ h => h)
  have k2 : Chg (fun k => k = w.heap.size ∨ k = w.heap.size + 1) w2 F := (hz2.chg _).trans k3 (fun _ _ h => h)
  have k1 : Chg (fun k => k = w.heap.size ∨ k = w.heap.size + 1) w1 F := c0.trans ((hz1.chg _).trans k2 (fun _ _ h => h)) (fun _ _ h => h)
  refine ⟨⟨w1.heap.size, w2.heap.size, w3.heap.size, by omega, by omega, by omega, by omega, ?_, ?_, ?_, ?_⟩, k1.ext h0 (fun k h => by rcases h with h | h <;> omega)⟩
  · exact (OwP.chg o0 k1 (fun k h1 _ h => by rcases h with h | h <;> omega)).mono (by omega) (Nat.le_refl _)
  · exact (OwI.chg o1 k2 (fun k h1 _ h => by rcases h with h | h <;> omega)).mono (by omega) (Nat.le_refl _)
  · exact (OwI.chg o2 k3 (fun k h1 _ h => by rcases h with h | h <;> omega))
  · exact (OwI.chg o3 hF (fun k h1 _ h => by rcases h with h | h <;> omega)).mono (Nat.le_refl _) (by omega)

set_option maxHeartbeats 16000000 in
theorem copied_c (d : StD) (a : StA) (w : World) (h : RdU w a d) (hb : BdU d) :
    Calls Try.prog 105 #[.agg #[.int .i64 d.g.sz, .slice a.g.A d.g.ps.length a.g.c, .int .i64 d.kinds, .slice a.tok.A d.tok.length a.tok.c, .slice a.col.A d.col.length a.col.c, .slice a.brd.A d.brd.length a.brd.c, .int .i64 d.count]] w fun e w' => ∃ b : StA, e = .returned (.agg #[.int .i64 d.g.sz, .slice b.g.A d.g.ps.length b.g.c, .int .i64 d.kinds, .slice b.tok.A d.tok.length b.tok.c, .slice b.col.A d.col.length b.col.c, .slice b.brd.A d.brd.length b.brd.c, .int .i64 d.count]) ∧ OwU w' w.heap.size w'.heap.size b d ∧ Ext w w' := by
  have hE : Ext w ((w.alloc (.cells #[.int .i64 d.g.sz, .slice a.g.A d.g.ps.length a.g.c, .int .i64 d.kinds, .slice a.tok.A d.tok.length a.tok.c, .slice a.col.A d.col.length a.col.c, .slice a.brd.A d.brd.length a.brd.c, .int .i64 d.count] 66)).alloc (.cells #[.int .i64 0, .slice none 0 0, .int .i64 0, .slice none 0 0, .slice none 0 0, .slice none 0 0, .int .i64 0] 66)) := ((Ext.refl w).alloc _).alloc _
  have R0 := Lib.hid (show RdP w a.g d.g.ps from h.1); have R1 := Lib.hid h.2.1; have R2 := Lib.hid h.2.2.1; have R3 := Lib.hid h.2.2.2
  have D0 := Lib.hid (show BdP d.g.ps from hb.1); have D1 := Lib.hid hb.2.1; have D2 := Lib.hid hb.2.2.1; have D3 := Lib.hid hb.2.2.2
  have hA0 := (Bx.new w [.int .i64 d.g.sz, .slice a.g.A d.g.ps.length a.g.c, .int .i64 d.kinds, .slice a.tok.A d.tok.length a.tok.c, .slice a.col.A d.col.length a.col.c, .slice a.brd.A d.brd.length a.brd.c, .int .i64 d.count] 66).alloc (.cells #[.int .i64 0, .slice none 0 0, .int .i64 0, .slice none 0 0, .slice none 0 0, .slice none 0 0, .int .i64 0] 66)
  have hR0 := Bx.new (w.alloc (.cells #[.int .i64 d.g.sz, .slice a.g.A d.g.ps.length a.g.c, .int .i64 d.kinds, .slice a.tok.A d.tok.length a.tok.c, .slice a.col.A d.col.length a.col.c, .slice a.brd.A d.brd.length a.brd.c, .int .i64 d.count] 66)) [.int .i64 0, .slice none 0 0, .int .i64 0, .slice none 0 0, .slice none 0 0, .slice none 0 0, .int .i64 0] 66
  simp only [alloc_size] at hR0
  have BA := Lib.hid hA0; have BR := Lib.hid hR0; have HE := Lib.hid hE; clear h hb hE hA0 hR0
  go_enter Try.func105, Try.ntmps105
  have p1 := BA.out.c 1 rfl; have gp1 := BA.out.f 1 (Nat.lt_of_lt_of_eq (by decide : 1 < 7) rfl)
  go_wp2_with fail
  refine (CloneP_t d.g.ps a.g _ (R0.out.ext HE.out) D0.out).mono ?_
  rintro e w1 ⟨b1, rfl, ho, hx⟩
  have O0 := Lib.hid ho; have X0 := Lib.hid hx; have BA1 := Lib.hid (BA.out.ext hx); have BR1 := Lib.hid (BR.out.ext hx); have E1 := Lib.hid (HE.out.trans hx)
  have L0 := Lib.hid BR.out.lt; have Q0 := Lib.hid HE.out.size
  clear ho hx p1 gp1
  have p0 := BA1.out.c 0 rfl; have gp0 := BA1.out.f 0 (Nat.lt_of_lt_of_eq (by decide : 0 < 7) rfl); have p1 := BA1.out.c 1 rfl; have gp1 := BA1.out.f 1 (Nat.lt_of_lt_of_eq (by decide : 1 < 7) rfl); have p2 := BA1.out.c 2 rfl; have gp2 := BA1.out.f 2 (Nat.lt_of_lt_of_eq (by decide : 2 < 7) rfl); have p3 := BA1.out.c 3 rfl; have gp3 := BA1.out.f 3 (Nat.lt_of_lt_of_eq (by decide : 3 < 7) rfl); have p4 := BA1.out.c 4 rfl; have gp4 := BA1.out.f 4 (Nat.lt_of_lt_of_eq (by decide : 4 < 7) rfl); have p5 := BA1.out.c 5 rfl; have gp5 := BA1.out.f 5 (Nat.lt_of_lt_of_eq (by decide : 5 < 7) rfl); have p6 := BA1.out.c 6 rfl; have gp6 := BA1.out.f 6 (Nat.lt_of_lt_of_eq (by decide : 6 < 7) rfl)

  have BA2 := Lib.hid ((BA1.out.set 1 (Nat.lt_of_lt_of_eq (by decide : 1 < 7) rfl) (.slice b1.A d.g.ps.length b1.c)).drew)
  have BR2 := Lib.hid ((BR1.out.beside (c := w.heap.size) (k := 1) (by omega) (.slice b1.A d.g.ps.length b1.c)).drew)
  have hS0 := (Ext.set (a := w) E1.out (b := w.heap.size) (o := 1) (Nat.le_refl _) (.slice b1.A d.g.ps.length b1.c)).drew
  have E2 := Lib.hid hS0
  go_wp2_with fail
  go_region_with (first
      | ((fail_if_success (have _h := ho1)); go_at_call 68; refine (CloneI_t d.tok a.tok _ (R1.out.ext E2.out) D1.out).mono ?_; rintro e w2 ⟨b2, rfl, ho1, hy1⟩; have hz1 := hy1; have BA3 := BA2.out.ext hy1; have BR3 := BR2.out.ext hy1; have u4 := BA3.c 4 rfl; have u5 := BA3.c 5 rfl)
      | ((have _h := ho1); (fail_if_success (have _h := ho2)); go_at_call 68; refine (CloneI_t d.col a.col _ (R2.out.ext (E2.out.trans hz1)) D2.out).mono ?_; rintro e w3 ⟨b3, rfl, ho2, hy1⟩; have hz2 := hy1; have BA4 := BA3.ext hy1; have BR4 := BR3.ext hy1; have u5 := BA4.c 5 rfl)
      | ((have _h := ho2); go_at_call 68; refine (CloneI_t d.brd a.brd _ (R3.out.ext ((E2.out.trans hz1).trans hz2)) D3.out).mono ?_; rintro e w4 ⟨b4, rfl, ho3, hy1⟩; have hz3 := hy1; have BA5 := BA4.ext hy1; have BR5 := BR4.ext hy1; have s0 := BA5.c 0 rfl; have gs0 := BA5.f 0 (Nat.lt_of_lt_of_eq (by decide : 0 < 7) rfl); have s1 := BA5.c 1 rfl; have gs1 := BA5.f 1 (Nat.lt_of_lt_of_eq (by decide : 1 < 7) rfl); have s2 := BA5.c 2 rfl; have gs2 := BA5.f 2 (Nat.lt_of_lt_of_eq (by decide : 2 < 7) rfl); have s3 := BA5.c 3 rfl; have gs3 := BA5.f 3 (Nat.lt_of_lt_of_eq (by decide : 3 < 7) rfl); have s4 := BA5.c 4 rfl; have gs4 := BA5.f 4 (Nat.lt_of_lt_of_eq (by decide : 4 < 7) rfl); have s5 := BA5.c 5 rfl; have gs5 := BA5.f 5 (Nat.lt_of_lt_of_eq (by decide : 5 < 7) rfl); have s6 := BA5.c 6 rfl; have gs6 := BA5.f 6 (Nat.lt_of_lt_of_eq (by decide : 6 < 7) rfl)))
  all_goals (
    have HZ1 := Lib.hid hz1; have HZ2 := Lib.hid hz2; have HZ3 := Lib.hid hz3; have HO1 := Lib.hid ho1; have HO2 := Lib.hid ho2; have HO3 := Lib.hid ho3
    clear hz1 hz2 hz3 ho1 ho2 ho3 hy1 _h BA3 BA4 BA5 BR3 BR4 hS0
    have r0 := BR5.c 0 rfl; have gr0 := BR5.f 0 (Nat.lt_of_lt_of_eq (by decide : 0 < 7) rfl); have r1 := BR5.c 1 rfl; have gr1 := BR5.f 1 (Nat.lt_of_lt_of_eq (by decide : 1 < 7) rfl); have r2 := BR5.c 2 rfl; have gr2 := BR5.f 2 (Nat.lt_of_lt_of_eq (by decide : 2 < 7) rfl); have r3 := BR5.c 3 rfl; have gr3 := BR5.f 3 (Nat.lt_of_lt_of_eq (by decide : 3 < 7) rfl); have r4 := BR5.c 4 rfl; have gr4 := BR5.f 4 (Nat.lt_of_lt_of_eq (by decide : 4 < 7) rfl); have r5 := BR5.c 5 rfl; have gr5 := BR5.f 5 (Nat.lt_of_lt_of_eq (by decide : 5 < 7) rfl); have r6 := BR5.c 6 rfl; have gr6 := BR5.f 6 (Nat.lt_of_lt_of_eq (by decide : 6 < 7) rfl)
    go_wp2
    refine bodyPost_ret (v := .agg #[(.int .i64 d.g.sz), (.slice b1.A d.g.ps.length b1.c), (.int .i64 d.kinds), (.slice b2.A d.tok.length b2.c), (.slice b3.A d.col.length b3.c), (.slice b4.A d.brd.length b4.c), (.int .i64 d.count)]) (by simp [results, Try.results105, go_sem, r0, gr0, r1, gr1, r2, gr2, r3, gr3, r4, gr4, r5, gr5, r6, gr6]) rfl ⟨⟨b1, b2, b3, b4⟩, rfl, copied_fin L0.out E1.out X0.out.size O0.out ((((Chg.refl _ w1).set (.inl rfl) _).trans ((Ext.refl _).drew.chg _) (fun _ _ h => h))) HZ1.out HO1.out HZ2.out HO2.out HZ3.out HO3.out ?_⟩
    have hc := Chg.refl (fun k => k = w.heap.size ∨ k = w.heap.size + 1) w4
    replace hc := hc.set (b := w.heap.size) (o := 3) (.inl rfl) (.slice b2.A d.tok.length b2.c)
    replace hc := hc.set (b := w.heap.size) (o := 4) (.inl rfl) (.slice b3.A d.col.length b3.c)
    replace hc := hc.set (b := w.heap.size) (o := 5) (.inl rfl) (.slice b4.A d.brd.length b4.c)
    replace hc := hc.set (b := w.heap.size + 1) (o := 0) (.inr rfl) (.int .i64 d.g.sz)
    replace hc := hc.set (b := w.heap.size + 1) (o := 1) (.inr rfl) (.slice b1.A d.g.ps.length b1.c)
    replace hc := hc.set (b := w.heap.size + 1) (o := 2) (.inr rfl) (.int .i64 d.kinds)
    replace hc := hc.set (b := w.heap.size + 1) (o := 3) (.inr rfl) (.slice b2.A d.tok.length b2.c)
    replace hc := hc.set (b := w.heap.size + 1) (o := 4) (.inr rfl) (.slice b3.A d.col.length b3.c)
    replace hc := hc.set (b := w.heap.size + 1) (o := 5) (.inr rfl) (.slice b4.A d.brd.length b4.c)
    replace hc := hc.set (b := w.heap.size + 1) (o := 6) (.inr rfl) (.int .i64 d.count)
    with_reducible exact hc)
end Go.Proofs.Ytkfbkflneppggaa
