/-
  The laws' helpers at impl.Studio: what they count, copy, compare, mark and hold. Conditions: none.
-/
import Derived.Test.YtkfbkflneppggaaTg2
import Derived.Test.YtkfbkflneppggaaBo
namespace Go.Proofs.Ytkfbkflneppggaa
open Go.RowKit
set_option linter.unusedVariables false
set_option linter.unusedSimpArgs false

structure StD where
  g : GrD
  kinds : Int
  tok : List Int
  col : List Int
  brd : List Int
  count : Int
structure StA where
  g : SlA
  tok : SlA
  col : SlA
  brd : SlA

def RdU (w : World) (a : StA) (d : StD) : Prop := RdG w a.g d.g ∧ RdI w a.tok d.tok ∧ RdI w a.col d.col ∧ RdI w a.brd d.brd
theorem RdU.ext {w w' : World} {a : StA} {d : StD} (h : RdU w a d) (e : Ext w w') : RdU w' a d := ⟨h.1.ext e, h.2.1.ext e, h.2.2.1.ext e, h.2.2.2.ext e⟩
def OwU (w : World) (lo hi : Nat) (a : StA) (d : StD) : Prop := ∃ m1 m2 m3 : Nat, lo ≤ m1 ∧ m1 ≤ m2 ∧ m2 ≤ m3 ∧ m3 ≤ hi ∧ OwG w lo m1 a.g d.g ∧ OwI w m1 m2 a.tok d.tok ∧ OwI w m2 m3 a.col d.col ∧ OwI w m3 hi a.brd d.brd
theorem OwU.ext {w w' : World} {lo hi : Nat} {a : StA} {d : StD} (h : OwU w lo hi a d) (e : Ext w w') : OwU w' lo hi a d := by
  obtain ⟨m1, m2, m3, q0, q1, q2, q3, o0, o1, o2, o3⟩ := h
  exact ⟨m1, m2, m3, q0, q1, q2, q3, o0.ext e, o1.ext e, o2.ext e, o3.ext e⟩
theorem OwU.chg {w w' : World} {lo hi : Nat} {a : StA} {d : StD} {D : Nat → Prop} (h : OwU w lo hi a d) (x : Chg D w w') (hD : ∀ k, lo ≤ k → k < hi → ¬ D k) : OwU w' lo hi a d := by
  obtain ⟨m1, m2, m3, q0, q1, q2, q3, o0, o1, o2, o3⟩ := h
  exact ⟨m1, m2, m3, q0, q1, q2, q3, o0.chg x (fun k h1 h2 => hD k (by omega) (by omega)), o1.chg x (fun k h1 h2 => hD k (by omega) (by omega)), o2.chg x (fun k h1 h2 => hD k (by omega) (by omega)), o3.chg x (fun k h1 h2 => hD k (by omega) (by omega))⟩
theorem OwU.mono {w : World} {lo hi lo' hi' : Nat} {a : StA} {d : StD} (h : OwU w lo hi a d) (h1 : lo' ≤ lo) (h2 : hi ≤ hi') : OwU w lo' hi' a d := by
  obtain ⟨m1, m2, m3, q0, q1, q2, q3, o0, o1, o2, o3⟩ := h
  exact ⟨m1, m2, m3, by omega, by omega, by omega, by omega, o0.mono h1 (Nat.le_refl _), o1, o2, o3.mono (Nat.le_refl _) h2⟩
theorem OwU.rd {w : World} {lo hi : Nat} {a : StA} {d : StD} (h : OwU w lo hi a d) : RdU w a d := by
  obtain ⟨m1, m2, m3, q0, q1, q2, q3, o0, o1, o2, o3⟩ := h
  exact ⟨o0.rd, o1.rd, o2.rd, o3.rd⟩
def BdU (d : StD) : Prop := BdG d.g ∧ BdI d.tok ∧ BdI d.col ∧ BdI d.brd
def mkU (k : Int) (d : StD) : StD := ⟨mkG (k) d.g, d.kinds, mkI (k + cntG d.g) d.tok, mkI (k + cntG d.g + cntI d.tok) d.col, mkI (k + cntG d.g + cntI d.tok + cntI d.col) d.brd, d.count⟩
def cntU (d : StD) : Int := cntG d.g + cntI d.tok + cntI d.col + cntI d.brd
theorem cntU_le {d : StD} (h : BdU d) : 0 ≤ cntU d ∧ cntU d ≤ 16777216 := by
  unfold cntU
  have c0 := cntG_le h.1
  have c1 := cntI_le h.2.1
  have c2 := cntI_le h.2.2.1
  have c3 := cntI_le h.2.2.2
  omega
def leftU (left : Int) (d : StD) : Int :=
  if (leftG left d.g) < 0 then -1 else if (leftI (leftG left d.g) d.tok) < 0 then -1 else if (leftI (leftI (leftG left d.g) d.tok) d.col) < 0 then -1 else if (leftI (leftI (leftI (leftG left d.g) d.tok) d.col) d.brd) < 0 then -1 else (leftI (leftI (leftI (leftG left d.g) d.tok) d.col) d.brd)
theorem leftU_ok {left : Int} {d : StD} (h : ¬ leftU left d < 0) : BdU d ∨ (1048576 < left ∨ left < 0) := by
  unfold leftU at h
  split at h
  · exact absurd h (by omega)
  rename_i n0
  have g0 := @leftG_le left d.g
  have b0 := leftG_ok n0
  split at h
  · exact absurd h (by omega)
  rename_i n1
  have g1 := @leftI_le (leftG left d.g) d.tok
  have b1 := leftI_ok n1
  split at h
  · exact absurd h (by omega)
  rename_i n2
  have g2 := @leftI_le (leftI (leftG left d.g) d.tok) d.col
  have b2 := leftI_ok n2
  split at h
  · exact absurd h (by omega)
  rename_i n3
  have g3 := @leftI_le (leftI (leftI (leftG left d.g) d.tok) d.col) d.brd
  have b3 := leftI_ok n3
  by_cases hl : 1048576 < left ∨ left < 0
  · exact .inr hl
  exact .inl ⟨b0.resolve_right (by omega), b1.resolve_right (by omega), b2.resolve_right (by omega), b3.resolve_right (by omega)⟩
theorem leftU_le {left : Int} {d : StD} : leftU left d ≤ left ∨ left < 0 := by
  unfold leftU
  have g0 := @leftG_le left d.g
  have g1 := @leftI_le (leftG left d.g) d.tok
  have g2 := @leftI_le (leftI (leftG left d.g) d.tok) d.col
  have g3 := @leftI_le (leftI (leftI (leftG left d.g) d.tok) d.col) d.brd
  split
  · omega
  split
  · omega
  split
  · omega
  split
  · omega
  omega

set_option maxHeartbeats 2000000 in
theorem szU_t (d : StD) (a : StA) (left : Int) (w : World) (h : RdU w a d) (h1 : 0 ≤ left) (h2 : left ≤ 1048576) :
    Calls Try.prog 43 #[.agg #[.int .i64 d.g.sz, .slice a.g.A d.g.ps.length a.g.c, .int .i64 d.kinds, .slice a.tok.A d.tok.length a.tok.c, .slice a.col.A d.col.length a.col.c, .slice a.brd.A d.brd.length a.brd.c, .int .i64 d.count], .int .i64 left] w fun e w' => e = .returned (.int .i64 (leftU left d)) ∧ Ext w w' := by
  have hE := (Ext.refl w).alloc (.cells #[.int .i64 d.g.sz, .slice a.g.A d.g.ps.length a.g.c, .int .i64 d.kinds, .slice a.tok.A d.tok.length a.tok.c, .slice a.col.A d.col.length a.col.c, .slice a.brd.A d.brd.length a.brd.c, .int .i64 d.count] 62)
  have HR := Lib.hid (h.ext hE)
  have HE := Lib.hid hE
  have HB := Lib.hid (Bx.new w [.int .i64 d.g.sz, .slice a.g.A d.g.ps.length a.g.c, .int .i64 d.kinds, .slice a.tok.A d.tok.length a.tok.c, .slice a.col.A d.col.length a.col.c, .slice a.brd.A d.brd.length a.brd.c, .int .i64 d.count] 62)
  clear hE h
  obtain ⟨l1, hl1⟩ : ∃ l, l = leftG left d.g := ⟨_, rfl⟩
  obtain ⟨l2, hl2⟩ : ∃ l, l = leftI l1 d.tok := ⟨_, rfl⟩
  obtain ⟨l3, hl3⟩ : ∃ l, l = leftI l2 d.col := ⟨_, rfl⟩
  obtain ⟨l4, hl4⟩ : ∃ l, l = leftI l3 d.brd := ⟨_, rfl⟩
  have g1 := @leftG_le left d.g; rw [← hl1] at g1
  by_cases n1 : l1 < 0
  · have HV := Lib.hid (show leftU left d = -1 by unfold leftU; rw [← hl1, if_pos n1])
    have HL1 := Lib.hid hl1.symm; have HL2 := Lib.hid hl2.symm; have HL3 := Lib.hid hl3.symm; have HL4 := Lib.hid hl4.symm; clear hl1 hl2 hl3 hl4
    go_enter Try.func43, Try.ntmps43
    have f0 := HB.out.c 0 rfl
    have f1 := HB.out.c 1 rfl
    go_wp2_with fail
    refine (szG_t d.g a.g left _ (HR.out.1) (by omega) (by omega)).mono ?_
    rintro e w1 ⟨rfl, hx⟩
    rw [HL1.out]
    have HX1 := Lib.hid hx; have HB1 := Lib.hid (HB.out.ext hx); clear hx f0 f1
    go_wp2
    go_ret
    exact ⟨ret_int HV.out.symm, HE.out.trans HX1.out⟩
  have g2 := @leftI_le l1 d.tok; rw [← hl2] at g2
  by_cases n2 : l2 < 0
  · have HV := Lib.hid (show leftU left d = -1 by unfold leftU; rw [← hl1, if_neg n1]; rw [← hl2, if_pos n2])
    have HL1 := Lib.hid hl1.symm; have HL2 := Lib.hid hl2.symm; have HL3 := Lib.hid hl3.symm; have HL4 := Lib.hid hl4.symm; clear hl1 hl2 hl3 hl4
    go_enter Try.func43, Try.ntmps43
    have f0 := HB.out.c 0 rfl
    have f1 := HB.out.c 1 rfl
    go_wp2_with fail
    refine (szG_t d.g a.g left _ (HR.out.1) (by omega) (by omega)).mono ?_
    rintro e w1 ⟨rfl, hx⟩
    rw [HL1.out]
    have HX1 := Lib.hid hx; have HB1 := Lib.hid (HB.out.ext hx); clear hx f0 f1
    have f3 := HB1.out.c 3 rfl
    go_wp2_with fail
    refine (szI_t d.tok a.tok l1 _ (HR.out.2.1.ext HX1.out) (by omega) (by omega)).mono ?_
    rintro e w2 ⟨rfl, hx⟩
    rw [HL2.out]
    have HX2 := Lib.hid (HX1.out.trans hx); have HB2 := Lib.hid (HB1.out.ext hx); clear hx f3
    go_wp2
    go_ret
    exact ⟨ret_int HV.out.symm, HE.out.trans HX2.out⟩
  have g3 := @leftI_le l2 d.col; rw [← hl3] at g3
  by_cases n3 : l3 < 0
  · have HV := Lib.hid (show leftU left d = -1 by unfold leftU; rw [← hl1, if_neg n1]; rw [← hl2, if_neg n2]; rw [← hl3, if_pos n3])
    have HL1 := Lib.hid hl1.symm; have HL2 := Lib.hid hl2.symm; have HL3 := Lib.hid hl3.symm; have HL4 := Lib.hid hl4.symm; clear hl1 hl2 hl3 hl4
    go_enter Try.func43, Try.ntmps43
    have f0 := HB.out.c 0 rfl
    have f1 := HB.out.c 1 rfl
    go_wp2_with fail
    refine (szG_t d.g a.g left _ (HR.out.1) (by omega) (by omega)).mono ?_
    rintro e w1 ⟨rfl, hx⟩
    rw [HL1.out]
    have HX1 := Lib.hid hx; have HB1 := Lib.hid (HB.out.ext hx); clear hx f0 f1
    have f3 := HB1.out.c 3 rfl
    go_wp2_with fail
    refine (szI_t d.tok a.tok l1 _ (HR.out.2.1.ext HX1.out) (by omega) (by omega)).mono ?_
    rintro e w2 ⟨rfl, hx⟩
    rw [HL2.out]
    have HX2 := Lib.hid (HX1.out.trans hx); have HB2 := Lib.hid (HB1.out.ext hx); clear hx f3
    have f4 := HB2.out.c 4 rfl
    go_wp2_with fail
    refine (szI_t d.col a.col l2 _ (HR.out.2.2.1.ext HX2.out) (by omega) (by omega)).mono ?_
    rintro e w3 ⟨rfl, hx⟩
    rw [HL3.out]
    have HX3 := Lib.hid (HX2.out.trans hx); have HB3 := Lib.hid (HB2.out.ext hx); clear hx f4
    go_wp2
    go_ret
    exact ⟨ret_int HV.out.symm, HE.out.trans HX3.out⟩
  have g4 := @leftI_le l3 d.brd; rw [← hl4] at g4
  by_cases n4 : l4 < 0
  · have HV := Lib.hid (show leftU left d = -1 by unfold leftU; rw [← hl1, if_neg n1]; rw [← hl2, if_neg n2]; rw [← hl3, if_neg n3]; rw [← hl4, if_pos n4])
    have HL1 := Lib.hid hl1.symm; have HL2 := Lib.hid hl2.symm; have HL3 := Lib.hid hl3.symm; have HL4 := Lib.hid hl4.symm; clear hl1 hl2 hl3 hl4
    go_enter Try.func43, Try.ntmps43
    have f0 := HB.out.c 0 rfl
    have f1 := HB.out.c 1 rfl
    go_wp2_with fail
    refine (szG_t d.g a.g left _ (HR.out.1) (by omega) (by omega)).mono ?_
    rintro e w1 ⟨rfl, hx⟩
    rw [HL1.out]
    have HX1 := Lib.hid hx; have HB1 := Lib.hid (HB.out.ext hx); clear hx f0 f1
    have f3 := HB1.out.c 3 rfl
    go_wp2_with fail
    refine (szI_t d.tok a.tok l1 _ (HR.out.2.1.ext HX1.out) (by omega) (by omega)).mono ?_
    rintro e w2 ⟨rfl, hx⟩
    rw [HL2.out]
    have HX2 := Lib.hid (HX1.out.trans hx); have HB2 := Lib.hid (HB1.out.ext hx); clear hx f3
    have f4 := HB2.out.c 4 rfl
    go_wp2_with fail
    refine (szI_t d.col a.col l2 _ (HR.out.2.2.1.ext HX2.out) (by omega) (by omega)).mono ?_
    rintro e w3 ⟨rfl, hx⟩
    rw [HL3.out]
    have HX3 := Lib.hid (HX2.out.trans hx); have HB3 := Lib.hid (HB2.out.ext hx); clear hx f4
    have f5 := HB3.out.c 5 rfl
    go_wp2_with fail
    refine (szI_t d.brd a.brd l3 _ (HR.out.2.2.2.ext HX3.out) (by omega) (by omega)).mono ?_
    rintro e w4 ⟨rfl, hx⟩
    rw [HL4.out]
    have HX4 := Lib.hid (HX3.out.trans hx); have HB4 := Lib.hid (HB3.out.ext hx); clear hx f5
    go_wp2
    go_ret
    exact ⟨ret_int HV.out.symm, HE.out.trans HX4.out⟩
  have HV := Lib.hid (show leftU left d = l4 by unfold leftU; rw [← hl1, if_neg n1]; rw [← hl2, if_neg n2]; rw [← hl3, if_neg n3]; rw [← hl4, if_neg n4])
  have HL1 := Lib.hid hl1.symm; have HL2 := Lib.hid hl2.symm; have HL3 := Lib.hid hl3.symm; have HL4 := Lib.hid hl4.symm; clear hl1 hl2 hl3 hl4
  go_enter Try.func43, Try.ntmps43
  have f0 := HB.out.c 0 rfl
  have f1 := HB.out.c 1 rfl
  go_wp2_with fail
  refine (szG_t d.g a.g left _ (HR.out.1) (by omega) (by omega)).mono ?_
  rintro e w1 ⟨rfl, hx⟩
  rw [HL1.out]
  have HX1 := Lib.hid hx; have HB1 := Lib.hid (HB.out.ext hx); clear hx f0 f1
  have f3 := HB1.out.c 3 rfl
  go_wp2_with fail
  refine (szI_t d.tok a.tok l1 _ (HR.out.2.1.ext HX1.out) (by omega) (by omega)).mono ?_
  rintro e w2 ⟨rfl, hx⟩
  rw [HL2.out]
  have HX2 := Lib.hid (HX1.out.trans hx); have HB2 := Lib.hid (HB1.out.ext hx); clear hx f3
  have f4 := HB2.out.c 4 rfl
  go_wp2_with fail
  refine (szI_t d.col a.col l2 _ (HR.out.2.2.1.ext HX2.out) (by omega) (by omega)).mono ?_
  rintro e w3 ⟨rfl, hx⟩
  rw [HL3.out]
  have HX3 := Lib.hid (HX2.out.trans hx); have HB3 := Lib.hid (HB2.out.ext hx); clear hx f4
  have f5 := HB3.out.c 5 rfl
  go_wp2_with fail
  refine (szI_t d.brd a.brd l3 _ (HR.out.2.2.2.ext HX3.out) (by omega) (by omega)).mono ?_
  rintro e w4 ⟨rfl, hx⟩
  rw [HL4.out]
  have HX4 := Lib.hid (HX3.out.trans hx); have HB4 := Lib.hid (HB3.out.ext hx); clear hx f5
  go_wp2
  go_ret
  exact ⟨ret_int HV.out.symm, HE.out.trans HX4.out⟩

set_option maxHeartbeats 4000000 in
theorem toU_t (d : StD) (a : StA) (w : World) (h : RdU w a d) (hb : BdU d) :
    Calls Try.prog 45 #[.agg #[.int .i64 d.g.sz, .slice a.g.A d.g.ps.length a.g.c, .int .i64 d.kinds, .slice a.tok.A d.tok.length a.tok.c, .slice a.col.A d.col.length a.col.c, .slice a.brd.A d.brd.length a.brd.c, .int .i64 d.count]] w fun e w' => ∃ b : StA, e = .returned (.agg #[.int .i64 d.g.sz, .slice b.g.A d.g.ps.length b.g.c, .int .i64 d.kinds, .slice b.tok.A d.tok.length b.tok.c, .slice b.col.A d.col.length b.col.c, .slice b.brd.A d.brd.length b.brd.c, .int .i64 d.count]) ∧ OwU w' w.heap.size w'.heap.size b d ∧ Ext w w' := by
  have hE : Ext w (((w.alloc (.cells #[.int .i64 d.g.sz, .slice a.g.A d.g.ps.length a.g.c, .int .i64 d.kinds, .slice a.tok.A d.tok.length a.tok.c, .slice a.col.A d.col.length a.col.c, .slice a.brd.A d.brd.length a.brd.c, .int .i64 d.count] 62)).alloc (.cells #[.int .i64 0, .slice none 0 0, .int .i64 0, .slice none 0 0, .slice none 0 0, .slice none 0 0, .int .i64 0] 66)).alloc (.cells #[.int .i64 0, .slice none 0 0, .int .i64 0, .slice none 0 0, .slice none 0 0, .slice none 0 0, .int .i64 0] 66)) := (((Ext.refl w).alloc _).alloc _).alloc _
  have HRw0 := Lib.hid h.1; have HRw1 := Lib.hid h.2.1; have HRw2 := Lib.hid h.2.2.1; have HRw3 := Lib.hid h.2.2.2
  have HE := Lib.hid hE; have HBd := Lib.hid hb
  have hA0 := ((Bx.new w [.int .i64 d.g.sz, .slice a.g.A d.g.ps.length a.g.c, .int .i64 d.kinds, .slice a.tok.A d.tok.length a.tok.c, .slice a.col.A d.col.length a.col.c, .slice a.brd.A d.brd.length a.brd.c, .int .i64 d.count] 62).alloc (.cells #[.int .i64 0, .slice none 0 0, .int .i64 0, .slice none 0 0, .slice none 0 0, .slice none 0 0, .int .i64 0] 66)).alloc (.cells #[.int .i64 0, .slice none 0 0, .int .i64 0, .slice none 0 0, .slice none 0 0, .slice none 0 0, .int .i64 0] 66)
  have hR0 := (Bx.new (w.alloc (.cells #[.int .i64 d.g.sz, .slice a.g.A d.g.ps.length a.g.c, .int .i64 d.kinds, .slice a.tok.A d.tok.length a.tok.c, .slice a.col.A d.col.length a.col.c, .slice a.brd.A d.brd.length a.brd.c, .int .i64 d.count] 62)) [.int .i64 0, .slice none 0 0, .int .i64 0, .slice none 0 0, .slice none 0 0, .slice none 0 0, .int .i64 0] 66).alloc (.cells #[.int .i64 0, .slice none 0 0, .int .i64 0, .slice none 0 0, .slice none 0 0, .slice none 0 0, .int .i64 0] 66)
  have hO0 := Bx.new ((w.alloc (.cells #[.int .i64 d.g.sz, .slice a.g.A d.g.ps.length a.g.c, .int .i64 d.kinds, .slice a.tok.A d.tok.length a.tok.c, .slice a.col.A d.col.length a.col.c, .slice a.brd.A d.brd.length a.brd.c, .int .i64 d.count] 62)).alloc (.cells #[.int .i64 0, .slice none 0 0, .int .i64 0, .slice none 0 0, .slice none 0 0, .slice none 0 0, .int .i64 0] 66)) [.int .i64 0, .slice none 0 0, .int .i64 0, .slice none 0 0, .slice none 0 0, .slice none 0 0, .int .i64 0] 66
  simp only [alloc_size] at hR0 hO0
  have BA := Lib.hid hA0; have BR := Lib.hid hR0; have BO := Lib.hid hO0; clear hE h hb hA0 hR0 hO0
  have EW := Lib.hid (Ext.refl (((w.alloc (.cells #[.int .i64 d.g.sz, .slice a.g.A d.g.ps.length a.g.c, .int .i64 d.kinds, .slice a.tok.A d.tok.length a.tok.c, .slice a.col.A d.col.length a.col.c, .slice a.brd.A d.brd.length a.brd.c, .int .i64 d.count] 62)).alloc (.cells #[.int .i64 0, .slice none 0 0, .int .i64 0, .slice none 0 0, .slice none 0 0, .slice none 0 0, .int .i64 0] 66)).alloc (.cells #[.int .i64 0, .slice none 0 0, .int .i64 0, .slice none 0 0, .slice none 0 0, .slice none 0 0, .int .i64 0] 66)))
  have HZ := Lib.hid (show w.heap.size + 3 ≤ (((w.alloc (.cells #[.int .i64 d.g.sz, .slice a.g.A d.g.ps.length a.g.c, .int .i64 d.kinds, .slice a.tok.A d.tok.length a.tok.c, .slice a.col.A d.col.length a.col.c, .slice a.brd.A d.brd.length a.brd.c, .int .i64 d.count] 62)).alloc (.cells #[.int .i64 0, .slice none 0 0, .int .i64 0, .slice none 0 0, .slice none 0 0, .slice none 0 0, .int .i64 0] 66)).alloc (.cells #[.int .i64 0, .slice none 0 0, .int .i64 0, .slice none 0 0, .slice none 0 0, .slice none 0 0, .int .i64 0] 66)).heap.size by simp only [alloc_size]; omega)
  go_enter Try.func45, Try.ntmps45
  have EV := Lib.hid (HE.out.trans EW.out)
  have fa0 := BA.out.c 0 rfl
  have fa1 := BA.out.c 1 rfl
  have fa2 := BA.out.c 2 rfl
  have fa3 := BA.out.c 3 rfl
  have fa4 := BA.out.c 4 rfl
  have fa5 := BA.out.c 5 rfl
  have fa6 := BA.out.c 6 rfl
  have fo0 := BO.out.c 0 rfl; have ff0 := BO.out.f 0 (Nat.lt_of_lt_of_eq (by decide : 0 < 7) rfl)
  have fo1 := BO.out.c 1 rfl; have ff1 := BO.out.f 1 (Nat.lt_of_lt_of_eq (by decide : 1 < 7) rfl)
  have fo2 := BO.out.c 2 rfl; have ff2 := BO.out.f 2 (Nat.lt_of_lt_of_eq (by decide : 2 < 7) rfl)
  have fo3 := BO.out.c 3 rfl; have ff3 := BO.out.f 3 (Nat.lt_of_lt_of_eq (by decide : 3 < 7) rfl)
  have fo4 := BO.out.c 4 rfl; have ff4 := BO.out.f 4 (Nat.lt_of_lt_of_eq (by decide : 4 < 7) rfl)
  have fo5 := BO.out.c 5 rfl; have ff5 := BO.out.f 5 (Nat.lt_of_lt_of_eq (by decide : 5 < 7) rfl)
  have fo6 := BO.out.c 6 rfl; have ff6 := BO.out.f 6 (Nat.lt_of_lt_of_eq (by decide : 6 < 7) rfl)
  have fr0 := BR.out.c 0 rfl; have fg0 := BR.out.f 0 (Nat.lt_of_lt_of_eq (by decide : 0 < 7) rfl)
  have fr1 := BR.out.c 1 rfl; have fg1 := BR.out.f 1 (Nat.lt_of_lt_of_eq (by decide : 1 < 7) rfl)
  have fr2 := BR.out.c 2 rfl; have fg2 := BR.out.f 2 (Nat.lt_of_lt_of_eq (by decide : 2 < 7) rfl)
  have fr3 := BR.out.c 3 rfl; have fg3 := BR.out.f 3 (Nat.lt_of_lt_of_eq (by decide : 3 < 7) rfl)
  have fr4 := BR.out.c 4 rfl; have fg4 := BR.out.f 4 (Nat.lt_of_lt_of_eq (by decide : 4 < 7) rfl)
  have fr5 := BR.out.c 5 rfl; have fg5 := BR.out.f 5 (Nat.lt_of_lt_of_eq (by decide : 5 < 7) rfl)
  have fr6 := BR.out.c 6 rfl; have fg6 := BR.out.f 6 (Nat.lt_of_lt_of_eq (by decide : 6 < 7) rfl)
  have S1 := Lib.hid BO.out.lt
  have Q2 := Lib.hid (EV.out.size)
  go_wp2_with fail
  refine (toG_t d.g a.g _ (HRw0.out.ext EV.out) HBd.out.1).mono ?_
  rintro e w3 ⟨b4, rfl, ho, hx⟩
  clear fa0 fa1 fa2 fa3 fa4 fa5 fa6 fo0 ff0 fo1 ff1 fo2 ff2 fo3 ff3 fo4 ff4 fo5 ff5 fo6 ff6 fr0 fg0 fr1 fg1 fr2 fg2 fr3 fg3 fr4 fg4 fr5 fg5 fr6 fg6
  have BA5 := Lib.hid (BA.out.ext hx); have BO6 := Lib.hid (BO.out.ext hx); have BR7 := Lib.hid (BR.out.ext hx); have E8 := Lib.hid (EV.out.trans hx)
  have HX9 := Lib.hid hx; have HO10 := Lib.hid ho; clear hx ho
  have K11 := Lib.hid (Chg.refl (fun k => k = w.heap.size + 1 + 1 ∨ k = w.heap.size + 1) w3)
  have fa0 := BA5.out.c 0 rfl
  have fa1 := BA5.out.c 1 rfl
  have fa2 := BA5.out.c 2 rfl
  have fa3 := BA5.out.c 3 rfl
  have fa4 := BA5.out.c 4 rfl
  have fa5 := BA5.out.c 5 rfl
  have fa6 := BA5.out.c 6 rfl
  have fo0 := BO6.out.c 0 rfl; have ff0 := BO6.out.f 0 (Nat.lt_of_lt_of_eq (by decide : 0 < 7) rfl)
  have fo1 := BO6.out.c 1 rfl; have ff1 := BO6.out.f 1 (Nat.lt_of_lt_of_eq (by decide : 1 < 7) rfl)
  have fo2 := BO6.out.c 2 rfl; have ff2 := BO6.out.f 2 (Nat.lt_of_lt_of_eq (by decide : 2 < 7) rfl)
  have fo3 := BO6.out.c 3 rfl; have ff3 := BO6.out.f 3 (Nat.lt_of_lt_of_eq (by decide : 3 < 7) rfl)
  have fo4 := BO6.out.c 4 rfl; have ff4 := BO6.out.f 4 (Nat.lt_of_lt_of_eq (by decide : 4 < 7) rfl)
  have fo5 := BO6.out.c 5 rfl; have ff5 := BO6.out.f 5 (Nat.lt_of_lt_of_eq (by decide : 5 < 7) rfl)
  have fo6 := BO6.out.c 6 rfl; have ff6 := BO6.out.f 6 (Nat.lt_of_lt_of_eq (by decide : 6 < 7) rfl)
  have fr0 := BR7.out.c 0 rfl; have fg0 := BR7.out.f 0 (Nat.lt_of_lt_of_eq (by decide : 0 < 7) rfl)
  have fr1 := BR7.out.c 1 rfl; have fg1 := BR7.out.f 1 (Nat.lt_of_lt_of_eq (by decide : 1 < 7) rfl)
  have fr2 := BR7.out.c 2 rfl; have fg2 := BR7.out.f 2 (Nat.lt_of_lt_of_eq (by decide : 2 < 7) rfl)
  have fr3 := BR7.out.c 3 rfl; have fg3 := BR7.out.f 3 (Nat.lt_of_lt_of_eq (by decide : 3 < 7) rfl)
  have fr4 := BR7.out.c 4 rfl; have fg4 := BR7.out.f 4 (Nat.lt_of_lt_of_eq (by decide : 4 < 7) rfl)
  have fr5 := BR7.out.c 5 rfl; have fg5 := BR7.out.f 5 (Nat.lt_of_lt_of_eq (by decide : 5 < 7) rfl)
  have fr6 := BR7.out.c 6 rfl; have fg6 := BR7.out.f 6 (Nat.lt_of_lt_of_eq (by decide : 6 < 7) rfl)
  have BA12 := Lib.hid (BA5.out.beside (c := w.heap.size + 1 + 1) (k := 0) (by omega) (.int .i64 d.g.sz))
  have BR14 := Lib.hid (BR7.out.beside (c := w.heap.size + 1 + 1) (k := 0) (by omega) (.int .i64 d.g.sz))
  have BO13 := Lib.hid (BO6.out.set 0 (Nat.lt_of_lt_of_eq (by decide : 0 < 7) rfl) (.int .i64 d.g.sz))
  have E15 := Lib.hid (Ext.set (a := w) E8.out (b := w.heap.size + 1 + 1) (o := 0) (by omega) (.int .i64 d.g.sz))
  have K16 := Lib.hid (K11.out.set (b := w.heap.size + 1 + 1) (o := 0) (.inl rfl) (.int .i64 d.g.sz))
  have BA17 := Lib.hid (BA12.out.beside (c := w.heap.size + 1 + 1) (k := 1) (by omega) (.slice b4.A d.g.ps.length b4.c))
  have BR19 := Lib.hid (BR14.out.beside (c := w.heap.size + 1 + 1) (k := 1) (by omega) (.slice b4.A d.g.ps.length b4.c))
  have BO18 := Lib.hid (BO13.out.set 1 (Nat.lt_of_lt_of_eq (by decide : 1 < 7) rfl) (.slice b4.A d.g.ps.length b4.c))
  have E20 := Lib.hid (Ext.set (a := w) E15.out (b := w.heap.size + 1 + 1) (o := 1) (by omega) (.slice b4.A d.g.ps.length b4.c))
  have K21 := Lib.hid (K16.out.set (b := w.heap.size + 1 + 1) (o := 1) (.inl rfl) (.slice b4.A d.g.ps.length b4.c))
  have BA22 := Lib.hid (BA17.out.beside (c := w.heap.size + 1 + 1) (k := 2) (by omega) (.int .i64 d.kinds))
  have BR24 := Lib.hid (BR19.out.beside (c := w.heap.size + 1 + 1) (k := 2) (by omega) (.int .i64 d.kinds))
  have BO23 := Lib.hid (BO18.out.set 2 (Nat.lt_of_lt_of_eq (by decide : 2 < 7) rfl) (.int .i64 d.kinds))
  have E25 := Lib.hid (Ext.set (a := w) E20.out (b := w.heap.size + 1 + 1) (o := 2) (by omega) (.int .i64 d.kinds))
  have K26 := Lib.hid (K21.out.set (b := w.heap.size + 1 + 1) (o := 2) (.inl rfl) (.int .i64 d.kinds))
  have S27 := Lib.hid BO23.out.lt
  have Q28 := Lib.hid (K26.out.size)
  go_wp2_with fail
  refine (toI_t d.tok a.tok _ (HRw1.out.ext E25.out) HBd.out.2.1).mono ?_
  rintro e w29 ⟨b30, rfl, ho, hx⟩
  clear fa0 fa1 fa2 fa3 fa4 fa5 fa6 fo0 ff0 fo1 ff1 fo2 ff2 fo3 ff3 fo4 ff4 fo5 ff5 fo6 ff6 fr0 fg0 fr1 fg1 fr2 fg2 fr3 fg3 fr4 fg4 fr5 fg5 fr6 fg6
  have BA31 := Lib.hid (BA22.out.ext hx); have BO32 := Lib.hid (BO23.out.ext hx); have BR33 := Lib.hid (BR24.out.ext hx); have E34 := Lib.hid (E25.out.trans hx)
  have HX35 := Lib.hid hx; have HO36 := Lib.hid ho; clear hx ho
  have K37 := Lib.hid (K26.out.trans (HX35.out.chg _) (fun _ _ h => h))
  have K38 := Lib.hid (Chg.refl (fun k => k = w.heap.size + 1 + 1 ∨ k = w.heap.size + 1) w29)
  have fa0 := BA31.out.c 0 rfl
  have fa1 := BA31.out.c 1 rfl
  have fa2 := BA31.out.c 2 rfl
  have fa3 := BA31.out.c 3 rfl
  have fa4 := BA31.out.c 4 rfl
  have fa5 := BA31.out.c 5 rfl
  have fa6 := BA31.out.c 6 rfl
  have fo0 := BO32.out.c 0 rfl; have ff0 := BO32.out.f 0 (Nat.lt_of_lt_of_eq (by decide : 0 < 7) rfl)
  have fo1 := BO32.out.c 1 rfl; have ff1 := BO32.out.f 1 (Nat.lt_of_lt_of_eq (by decide : 1 < 7) rfl)
  have fo2 := BO32.out.c 2 rfl; have ff2 := BO32.out.f 2 (Nat.lt_of_lt_of_eq (by decide : 2 < 7) rfl)
  have fo3 := BO32.out.c 3 rfl; have ff3 := BO32.out.f 3 (Nat.lt_of_lt_of_eq (by decide : 3 < 7) rfl)
  have fo4 := BO32.out.c 4 rfl; have ff4 := BO32.out.f 4 (Nat.lt_of_lt_of_eq (by decide : 4 < 7) rfl)
  have fo5 := BO32.out.c 5 rfl; have ff5 := BO32.out.f 5 (Nat.lt_of_lt_of_eq (by decide : 5 < 7) rfl)
  have fo6 := BO32.out.c 6 rfl; have ff6 := BO32.out.f 6 (Nat.lt_of_lt_of_eq (by decide : 6 < 7) rfl)
  have fr0 := BR33.out.c 0 rfl; have fg0 := BR33.out.f 0 (Nat.lt_of_lt_of_eq (by decide : 0 < 7) rfl)
  have fr1 := BR33.out.c 1 rfl; have fg1 := BR33.out.f 1 (Nat.lt_of_lt_of_eq (by decide : 1 < 7) rfl)
  have fr2 := BR33.out.c 2 rfl; have fg2 := BR33.out.f 2 (Nat.lt_of_lt_of_eq (by decide : 2 < 7) rfl)
  have fr3 := BR33.out.c 3 rfl; have fg3 := BR33.out.f 3 (Nat.lt_of_lt_of_eq (by decide : 3 < 7) rfl)
  have fr4 := BR33.out.c 4 rfl; have fg4 := BR33.out.f 4 (Nat.lt_of_lt_of_eq (by decide : 4 < 7) rfl)
  have fr5 := BR33.out.c 5 rfl; have fg5 := BR33.out.f 5 (Nat.lt_of_lt_of_eq (by decide : 5 < 7) rfl)
  have fr6 := BR33.out.c 6 rfl; have fg6 := BR33.out.f 6 (Nat.lt_of_lt_of_eq (by decide : 6 < 7) rfl)
  have BA39 := Lib.hid (BA31.out.beside (c := w.heap.size + 1 + 1) (k := 3) (by omega) (.slice b30.A d.tok.length b30.c))
  have BR41 := Lib.hid (BR33.out.beside (c := w.heap.size + 1 + 1) (k := 3) (by omega) (.slice b30.A d.tok.length b30.c))
  have BO40 := Lib.hid (BO32.out.set 3 (Nat.lt_of_lt_of_eq (by decide : 3 < 7) rfl) (.slice b30.A d.tok.length b30.c))
  have E42 := Lib.hid (Ext.set (a := w) E34.out (b := w.heap.size + 1 + 1) (o := 3) (by omega) (.slice b30.A d.tok.length b30.c))
  have K43 := Lib.hid (K37.out.set (b := w.heap.size + 1 + 1) (o := 3) (.inl rfl) (.slice b30.A d.tok.length b30.c))
  have K44 := Lib.hid (K38.out.set (b := w.heap.size + 1 + 1) (o := 3) (.inl rfl) (.slice b30.A d.tok.length b30.c))
  have S45 := Lib.hid BO40.out.lt
  have Q46 := Lib.hid (K44.out.size)
  go_wp2_with fail
  refine (toI_t d.col a.col _ (HRw2.out.ext E42.out) HBd.out.2.2.1).mono ?_
  rintro e w47 ⟨b48, rfl, ho, hx⟩
  clear fa0 fa1 fa2 fa3 fa4 fa5 fa6 fo0 ff0 fo1 ff1 fo2 ff2 fo3 ff3 fo4 ff4 fo5 ff5 fo6 ff6 fr0 fg0 fr1 fg1 fr2 fg2 fr3 fg3 fr4 fg4 fr5 fg5 fr6 fg6
  have BA49 := Lib.hid (BA39.out.ext hx); have BO50 := Lib.hid (BO40.out.ext hx); have BR51 := Lib.hid (BR41.out.ext hx); have E52 := Lib.hid (E42.out.trans hx)
  have HX53 := Lib.hid hx; have HO54 := Lib.hid ho; clear hx ho
  have K55 := Lib.hid (K43.out.trans (HX53.out.chg _) (fun _ _ h => h))
  have K56 := Lib.hid (K44.out.trans (HX53.out.chg _) (fun _ _ h => h))
  have K57 := Lib.hid (Chg.refl (fun k => k = w.heap.size + 1 + 1 ∨ k = w.heap.size + 1) w47)
  have fa0 := BA49.out.c 0 rfl
  have fa1 := BA49.out.c 1 rfl
  have fa2 := BA49.out.c 2 rfl
  have fa3 := BA49.out.c 3 rfl
  have fa4 := BA49.out.c 4 rfl
  have fa5 := BA49.out.c 5 rfl
  have fa6 := BA49.out.c 6 rfl
  have fo0 := BO50.out.c 0 rfl; have ff0 := BO50.out.f 0 (Nat.lt_of_lt_of_eq (by decide : 0 < 7) rfl)
  have fo1 := BO50.out.c 1 rfl; have ff1 := BO50.out.f 1 (Nat.lt_of_lt_of_eq (by decide : 1 < 7) rfl)
  have fo2 := BO50.out.c 2 rfl; have ff2 := BO50.out.f 2 (Nat.lt_of_lt_of_eq (by decide : 2 < 7) rfl)
  have fo3 := BO50.out.c 3 rfl; have ff3 := BO50.out.f 3 (Nat.lt_of_lt_of_eq (by decide : 3 < 7) rfl)
  have fo4 := BO50.out.c 4 rfl; have ff4 := BO50.out.f 4 (Nat.lt_of_lt_of_eq (by decide : 4 < 7) rfl)
  have fo5 := BO50.out.c 5 rfl; have ff5 := BO50.out.f 5 (Nat.lt_of_lt_of_eq (by decide : 5 < 7) rfl)
  have fo6 := BO50.out.c 6 rfl; have ff6 := BO50.out.f 6 (Nat.lt_of_lt_of_eq (by decide : 6 < 7) rfl)
  have fr0 := BR51.out.c 0 rfl; have fg0 := BR51.out.f 0 (Nat.lt_of_lt_of_eq (by decide : 0 < 7) rfl)
  have fr1 := BR51.out.c 1 rfl; have fg1 := BR51.out.f 1 (Nat.lt_of_lt_of_eq (by decide : 1 < 7) rfl)
  have fr2 := BR51.out.c 2 rfl; have fg2 := BR51.out.f 2 (Nat.lt_of_lt_of_eq (by decide : 2 < 7) rfl)
  have fr3 := BR51.out.c 3 rfl; have fg3 := BR51.out.f 3 (Nat.lt_of_lt_of_eq (by decide : 3 < 7) rfl)
  have fr4 := BR51.out.c 4 rfl; have fg4 := BR51.out.f 4 (Nat.lt_of_lt_of_eq (by decide : 4 < 7) rfl)
  have fr5 := BR51.out.c 5 rfl; have fg5 := BR51.out.f 5 (Nat.lt_of_lt_of_eq (by decide : 5 < 7) rfl)
  have fr6 := BR51.out.c 6 rfl; have fg6 := BR51.out.f 6 (Nat.lt_of_lt_of_eq (by decide : 6 < 7) rfl)
  have BA58 := Lib.hid (BA49.out.beside (c := w.heap.size + 1 + 1) (k := 4) (by omega) (.slice b48.A d.col.length b48.c))
  have BR60 := Lib.hid (BR51.out.beside (c := w.heap.size + 1 + 1) (k := 4) (by omega) (.slice b48.A d.col.length b48.c))
  have BO59 := Lib.hid (BO50.out.set 4 (Nat.lt_of_lt_of_eq (by decide : 4 < 7) rfl) (.slice b48.A d.col.length b48.c))
  have E61 := Lib.hid (Ext.set (a := w) E52.out (b := w.heap.size + 1 + 1) (o := 4) (by omega) (.slice b48.A d.col.length b48.c))
  have K62 := Lib.hid (K55.out.set (b := w.heap.size + 1 + 1) (o := 4) (.inl rfl) (.slice b48.A d.col.length b48.c))
  have K63 := Lib.hid (K56.out.set (b := w.heap.size + 1 + 1) (o := 4) (.inl rfl) (.slice b48.A d.col.length b48.c))
  have K64 := Lib.hid (K57.out.set (b := w.heap.size + 1 + 1) (o := 4) (.inl rfl) (.slice b48.A d.col.length b48.c))
  have S65 := Lib.hid BO59.out.lt
  have Q66 := Lib.hid (K64.out.size)
  go_wp2_with fail
  refine (toI_t d.brd a.brd _ (HRw3.out.ext E61.out) HBd.out.2.2.2).mono ?_
  rintro e w67 ⟨b68, rfl, ho, hx⟩
  clear fa0 fa1 fa2 fa3 fa4 fa5 fa6 fo0 ff0 fo1 ff1 fo2 ff2 fo3 ff3 fo4 ff4 fo5 ff5 fo6 ff6 fr0 fg0 fr1 fg1 fr2 fg2 fr3 fg3 fr4 fg4 fr5 fg5 fr6 fg6
  have BA69 := Lib.hid (BA58.out.ext hx); have BO70 := Lib.hid (BO59.out.ext hx); have BR71 := Lib.hid (BR60.out.ext hx); have E72 := Lib.hid (E61.out.trans hx)
  have HX73 := Lib.hid hx; have HO74 := Lib.hid ho; clear hx ho
  have K75 := Lib.hid (K62.out.trans (HX73.out.chg _) (fun _ _ h => h))
  have K76 := Lib.hid (K63.out.trans (HX73.out.chg _) (fun _ _ h => h))
  have K77 := Lib.hid (K64.out.trans (HX73.out.chg _) (fun _ _ h => h))
  have K78 := Lib.hid (Chg.refl (fun k => k = w.heap.size + 1 + 1 ∨ k = w.heap.size + 1) w67)
  have fa0 := BA69.out.c 0 rfl
  have fa1 := BA69.out.c 1 rfl
  have fa2 := BA69.out.c 2 rfl
  have fa3 := BA69.out.c 3 rfl
  have fa4 := BA69.out.c 4 rfl
  have fa5 := BA69.out.c 5 rfl
  have fa6 := BA69.out.c 6 rfl
  have fo0 := BO70.out.c 0 rfl; have ff0 := BO70.out.f 0 (Nat.lt_of_lt_of_eq (by decide : 0 < 7) rfl)
  have fo1 := BO70.out.c 1 rfl; have ff1 := BO70.out.f 1 (Nat.lt_of_lt_of_eq (by decide : 1 < 7) rfl)
  have fo2 := BO70.out.c 2 rfl; have ff2 := BO70.out.f 2 (Nat.lt_of_lt_of_eq (by decide : 2 < 7) rfl)
  have fo3 := BO70.out.c 3 rfl; have ff3 := BO70.out.f 3 (Nat.lt_of_lt_of_eq (by decide : 3 < 7) rfl)
  have fo4 := BO70.out.c 4 rfl; have ff4 := BO70.out.f 4 (Nat.lt_of_lt_of_eq (by decide : 4 < 7) rfl)
  have fo5 := BO70.out.c 5 rfl; have ff5 := BO70.out.f 5 (Nat.lt_of_lt_of_eq (by decide : 5 < 7) rfl)
  have fo6 := BO70.out.c 6 rfl; have ff6 := BO70.out.f 6 (Nat.lt_of_lt_of_eq (by decide : 6 < 7) rfl)
  have fr0 := BR71.out.c 0 rfl; have fg0 := BR71.out.f 0 (Nat.lt_of_lt_of_eq (by decide : 0 < 7) rfl)
  have fr1 := BR71.out.c 1 rfl; have fg1 := BR71.out.f 1 (Nat.lt_of_lt_of_eq (by decide : 1 < 7) rfl)
  have fr2 := BR71.out.c 2 rfl; have fg2 := BR71.out.f 2 (Nat.lt_of_lt_of_eq (by decide : 2 < 7) rfl)
  have fr3 := BR71.out.c 3 rfl; have fg3 := BR71.out.f 3 (Nat.lt_of_lt_of_eq (by decide : 3 < 7) rfl)
  have fr4 := BR71.out.c 4 rfl; have fg4 := BR71.out.f 4 (Nat.lt_of_lt_of_eq (by decide : 4 < 7) rfl)
  have fr5 := BR71.out.c 5 rfl; have fg5 := BR71.out.f 5 (Nat.lt_of_lt_of_eq (by decide : 5 < 7) rfl)
  have fr6 := BR71.out.c 6 rfl; have fg6 := BR71.out.f 6 (Nat.lt_of_lt_of_eq (by decide : 6 < 7) rfl)
  have BA79 := Lib.hid (BA69.out.beside (c := w.heap.size + 1 + 1) (k := 5) (by omega) (.slice b68.A d.brd.length b68.c))
  have BR81 := Lib.hid (BR71.out.beside (c := w.heap.size + 1 + 1) (k := 5) (by omega) (.slice b68.A d.brd.length b68.c))
  have BO80 := Lib.hid (BO70.out.set 5 (Nat.lt_of_lt_of_eq (by decide : 5 < 7) rfl) (.slice b68.A d.brd.length b68.c))
  have E82 := Lib.hid (Ext.set (a := w) E72.out (b := w.heap.size + 1 + 1) (o := 5) (by omega) (.slice b68.A d.brd.length b68.c))
  have K83 := Lib.hid (K75.out.set (b := w.heap.size + 1 + 1) (o := 5) (.inl rfl) (.slice b68.A d.brd.length b68.c))
  have K84 := Lib.hid (K76.out.set (b := w.heap.size + 1 + 1) (o := 5) (.inl rfl) (.slice b68.A d.brd.length b68.c))
  have K85 := Lib.hid (K77.out.set (b := w.heap.size + 1 + 1) (o := 5) (.inl rfl) (.slice b68.A d.brd.length b68.c))
  have K86 := Lib.hid (K78.out.set (b := w.heap.size + 1 + 1) (o := 5) (.inl rfl) (.slice b68.A d.brd.length b68.c))
  have BA87 := Lib.hid (BA79.out.beside (c := w.heap.size + 1 + 1) (k := 6) (by omega) (.int .i64 d.count))
  have BR89 := Lib.hid (BR81.out.beside (c := w.heap.size + 1 + 1) (k := 6) (by omega) (.int .i64 d.count))
  have BO88 := Lib.hid (BO80.out.set 6 (Nat.lt_of_lt_of_eq (by decide : 6 < 7) rfl) (.int .i64 d.count))
  have E90 := Lib.hid (Ext.set (a := w) E82.out (b := w.heap.size + 1 + 1) (o := 6) (by omega) (.int .i64 d.count))
  have K91 := Lib.hid (K83.out.set (b := w.heap.size + 1 + 1) (o := 6) (.inl rfl) (.int .i64 d.count))
  have K92 := Lib.hid (K84.out.set (b := w.heap.size + 1 + 1) (o := 6) (.inl rfl) (.int .i64 d.count))
  have K93 := Lib.hid (K85.out.set (b := w.heap.size + 1 + 1) (o := 6) (.inl rfl) (.int .i64 d.count))
  have K94 := Lib.hid (K86.out.set (b := w.heap.size + 1 + 1) (o := 6) (.inl rfl) (.int .i64 d.count))
  go_wp2
  refine bodyPost_ret (v := .agg #[.int .i64 d.g.sz, .slice (⟨b4, b30, b48, b68⟩ : StA).g.A d.g.ps.length (⟨b4, b30, b48, b68⟩ : StA).g.c, .int .i64 d.kinds, .slice (⟨b4, b30, b48, b68⟩ : StA).tok.A d.tok.length (⟨b4, b30, b48, b68⟩ : StA).tok.c, .slice (⟨b4, b30, b48, b68⟩ : StA).col.A d.col.length (⟨b4, b30, b48, b68⟩ : StA).col.c, .slice (⟨b4, b30, b48, b68⟩ : StA).brd.A d.brd.length (⟨b4, b30, b48, b68⟩ : StA).brd.c, .int .i64 d.count]) (by simp [results, Try.results45, go_sem, fa0, fa1, fa2, fa3, fa4, fa5, fa6, fo0, ff0, fo1, ff1, fo2, ff2, fo3, ff3, fo4, ff4, fo5, ff5, fo6, ff6, fr0, fg0, fr1, fg1, fr2, fg2, fr3, fg3, fr4, fg4, fr5, fg5, fr6, fg6]) rfl ⟨⟨b4, b30, b48, b68⟩, rfl, ?_, ?_⟩
  have hcb4 := K91.out
  replace hcb4 := hcb4.set (b := w.heap.size + 1) (o := 0) (.inr rfl) (.int .i64 d.g.sz)
  replace hcb4 := hcb4.set (b := w.heap.size + 1) (o := 1) (.inr rfl) (.slice (⟨b4, b30, b48, b68⟩ : StA).g.A d.g.ps.length (⟨b4, b30, b48, b68⟩ : StA).g.c)
  replace hcb4 := hcb4.set (b := w.heap.size + 1) (o := 2) (.inr rfl) (.int .i64 d.kinds)
  replace hcb4 := hcb4.set (b := w.heap.size + 1) (o := 3) (.inr rfl) (.slice (⟨b4, b30, b48, b68⟩ : StA).tok.A d.tok.length (⟨b4, b30, b48, b68⟩ : StA).tok.c)
  replace hcb4 := hcb4.set (b := w.heap.size + 1) (o := 4) (.inr rfl) (.slice (⟨b4, b30, b48, b68⟩ : StA).col.A d.col.length (⟨b4, b30, b48, b68⟩ : StA).col.c)
  replace hcb4 := hcb4.set (b := w.heap.size + 1) (o := 5) (.inr rfl) (.slice (⟨b4, b30, b48, b68⟩ : StA).brd.A d.brd.length (⟨b4, b30, b48, b68⟩ : StA).brd.c)
  replace hcb4 := hcb4.set (b := w.heap.size + 1) (o := 6) (.inr rfl) (.int .i64 d.count)
  have hsb4 := S1.out
  have hcb30 := K92.out
  replace hcb30 := hcb30.set (b := w.heap.size + 1) (o := 0) (.inr rfl) (.int .i64 d.g.sz)
  replace hcb30 := hcb30.set (b := w.heap.size + 1) (o := 1) (.inr rfl) (.slice (⟨b4, b30, b48, b68⟩ : StA).g.A d.g.ps.length (⟨b4, b30, b48, b68⟩ : StA).g.c)
  replace hcb30 := hcb30.set (b := w.heap.size + 1) (o := 2) (.inr rfl) (.int .i64 d.kinds)
  replace hcb30 := hcb30.set (b := w.heap.size + 1) (o := 3) (.inr rfl) (.slice (⟨b4, b30, b48, b68⟩ : StA).tok.A d.tok.length (⟨b4, b30, b48, b68⟩ : StA).tok.c)
  replace hcb30 := hcb30.set (b := w.heap.size + 1) (o := 4) (.inr rfl) (.slice (⟨b4, b30, b48, b68⟩ : StA).col.A d.col.length (⟨b4, b30, b48, b68⟩ : StA).col.c)
  replace hcb30 := hcb30.set (b := w.heap.size + 1) (o := 5) (.inr rfl) (.slice (⟨b4, b30, b48, b68⟩ : StA).brd.A d.brd.length (⟨b4, b30, b48, b68⟩ : StA).brd.c)
  replace hcb30 := hcb30.set (b := w.heap.size + 1) (o := 6) (.inr rfl) (.int .i64 d.count)
  have hsb30 := S27.out
  have hcb48 := K93.out
  replace hcb48 := hcb48.set (b := w.heap.size + 1) (o := 0) (.inr rfl) (.int .i64 d.g.sz)
  replace hcb48 := hcb48.set (b := w.heap.size + 1) (o := 1) (.inr rfl) (.slice (⟨b4, b30, b48, b68⟩ : StA).g.A d.g.ps.length (⟨b4, b30, b48, b68⟩ : StA).g.c)
  replace hcb48 := hcb48.set (b := w.heap.size + 1) (o := 2) (.inr rfl) (.int .i64 d.kinds)
  replace hcb48 := hcb48.set (b := w.heap.size + 1) (o := 3) (.inr rfl) (.slice (⟨b4, b30, b48, b68⟩ : StA).tok.A d.tok.length (⟨b4, b30, b48, b68⟩ : StA).tok.c)
  replace hcb48 := hcb48.set (b := w.heap.size + 1) (o := 4) (.inr rfl) (.slice (⟨b4, b30, b48, b68⟩ : StA).col.A d.col.length (⟨b4, b30, b48, b68⟩ : StA).col.c)
  replace hcb48 := hcb48.set (b := w.heap.size + 1) (o := 5) (.inr rfl) (.slice (⟨b4, b30, b48, b68⟩ : StA).brd.A d.brd.length (⟨b4, b30, b48, b68⟩ : StA).brd.c)
  replace hcb48 := hcb48.set (b := w.heap.size + 1) (o := 6) (.inr rfl) (.int .i64 d.count)
  have hsb48 := S45.out
  have hcb68 := K94.out
  replace hcb68 := hcb68.set (b := w.heap.size + 1) (o := 0) (.inr rfl) (.int .i64 d.g.sz)
  replace hcb68 := hcb68.set (b := w.heap.size + 1) (o := 1) (.inr rfl) (.slice (⟨b4, b30, b48, b68⟩ : StA).g.A d.g.ps.length (⟨b4, b30, b48, b68⟩ : StA).g.c)
  replace hcb68 := hcb68.set (b := w.heap.size + 1) (o := 2) (.inr rfl) (.int .i64 d.kinds)
  replace hcb68 := hcb68.set (b := w.heap.size + 1) (o := 3) (.inr rfl) (.slice (⟨b4, b30, b48, b68⟩ : StA).tok.A d.tok.length (⟨b4, b30, b48, b68⟩ : StA).tok.c)
  replace hcb68 := hcb68.set (b := w.heap.size + 1) (o := 4) (.inr rfl) (.slice (⟨b4, b30, b48, b68⟩ : StA).col.A d.col.length (⟨b4, b30, b48, b68⟩ : StA).col.c)
  replace hcb68 := hcb68.set (b := w.heap.size + 1) (o := 5) (.inr rfl) (.slice (⟨b4, b30, b48, b68⟩ : StA).brd.A d.brd.length (⟨b4, b30, b48, b68⟩ : StA).brd.c)
  replace hcb68 := hcb68.set (b := w.heap.size + 1) (o := 6) (.inr rfl) (.int .i64 d.count)
  have hsb68 := S65.out
  · exact ⟨w3.heap.size, w29.heap.size, w47.heap.size, Nat.le_trans Q2.out HX9.out.size, Nat.le_trans Q28.out HX35.out.size, Nat.le_trans Q46.out HX53.out.size, Nat.le_trans (Nat.le_trans Q66.out HX73.out.size) hcb68.size, (HO10.out.chg hcb4 (fun k h1 _ h => by rcases h with h | h <;> omega)).mono Q2.out (Nat.le_refl _), (HO36.out.chg hcb30 (fun k h1 _ h => by rcases h with h | h <;> omega)).mono Q28.out (Nat.le_refl _), (HO54.out.chg hcb48 (fun k h1 _ h => by rcases h with h | h <;> omega)).mono Q46.out (Nat.le_refl _), (HO74.out.chg hcb68 (fun k h1 _ h => by rcases h with h | h <;> omega)).mono Q66.out hcb68.size⟩
  · have he := E90.out
    replace he := Ext.set (a := w) he (b := w.heap.size + 1) (o := 0) (by omega) (.int .i64 d.g.sz)
    replace he := Ext.set (a := w) he (b := w.heap.size + 1) (o := 1) (by omega) (.slice (⟨b4, b30, b48, b68⟩ : StA).g.A d.g.ps.length (⟨b4, b30, b48, b68⟩ : StA).g.c)
    replace he := Ext.set (a := w) he (b := w.heap.size + 1) (o := 2) (by omega) (.int .i64 d.kinds)
    replace he := Ext.set (a := w) he (b := w.heap.size + 1) (o := 3) (by omega) (.slice (⟨b4, b30, b48, b68⟩ : StA).tok.A d.tok.length (⟨b4, b30, b48, b68⟩ : StA).tok.c)
    replace he := Ext.set (a := w) he (b := w.heap.size + 1) (o := 4) (by omega) (.slice (⟨b4, b30, b48, b68⟩ : StA).col.A d.col.length (⟨b4, b30, b48, b68⟩ : StA).col.c)
    replace he := Ext.set (a := w) he (b := w.heap.size + 1) (o := 5) (by omega) (.slice (⟨b4, b30, b48, b68⟩ : StA).brd.A d.brd.length (⟨b4, b30, b48, b68⟩ : StA).brd.c)
    replace he := Ext.set (a := w) he (b := w.heap.size + 1) (o := 6) (by omega) (.int .i64 d.count)
    exact he

set_option maxHeartbeats 2000000 in
theorem eqU_t (d : StD) (a b : StA) (w : World) (h1 : RdU w a d) (h2 : RdU w b d) :
    Calls Try.prog 47 #[.agg #[.int .i64 d.g.sz, .slice a.g.A d.g.ps.length a.g.c, .int .i64 d.kinds, .slice a.tok.A d.tok.length a.tok.c, .slice a.col.A d.col.length a.col.c, .slice a.brd.A d.brd.length a.brd.c, .int .i64 d.count], .agg #[.int .i64 d.g.sz, .slice b.g.A d.g.ps.length b.g.c, .int .i64 d.kinds, .slice b.tok.A d.tok.length b.tok.c, .slice b.col.A d.col.length b.col.c, .slice b.brd.A d.brd.length b.brd.c, .int .i64 d.count]] w fun e w' => e = .returned (.bool true) ∧ Ext w w' := by
  have hE : Ext w ((w.alloc (.cells #[.int .i64 d.g.sz, .slice a.g.A d.g.ps.length a.g.c, .int .i64 d.kinds, .slice a.tok.A d.tok.length a.tok.c, .slice a.col.A d.col.length a.col.c, .slice a.brd.A d.brd.length a.brd.c, .int .i64 d.count] 66)).alloc (.cells #[.int .i64 d.g.sz, .slice b.g.A d.g.ps.length b.g.c, .int .i64 d.kinds, .slice b.tok.A d.tok.length b.tok.c, .slice b.col.A d.col.length b.col.c, .slice b.brd.A d.brd.length b.brd.c, .int .i64 d.count] 66)) := ((Ext.refl w).alloc _).alloc _
  have H1 := Lib.hid (h1.ext hE); have H2 := Lib.hid (h2.ext hE); have HE := Lib.hid hE
  have hA := (Bx.new w [.int .i64 d.g.sz, .slice a.g.A d.g.ps.length a.g.c, .int .i64 d.kinds, .slice a.tok.A d.tok.length a.tok.c, .slice a.col.A d.col.length a.col.c, .slice a.brd.A d.brd.length a.brd.c, .int .i64 d.count] 66).alloc (.cells #[.int .i64 d.g.sz, .slice b.g.A d.g.ps.length b.g.c, .int .i64 d.kinds, .slice b.tok.A d.tok.length b.tok.c, .slice b.col.A d.col.length b.col.c, .slice b.brd.A d.brd.length b.brd.c, .int .i64 d.count] 66)
  have hB := Bx.new (w.alloc (.cells #[.int .i64 d.g.sz, .slice a.g.A d.g.ps.length a.g.c, .int .i64 d.kinds, .slice a.tok.A d.tok.length a.tok.c, .slice a.col.A d.col.length a.col.c, .slice a.brd.A d.brd.length a.brd.c, .int .i64 d.count] 66)) [.int .i64 d.g.sz, .slice b.g.A d.g.ps.length b.g.c, .int .i64 d.kinds, .slice b.tok.A d.tok.length b.tok.c, .slice b.col.A d.col.length b.col.c, .slice b.brd.A d.brd.length b.brd.c, .int .i64 d.count] 66
  simp only [alloc_size] at hB
  have BA := Lib.hid hA; have BB := Lib.hid hB; clear hE h1 h2 hA hB
  have EW := Lib.hid (Ext.refl ((w.alloc (.cells #[.int .i64 d.g.sz, .slice a.g.A d.g.ps.length a.g.c, .int .i64 d.kinds, .slice a.tok.A d.tok.length a.tok.c, .slice a.col.A d.col.length a.col.c, .slice a.brd.A d.brd.length a.brd.c, .int .i64 d.count] 66)).alloc (.cells #[.int .i64 d.g.sz, .slice b.g.A d.g.ps.length b.g.c, .int .i64 d.kinds, .slice b.tok.A d.tok.length b.tok.c, .slice b.col.A d.col.length b.col.c, .slice b.brd.A d.brd.length b.brd.c, .int .i64 d.count] 66)))
  have hqkinds : (d.kinds != d.kinds) = false := by simp
  have hqcount : (d.count != d.count) = false := by simp
  go_enter Try.func47, Try.ntmps47
  have fa0 := BA.out.c 0 rfl; have fb0 := BB.out.c 0 rfl
  have fa1 := BA.out.c 1 rfl; have fb1 := BB.out.c 1 rfl
  have fa2 := BA.out.c 2 rfl; have fb2 := BB.out.c 2 rfl
  have fa3 := BA.out.c 3 rfl; have fb3 := BB.out.c 3 rfl
  have fa4 := BA.out.c 4 rfl; have fb4 := BB.out.c 4 rfl
  have fa5 := BA.out.c 5 rfl; have fb5 := BB.out.c 5 rfl
  have fa6 := BA.out.c 6 rfl; have fb6 := BB.out.c 6 rfl
  go_wp2_with fail
  refine (eqG_t d.g a.g b.g _ (H1.out.1.ext EW.out) (H2.out.1.ext EW.out)).mono ?_
  rintro e w95 ⟨rfl, hx⟩
  have BA96 := Lib.hid (BA.out.ext hx); have BB97 := Lib.hid (BB.out.ext hx); have E98 := Lib.hid (EW.out.trans hx); clear hx fa0 fb0 fa1 fb1 fa2 fb2 fa3 fb3 fa4 fb4 fa5 fb5 fa6 fb6
  have fa0 := BA96.out.c 0 rfl; have fb0 := BB97.out.c 0 rfl
  have fa1 := BA96.out.c 1 rfl; have fb1 := BB97.out.c 1 rfl
  have fa2 := BA96.out.c 2 rfl; have fb2 := BB97.out.c 2 rfl
  have fa3 := BA96.out.c 3 rfl; have fb3 := BB97.out.c 3 rfl
  have fa4 := BA96.out.c 4 rfl; have fb4 := BB97.out.c 4 rfl
  have fa5 := BA96.out.c 5 rfl; have fb5 := BB97.out.c 5 rfl
  have fa6 := BA96.out.c 6 rfl; have fb6 := BB97.out.c 6 rfl
  go_wp2_with fail
  refine (eqI_t d.tok a.tok b.tok _ (H1.out.2.1.ext E98.out) (H2.out.2.1.ext E98.out)).mono ?_
  rintro e w99 ⟨rfl, hx⟩
  have BA100 := Lib.hid (BA96.out.ext hx); have BB101 := Lib.hid (BB97.out.ext hx); have E102 := Lib.hid (E98.out.trans hx); clear hx fa0 fb0 fa1 fb1 fa2 fb2 fa3 fb3 fa4 fb4 fa5 fb5 fa6 fb6
  have fa0 := BA100.out.c 0 rfl; have fb0 := BB101.out.c 0 rfl
  have fa1 := BA100.out.c 1 rfl; have fb1 := BB101.out.c 1 rfl
  have fa2 := BA100.out.c 2 rfl; have fb2 := BB101.out.c 2 rfl
  have fa3 := BA100.out.c 3 rfl; have fb3 := BB101.out.c 3 rfl
  have fa4 := BA100.out.c 4 rfl; have fb4 := BB101.out.c 4 rfl
  have fa5 := BA100.out.c 5 rfl; have fb5 := BB101.out.c 5 rfl
  have fa6 := BA100.out.c 6 rfl; have fb6 := BB101.out.c 6 rfl
  go_wp2_with fail
  refine (eqI_t d.col a.col b.col _ (H1.out.2.2.1.ext E102.out) (H2.out.2.2.1.ext E102.out)).mono ?_
  rintro e w103 ⟨rfl, hx⟩
  have BA104 := Lib.hid (BA100.out.ext hx); have BB105 := Lib.hid (BB101.out.ext hx); have E106 := Lib.hid (E102.out.trans hx); clear hx fa0 fb0 fa1 fb1 fa2 fb2 fa3 fb3 fa4 fb4 fa5 fb5 fa6 fb6
  have fa0 := BA104.out.c 0 rfl; have fb0 := BB105.out.c 0 rfl
  have fa1 := BA104.out.c 1 rfl; have fb1 := BB105.out.c 1 rfl
  have fa2 := BA104.out.c 2 rfl; have fb2 := BB105.out.c 2 rfl
  have fa3 := BA104.out.c 3 rfl; have fb3 := BB105.out.c 3 rfl
  have fa4 := BA104.out.c 4 rfl; have fb4 := BB105.out.c 4 rfl
  have fa5 := BA104.out.c 5 rfl; have fb5 := BB105.out.c 5 rfl
  have fa6 := BA104.out.c 6 rfl; have fb6 := BB105.out.c 6 rfl
  go_wp2_with fail
  refine (eqI_t d.brd a.brd b.brd _ (H1.out.2.2.2.ext E106.out) (H2.out.2.2.2.ext E106.out)).mono ?_
  rintro e w107 ⟨rfl, hx⟩
  have BA108 := Lib.hid (BA104.out.ext hx); have BB109 := Lib.hid (BB105.out.ext hx); have E110 := Lib.hid (E106.out.trans hx); clear hx fa0 fb0 fa1 fb1 fa2 fb2 fa3 fb3 fa4 fb4 fa5 fb5 fa6 fb6
  have fa0 := BA108.out.c 0 rfl; have fb0 := BB109.out.c 0 rfl
  have fa1 := BA108.out.c 1 rfl; have fb1 := BB109.out.c 1 rfl
  have fa2 := BA108.out.c 2 rfl; have fb2 := BB109.out.c 2 rfl
  have fa3 := BA108.out.c 3 rfl; have fb3 := BB109.out.c 3 rfl
  have fa4 := BA108.out.c 4 rfl; have fb4 := BB109.out.c 4 rfl
  have fa5 := BA108.out.c 5 rfl; have fb5 := BB109.out.c 5 rfl
  have fa6 := BA108.out.c 6 rfl; have fb6 := BB109.out.c 6 rfl
  go_wp2
  go_ret
  exact ⟨rfl, HE.out.trans E110.out⟩

set_option maxHeartbeats 2000000 in
theorem markU_t (d : StD) (a : StA) (lo hi : Nat) (k : Int) (w : World) (h : OwU w lo hi a d) (hh : hi ≤ w.heap.size) (hb : BdU d) (h0 : 0 ≤ k) (h1 : k ≤ 536870912) :
    Calls Try.prog 50 #[.agg #[.int .i64 d.g.sz, .slice a.g.A d.g.ps.length a.g.c, .int .i64 d.kinds, .slice a.tok.A d.tok.length a.tok.c, .slice a.col.A d.col.length a.col.c, .slice a.brd.A d.brd.length a.brd.c, .int .i64 d.count], .int .i64 k] w fun e w' => e = .returned (.int .i64 (k + cntU d)) ∧ OwU w' lo hi a (mkU k d) ∧ Chg (fun b => lo ≤ b ∧ b < hi) w w' := by
  obtain ⟨m1, m2, m3, q0, q1, q2, q3, o0, o1, o2, o3⟩ := h
  have c0 := cntG_le hb.1; have HC0 := Lib.hid c0
  have c1 := cntI_le hb.2.1; have HC1 := Lib.hid c1
  have c2 := cntI_le hb.2.2.1; have HC2 := Lib.hid c2
  have c3 := cntI_le hb.2.2.2; have HC3 := Lib.hid c3
  have O0 := Lib.hid (o0.ext ((Ext.refl w).alloc (.cells #[.int .i64 d.g.sz, .slice a.g.A d.g.ps.length a.g.c, .int .i64 d.kinds, .slice a.tok.A d.tok.length a.tok.c, .slice a.col.A d.col.length a.col.c, .slice a.brd.A d.brd.length a.brd.c, .int .i64 d.count] 66))); clear o0
  have O1 := Lib.hid (o1.ext ((Ext.refl w).alloc (.cells #[.int .i64 d.g.sz, .slice a.g.A d.g.ps.length a.g.c, .int .i64 d.kinds, .slice a.tok.A d.tok.length a.tok.c, .slice a.col.A d.col.length a.col.c, .slice a.brd.A d.brd.length a.brd.c, .int .i64 d.count] 66))); clear o1
  have O2 := Lib.hid (o2.ext ((Ext.refl w).alloc (.cells #[.int .i64 d.g.sz, .slice a.g.A d.g.ps.length a.g.c, .int .i64 d.kinds, .slice a.tok.A d.tok.length a.tok.c, .slice a.col.A d.col.length a.col.c, .slice a.brd.A d.brd.length a.brd.c, .int .i64 d.count] 66))); clear o2
  have O3 := Lib.hid (o3.ext ((Ext.refl w).alloc (.cells #[.int .i64 d.g.sz, .slice a.g.A d.g.ps.length a.g.c, .int .i64 d.kinds, .slice a.tok.A d.tok.length a.tok.c, .slice a.col.A d.col.length a.col.c, .slice a.brd.A d.brd.length a.brd.c, .int .i64 d.count] 66))); clear o3
  have BA := Lib.hid (Bx.new w [.int .i64 d.g.sz, .slice a.g.A d.g.ps.length a.g.c, .int .i64 d.kinds, .slice a.tok.A d.tok.length a.tok.c, .slice a.col.A d.col.length a.col.c, .slice a.brd.A d.brd.length a.brd.c, .int .i64 d.count] 66); have HB := Lib.hid hb; clear hb
  have CH := Lib.hid (((Ext.refl w).alloc (.cells #[.int .i64 d.g.sz, .slice a.g.A d.g.ps.length a.g.c, .int .i64 d.kinds, .slice a.tok.A d.tok.length a.tok.c, .slice a.col.A d.col.length a.col.c, .slice a.brd.A d.brd.length a.brd.c, .int .i64 d.count] 66)).chg (fun b => lo ≤ b ∧ b < hi))
  have HS := Lib.hid (Nat.le_of_lt (Nat.lt_of_le_of_lt hh (Nat.lt_of_lt_of_eq (Nat.lt_succ_self _) (alloc_size w (.cells #[.int .i64 d.g.sz, .slice a.g.A d.g.ps.length a.g.c, .int .i64 d.kinds, .slice a.tok.A d.tok.length a.tok.c, .slice a.col.A d.col.length a.col.c, .slice a.brd.A d.brd.length a.brd.c, .int .i64 d.count] 66)).symm)))
  have HQ := Lib.hid (show lo ≤ hi by omega)
  have Hq0 := Lib.hid q0
  have Hq1 := Lib.hid q1
  have Hq2 := Lib.hid q2
  have Hq3 := Lib.hid q3
  have Hh := Lib.hid hh; clear hh HQ q0 q1 q2 q3
  go_enter Try.func50, Try.ntmps50
  have fa0 := BA.out.c 0 rfl
  have fa1 := BA.out.c 1 rfl
  have fa2 := BA.out.c 2 rfl
  have fa3 := BA.out.c 3 rfl
  have fa4 := BA.out.c 4 rfl
  have fa5 := BA.out.c 5 rfl
  have fa6 := BA.out.c 6 rfl
  go_wp2_with fail
  refine (markG_t d.g a.g _ _ (k) _ O0.out (by have y0 := Hq0.out; have y1 := Hq1.out; have y2 := Hq2.out; have y3 := Hq3.out; have yh := Hh.out; have ys := HS.out; omega) HB.out.1 (by omega) (by omega)).mono ?_
  rintro e w111 ⟨rfl, ho, hch⟩
  have N0_0 := Lib.hid ho
  have N0_1 := Lib.hid (O1.out.chg hch (fun k h1 h2 h => by have y0 := Hq0.out; have y1 := Hq1.out; have y2 := Hq2.out; have y3 := Hq3.out; have yh := Hh.out; (try simp only at h); omega))
  have N0_2 := Lib.hid (O2.out.chg hch (fun k h1 h2 h => by have y0 := Hq0.out; have y1 := Hq1.out; have y2 := Hq2.out; have y3 := Hq3.out; have yh := Hh.out; (try simp only at h); omega))
  have N0_3 := Lib.hid (O3.out.chg hch (fun k h1 h2 h => by have y0 := Hq0.out; have y1 := Hq1.out; have y2 := Hq2.out; have y3 := Hq3.out; have yh := Hh.out; (try simp only at h); omega))
  have BA112 := Lib.hid (BA.out.chg hch (fun h => by have y0 := Hq0.out; have y1 := Hq1.out; have y2 := Hq2.out; have y3 := Hq3.out; have yh := Hh.out; (try simp only at h); omega))
  have CH113 := Lib.hid (CH.out.trans hch (fun k _ h => by have y0 := Hq0.out; have y1 := Hq1.out; have y2 := Hq2.out; have y3 := Hq3.out; have yh := Hh.out; (try simp only at h ⊢); omega))
  have HS114 := Lib.hid (Nat.le_trans HS.out hch.size)
  clear ho hch fa0 fa1 fa2 fa3 fa4 fa5 fa6
  have fa0 := BA112.out.c 0 rfl
  have fa1 := BA112.out.c 1 rfl
  have fa2 := BA112.out.c 2 rfl
  have fa3 := BA112.out.c 3 rfl
  have fa4 := BA112.out.c 4 rfl
  have fa5 := BA112.out.c 5 rfl
  have fa6 := BA112.out.c 6 rfl
  go_wp2_with fail
  refine (markI_t d.tok a.tok _ _ (k + cntG d.g) _ N0_1.out (by have y0 := Hq0.out; have y1 := Hq1.out; have y2 := Hq2.out; have y3 := Hq3.out; have yh := Hh.out; have ys := HS114.out; omega) HB.out.2.1 (by omega) (by omega)).mono ?_
  rintro e w115 ⟨rfl, ho, hch⟩
  have N1_0 := Lib.hid (N0_0.out.chg hch (fun k h1 h2 h => by have y0 := Hq0.out; have y1 := Hq1.out; have y2 := Hq2.out; have y3 := Hq3.out; have yh := Hh.out; (try simp only at h); omega))
  have N1_1 := Lib.hid ho
  have N1_2 := Lib.hid (N0_2.out.chg hch (fun k h1 h2 h => by have y0 := Hq0.out; have y1 := Hq1.out; have y2 := Hq2.out; have y3 := Hq3.out; have yh := Hh.out; (try simp only at h); omega))
  have N1_3 := Lib.hid (N0_3.out.chg hch (fun k h1 h2 h => by have y0 := Hq0.out; have y1 := Hq1.out; have y2 := Hq2.out; have y3 := Hq3.out; have yh := Hh.out; (try simp only at h); omega))
  have BA116 := Lib.hid (BA112.out.chg hch (fun h => by have y0 := Hq0.out; have y1 := Hq1.out; have y2 := Hq2.out; have y3 := Hq3.out; have yh := Hh.out; (try simp only at h); omega))
  have CH117 := Lib.hid (CH113.out.trans hch (fun k _ h => by have y0 := Hq0.out; have y1 := Hq1.out; have y2 := Hq2.out; have y3 := Hq3.out; have yh := Hh.out; (try simp only at h ⊢); omega))
  have HS118 := Lib.hid (Nat.le_trans HS114.out hch.size)
  clear ho hch fa0 fa1 fa2 fa3 fa4 fa5 fa6
  have fa0 := BA116.out.c 0 rfl
  have fa1 := BA116.out.c 1 rfl
  have fa2 := BA116.out.c 2 rfl
  have fa3 := BA116.out.c 3 rfl
  have fa4 := BA116.out.c 4 rfl
  have fa5 := BA116.out.c 5 rfl
  have fa6 := BA116.out.c 6 rfl
  go_wp2_with fail
  refine (markI_t d.col a.col _ _ (k + cntG d.g + cntI d.tok) _ N1_2.out (by have y0 := Hq0.out; have y1 := Hq1.out; have y2 := Hq2.out; have y3 := Hq3.out; have yh := Hh.out; have ys := HS118.out; omega) HB.out.2.2.1 (by omega) (by omega)).mono ?_
  rintro e w119 ⟨rfl, ho, hch⟩
  have N2_0 := Lib.hid (N1_0.out.chg hch (fun k h1 h2 h => by have y0 := Hq0.out; have y1 := Hq1.out; have y2 := Hq2.out; have y3 := Hq3.out; have yh := Hh.out; (try simp only at h); omega))
  have N2_1 := Lib.hid (N1_1.out.chg hch (fun k h1 h2 h => by have y0 := Hq0.out; have y1 := Hq1.out; have y2 := Hq2.out; have y3 := Hq3.out; have yh := Hh.out; (try simp only at h); omega))
  have N2_2 := Lib.hid ho
  have N2_3 := Lib.hid (N1_3.out.chg hch (fun k h1 h2 h => by have y0 := Hq0.out; have y1 := Hq1.out; have y2 := Hq2.out; have y3 := Hq3.out; have yh := Hh.out; (try simp only at h); omega))
  have BA120 := Lib.hid (BA116.out.chg hch (fun h => by have y0 := Hq0.out; have y1 := Hq1.out; have y2 := Hq2.out; have y3 := Hq3.out; have yh := Hh.out; (try simp only at h); omega))
  have CH121 := Lib.hid (CH117.out.trans hch (fun k _ h => by have y0 := Hq0.out; have y1 := Hq1.out; have y2 := Hq2.out; have y3 := Hq3.out; have yh := Hh.out; (try simp only at h ⊢); omega))
  have HS122 := Lib.hid (Nat.le_trans HS118.out hch.size)
  clear ho hch fa0 fa1 fa2 fa3 fa4 fa5 fa6
  have fa0 := BA120.out.c 0 rfl
  have fa1 := BA120.out.c 1 rfl
  have fa2 := BA120.out.c 2 rfl
  have fa3 := BA120.out.c 3 rfl
  have fa4 := BA120.out.c 4 rfl
  have fa5 := BA120.out.c 5 rfl
  have fa6 := BA120.out.c 6 rfl
  go_wp2_with fail
  refine (markI_t d.brd a.brd _ _ (k + cntG d.g + cntI d.tok + cntI d.col) _ N2_3.out (by have y0 := Hq0.out; have y1 := Hq1.out; have y2 := Hq2.out; have y3 := Hq3.out; have yh := Hh.out; have ys := HS122.out; omega) HB.out.2.2.2 (by omega) (by omega)).mono ?_
  rintro e w123 ⟨rfl, ho, hch⟩
  have N3_0 := Lib.hid (N2_0.out.chg hch (fun k h1 h2 h => by have y0 := Hq0.out; have y1 := Hq1.out; have y2 := Hq2.out; have y3 := Hq3.out; have yh := Hh.out; (try simp only at h); omega))
  have N3_1 := Lib.hid (N2_1.out.chg hch (fun k h1 h2 h => by have y0 := Hq0.out; have y1 := Hq1.out; have y2 := Hq2.out; have y3 := Hq3.out; have yh := Hh.out; (try simp only at h); omega))
  have N3_2 := Lib.hid (N2_2.out.chg hch (fun k h1 h2 h => by have y0 := Hq0.out; have y1 := Hq1.out; have y2 := Hq2.out; have y3 := Hq3.out; have yh := Hh.out; (try simp only at h); omega))
  have N3_3 := Lib.hid ho
  have BA124 := Lib.hid (BA120.out.chg hch (fun h => by have y0 := Hq0.out; have y1 := Hq1.out; have y2 := Hq2.out; have y3 := Hq3.out; have yh := Hh.out; (try simp only at h); omega))
  have CH125 := Lib.hid (CH121.out.trans hch (fun k _ h => by have y0 := Hq0.out; have y1 := Hq1.out; have y2 := Hq2.out; have y3 := Hq3.out; have yh := Hh.out; (try simp only at h ⊢); omega))
  have HS126 := Lib.hid (Nat.le_trans HS122.out hch.size)
  clear ho hch fa0 fa1 fa2 fa3 fa4 fa5 fa6
  go_wp2
  go_ret
  exact ⟨ret_int (by unfold cntU; omega), ⟨m1, m2, m3, Hq0.out, Hq1.out, Hq2.out, Hq3.out, N3_0.out, N3_1.out, N3_2.out, N3_3.out⟩, CH125.out⟩

set_option maxHeartbeats 2000000 in
theorem heldU_t (d : StD) (a : StA) (k : Int) (w : World) (h : RdU w a (mkU k d)) (hb : BdU d) (h0 : 0 ≤ k) (h1 : k ≤ 536870912) :
    Calls Try.prog 51 #[.agg #[.int .i64 d.g.sz, .slice a.g.A d.g.ps.length a.g.c, .int .i64 d.kinds, .slice a.tok.A d.tok.length a.tok.c, .slice a.col.A d.col.length a.col.c, .slice a.brd.A d.brd.length a.brd.c, .int .i64 d.count], .int .i64 k] w fun e w' => e = .returned (.int .i64 (k + cntU d)) ∧ Ext w w' := by
  have hE := (Ext.refl w).alloc (.cells #[.int .i64 d.g.sz, .slice a.g.A d.g.ps.length a.g.c, .int .i64 d.kinds, .slice a.tok.A d.tok.length a.tok.c, .slice a.col.A d.col.length a.col.c, .slice a.brd.A d.brd.length a.brd.c, .int .i64 d.count] 66)
  have c0 := cntG_le hb.1; have R0 := Lib.hid (show RdG _ a.g (mkG (k) d.g) from (h.ext hE).1)
  have c1 := cntI_le hb.2.1; have R1 := Lib.hid (show RdI _ a.tok (mkI (k + cntG d.g) d.tok) from (h.ext hE).2.1)
  have c2 := cntI_le hb.2.2.1; have R2 := Lib.hid (show RdI _ a.col (mkI (k + cntG d.g + cntI d.tok) d.col) from (h.ext hE).2.2.1)
  have c3 := cntI_le hb.2.2.2; have R3 := Lib.hid (show RdI _ a.brd (mkI (k + cntG d.g + cntI d.tok + cntI d.col) d.brd) from (h.ext hE).2.2.2)
  have hn0 : decide (k + cntG d.g < 0) = false := by rw [decide_eq_false_iff_not]; omega
  have hn1 : decide (k + cntG d.g + cntI d.tok < 0) = false := by rw [decide_eq_false_iff_not]; omega
  have hn2 : decide (k + cntG d.g + cntI d.tok + cntI d.col < 0) = false := by rw [decide_eq_false_iff_not]; omega
  have hn3 : decide (k + cntG d.g + cntI d.tok + cntI d.col + cntI d.brd < 0) = false := by rw [decide_eq_false_iff_not]; omega
  have BA := Lib.hid (Bx.new w [.int .i64 d.g.sz, .slice a.g.A d.g.ps.length a.g.c, .int .i64 d.kinds, .slice a.tok.A d.tok.length a.tok.c, .slice a.col.A d.col.length a.col.c, .slice a.brd.A d.brd.length a.brd.c, .int .i64 d.count] 66); have HB := Lib.hid hb; have HE := Lib.hid hE; clear hE h hb
  have EW := Lib.hid (Ext.refl (w.alloc (.cells #[.int .i64 d.g.sz, .slice a.g.A d.g.ps.length a.g.c, .int .i64 d.kinds, .slice a.tok.A d.tok.length a.tok.c, .slice a.col.A d.col.length a.col.c, .slice a.brd.A d.brd.length a.brd.c, .int .i64 d.count] 66)))
  go_enter Try.func51, Try.ntmps51
  have fa0 := BA.out.c 0 rfl
  have fa1 := BA.out.c 1 rfl
  have fa2 := BA.out.c 2 rfl
  have fa3 := BA.out.c 3 rfl
  have fa4 := BA.out.c 4 rfl
  have fa5 := BA.out.c 5 rfl
  have fa6 := BA.out.c 6 rfl
  go_wp2_with fail
  refine (heldG_t d.g a.g (k) _ (R0.out.ext EW.out) HB.out.1 (by omega) (by omega)).mono ?_
  rintro e w127 ⟨rfl, hx⟩
  have BA128 := Lib.hid (BA.out.ext hx); have E129 := Lib.hid (EW.out.trans hx); clear hx fa0 fa1 fa2 fa3 fa4 fa5 fa6
  have fa0 := BA128.out.c 0 rfl
  have fa1 := BA128.out.c 1 rfl
  have fa2 := BA128.out.c 2 rfl
  have fa3 := BA128.out.c 3 rfl
  have fa4 := BA128.out.c 4 rfl
  have fa5 := BA128.out.c 5 rfl
  have fa6 := BA128.out.c 6 rfl
  go_wp2_with fail
  refine (heldI_t d.tok a.tok (k + cntG d.g) _ (R1.out.ext E129.out) HB.out.2.1 (by omega) (by omega)).mono ?_
  rintro e w130 ⟨rfl, hx⟩
  have BA131 := Lib.hid (BA128.out.ext hx); have E132 := Lib.hid (E129.out.trans hx); clear hx fa0 fa1 fa2 fa3 fa4 fa5 fa6
  have fa0 := BA131.out.c 0 rfl
  have fa1 := BA131.out.c 1 rfl
  have fa2 := BA131.out.c 2 rfl
  have fa3 := BA131.out.c 3 rfl
  have fa4 := BA131.out.c 4 rfl
  have fa5 := BA131.out.c 5 rfl
  have fa6 := BA131.out.c 6 rfl
  go_wp2_with fail
  refine (heldI_t d.col a.col (k + cntG d.g + cntI d.tok) _ (R2.out.ext E132.out) HB.out.2.2.1 (by omega) (by omega)).mono ?_
  rintro e w133 ⟨rfl, hx⟩
  have BA134 := Lib.hid (BA131.out.ext hx); have E135 := Lib.hid (E132.out.trans hx); clear hx fa0 fa1 fa2 fa3 fa4 fa5 fa6
  have fa0 := BA134.out.c 0 rfl
  have fa1 := BA134.out.c 1 rfl
  have fa2 := BA134.out.c 2 rfl
  have fa3 := BA134.out.c 3 rfl
  have fa4 := BA134.out.c 4 rfl
  have fa5 := BA134.out.c 5 rfl
  have fa6 := BA134.out.c 6 rfl
  go_wp2_with fail
  refine (heldI_t d.brd a.brd (k + cntG d.g + cntI d.tok + cntI d.col) _ (R3.out.ext E135.out) HB.out.2.2.2 (by omega) (by omega)).mono ?_
  rintro e w136 ⟨rfl, hx⟩
  have BA137 := Lib.hid (BA134.out.ext hx); have E138 := Lib.hid (E135.out.trans hx); clear hx fa0 fa1 fa2 fa3 fa4 fa5 fa6
  go_wp2
  go_ret
  exact ⟨ret_int (by unfold cntU; omega), HE.out.trans E138.out⟩
end Go.Proofs.Ytkfbkflneppggaa
