/-
  The laws' helpers at impl.Space: what they count, copy, compare, mark and hold. Conditions: none.
-/
import Derived.Test.YtkfbkflneppggaaTl
namespace Go.Proofs.Ytkfbkflneppggaa
open Go.RowKit
set_option linter.unusedVariables false
set_option linter.unusedSimpArgs false

theorem RowB.cap {w : World} {lo hi : Nat} {E : TypeId} {sz n : Nat} {a : SlA} {cs : List Value} (h : RowB w lo hi E sz a n cs) : n ≤ a.c := by
  rcases h.1.2 with ⟨hv, hn⟩ | ⟨g, cap, cur, hv, _, _, h1, _⟩
  · injection hv with _ e _; omega
  · injection hv with _ _ e; omega

structure SpD where
  st : List (List Int)
  tp : List (Int × Int)
structure SpA where
  s : SlA
  t : SlA

def RdS (w : World) (a : SpA) (d : SpD) : Prop := RdL w a.s d.st ∧ RdP w a.t d.tp
theorem RdS.ext {w w' : World} {a : SpA} {d : SpD} (h : RdS w a d) (e : Ext w w') : RdS w' a d := ⟨h.1.ext e, h.2.ext e⟩
def OwS (w : World) (lo hi : Nat) (a : SpA) (d : SpD) : Prop := ∃ m1 : Nat, lo ≤ m1 ∧ m1 ≤ hi ∧ OwL w lo m1 a.s d.st ∧ OwP w m1 hi a.t d.tp
theorem OwS.ext {w w' : World} {lo hi : Nat} {a : SpA} {d : SpD} (h : OwS w lo hi a d) (e : Ext w w') : OwS w' lo hi a d := by
  obtain ⟨m1, q0, q1, o0, o1⟩ := h
  exact ⟨m1, q0, q1, o0.ext e, o1.ext e⟩
theorem OwS.chg {w w' : World} {lo hi : Nat} {a : SpA} {d : SpD} {D : Nat → Prop} (h : OwS w lo hi a d) (x : Chg D w w') (hD : ∀ k, lo ≤ k → k < hi → ¬ D k) : OwS w' lo hi a d := by
  obtain ⟨m1, q0, q1, o0, o1⟩ := h
  exact ⟨m1, q0, q1, o0.chg x (fun k h1 h2 => hD k (by omega) (by omega)), o1.chg x (fun k h1 h2 => hD k (by omega) (by omega))⟩
theorem OwS.mono {w : World} {lo hi lo' hi' : Nat} {a : SpA} {d : SpD} (h : OwS w lo hi a d) (h1 : lo' ≤ lo) (h2 : hi ≤ hi') : OwS w lo' hi' a d := by
  obtain ⟨m1, q0, q1, o0, o1⟩ := h
  exact ⟨m1, by omega, by omega, o0.mono h1 (Nat.le_refl _), o1.mono (Nat.le_refl _) h2⟩
theorem OwS.rd {w : World} {lo hi : Nat} {a : SpA} {d : SpD} (h : OwS w lo hi a d) : RdS w a d := by
  obtain ⟨m1, q0, q1, o0, o1⟩ := h
  exact ⟨o0.rd, o1.rd⟩
def BdS (d : SpD) : Prop := BdL d.st ∧ BdP d.tp
def mkS (k : Int) (d : SpD) : SpD := ⟨mkL (k) d.st, mkP (k + cntL d.st) d.tp⟩
def cntS (d : SpD) : Int := cntL d.st + cntP d.tp
theorem cntS_le {d : SpD} (h : BdS d) : 0 ≤ cntS d ∧ cntS d ≤ 16777216 := by
  unfold cntS
  have c0 := cntL_le h.1
  have c1 := cntP_le h.2
  omega
def leftS (left : Int) (d : SpD) : Int :=
  if (leftL left d.st) < 0 then -1 else if (leftP (leftL left d.st) d.tp) < 0 then -1 else (leftP (leftL left d.st) d.tp)
theorem leftS_ok {left : Int} {d : SpD} (h : ¬ leftS left d < 0) : BdS d ∨ (1048576 < left ∨ left < 0) := by
  unfold leftS at h
  split at h
  · exact absurd h (by omega)
  rename_i n0
  have g0 := @leftL_le left d.st
  have b0 := leftL_ok n0
  split at h
  · exact absurd h (by omega)
  rename_i n1
  have g1 := @leftP_le (leftL left d.st) d.tp
  have b1 := leftP_ok n1
  by_cases hl : 1048576 < left ∨ left < 0
  · exact .inr hl
  exact .inl ⟨b0.resolve_right (by omega), b1.resolve_right (by omega)⟩
theorem leftS_le {left : Int} {d : SpD} : leftS left d ≤ left ∨ left < 0 := by
  unfold leftS
  have g0 := @leftL_le left d.st
  have g1 := @leftP_le (leftL left d.st) d.tp
  split
  · omega
  split
  · omega
  omega

set_option maxHeartbeats 2000000 in
theorem szS_t (d : SpD) (a : SpA) (left : Int) (w : World) (h : RdS w a d) (h1 : 0 ≤ left) (h2 : left ≤ 1048576) :
    Calls Try.prog 31 #[.agg #[.slice a.s.A d.st.length a.s.c, .slice a.t.A d.tp.length a.t.c], .int .i64 left] w fun e w' => e = .returned (.int .i64 (leftS left d)) ∧ Ext w w' := by
  have hE := (Ext.refl w).alloc (.cells #[.slice a.s.A d.st.length a.s.c, .slice a.t.A d.tp.length a.t.c] 47)
  have HR := Lib.hid (h.ext hE)
  have HE := Lib.hid hE
  have HB := Lib.hid (Bx.new w [.slice a.s.A d.st.length a.s.c, .slice a.t.A d.tp.length a.t.c] 47)
  clear hE h
  obtain ⟨l1, hl1⟩ : ∃ l, l = leftL left d.st := ⟨_, rfl⟩
  obtain ⟨l2, hl2⟩ : ∃ l, l = leftP l1 d.tp := ⟨_, rfl⟩
  have g1 := @leftL_le left d.st; rw [← hl1] at g1
  by_cases n1 : l1 < 0
  · have HV := Lib.hid (show leftS left d = -1 by unfold leftS; rw [← hl1, if_pos n1])
    have HL1 := Lib.hid hl1.symm; have HL2 := Lib.hid hl2.symm; clear hl1 hl2
    go_enter Try.func31, Try.ntmps31
    have f0 := HB.out.c 0 rfl
    go_wp2_with fail
    refine (szL_t d.st a.s left _ (HR.out.1) (by omega) (by omega)).mono ?_
    rintro e w1 ⟨rfl, hx⟩
    rw [HL1.out]
    have HX1 := Lib.hid hx; have HB1 := Lib.hid (HB.out.ext hx); clear hx f0
    go_wp2
    go_ret
    exact ⟨ret_int HV.out.symm, HE.out.trans HX1.out⟩
  have g2 := @leftP_le l1 d.tp; rw [← hl2] at g2
  by_cases n2 : l2 < 0
  · have HV := Lib.hid (show leftS left d = -1 by unfold leftS; rw [← hl1, if_neg n1]; rw [← hl2, if_pos n2])
    have HL1 := Lib.hid hl1.symm; have HL2 := Lib.hid hl2.symm; clear hl1 hl2
    go_enter Try.func31, Try.ntmps31
    have f0 := HB.out.c 0 rfl
    go_wp2_with fail
    refine (szL_t d.st a.s left _ (HR.out.1) (by omega) (by omega)).mono ?_
    rintro e w1 ⟨rfl, hx⟩
    rw [HL1.out]
    have HX1 := Lib.hid hx; have HB1 := Lib.hid (HB.out.ext hx); clear hx f0
    have f1 := HB1.out.c 1 rfl
    go_wp2_with fail
    refine (szP_t d.tp a.t l1 _ (HR.out.2.ext HX1.out) (by omega) (by omega)).mono ?_
    rintro e w2 ⟨rfl, hx⟩
    rw [HL2.out]
    have HX2 := Lib.hid (HX1.out.trans hx); have HB2 := Lib.hid (HB1.out.ext hx); clear hx f1
    go_wp2
    go_ret
    exact ⟨ret_int HV.out.symm, HE.out.trans HX2.out⟩
  have HV := Lib.hid (show leftS left d = l2 by unfold leftS; rw [← hl1, if_neg n1]; rw [← hl2, if_neg n2])
  have HL1 := Lib.hid hl1.symm; have HL2 := Lib.hid hl2.symm; clear hl1 hl2
  go_enter Try.func31, Try.ntmps31
  have f0 := HB.out.c 0 rfl
  go_wp2_with fail
  refine (szL_t d.st a.s left _ (HR.out.1) (by omega) (by omega)).mono ?_
  rintro e w1 ⟨rfl, hx⟩
  rw [HL1.out]
  have HX1 := Lib.hid hx; have HB1 := Lib.hid (HB.out.ext hx); clear hx f0
  have f1 := HB1.out.c 1 rfl
  go_wp2_with fail
  refine (szP_t d.tp a.t l1 _ (HR.out.2.ext HX1.out) (by omega) (by omega)).mono ?_
  rintro e w2 ⟨rfl, hx⟩
  rw [HL2.out]
  have HX2 := Lib.hid (HX1.out.trans hx); have HB2 := Lib.hid (HB1.out.ext hx); clear hx f1
  go_wp2
  go_ret
  exact ⟨ret_int HV.out.symm, HE.out.trans HX2.out⟩

set_option maxHeartbeats 4000000 in
theorem toS_t (d : SpD) (a : SpA) (w : World) (h : RdS w a d) (hb : BdS d) :
    Calls Try.prog 33 #[.agg #[.slice a.s.A d.st.length a.s.c, .slice a.t.A d.tp.length a.t.c]] w fun e w' => ∃ b : SpA, e = .returned (.agg #[.slice b.s.A d.st.length b.s.c, .slice b.t.A d.tp.length b.t.c]) ∧ OwS w' w.heap.size w'.heap.size b d ∧ Ext w w' := by
  have hE : Ext w (((w.alloc (.cells #[.slice a.s.A d.st.length a.s.c, .slice a.t.A d.tp.length a.t.c] 47)).alloc (.cells #[.slice none 0 0, .slice none 0 0] 49)).alloc (.cells #[.slice none 0 0, .slice none 0 0] 49)) := (((Ext.refl w).alloc _).alloc _).alloc _
  have HRw0 := Lib.hid h.1; have HRw1 := Lib.hid h.2
  have HE := Lib.hid hE; have HBd := Lib.hid hb
  have hA0 := ((Bx.new w [.slice a.s.A d.st.length a.s.c, .slice a.t.A d.tp.length a.t.c] 47).alloc (.cells #[.slice none 0 0, .slice none 0 0] 49)).alloc (.cells #[.slice none 0 0, .slice none 0 0] 49)
  have hR0 := (Bx.new (w.alloc (.cells #[.slice a.s.A d.st.length a.s.c, .slice a.t.A d.tp.length a.t.c] 47)) [.slice none 0 0, .slice none 0 0] 49).alloc (.cells #[.slice none 0 0, .slice none 0 0] 49)
  have hO0 := Bx.new ((w.alloc (.cells #[.slice a.s.A d.st.length a.s.c, .slice a.t.A d.tp.length a.t.c] 47)).alloc (.cells #[.slice none 0 0, .slice none 0 0] 49)) [.slice none 0 0, .slice none 0 0] 49
  simp only [alloc_size] at hR0 hO0
  have BA := Lib.hid hA0; have BR := Lib.hid hR0; have BO := Lib.hid hO0; clear hE h hb hA0 hR0 hO0
  have EW := Lib.hid (Ext.refl (((w.alloc (.cells #[.slice a.s.A d.st.length a.s.c, .slice a.t.A d.tp.length a.t.c] 47)).alloc (.cells #[.slice none 0 0, .slice none 0 0] 49)).alloc (.cells #[.slice none 0 0, .slice none 0 0] 49)))
  have HZ := Lib.hid (show w.heap.size + 3 ≤ (((w.alloc (.cells #[.slice a.s.A d.st.length a.s.c, .slice a.t.A d.tp.length a.t.c] 47)).alloc (.cells #[.slice none 0 0, .slice none 0 0] 49)).alloc (.cells #[.slice none 0 0, .slice none 0 0] 49)).heap.size by simp only [alloc_size]; omega)
  go_enter Try.func33, Try.ntmps33
  have EV := Lib.hid (HE.out.trans EW.out)
  have fa0 := BA.out.c 0 rfl
  have fa1 := BA.out.c 1 rfl
  have fo0 := BO.out.c 0 rfl; have ff0 := BO.out.f 0 (Nat.lt_of_lt_of_eq (by decide : 0 < 2) rfl)
  have fo1 := BO.out.c 1 rfl; have ff1 := BO.out.f 1 (Nat.lt_of_lt_of_eq (by decide : 1 < 2) rfl)
  have fr0 := BR.out.c 0 rfl; have fg0 := BR.out.f 0 (Nat.lt_of_lt_of_eq (by decide : 0 < 2) rfl)
  have fr1 := BR.out.c 1 rfl; have fg1 := BR.out.f 1 (Nat.lt_of_lt_of_eq (by decide : 1 < 2) rfl)
  have S1 := Lib.hid BO.out.lt
  have Q2 := Lib.hid (EV.out.size)
  go_wp2_with fail
  refine (toL_t d.st a.s _ (HRw0.out.ext EV.out) HBd.out.1).mono ?_
  rintro e w3 ⟨b4, rfl, ho, hx⟩
  clear fa0 fa1 fo0 ff0 fo1 ff1 fr0 fg0 fr1 fg1
  have BA5 := Lib.hid (BA.out.ext hx); have BO6 := Lib.hid (BO.out.ext hx); have BR7 := Lib.hid (BR.out.ext hx); have E8 := Lib.hid (EV.out.trans hx)
  have HX9 := Lib.hid hx; have HO10 := Lib.hid ho; clear hx ho
  have K11 := Lib.hid (Chg.refl (fun k => k = w.heap.size + 1 + 1 ∨ k = w.heap.size + 1) w3)
  have fa0 := BA5.out.c 0 rfl
  have fa1 := BA5.out.c 1 rfl
  have fo0 := BO6.out.c 0 rfl; have ff0 := BO6.out.f 0 (Nat.lt_of_lt_of_eq (by decide : 0 < 2) rfl)
  have fo1 := BO6.out.c 1 rfl; have ff1 := BO6.out.f 1 (Nat.lt_of_lt_of_eq (by decide : 1 < 2) rfl)
  have fr0 := BR7.out.c 0 rfl; have fg0 := BR7.out.f 0 (Nat.lt_of_lt_of_eq (by decide : 0 < 2) rfl)
  have fr1 := BR7.out.c 1 rfl; have fg1 := BR7.out.f 1 (Nat.lt_of_lt_of_eq (by decide : 1 < 2) rfl)
  have BA12 := Lib.hid (BA5.out.beside (c := w.heap.size + 1 + 1) (k := 0) (by omega) (.slice b4.A d.st.length b4.c))
  have BR14 := Lib.hid (BR7.out.beside (c := w.heap.size + 1 + 1) (k := 0) (by omega) (.slice b4.A d.st.length b4.c))
  have BO13 := Lib.hid (BO6.out.set 0 (Nat.lt_of_lt_of_eq (by decide : 0 < 2) rfl) (.slice b4.A d.st.length b4.c))
  have E15 := Lib.hid (Ext.set (a := w) E8.out (b := w.heap.size + 1 + 1) (o := 0) (by omega) (.slice b4.A d.st.length b4.c))
  have K16 := Lib.hid (K11.out.set (b := w.heap.size + 1 + 1) (o := 0) (.inl rfl) (.slice b4.A d.st.length b4.c))
  have S17 := Lib.hid BO13.out.lt
  have Q18 := Lib.hid (K16.out.size)
  go_wp2_with fail
  refine (toP_t d.tp a.t _ (HRw1.out.ext E15.out) HBd.out.2).mono ?_
  rintro e w19 ⟨b20, rfl, ho, hx⟩
  clear fa0 fa1 fo0 ff0 fo1 ff1 fr0 fg0 fr1 fg1
  have BA21 := Lib.hid (BA12.out.ext hx); have BO22 := Lib.hid (BO13.out.ext hx); have BR23 := Lib.hid (BR14.out.ext hx); have E24 := Lib.hid (E15.out.trans hx)
  have HX25 := Lib.hid hx; have HO26 := Lib.hid ho; clear hx ho
  have K27 := Lib.hid (K16.out.trans (HX25.out.chg _) (fun _ _ h => h))
  have K28 := Lib.hid (Chg.refl (fun k => k = w.heap.size + 1 + 1 ∨ k = w.heap.size + 1) w19)
  have fa0 := BA21.out.c 0 rfl
  have fa1 := BA21.out.c 1 rfl
  have fo0 := BO22.out.c 0 rfl; have ff0 := BO22.out.f 0 (Nat.lt_of_lt_of_eq (by decide : 0 < 2) rfl)
  have fo1 := BO22.out.c 1 rfl; have ff1 := BO22.out.f 1 (Nat.lt_of_lt_of_eq (by decide : 1 < 2) rfl)
  have fr0 := BR23.out.c 0 rfl; have fg0 := BR23.out.f 0 (Nat.lt_of_lt_of_eq (by decide : 0 < 2) rfl)
  have fr1 := BR23.out.c 1 rfl; have fg1 := BR23.out.f 1 (Nat.lt_of_lt_of_eq (by decide : 1 < 2) rfl)
  have BA29 := Lib.hid (BA21.out.beside (c := w.heap.size + 1 + 1) (k := 1) (by omega) (.slice b20.A d.tp.length b20.c))
  have BR31 := Lib.hid (BR23.out.beside (c := w.heap.size + 1 + 1) (k := 1) (by omega) (.slice b20.A d.tp.length b20.c))
  have BO30 := Lib.hid (BO22.out.set 1 (Nat.lt_of_lt_of_eq (by decide : 1 < 2) rfl) (.slice b20.A d.tp.length b20.c))
  have E32 := Lib.hid (Ext.set (a := w) E24.out (b := w.heap.size + 1 + 1) (o := 1) (by omega) (.slice b20.A d.tp.length b20.c))
  have K33 := Lib.hid (K27.out.set (b := w.heap.size + 1 + 1) (o := 1) (.inl rfl) (.slice b20.A d.tp.length b20.c))
  have K34 := Lib.hid (K28.out.set (b := w.heap.size + 1 + 1) (o := 1) (.inl rfl) (.slice b20.A d.tp.length b20.c))
  go_wp2
  refine bodyPost_ret (v := .agg #[.slice (⟨b4, b20⟩ : SpA).s.A d.st.length (⟨b4, b20⟩ : SpA).s.c, .slice (⟨b4, b20⟩ : SpA).t.A d.tp.length (⟨b4, b20⟩ : SpA).t.c]) (by simp [results, Try.results33, go_sem, fa0, fa1, fo0, ff0, fo1, ff1, fr0, fg0, fr1, fg1]) rfl ⟨⟨b4, b20⟩, rfl, ?_, ?_⟩
  have hcb4 := K33.out
  replace hcb4 := hcb4.set (b := w.heap.size + 1) (o := 0) (.inr rfl) (.slice (⟨b4, b20⟩ : SpA).s.A d.st.length (⟨b4, b20⟩ : SpA).s.c)
  replace hcb4 := hcb4.set (b := w.heap.size + 1) (o := 1) (.inr rfl) (.slice (⟨b4, b20⟩ : SpA).t.A d.tp.length (⟨b4, b20⟩ : SpA).t.c)
  have hsb4 := S1.out
  have hcb20 := K34.out
  replace hcb20 := hcb20.set (b := w.heap.size + 1) (o := 0) (.inr rfl) (.slice (⟨b4, b20⟩ : SpA).s.A d.st.length (⟨b4, b20⟩ : SpA).s.c)
  replace hcb20 := hcb20.set (b := w.heap.size + 1) (o := 1) (.inr rfl) (.slice (⟨b4, b20⟩ : SpA).t.A d.tp.length (⟨b4, b20⟩ : SpA).t.c)
  have hsb20 := S17.out
  · exact ⟨w3.heap.size, Nat.le_trans Q2.out HX9.out.size, Nat.le_trans (Nat.le_trans Q18.out HX25.out.size) hcb20.size, (HO10.out.chg hcb4 (fun k h1 _ h => by rcases h with h | h <;> omega)).mono Q2.out (Nat.le_refl _), (HO26.out.chg hcb20 (fun k h1 _ h => by rcases h with h | h <;> omega)).mono Q18.out hcb20.size⟩
  · have he := E32.out
    replace he := Ext.set (a := w) he (b := w.heap.size + 1) (o := 0) (by omega) (.slice (⟨b4, b20⟩ : SpA).s.A d.st.length (⟨b4, b20⟩ : SpA).s.c)
    replace he := Ext.set (a := w) he (b := w.heap.size + 1) (o := 1) (by omega) (.slice (⟨b4, b20⟩ : SpA).t.A d.tp.length (⟨b4, b20⟩ : SpA).t.c)
    exact he

set_option maxHeartbeats 2000000 in
theorem eqS_t (d : SpD) (a b : SpA) (w : World) (h1 : RdS w a d) (h2 : RdS w b d) :
    Calls Try.prog 36 #[.agg #[.slice a.s.A d.st.length a.s.c, .slice a.t.A d.tp.length a.t.c], .agg #[.slice b.s.A d.st.length b.s.c, .slice b.t.A d.tp.length b.t.c]] w fun e w' => e = .returned (.bool true) ∧ Ext w w' := by
  have hE : Ext w ((w.alloc (.cells #[.slice a.s.A d.st.length a.s.c, .slice a.t.A d.tp.length a.t.c] 49)).alloc (.cells #[.slice b.s.A d.st.length b.s.c, .slice b.t.A d.tp.length b.t.c] 49)) := ((Ext.refl w).alloc _).alloc _
  have H1 := Lib.hid (h1.ext hE); have H2 := Lib.hid (h2.ext hE); have HE := Lib.hid hE
  have hA := (Bx.new w [.slice a.s.A d.st.length a.s.c, .slice a.t.A d.tp.length a.t.c] 49).alloc (.cells #[.slice b.s.A d.st.length b.s.c, .slice b.t.A d.tp.length b.t.c] 49)
  have hB := Bx.new (w.alloc (.cells #[.slice a.s.A d.st.length a.s.c, .slice a.t.A d.tp.length a.t.c] 49)) [.slice b.s.A d.st.length b.s.c, .slice b.t.A d.tp.length b.t.c] 49
  simp only [alloc_size] at hB
  have BA := Lib.hid hA; have BB := Lib.hid hB; clear hE h1 h2 hA hB
  have EW := Lib.hid (Ext.refl ((w.alloc (.cells #[.slice a.s.A d.st.length a.s.c, .slice a.t.A d.tp.length a.t.c] 49)).alloc (.cells #[.slice b.s.A d.st.length b.s.c, .slice b.t.A d.tp.length b.t.c] 49)))
  go_enter Try.func36, Try.ntmps36
  have fa0 := BA.out.c 0 rfl; have fb0 := BB.out.c 0 rfl
  have fa1 := BA.out.c 1 rfl; have fb1 := BB.out.c 1 rfl
  go_wp2_with fail
  refine (eqL_t d.st a.s b.s _ (H1.out.1.ext EW.out) (H2.out.1.ext EW.out)).mono ?_
  rintro e w35 ⟨rfl, hx⟩
  have BA36 := Lib.hid (BA.out.ext hx); have BB37 := Lib.hid (BB.out.ext hx); have E38 := Lib.hid (EW.out.trans hx); clear hx fa0 fb0 fa1 fb1
  have fa0 := BA36.out.c 0 rfl; have fb0 := BB37.out.c 0 rfl
  have fa1 := BA36.out.c 1 rfl; have fb1 := BB37.out.c 1 rfl
  go_wp2_with fail
  refine (eqP_t d.tp a.t b.t _ (H1.out.2.ext E38.out) (H2.out.2.ext E38.out)).mono ?_
  rintro e w39 ⟨rfl, hx⟩
  have BA40 := Lib.hid (BA36.out.ext hx); have BB41 := Lib.hid (BB37.out.ext hx); have E42 := Lib.hid (E38.out.trans hx); clear hx fa0 fb0 fa1 fb1
  have fa0 := BA40.out.c 0 rfl; have fb0 := BB41.out.c 0 rfl
  have fa1 := BA40.out.c 1 rfl; have fb1 := BB41.out.c 1 rfl
  go_wp2
  go_ret
  exact ⟨rfl, HE.out.trans E42.out⟩

set_option maxHeartbeats 2000000 in
theorem markS_t (d : SpD) (a : SpA) (lo hi : Nat) (k : Int) (w : World) (h : OwS w lo hi a d) (hh : hi ≤ w.heap.size) (hb : BdS d) (h0 : 0 ≤ k) (h1 : k ≤ 536870912) :
    Calls Try.prog 37 #[.agg #[.slice a.s.A d.st.length a.s.c, .slice a.t.A d.tp.length a.t.c], .int .i64 k] w fun e w' => e = .returned (.int .i64 (k + cntS d)) ∧ OwS w' lo hi a (mkS k d) ∧ Chg (fun b => lo ≤ b ∧ b < hi) w w' := by
  obtain ⟨m1, q0, q1, o0, o1⟩ := h
  have c0 := cntL_le hb.1; have HC0 := Lib.hid c0
  have c1 := cntP_le hb.2; have HC1 := Lib.hid c1
  have O0 := Lib.hid (o0.ext ((Ext.refl w).alloc (.cells #[.slice a.s.A d.st.length a.s.c, .slice a.t.A d.tp.length a.t.c] 49))); clear o0
  have O1 := Lib.hid (o1.ext ((Ext.refl w).alloc (.cells #[.slice a.s.A d.st.length a.s.c, .slice a.t.A d.tp.length a.t.c] 49))); clear o1
  have BA := Lib.hid (Bx.new w [.slice a.s.A d.st.length a.s.c, .slice a.t.A d.tp.length a.t.c] 49); have HB := Lib.hid hb; clear hb
  have CH := Lib.hid (((Ext.refl w).alloc (.cells #[.slice a.s.A d.st.length a.s.c, .slice a.t.A d.tp.length a.t.c] 49)).chg (fun b => lo ≤ b ∧ b < hi))
  have HS := Lib.hid (Nat.le_of_lt (Nat.lt_of_le_of_lt hh (Nat.lt_of_lt_of_eq (Nat.lt_succ_self _) (alloc_size w (.cells #[.slice a.s.A d.st.length a.s.c, .slice a.t.A d.tp.length a.t.c] 49)).symm)))
  have HQ := Lib.hid (show lo ≤ hi by omega)
  have Hq0 := Lib.hid q0
  have Hq1 := Lib.hid q1
  have Hh := Lib.hid hh; clear hh HQ q0 q1
  go_enter Try.func37, Try.ntmps37
  have fa0 := BA.out.c 0 rfl
  have fa1 := BA.out.c 1 rfl
  go_wp2_with fail
  refine (markL_t d.st a.s _ _ (k) _ O0.out (by have y0 := Hq0.out; have y1 := Hq1.out; have yh := Hh.out; have ys := HS.out; omega) HB.out.1 (by omega) (by omega)).mono ?_
  rintro e w43 ⟨rfl, ho, hch⟩
  have N0_0 := Lib.hid ho
  have N0_1 := Lib.hid (O1.out.chg hch (fun k h1 h2 h => by have y0 := Hq0.out; have y1 := Hq1.out; have yh := Hh.out; (try simp only at h); omega))
  have BA44 := Lib.hid (BA.out.chg hch (fun h => by have y0 := Hq0.out; have y1 := Hq1.out; have yh := Hh.out; (try simp only at h); omega))
  have CH45 := Lib.hid (CH.out.trans hch (fun k _ h => by have y0 := Hq0.out; have y1 := Hq1.out; have yh := Hh.out; (try simp only at h ⊢); omega))
  have HS46 := Lib.hid (Nat.le_trans HS.out hch.size)
  clear ho hch fa0 fa1
  have fa0 := BA44.out.c 0 rfl
  have fa1 := BA44.out.c 1 rfl
  go_wp2_with fail
  refine (markP_t d.tp a.t _ _ (k + cntL d.st) _ N0_1.out (by have y0 := Hq0.out; have y1 := Hq1.out; have yh := Hh.out; have ys := HS46.out; omega) HB.out.2 (by omega) (by omega)).mono ?_
  rintro e w47 ⟨rfl, ho, hch⟩
  have N1_0 := Lib.hid (N0_0.out.chg hch (fun k h1 h2 h => by have y0 := Hq0.out; have y1 := Hq1.out; have yh := Hh.out; (try simp only at h); omega))
  have N1_1 := Lib.hid ho
  have BA48 := Lib.hid (BA44.out.chg hch (fun h => by have y0 := Hq0.out; have y1 := Hq1.out; have yh := Hh.out; (try simp only at h); omega))
  have CH49 := Lib.hid (CH45.out.trans hch (fun k _ h => by have y0 := Hq0.out; have y1 := Hq1.out; have yh := Hh.out; (try simp only at h ⊢); omega))
  have HS50 := Lib.hid (Nat.le_trans HS46.out hch.size)
  clear ho hch fa0 fa1
  go_wp2
  go_ret
  exact ⟨ret_int (by unfold cntS; omega), ⟨m1, Hq0.out, Hq1.out, N1_0.out, N1_1.out⟩, CH49.out⟩

set_option maxHeartbeats 2000000 in
theorem heldS_t (d : SpD) (a : SpA) (k : Int) (w : World) (h : RdS w a (mkS k d)) (hb : BdS d) (h0 : 0 ≤ k) (h1 : k ≤ 536870912) :
    Calls Try.prog 38 #[.agg #[.slice a.s.A d.st.length a.s.c, .slice a.t.A d.tp.length a.t.c], .int .i64 k] w fun e w' => e = .returned (.int .i64 (k + cntS d)) ∧ Ext w w' := by
  have hE := (Ext.refl w).alloc (.cells #[.slice a.s.A d.st.length a.s.c, .slice a.t.A d.tp.length a.t.c] 49)
  have c0 := cntL_le hb.1; have R0 := Lib.hid (show RdL _ a.s (mkL (k) d.st) from (h.ext hE).1)
  have c1 := cntP_le hb.2; have R1 := Lib.hid (show RdP _ a.t (mkP (k + cntL d.st) d.tp) from (h.ext hE).2)
  have hn0 : decide (k + cntL d.st < 0) = false := by rw [decide_eq_false_iff_not]; omega
  have hn1 : decide (k + cntL d.st + cntP d.tp < 0) = false := by rw [decide_eq_false_iff_not]; omega
  have BA := Lib.hid (Bx.new w [.slice a.s.A d.st.length a.s.c, .slice a.t.A d.tp.length a.t.c] 49); have HB := Lib.hid hb; have HE := Lib.hid hE; clear hE h hb
  have EW := Lib.hid (Ext.refl (w.alloc (.cells #[.slice a.s.A d.st.length a.s.c, .slice a.t.A d.tp.length a.t.c] 49)))
  go_enter Try.func38, Try.ntmps38
  have fa0 := BA.out.c 0 rfl
  have fa1 := BA.out.c 1 rfl
  go_wp2_with fail
  refine (heldL_t d.st a.s (k) _ (R0.out.ext EW.out) HB.out.1 (by omega) (by omega)).mono ?_
  rintro e w51 ⟨rfl, hx⟩
  have BA52 := Lib.hid (BA.out.ext hx); have E53 := Lib.hid (EW.out.trans hx); clear hx fa0 fa1
  have fa0 := BA52.out.c 0 rfl
  have fa1 := BA52.out.c 1 rfl
  go_wp2_with fail
  refine (heldP_t d.tp a.t (k + cntL d.st) _ (R1.out.ext E53.out) HB.out.2 (by omega) (by omega)).mono ?_
  rintro e w54 ⟨rfl, hx⟩
  have BA55 := Lib.hid (BA52.out.ext hx); have E56 := Lib.hid (E53.out.trans hx); clear hx fa0 fa1
  go_wp2
  go_ret
  exact ⟨ret_int (by unfold cntS; omega), HE.out.trans E56.out⟩
end Go.Proofs.Ytkfbkflneppggaa
