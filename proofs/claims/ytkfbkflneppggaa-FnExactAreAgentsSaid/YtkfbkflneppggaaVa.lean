/-
  The program's AreAgents and the reference's, both as one Bool. Conditions: none.
-/
import Derived.Test.YtkfbkflneppggaaVt
import Derived.Test.YtkfbkflneppggaaVc
import Derived.Test.YtkfbkflneppggaaSq
import Derived.Test.YtkfbkflneppggaaUp
namespace Go.Proofs.Ytkfbkflneppggaa
open Go.RowKit
set_option linter.unusedVariables false
set_option linter.unusedSimpArgs false

/-- Is a list one of agents in a space of N states? -/
def agB (N : Int) (xs : List Int) : Bool := inB xs.length 1 3 && (decide xs.Nodup && !(xs.any fun i => !inB i 0 (N - 1)))
def okAg (N : Int) (xs : List Int) (j : Nat) : Bool := inB (gI xs j) 0 (N - 1) && !hasB (xs.take j) (gI xs j)
theorem nodup_gI {xs : List Int} : xs.Nodup ↔ ∀ i j, i < j → j < xs.length → gI xs i ≠ gI xs j := by
  rw [List.Nodup, List.pairwise_iff_getElem]
  constructor
  · intro h i j hij hj
    rw [gI_eq xs i (by omega), gI_eq xs j hj]; exact h i j (by omega) hj hij
  · intro h i j hi hj hij
    rw [← gI_eq xs i hi, ← gI_eq xs j hj]; exact h i j hij hj
theorem has_take {xs : List Int} {j : Nat} (hj : j < xs.length) : hasB (xs.take j) (gI xs j) = true ↔ ∃ i, i < j ∧ gI xs i = gI xs j := by
  unfold hasB
  rw [List.contains_iff_mem, List.mem_take_iff_getElem]
  constructor
  · rintro ⟨i, hi, h⟩
    exact ⟨i, by omega, by rw [gI_eq xs i (by omega)]; exact h⟩
  · rintro ⟨i, hi, h⟩
    exact ⟨i, by omega, by rw [← gI_eq xs i (by omega)]; exact h⟩
theorem any_out {xs : List Int} {N : Int} : (xs.any fun i => !inB i 0 (N - 1)) = false ↔ ∀ j, j < xs.length → inB (gI xs j) 0 (N - 1) = true := by
  rw [Bool.eq_false_iff, Ne, List.any_eq_true]
  constructor
  · intro h j hj
    cases q : inB (gI xs j) 0 (N - 1) with
    | true => rfl
    | false => exact absurd ⟨gI xs j, by rw [gI_eq xs j hj]; exact List.getElem_mem _, by rw [q]; rfl⟩ h
  · rintro h ⟨x, hx, hq⟩
    obtain ⟨j, hj, rfl⟩ := List.getElem_of_mem hx
    rw [← gI_eq xs j hj, h j hj] at hq; exact absurd hq (by simp)
theorem agB_true {N : Int} {xs : List Int} (h : ∀ j, j < xs.length → okAg N xs j = true) : agB N xs = inB xs.length 1 3 := by
  have h1 : xs.Nodup := nodup_gI.2 fun i j hij hj e => by
    have := h j hj
    simp only [okAg, Bool.and_eq_true, Bool.not_eq_true'] at this
    rw [(has_take hj).2 ⟨i, hij, e⟩] at this; exact absurd this.2 (by simp)
  have h2 : (xs.any fun i => !inB i 0 (N - 1)) = false := any_out.2 fun j hj => by
    have := h j hj
    simp only [okAg, Bool.and_eq_true] at this; exact this.1
  rw [agB, h2, decide_eq_true h1]; simp
theorem agB_false {N : Int} {xs : List Int} {k : Nat} (hk : k < xs.length) (h : okAg N xs k = false) : agB N xs = false := by
  rw [Bool.eq_false_iff]; intro hg
  simp only [agB, Bool.and_eq_true, decide_eq_true_eq, Bool.not_eq_true'] at hg
  obtain ⟨_, h1, h2⟩ := hg
  have h3 := any_out.1 h2 k hk
  have h4 : hasB (xs.take k) (gI xs k) = false := by
    rw [Bool.eq_false_iff]; intro e
    obtain ⟨i, hi, e⟩ := (has_take hk).1 e
    exact nodup_gI.1 h1 i k hi hk e
  simp [okAg, h3, h4] at h
theorem srt_apart {ys : List Int} {n : Nat} (hl : ys.length = n) (hs : srt ys n) : apart ys n ↔ ys.Nodup := by
  constructor
  · intro ha
    refine nodup_gI.2 fun i j hij hj e => ?_
    have h1 : gI ys (j - 1) ≤ gI ys j := hs (j - 1) j (by omega) (by omega)
    have h2 := ha j (by omega) (by omega)
    have h3 : gI ys i ≤ gI ys (j - 1) := by
      by_cases hij2 : i = j - 1
      · rw [hij2]; exact Int.le_refl _
      · exact hs i (j - 1) (by omega) (by omega)
    omega
  · intro hn j h0 h1
    exact nodup_gI.1 hn (j - 1) j (by omega) (by omega)

theorem SlI.take {w : World} {A : Option Addr} {n : Nat} {xs : List Int} (h : SlI w A n xs) (k : Nat) (hk : k ≤ n) : SlI w A k (xs.take k) := by
  have hl := h.len
  refine ⟨by simp [ints]; omega, by have := h.le; omega, fun h0 => ?_⟩
  obtain ⟨b, o, hA, hb, hc⟩ := h.2.2 (by omega)
  refine ⟨b, o, hA, hb, fun j u hj => hc j u ?_⟩
  have hj2 : j < k := by have := (List.getElem?_eq_some_iff.1 hj).1; simp [ints] at this; omega
  simp only [ints, List.getElem?_map, List.getElem?_take] at hj ⊢
  rw [if_pos hj2] at hj; exact hj

/-! ### The program's -/
set_option maxHeartbeats 400000 in
theorem isPlace_c (d : SpD) (a : SpA) (i : Int) (w : World) (hm : d.st.length ≤ 9223372036854775807) :
    Calls Try.prog 142 #[.agg #[.slice a.s.A d.st.length a.s.c, .slice a.t.A d.tp.length a.t.c], .int .i64 i] w fun e w' => e = .returned (.bool (inB i 0 ((d.st.length : Int) - 1))) ∧ Ext w w' := by
  have HE := Lib.hid ((Ext.refl w).alloc (.cells #[.slice a.s.A d.st.length a.s.c, .slice a.t.A d.tp.length a.t.c] 49))
  have f0 := cell_new w #[.slice a.s.A d.st.length a.s.c, .slice a.t.A d.tp.length a.t.c] 49 0 _ rfl
  have hw : IntKind.i64.wrap ((d.st.length : Int) - 1) = (d.st.length : Int) - 1 := IntWalk.i64_in _ (by omega)
  go_enter Try.func142, Try.ntmps142
  go_wp2_with (go_at_call 76; refine (between_c _ _ _ _).mono ?_; rintro e w1 ⟨rfl, rfl⟩)
  go_ret
  exact ⟨rfl, HE.out⟩
set_option maxHeartbeats 400000 in
theorem agOne_c (d : SpD) (a : SpA) (i : Int) (bx : Nat) (W : World) (hm : d.st.length ≤ 9223372036854775807) (hb : Bx W bx [.slice a.s.A d.st.length a.s.c, .slice a.t.A d.tp.length a.t.c]) :
    Calls Try.prog 141 #[.int .i64 i, .pointer (some ⟨bx, 0, none⟩)] W fun e w' => e = .returned (.bool (!inB i 0 ((d.st.length : Int) - 1))) ∧ Ext W w' := by
  have f0 := hb.c 0 rfl; have f1 := hb.c 1 rfl
  have HM := Lib.hid hm
  clear hb hm
  go_enter Try.func141, Try.ntmps141
  go_wp2_with fail
  refine (isPlace_c d a i _ HM.out).mono ?_
  rintro e w1 ⟨rfl, hx⟩
  have HX := Lib.hid hx; clear hx
  go_wp2
  go_ret
  exact ⟨rfl, HX.out⟩

set_option maxHeartbeats 4000000 in
theorem areAgents_c (d : SpD) (a : SpA) (xs : List Int) (b : SlA) (w : World) (hm : d.st.length ≤ 9223372036854775807) (h : RdI w b xs) :
    Calls Try.prog 85 #[.agg #[.slice a.s.A d.st.length a.s.c, .slice a.t.A d.tp.length a.t.c], .slice b.A xs.length b.c] w fun e w' => e = .returned (.bool (agB d.st.length xs)) ∧ Ext w w' := by
  obtain ⟨W, hW⟩ : ∃ W, W = w.alloc (.cells #[.slice a.s.A d.st.length a.s.c, .slice a.t.A d.tp.length a.t.c] 49) := ⟨_, rfl⟩
  have hE : Ext w W := by rw [hW]; exact (Ext.refl w).alloc _
  have hB : Bx W w.heap.size [.slice a.s.A d.st.length a.s.c, .slice a.t.A d.tp.length a.t.c] := by rw [hW]; exact Bx.new w _ _
  have hlm := SlI.le h
  have HR := Lib.hid (h.ext hE); have HE := Lib.hid hE; have HW := Lib.hid hW; have HB := Lib.hid hB; have HM := Lib.hid hm
  clear h hE hB hW hm
  cases q : inB (xs.length : Int) 1 3 with
  | false =>
    have HV := Lib.hid (show agB d.st.length xs = false by rw [agB, q]; rfl)
    go_enter Try.func85, Try.ntmps85
    go_wp2_with fail
    rw [← HW.out]
    refine (between_c (xs.length : Int) 1 3 _).mono ?_
    rw [q]
    rintro e w1 ⟨rfl, rfl⟩
    go_wp2
    go_ret
    exact ⟨ret_bool HV.out.symm, HE.out⟩
  | true =>
    have h3 : xs.length ≤ 3 := by have := (inB_true.1 q).2; omega
    obtain ⟨n, hn⟩ : ∃ n, n = xs.length := ⟨_, rfl⟩
    have HN := Lib.hid hn; have HQ := Lib.hid q
    rw [← hn] at hlm h3 q ⊢
    clear hn
    have HR2 := Lib.hid (show SlI W b.A n xs by rw [HN.out]; exact HR.out)
    go_enter Try.func85, Try.ntmps85
    go_wp2_with fail
    rw [← HW.out]
    refine (between_c (n : Int) 1 3 _).mono ?_
    rw [q]
    rintro e w1 ⟨rfl, rfl⟩
    go_wp2_with fail
    refine (Values_c b.A n b.c _).mono ?_
    rintro e w2 ⟨rfl, hw2⟩
    have hx : Ext W w2 := by rw [← hw2]; exact (Ext.refl W).alloc _
    have hc : w2.cell? ⟨W.heap.size, 0, none⟩ = some (.slice b.A xs.length b.c) := by rw [← hw2, ← HN.out]; exact cell_new W _ _ 0 _ rfl
    have HX := Lib.hid hx; have HC := Lib.hid hc
    clear hw2 hx hc
    go_wp2_with fail
    refine (Sorted_c W.heap.size b.c b.A xs _ HC.out (HR.out.ext HX.out) (by have := HN.out; omega)).mono ?_
    rintro e w3 ⟨A', c', ys, rfl, hp, hs, ho, hx⟩
    rw [← HN.out] at hs ho ⊢
    have HP := Lib.hid hp; have HS := Lib.hid hs; have HO := Lib.hid ho; have HX3 := Lib.hid (HX.out.trans hx)
    clear hp hs ho hx
    go_wp2_with fail
    refine (Compact_c A' n c' w2.heap.size ys _ HO.out (by omega)).mono ?_
    rintro e w4 ⟨A4, m, c4, rfl, hiff, hmn, hch⟩
    have hx4 : Ext W w4 := hch.ext HX3.out (fun k hk => by have := (HO.out.lt k hk).1; have := HX.out.size; omega)
    have HX4 := Lib.hid hx4
    have hnd : m = n ↔ xs.Nodup := hiff.trans ((srt_apart (by rw [HP.out.length_eq, ← HN.out]) HS.out).trans HP.out.nodup_iff)
    clear hiff hch hx4
    by_cases hN : xs.Nodup
    · have e1 : m = n := hnd.2 hN
      subst e1
      have HT := Lib.hid (show TellsI 141 #[.pointer (some ⟨w.heap.size, 0, none⟩)] (fun i => !inB i 0 ((d.st.length : Int) - 1)) xs w4 from fun V i hV _ => agOne_c d a i _ V HM.out ((HB.out.ext HX4.out).ext hV))
      have HN1 := Lib.hid (enters_of Try.func141 (by kernel_rfl) rfl)
      have HV := Lib.hid (show agB d.st.length xs = !(xs.any fun i => !inB i 0 ((d.st.length : Int) - 1)) by rw [agB, HQ.out, decide_eq_true hN]; rfl)
      clear hnd hN
      have hq : ((m : Int) == (m : Int)) = true := by simp
      go_wp2_with fail
      refine (ContainsFuncI_c b.A m b.c xs _ _ _ _ (HR2.out.ext HX4.out) HN1.out HT.out).mono ?_
      rintro e w5 ⟨rfl, hx⟩
      have HX5 := Lib.hid (HX4.out.trans hx); clear hx
      go_wp2
      go_ret
      exact ⟨ret_bool HV.out.symm, HE.out.trans HX5.out⟩
    · have hne : ((m : Int) == (n : Int)) = false := by
        have : m ≠ n := fun e => hN (hnd.1 e)
        simp; omega
      have HV := Lib.hid (show agB d.st.length xs = false by rw [agB, HQ.out, decide_eq_false hN]; rfl)
      have hne' : m ≠ n := fun e => hN (hnd.1 e)
      clear hnd hN
      go_wp2
      go_ret
      exact ⟨ret_bool HV.out.symm, HE.out.trans HX4.out⟩

/-! ### The reference's -/
set_option maxHeartbeats 2000000 in
theorem l11Agents_c (d : SpD) (a : SpA) (xs : List Int) (b : SlA) (w : World) (hm : d.st.length ≤ 9223372036854775807) (h : RdI w b xs) (hcap : xs.length ≤ b.c) :
    Calls Try.prog 83 #[.agg #[.slice a.s.A d.st.length a.s.c, .slice a.t.A d.tp.length a.t.c], .slice b.A xs.length b.c] w fun e w' => e = .returned (.bool (agB d.st.length xs)) ∧ Ext w w' := by
  obtain ⟨W, hW⟩ : ∃ W, W = w.alloc (.cells #[.slice a.s.A d.st.length a.s.c, .slice a.t.A d.tp.length a.t.c] 49) := ⟨_, rfl⟩
  have hE : Ext w W := by rw [hW]; exact (Ext.refl w).alloc _
  have hB : Bx W w.heap.size [.slice a.s.A d.st.length a.s.c, .slice a.t.A d.tp.length a.t.c] := by rw [hW]; exact Bx.new w _ _
  have hlm := SlI.le h
  have HR := Lib.hid (h.ext hE); have HE := Lib.hid hE; have HW := Lib.hid hW; have HB := Lib.hid hB
  clear h hE hB hW
  obtain ⟨N, hN⟩ : ∃ N, N = (d.st.length : Int) - 1 := ⟨_, rfl⟩
  have hw : IntKind.i64.wrap ((d.st.length : Int) - 1) = N := by rw [hN]; exact IntWalk.i64_in _ (by omega)
  have HNN := Lib.hid hN
  clear hN
  go_enter Try.func83, Try.ntmps83
  go_wp2
  rw [← HW.out]
  go_loopw [5] (fun i wr => ∃ k : Nat, k ≤ xs.length ∧ i = .int .i64 k ∧ Ext W wr ∧ ∀ j, j < k → okAg d.st.length xs j = true) (fun i _ => xs.length - (intOf i).toNat)
  case atStart => exact ⟨0, Nat.zero_le _, rfl, Ext.refl _, fun j hj => absurd hj (by omega)⟩
  case round =>
    obtain ⟨k, hk, rfl, hx, hok⟩ := hrel
    have HOk := Lib.hid hok; clear hok
    by_cases hlt : k < xs.length
    · obtain ⟨b1, o1, hA, c1⟩ := (HR.out.ext hx).at k hlt
      have f0 := (HB.out.ext hx).c 0 rfl
      have HX := Lib.hid hx; have HA := Lib.hid hA
      have i0 : (0 : Int) ≤ (k : Int) := by omega
      have i1 : (k : Int) < (xs.length : Int) := by omega
      have i2 : k ≤ b.c := by omega
      have i3 : (k : Int) ≤ (b.c : Int) := by omega
      rw [hA]
      clear hx
      cases q1 : inB (gI xs k) 0 N with
      | false =>
        have HK := Lib.hid (agB_false (N := d.st.length) hlt (by rw [okAg, ← HNN.out, q1]; rfl))
        go_wp2_with fail
        go_quiet ((go_at_call 71; exact quiet_eq (l1In_c _ _ _ _)))
        go_wp2
        go_ret
        exact ⟨ret_bool HK.out.symm, HE.out.trans (HX.out.drewN _)⟩
      | true =>
        have HH := Lib.hid (fun (V : World) (h : Ext wr V) (c : Nat) => l1Has_c (some ⟨b1, o1, none⟩) k c (xs.take k) (gI xs k) V (by
          have := ((HR.out.ext HX.out).ext h)
          unfold RdI at this
          rw [HA.out] at this
          exact SlI.take this k (by omega)))
        cases q2 : hasB (xs.take k) (gI xs k) with
        | true =>
          have HK := Lib.hid (agB_false (N := d.st.length) hlt (by rw [okAg, q2]; simp))
          go_wp2_with fail
          go_quiet (first
            | (go_at_call 71; exact quiet_eq (l1In_c _ _ _ _))
            | (go_at_call 135; exact quiet_eq (HH.out _ ((Ext.refl _).drewN _) _)))
          go_wp2
          go_ret
          exact ⟨ret_bool HK.out.symm, HE.out.trans (HX.out.drewN _)⟩
        | false =>
          have HK := Lib.hid (show okAg d.st.length xs k = true by rw [okAg, ← HNN.out, q1, q2]; rfl)
          go_wp2_with fail
          go_quiet (first
            | (go_at_call 71; exact quiet_eq (l1In_c _ _ _ _))
            | (go_at_call 135; exact quiet_eq (HH.out _ ((Ext.refl _).drewN _) _)))
          go_wp2
          go_roundw
          case rel => exact ⟨k + 1, by omega, by go_num, HX.out.drewN _, all_next HOk.out HK.out⟩
          case measure => simp [intOf]; omega
    · have hk' : k = xs.length := by omega
      subst hk'
      have HV := Lib.hid (agB_true HOk.out)
      have HX := Lib.hid hx; clear hx
      go_wp2_with (go_at_call 71; refine (l1In_c _ _ _ _).mono ?_; rintro e w1 ⟨rfl, rfl⟩)
      go_ret
      exact ⟨ret_bool HV.out.symm, HE.out.trans HX.out⟩

/-! ### Both -/
def aaV (d : SpD) (xs : List Int) : Bool := spB d && agB d.st.length xs
set_option maxHeartbeats 2000000 in
theorem AreAgentsI_c (d : SpD) (a : SpA) (xs : List Int) (b : SlA) (w : World) (h : RdS w a d) (hb : RdI w b xs) :
    Calls Try.prog 40 #[.agg #[.slice a.s.A d.st.length a.s.c, .slice a.t.A d.tp.length a.t.c], .slice b.A xs.length b.c] w fun e w' => e = .returned (.tuple #[.bool (aaV d xs), .bool (spB d)]) ∧ Ext w w' := by
  have hE := (Ext.refl w).alloc (.cells #[.slice a.s.A d.st.length a.s.c, .slice a.t.A d.tp.length a.t.c] 49)
  have HR := Lib.hid (h.ext hE); have HI := Lib.hid (hb.ext hE); have HE := Lib.hid hE
  have HB := Lib.hid (Bx.new w [.slice a.s.A d.st.length a.s.c, .slice a.t.A d.tp.length a.t.c] 49)
  have HM := Lib.hid h.1.le
  clear hE h hb
  cases q : spB d with
  | false =>
    have HV := Lib.hid (show aaV d xs = false by rw [aaV, q]; rfl)
    rw [HV.out]
    have f0 := HB.out.c 0 rfl; have f1 := HB.out.c 1 rfl
    go_enter Try.func40, Try.ntmps40
    go_wp2_with fail
    refine (IsSpace_c d a _ HR.out).mono ?_
    rw [q]
    rintro e w1 ⟨rfl, hx⟩
    have HX := Lib.hid hx; clear hx
    go_wp2
    go_ret2
    exact ⟨rfl, HE.out.trans HX.out⟩
  | true =>
    have HV := Lib.hid (show aaV d xs = agB d.st.length xs by rw [aaV, q]; rfl)
    rw [HV.out]
    have f0 := HB.out.c 0 rfl; have f1 := HB.out.c 1 rfl
    go_enter Try.func40, Try.ntmps40
    go_wp2_with fail
    refine (IsSpace_c d a _ HR.out).mono ?_
    rw [q]
    rintro e w1 ⟨rfl, hx⟩
    have HX := Lib.hid hx; have HB1 := Lib.hid (HB.out.ext hx); clear hx f0 f1
    have f0 := HB1.out.c 0 rfl; have f1 := HB1.out.c 1 rfl
    go_wp2_with fail
    refine (areAgents_c d a xs b _ HM.out (HI.out.ext HX.out)).mono ?_
    rintro e w2 ⟨rfl, hx⟩
    have HX2 := Lib.hid (HX.out.trans hx); clear hx f0 f1
    go_wp2
    go_ret2
    exact ⟨rfl, HE.out.trans HX2.out⟩
set_option maxHeartbeats 2000000 in
theorem AreAgentsS_c (d : SpD) (a : SpA) (xs : List Int) (b : SlA) (w : World) (h : RdS w a d) (hb : RdI w b xs) (hcap : xs.length ≤ b.c) :
    Calls Try.prog 39 #[.agg #[.slice a.s.A d.st.length a.s.c, .slice a.t.A d.tp.length a.t.c], .slice b.A xs.length b.c] w fun e w' => e = .returned (.tuple #[.bool (aaV d xs), .bool (spB d)]) ∧ Ext w w' := by
  have hE := (Ext.refl w).alloc (.cells #[.slice a.s.A d.st.length a.s.c, .slice a.t.A d.tp.length a.t.c] 49)
  have HR := Lib.hid (h.ext hE); have HI := Lib.hid (hb.ext hE); have HE := Lib.hid hE
  have HB := Lib.hid (Bx.new w [.slice a.s.A d.st.length a.s.c, .slice a.t.A d.tp.length a.t.c] 49)
  have HM := Lib.hid h.1.le; have HCap := Lib.hid hcap
  clear hE h hb hcap
  cases q : spB d with
  | false =>
    have HV := Lib.hid (show aaV d xs = false by rw [aaV, q]; rfl)
    rw [HV.out]
    have f0 := HB.out.c 0 rfl; have f1 := HB.out.c 1 rfl
    go_enter Try.func39, Try.ntmps39
    go_wp2_with fail
    refine (l2Space_c d a _ HR.out).mono ?_
    rw [q]
    rintro e w1 ⟨rfl, hx⟩
    have HX := Lib.hid hx; clear hx
    go_wp2
    go_ret2
    exact ⟨rfl, HE.out.trans HX.out⟩
  | true =>
    have HV := Lib.hid (show aaV d xs = agB d.st.length xs by rw [aaV, q]; rfl)
    rw [HV.out]
    have f0 := HB.out.c 0 rfl; have f1 := HB.out.c 1 rfl
    go_enter Try.func39, Try.ntmps39
    go_wp2_with fail
    refine (l2Space_c d a _ HR.out).mono ?_
    rw [q]
    rintro e w1 ⟨rfl, hx⟩
    have HX := Lib.hid hx; have HB1 := Lib.hid (HB.out.ext hx); clear hx f0 f1
    have f0 := HB1.out.c 0 rfl; have f1 := HB1.out.c 1 rfl
    go_wp2_with fail
    refine (l11Agents_c d a xs b _ HM.out (HI.out.ext HX.out) HCap.out).mono ?_
    rintro e w2 ⟨rfl, hx⟩
    have HX2 := Lib.hid (HX.out.trans hx); clear hx f0 f1
    go_wp2
    go_ret2
    exact ⟨rfl, HE.out.trans HX2.out⟩
end Go.Proofs.Ytkfbkflneppggaa
