/-
  Colourings: the program's isColourCase, isColouring, the reference's l5Ask, l5Proper. Conditions: none.
-/
import Derived.Test.YtkfbkflneppggaaUf
import Derived.Test.YtkfbkflneppggaaIa
namespace Go.Proofs.Ytkfbkflneppggaa
open Go.RowKit
set_option linter.unusedVariables false
set_option linter.unusedSimpArgs false

def askB (sz : Int) (ps : List (Int × Int)) (k : Int) : Bool := goodG sz ps && inB k 1 5
set_option maxHeartbeats 400000 in
theorem isColourCase_c (sz k : Int) (A : Option Addr) (n c : Nat) (ps : List (Int × Int)) (w : World) (h : SlP w A n ps) :
    Calls Try.prog 95 #[.agg #[.int .i64 sz, .slice A n c], .int .i64 k] w fun e w' => e = .returned (.bool (askB sz ps k)) ∧ Ext w w' := by
  have hE := (Ext.refl w).alloc (.cells #[.int .i64 sz, .slice A n c] 28)
  have HA := Lib.hid (h.ext hE); have HE := Lib.hid hE
  clear hE h
  cases q : goodG sz ps with
  | false =>
    have HQ := Lib.hid (show askB sz ps k = false by simp [askB, q])
    go_enter Try.func95, Try.ntmps95
    go_wp2_with fail
    refine (IsGraph_c sz A n c ps _ HA.out).mono ?_
    rw [q]
    rintro e w1 ⟨rfl, hx⟩
    go_wp2
    go_ret
    exact ⟨ret_bool HQ.out.symm, HE.out.trans hx⟩
  | true =>
    have HQ := Lib.hid (show askB sz ps k = inB k 1 5 by simp [askB, q])
    go_enter Try.func95, Try.ntmps95
    go_wp2_with fail
    refine (IsGraph_c sz A n c ps _ HA.out).mono ?_
    rw [q]
    rintro e w1 ⟨rfl, hx⟩
    go_wp2_with (go_at_call 76; refine (between_c _ _ _ _).mono ?_; rintro e w1 ⟨rfl, rfl⟩)
    go_ret
    exact ⟨ret_bool HQ.out.symm, HE.out.trans hx⟩
set_option maxHeartbeats 400000 in
theorem l5Ask_c (sz k : Int) (A : Option Addr) (n c : Nat) (ps : List (Int × Int)) (w : World) (h : SlP w A n ps) :
    Calls Try.prog 100 #[.agg #[.int .i64 sz, .slice A n c], .int .i64 k] w fun e w' => e = .returned (.bool (askB sz ps k)) ∧ Ext w w' := by
  have hE := (Ext.refl w).alloc (.cells #[.int .i64 sz, .slice A n c] 28)
  have HA := Lib.hid (h.ext hE); have HE := Lib.hid hE
  clear hE h
  cases q : goodG sz ps with
  | false =>
    have HQ := Lib.hid (show askB sz ps k = false by simp [askB, q])
    go_enter Try.func100, Try.ntmps100
    go_wp2_with fail
    refine (l2Good_c sz A n c ps _ HA.out).mono ?_
    rw [q]
    rintro e w1 ⟨rfl, hx⟩
    go_wp2
    go_ret
    exact ⟨ret_bool HQ.out.symm, HE.out.trans hx⟩
  | true =>
    have HQ := Lib.hid (show askB sz ps k = inB k 1 5 by simp [askB, q])
    go_enter Try.func100, Try.ntmps100
    go_wp2_with fail
    refine (l2Good_c sz A n c ps _ HA.out).mono ?_
    rw [q]
    rintro e w1 ⟨rfl, hx⟩
    go_wp2_with (go_at_call 71; refine (l1In_c _ _ _ _).mono ?_; rintro e w1 ⟨rfl, rfl⟩)
    go_ret
    exact ⟨ret_bool HQ.out.symm, HE.out.trans hx⟩

/-- Is a list a colouring? -/
def colB (sz : Int) (ps : List (Int × Int)) (k : Int) (cs : List Int) : Bool :=
  ((cs.length : Int) == sz) && cs.all (fun c => inB c 0 (k - 1)) && !(ps.any fun p => gI cs p.1.toNat == gI cs p.2.toNat)

theorem cell_at {w : World} {cs : Array Value} {t : TypeId} {j b : Nat} {u : Value} (hb : b = w.heap.size) (h : cs[j]? = some u) : (w.alloc (.cells cs t)).cell? ⟨b, j, none⟩ = some u := by
  subst hb; exact cell_new w cs t j u h

set_option maxHeartbeats 400000 in
theorem colOne_c (c k : Int) (bk : Nat) (W : World) (hc : W.cell? ⟨bk, 0, none⟩ = some (.int .i64 k)) (h1 : 1 ≤ k) (h2 : k ≤ 5) :
    Calls Try.prog 154 #[.int .i64 c, .pointer (some ⟨bk, 0, none⟩)] W fun e w' => e = .returned (.bool (!inB c 0 (k - 1))) ∧ Ext W w' := by
  go_enter Try.func154, Try.ntmps154
  go_wp2_with (go_at_call 76; refine (between_c _ _ _ _).mono ?_; rintro e w1 ⟨rfl, rfl⟩)
  go_ret
  exact ⟨rfl, Ext.refl _⟩
set_option maxHeartbeats 400000 in
theorem colTwo_c (x y : Int) (B : Option Addr) (m d : Nat) (cs : List Int) (bc : Nat) (W : World) (hc : W.cell? ⟨bc, 0, none⟩ = some (.slice B m d)) (hs : SlI W B m cs) (hx : 0 ≤ x) (hx2 : x < m) (hy : 0 ≤ y) (hy2 : y < m) :
    Calls Try.prog 156 #[.agg #[.int .i64 x, .int .i64 y], .pointer (some ⟨bc, 0, none⟩)] W fun e w' => e = .returned (.bool (gI cs x.toNat == gI cs y.toNat)) ∧ Ext W w' := by
  have hl := hs.len
  obtain ⟨b, o, rfl, p1⟩ := (hs.ext ((Ext.refl W).alloc (.cells #[.int .i64 x, .int .i64 y] 83))).at x.toNat (by omega)
  obtain ⟨b', o', hA', p2⟩ := (hs.ext ((Ext.refl W).alloc (.cells #[.int .i64 x, .int .i64 y] 83))).at y.toNat (by omega)
  obtain ⟨rfl, rfl⟩ : b' = b ∧ o' = o := by simpa [eq_comm] using hA'
  have h0 := cell_old (.cells #[.int .i64 x, .int .i64 y] 83) hc
  have h1 := cell_new W #[.int .i64 x, .int .i64 y] 83 0 _ rfl
  have h2 := cell_new W #[.int .i64 x, .int .i64 y] 83 1 _ rfl
  have HE := Lib.hid ((Ext.refl W).alloc (.cells #[.int .i64 x, .int .i64 y] 83))
  clear hA' hs hc hl
  go_enter Try.func156, Try.ntmps156
  go_wp2_with fail
  go_quiet (fail)
  go_wp2
  go_ret
  exact ⟨rfl, HE.out.drewN _⟩

set_option maxHeartbeats 2000000 in
theorem isColouring_c (sz k : Int) (A : Option Addr) (n c : Nat) (ps : List (Int × Int)) (B : Option Addr) (m d : Nat) (cs : List Int) (w : World) (h : SlP w A n ps) (hx : SlI w B m cs) (ha : askB sz ps k = true) :
    Calls Try.prog 97 #[.agg #[.int .i64 sz, .slice A n c], .int .i64 k, .slice B m d] w fun e w' => e = .returned (.bool (colB sz ps k cs)) ∧ Ext w w' := by
  have hmf : ∀ (fn : Fn) (first cap : Array Value) (w : World), (Instr.makeFunc fn first cap).run Try.prog w = .ok (.func fn first cap) w := fun _ _ _ _ => rfl
  obtain ⟨hgo, hk⟩ : goodG sz ps = true ∧ inB k 1 5 = true := by simpa [askB] using ha
  have hk := inB_true.1 hk
  have hgp : goodP ps sz = true := by simp only [goodG, Bool.and_eq_true] at hgo; exact hgo.2
  have hlen := hx.len
  have hmx := hx.le
  obtain ⟨W, hW⟩ : ∃ W, W = ((w.alloc (.cells #[.int .i64 sz, .slice A n c] 28)).alloc (.cells #[.int .i64 k] 3)).alloc (.cells #[.slice B m d] 40) := ⟨_, rfl⟩
  have hE : Ext w W := by rw [hW]; exact (((Ext.refl w).alloc _).alloc _).alloc _
  have c0 : W.cell? ⟨w.heap.size, 0, none⟩ = some (.int .i64 sz) := by rw [hW]; exact cell_old _ (cell_old _ (cell_new w _ _ 0 _ rfl))
  have c1 : W.cell? ⟨w.heap.size, 1, none⟩ = some (.slice A n c) := by rw [hW]; exact cell_old _ (cell_old _ (cell_new w _ _ 1 _ rfl))
  have ck : W.cell? ⟨w.heap.size + 1, 0, none⟩ = some (.int .i64 k) := by
    rw [hW]; exact cell_old _ (cell_at (by simp only [alloc_size]) rfl)
  have cc : W.cell? ⟨w.heap.size + 1 + 1, 0, none⟩ = some (.slice B m d) := by
    rw [hW]; exact cell_at (by simp only [alloc_size]) rfl
  have HT1 := Lib.hid (show TellsI 154 #[.pointer (some ⟨w.heap.size + 1, 0, none⟩)] (fun c => !inB c 0 (k - 1)) cs W from fun V x hV _ => colOne_c x k _ V (hV.cell ck) hk.1 hk.2)
  have HN1 := Lib.hid (enters_of Try.func154 (by kernel_rfl) rfl)
  have HN2 := Lib.hid (enters_of Try.func156 (by kernel_rfl) rfl)
  have HA := Lib.hid (h.ext hE); have HB := Lib.hid (hx.ext hE); have HE := Lib.hid hE
  have HG := Lib.hid hgp; have HLen := Lib.hid hlen
  have C1 := Lib.hid c1; have CC := Lib.hid cc
  clear h hx hgp hlen ha hgo ck
  have hsplit : (((m : Int) != sz) = true ∧ colB sz ps k cs = false) ∨ (((m : Int) != sz) = false ∧ (m : Int) = sz) := by
    by_cases hms : (m : Int) = sz
    · right; exact ⟨by simp [hms], hms⟩
    · left
      refine ⟨by simp [hms], ?_⟩
      have : ((cs.length : Int) == sz) = false := by rw [HLen.out]; simp [hms]
      simp [colB, this]
  rcases hsplit with ⟨t1, hv⟩ | ⟨t1, hms⟩
  · have HV := Lib.hid hv
    clear hv c0 c1 cc hE
    subst hW
    go_enter Try.func97, Try.ntmps97
    go_wp2
    go_ret
    exact ⟨ret_bool HV.out.symm, HE.out⟩
  · have hcol : colB sz ps k cs = (!(cs.any fun c => !inB c 0 (k - 1)) && !(ps.any fun p => gI cs p.1.toNat == gI cs p.2.toNat)) := by
      have : ((cs.length : Int) == sz) = true := by rw [HLen.out]; simp [hms]
      rw [colB, this, Bool.true_and]
      congr 1
      rw [List.all_eq_not_any_not]
    have HV := Lib.hid hcol
    have HM := Lib.hid hms
    clear hcol hms
    cases q : cs.any (fun c => !inB c 0 (k - 1)) with
    | true =>
      have HQ := Lib.hid (show colB sz ps k cs = false by rw [HV.out, q]; rfl)
      clear c0 c1 cc hE
      subst hW
      go_enter Try.func97, Try.ntmps97
      go_wp2_with fail
      refine (ContainsFuncI_c B m d cs _ _ _ _ HB.out HN1.out HT1.out).mono ?_
      rw [q]
      rintro e w1 ⟨rfl, hx⟩
      go_wp2
      go_ret
      exact ⟨ret_bool HQ.out.symm, HE.out.trans hx⟩
    | false =>
      have HQ := Lib.hid (show colB sz ps k cs = !(ps.any fun p => gI cs p.1.toNat == gI cs p.2.toNat) by rw [HV.out, q]; rfl)
      clear c0 c1 cc hE
      subst hW
      go_enter Try.func97, Try.ntmps97
      go_wp2_with fail
      refine (ContainsFuncI_c B m d cs _ _ _ _ HB.out HN1.out HT1.out).mono ?_
      rw [q]
      rintro e w1 ⟨rfl, hx⟩
      have HX := Lib.hid hx
      have e1 := hx.cell C1.out
      have HT2 := Lib.hid (show TellsP 156 #[.pointer (some ⟨w.heap.size + 1 + 1, 0, none⟩)] (fun p => gI cs p.1.toNat == gI cs p.2.toNat) ps w1 from fun V x y hV hm => by
        have hp := goodP_nodes HG.out (x, y) hm
        have hms := HM.out
        exact colTwo_c x y B m d cs _ V ((HX.out.trans hV).cell CC.out) ((HB.out.ext HX.out).ext hV) (by omega) (by simp only at hp; omega) (by omega) (by simp only at hp; omega))
      clear hx
      go_wp2_with fail
      refine (ContainsFuncP_c A n c ps _ _ _ _ (HA.out.ext HX.out) HN2.out HT2.out).mono ?_
      rintro e w2 ⟨rfl, hx⟩
      go_wp2
      go_ret
      exact ⟨ret_bool HQ.out.symm, HE.out.trans (HX.out.trans hx)⟩
end Go.Proofs.Ytkfbkflneppggaa
