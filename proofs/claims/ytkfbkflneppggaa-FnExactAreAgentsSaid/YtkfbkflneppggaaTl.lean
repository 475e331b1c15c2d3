/-
  The laws' helpers at rows of rows of numbers: what they count, copy, compare, mark and hold. Conditions: none.
-/
import Derived.Test.YtkfbkflneppggaaTg2
import Derived.Test.YtkfbkflneppggaaBo
import Derived.BigQuiet
import Derived.Deep.RegionHeld3
namespace Go.Proofs.Ytkfbkflneppggaa
open Go.RowKit
set_option linter.unusedVariables false
set_option linter.unusedSimpArgs false

/-! ### Headers -/
def hd (H : Nat → SlA) (d : List (List Int)) (k : Nat) : Value := .slice (H k).A (gL d k).length (H k).c
def hdrs (H : Nat → SlA) (d : List (List Int)) : List Value := (List.range d.length).map (hd H d)
theorem hdrs_length (H : Nat → SlA) (d : List (List Int)) : (hdrs H d).length = d.length := by simp [hdrs]
theorem hdrs_at (H : Nat → SlA) (d : List (List Int)) (k : Nat) (h : k < d.length) : (hdrs H d)[k]? = some (.slice (H k).A (gL d k).length (H k).c) := by simp [hdrs, h, hd]
theorem own_obj {w : World} {base n size : Nat} {e : TypeId} {v : Value} {xs : List Value} (h : w.ownsRow base e size v n xs) {k : Nat} (hk : v.ownBlock = some k) : ∃ cur, w.heap[k]? = some (.cells cur e) := by
  rcases h.2 with ⟨rfl, _⟩ | ⟨g, cap, cur, rfl, hb, hh, r⟩
  · cases hk
  · obtain rfl : g = k := by simpa [Value.ownBlock] using hk
    exact ⟨cur, hh⟩
theorem own_types {w : World} {b1 b2 n m s1 s2 : Nat} {e1 e2 : TypeId} {v u : Value} {xs ys : List Value} (h : w.ownsRow b1 e1 s1 v n xs) (g : w.ownsRow b2 e2 s2 u m ys) (ne : e1 ≠ e2) {k : Nat} (hv : v.ownBlock = some k) : ¬ u.ownBlock = some k := by
  intro hu
  obtain ⟨c1, q1⟩ := own_obj h hv
  obtain ⟨c2, q2⟩ := own_obj g hu
  rw [q1] at q2
  injection q2 with q2; injection q2 with _ q2
  exact ne q2

/-! ### Reading -/
def RdL (w : World) (a : SlA) (d : List (List Int)) : Prop := ∃ H : Nat → SlA, Sl w 1 a.A d.length (hdrs H d) ∧ ∀ k, k < d.length → RdI w (H k) (gL d k)
theorem RdL.ext {w w' : World} {a : SlA} {d : List (List Int)} (h : RdL w a d) (e : Ext w w') : RdL w' a d := by
  obtain ⟨H, h1, h2⟩ := h
  exact ⟨H, h1.ext e, fun k hk => (h2 k hk).ext e⟩
theorem RdL.le {w : World} {a : SlA} {d : List (List Int)} (h : RdL w a d) : d.length ≤ 9223372036854775807 := h.choose_spec.1.2.1
theorem RdL.at {w : World} {a : SlA} {d : List (List Int)} (h : RdL w a d) (k : Nat) (hk : k < d.length) :
    ∃ b o, ∃ r : SlA, a.A = some ⟨b, o, none⟩ ∧ w.cell? ⟨b, o + k, none⟩ = some (.slice r.A (gL d k).length r.c) ∧ RdI w r (gL d k) := by
  obtain ⟨H, h1, h2⟩ := h
  obtain ⟨b, o, hA, hb, hc⟩ := h1.2.2 (by omega)
  exact ⟨b, o, H k, hA, hc k _ (hdrs_at H d k hk), h2 k hk⟩

/-! ### Owning -/
def blk (H : Nat → SlA) (d : List (List Int)) (k : Nat) : Option Nat := (Value.slice (H k).A (gL d k).length (H k).c).ownBlock
def RowsH (w : World) (lo hi : Nat) (H : Nat → SlA) (d : List (List Int)) (m : Nat) : Prop :=
  (∀ i, i < m → OwI w lo hi (H i) (gL d i)) ∧ ∀ i j b, i < m → j < m → blk H d i = some b → blk H d j = some b → i = j
theorem RowsH.ext {w w' : World} {lo hi m : Nat} {H : Nat → SlA} {d : List (List Int)} (h : RowsH w lo hi H d m) (e : Ext w w') : RowsH w' lo hi H d m := ⟨fun i hi' => (h.1 i hi').ext e, h.2⟩
theorem RowsH.chg {w w' : World} {lo hi m : Nat} {H : Nat → SlA} {d : List (List Int)} {D : Nat → Prop} (h : RowsH w lo hi H d m) (x : Chg D w w') (hD : ∀ k, lo ≤ k → k < hi → ¬ D k) : RowsH w' lo hi H d m := ⟨fun i hi' => (h.1 i hi').chg x hD, h.2⟩
theorem RowsH.mono {w : World} {lo hi lo' hi' m : Nat} {H : Nat → SlA} {d : List (List Int)} (h : RowsH w lo hi H d m) (h1 : lo' ≤ lo) (h2 : hi ≤ hi') : RowsH w lo' hi' H d m := ⟨fun i hi' => (h.1 i hi').mono h1 h2, h.2⟩
theorem RowsH.zero (w : World) (lo hi : Nat) (H : Nat → SlA) (d : List (List Int)) : RowsH w lo hi H d 0 := ⟨fun i h => by omega, fun i j b h => by omega⟩
/-- One more row, younger than all others. -/
theorem RowsH.push {w : World} {lo hi lo2 hi2 m : Nat} {H : Nat → SlA} {d : List (List Int)} {b : SlA} (h : RowsH w lo hi H d m) (hb : OwI w lo2 hi2 b (gL d m)) (h1 : hi ≤ lo2) (h0 : lo ≤ lo2) (h2 : hi ≤ hi2) :
    RowsH w lo hi2 (fun i => if i = m then b else H i) d (m + 1) := by
  refine ⟨fun i hi' => ?_, fun i j c hi' hj' e1 e2 => ?_⟩
  · by_cases hm : i = m
    · subst hm; simp only [if_pos]; exact hb.mono h0 (Nat.le_refl _)
    · simp only [if_neg hm]; exact (h.1 i (by omega)).mono (Nat.le_refl _) h2
  · simp only [blk] at e1 e2
    by_cases hm : i = m
    · by_cases hn : j = m
      · omega
      · subst hm
        simp only [if_pos, if_neg hn] at e1 e2
        have := RowB.lo hb e1; have := RowB.lo (h.1 j (by omega)) e2; omega
    · by_cases hn : j = m
      · subst hn
        simp only [if_pos, if_neg hm] at e1 e2
        have := RowB.lo hb e2; have := RowB.lo (h.1 i (by omega)) e1; omega
      · simp only [if_neg hm, if_neg hn] at e1 e2
        exact h.2 i j c (by omega) (by omega) e1 e2
def OwL (w : World) (lo hi : Nat) (a : SlA) (d : List (List Int)) : Prop := ∃ H : Nat → SlA, RowB w lo hi 40 1 a d.length (hdrs H d) ∧ RowsH w lo hi H d d.length
theorem OwL.ext {w w' : World} {lo hi : Nat} {a : SlA} {d : List (List Int)} (h : OwL w lo hi a d) (e : Ext w w') : OwL w' lo hi a d := by
  obtain ⟨H, h1, h2⟩ := h; exact ⟨H, h1.ext e, h2.ext e⟩
theorem OwL.chg {w w' : World} {lo hi : Nat} {a : SlA} {d : List (List Int)} {D : Nat → Prop} (h : OwL w lo hi a d) (x : Chg D w w') (hD : ∀ k, lo ≤ k → k < hi → ¬ D k) : OwL w' lo hi a d := by
  obtain ⟨H, h1, h2⟩ := h; exact ⟨H, h1.chg x hD, h2.chg x hD⟩
theorem OwL.mono {w : World} {lo hi lo' hi' : Nat} {a : SlA} {d : List (List Int)} (h : OwL w lo hi a d) (h1 : lo' ≤ lo) (h2 : hi ≤ hi') : OwL w lo' hi' a d := by
  obtain ⟨H, g1, g2⟩ := h; exact ⟨H, g1.mono h1 h2, g2.mono h1 h2⟩
theorem OwL.rd {w : World} {lo hi : Nat} {a : SlA} {d : List (List Int)} (h : OwL w lo hi a d) : RdL w a d := by
  obtain ⟨H, g1, g2⟩ := h; exact ⟨H, g1.sl, fun k hk => (g2.1 k hk).rd⟩

/-! ### Counts -/
def sumN : List (List Int) → Nat
  | [] => 0
  | x :: xs => x.length + sumN xs
theorem sumN_append (xs ys : List (List Int)) : sumN (xs ++ ys) = sumN xs + sumN ys := by
  induction xs with
  | nil => simp [sumN]
  | cons x xs ih => simp [sumN, ih]; omega
theorem sumN_take (d : List (List Int)) (k : Nat) (h : k < d.length) : sumN (d.take (k + 1)) = sumN (d.take k) + (gL d k).length := by
  rw [List.take_succ_eq_append_getElem h, sumN_append, gL_eq d k h]; simp [sumN]
theorem sumN_take_le (d : List (List Int)) (k : Nat) : sumN (d.take k) ≤ sumN d := by
  conv => rhs; rw [← List.take_append_drop k d, sumN_append]
  omega
theorem gL_le_sum (d : List (List Int)) (k : Nat) (h : k < d.length) : (gL d k).length ≤ sumN d := by
  have h1 := sumN_take d k h; have h2 := sumN_take_le d (k + 1); omega
def BdL (d : List (List Int)) : Prop := d.length ≤ 1048576 ∧ sumN d ≤ 1048576
def cntL (d : List (List Int)) : Int := sumN d
theorem cntL_le {d : List (List Int)} (h : BdL d) : 0 ≤ cntL d ∧ cntL d ≤ 4194304 := by unfold cntL; have := h.2; omega
theorem BdL.row {d : List (List Int)} (h : BdL d) (k : Nat) (hk : k < d.length) : BdI (gL d k) := by have := gL_le_sum d k hk; have := h.2; unfold BdI; omega
def mkL (k : Int) (d : List (List Int)) : List (List Int) := (List.range d.length).map fun i => marks (k + (sumN (d.take i) : Int)) (gL d i).length
theorem mkL_length (k : Int) (d : List (List Int)) : (mkL k d).length = d.length := by simp [mkL]
theorem mkL_at (k : Int) (d : List (List Int)) (i : Nat) (h : i < d.length) : gL (mkL k d) i = marks (k + (sumN (d.take i) : Int)) (gL d i).length := by
  rw [gL_eq _ _ (by rw [mkL_length]; exact h)]; simp [mkL]
theorem mkL_row (k : Int) (d : List (List Int)) (i : Nat) (h : i < d.length) : (gL (mkL k d) i).length = (gL d i).length := by rw [mkL_at k d i h, marks_length]
theorem hdrs_mkL (H : Nat → SlA) (k : Int) (d : List (List Int)) : hdrs H (mkL k d) = hdrs H d := by
  unfold hdrs; rw [mkL_length]
  refine List.map_congr_left fun i hi => ?_
  simp only [hd, mkL_row k d i (List.mem_range.1 hi)]

/-! ### What is left -/
def leftR : Int → List (List Int) → Int
  | l, [] => l
  | l, x :: xs => if leftI l x < 0 then -1 else leftR (leftI l x) xs
theorem leftR_drop {l : Int} {d : List (List Int)} {k : Nat} (h : k < d.length) : leftR l (d.drop k) = if leftI l (gL d k) < 0 then -1 else leftR (leftI l (gL d k)) (d.drop (k + 1)) := by
  rw [List.drop_eq_getElem_cons h, gL_eq d k h]; rfl
theorem leftR_le {l : Int} {d : List (List Int)} : leftR l d ≤ l ∨ l < 0 := by
  induction d generalizing l with
  | nil => exact .inl (Int.le_refl _)
  | cons x xs ih =>
    have h1 := @leftI_le l x
    have h2 := @ih (leftI l x)
    unfold leftR; split <;> omega
theorem leftR_ok {l : Int} {d : List (List Int)} (h : ¬ leftR l d < 0) (h0 : 0 ≤ l) : (sumN d : Int) ≤ l := by
  induction d generalizing l with
  | nil => simpa [sumN] using h0
  | cons x xs ih =>
    unfold leftR at h
    split at h
    · exact absurd h (by omega)
    · rename_i h1
      have h2 := ih h (by omega)
      unfold leftI leftOf at h1 h2
      simp only [sumN]
      split at h1 <;> rename_i hc
      · omega
      · rw [if_neg hc] at h2; omega
def leftL (left : Int) (d : List (List Int)) : Int := if left < d.length then -1 else leftR (left - d.length) d
theorem leftL_le {left : Int} {d : List (List Int)} : leftL left d ≤ left ∨ left < 0 := by
  have h := @leftR_le (left - d.length) d
  unfold leftL; split <;> omega
theorem leftL_ok {left : Int} {d : List (List Int)} (h : ¬ leftL left d < 0) : BdL d ∨ 1048576 < left := by
  unfold leftL at h
  split at h
  · exact absurd h (by omega)
  · have := leftR_ok h (by omega)
    by_cases hl : 1048576 < left
    · exact .inr hl
    · exact .inl ⟨by omega, by omega⟩

set_option maxHeartbeats 1000000 in
theorem szL_t (d : List (List Int)) (a : SlA) (left : Int) (w : World) (h : RdL w a d) (h1 : 0 ≤ left) (h2 : left ≤ 1048576) :
    Calls Try.prog 69 #[.slice a.A d.length a.c, .int .i64 left] w fun e w' => e = .returned (.int .i64 (leftL left d)) ∧ Ext w w' := by
  have hn := h.le
  by_cases hl : left < d.length
  · have h' : left - (d.length : Int) < 0 := by omega
    clear h
    go_enter Try.func69, Try.ntmps69
    go_wp2
    go_ret
    exact ⟨ret_int (by rw [leftL, if_pos (by omega)]), Ext.refl _⟩
  have h' : ¬ left - (d.length : Int) < 0 := by omega
  have hv : leftL left d = leftR (left - d.length) d := if_neg hl
  obtain ⟨l0, hl0⟩ : ∃ l, l = left - (d.length : Int) := ⟨_, rfl⟩
  have k0 : 0 ≤ l0 := by omega
  have k1 : l0 ≤ 1048576 := by omega
  have ew : IntKind.i64.wrap (left - (d.length : Int)) = l0 := by rw [hl0]; exact IntWalk.i64_in _ (by omega)
  rw [hv, ← hl0]
  rw [← hl0] at h'
  have HR := Lib.hid h; have HL0 := Lib.hid hl0
  clear h hv hl hl0
  go_enter Try.func69, Try.ntmps69
  go_wp2
  go_loopw [1, 5] (fun l i wr => ∃ (k : Nat) (lv : Int), k ≤ d.length ∧ i = .int .i64 k ∧ l = .int .i64 lv ∧ (0 ≤ lv ∧ lv ≤ 1048576) ∧ leftR lv (d.drop k) = leftR l0 d ∧ Ext w wr) (fun _ i _ => d.length - (intOf i).toNat)
  case atStart => exact ⟨0, l0, Nat.zero_le _, rfl, rfl, ⟨k0, k1⟩, rfl, Ext.refl _⟩
  case round =>
    obtain ⟨k, lv, hk, rfl, rfl, ⟨b0, b1⟩, hq, hx⟩ := hrel
    by_cases hlt : k < d.length
    · obtain ⟨b, o, r, hA, hc, hrow⟩ := (HR.out.ext hx).at k hlt
      have HRow := Lib.hid hrow; have HX := Lib.hid hx; have HQ := Lib.hid hq; have HAA := Lib.hid hA
      have i0 : (0 : Int) ≤ (k : Int) := by omega
      have i1 : (k : Int) < (d.length : Int) := by omega
      rw [hA]
      have hle := @leftI_le lv (gL d k)
      obtain ⟨l2, hl2⟩ : ∃ l, l = leftI lv (gL d k) := ⟨_, rfl⟩
      have HL2 := Lib.hid hl2
      rw [← hl2] at hle
      clear hrow hx hq hA hl2
      go_wp2_with fail
      refine (szI_t (gL d k) r lv _ HRow.out b0 b1).mono ?_
      rintro e w1 ⟨rfl, hx⟩
      rw [← HL2.out]
      have HX1 := Lib.hid (HX.out.trans hx); clear hx
      by_cases hneg : l2 < 0
      · go_wp2
        go_ret
        refine ⟨ret_int ?_, HX1.out⟩
        rw [← HQ.out, leftR_drop hlt, ← HL2.out, if_pos hneg]
      · go_wp2
        go_roundw
        case rel => exact ⟨k + 1, l2, by omega, by go_num, rfl, ⟨by omega, by omega⟩, by rw [← HQ.out, leftR_drop hlt, ← HL2.out, if_neg (by omega)], HX1.out⟩
        case measure => simp [intOf]; omega
    · have hk' : k = d.length := by omega
      subst hk'
      rw [List.drop_length] at hq
      go_wp2
      go_ret
      exact ⟨ret_int hq, hx⟩

theorem fill_rep {α : Type} (f : Nat → α) (z : α) (n k : Nat) (h : k < n) :
    ((List.range k).map f ++ List.replicate (n - k) z).set k (f k) = (List.range (k + 1)).map f ++ List.replicate (n - (k + 1)) z := by
  obtain ⟨m, hm⟩ : ∃ m, n - k = m + 1 := ⟨n - k - 1, by omega⟩
  rw [hm, show n - (k + 1) = m by omega, List.set_append_right _ _ (by simp)]
  simp only [List.length_map, List.length_range, Nat.sub_self, List.replicate_succ, List.set_cons_zero]
  rw [List.range_succ, List.map_append, List.append_assoc]
  rfl
theorem made_nils (n : Nat) : (madeCells (Value.slice none 0 0).cells (n * 1)).toList = List.replicate n (Value.slice none 0 0) := by
  rw [Nat.mul_one]; exact toList_madeCells_one (.slice none 0 0) n
theorem infoS : (Try.prog.info? 40).map (fun i => (i.zero, i.size, i.bytes)) = some (some (.slice none 0 0), 1, 24) := by kernel_rfl

set_option maxHeartbeats 1000000 in
theorem toL_t (d : List (List Int)) (a : SlA) (w : World) (h : RdL w a d) (hb : BdL d) :
    Calls Try.prog 74 #[.slice a.A d.length a.c] w fun e w' => ∃ b : SlA, e = .returned (.slice b.A d.length b.c) ∧ OwL w' w.heap.size w'.heap.size b d ∧ Ext w w' := by
  have hb1 := hb.1
  go_enter Try.func74, Try.ntmps74
  go_wp2_with (at_make; refine make_full 45 40 _ 1 24 Try.underlying45 infoS rfl _ _ rfl d.length rfl rfl (by omega) (by omega) ?_; intro w1 hown hx)
  rw [made_nils] at hown
  have HR := Lib.hid h; have HB := Lib.hid hb
  clear h hb
  have hs1 : w.heap.size + 1 ≤ w1.heap.size := by
    obtain ⟨g, hg⟩ : ∃ g, (Value.slice (some ⟨w.heap.size, 0, none⟩) d.length d.length).ownBlock = some g := ⟨w.heap.size, rfl⟩
    have := (hown.lt w.heap.size rfl).2; omega
  go_loopw [4] (fun i wr => ∃ (k : Nat) (H : Nat → SlA), k ≤ d.length ∧ i = .int .i64 k ∧ Ext w wr ∧ w.heap.size + 1 ≤ wr.heap.size ∧ wr.ownsRow w.heap.size 40 1 (.slice (some ⟨w.heap.size, 0, none⟩) d.length d.length) d.length ((List.range k).map (hd H d) ++ List.replicate (d.length - k) (.slice none 0 0)) ∧ RowsH wr (w.heap.size + 1) wr.heap.size H d k) (fun i _ => d.length - (intOf i).toNat)
  case atStart => exact ⟨0, fun _ => ⟨none, 0⟩, Nat.zero_le _, rfl, hx, hs1, by simpa using hown, RowsH.zero _ _ _ _ _⟩
  case round =>
    clear hown hs1 hx
    obtain ⟨k, H, hk, rfl, hx, hs, hown, hrows⟩ := hrel
    by_cases hlt : k < d.length
    · obtain ⟨b, o, r, hA, hc, hrow⟩ := (HR.out.ext hx).at k hlt
      have HRow := Lib.hid hrow; have HX := Lib.hid hx; have HO := Lib.hid hown; have HRs := Lib.hid hrows; have HS := Lib.hid hs
      have i0 : (0 : Int) ≤ (k : Int) := by omega
      have i1 : (k : Int) < (d.length : Int) := by omega
      rw [hA]
      clear hrow hx hown hrows hA hs
      go_wp2_with fail
      refine (toI_t (gL d k) r _ HRow.out (HB.out.row k hlt)).mono ?_
      rintro e w2 ⟨q, rfl, ho, hx⟩
      have hO2 := own_ext HO.out hx
      obtain ⟨u0, c0, f0⟩ := own_ready hO2 k (by omega)
      have HO2 := Lib.hid hO2; have HX2 := Lib.hid hx; have HQ := Lib.hid ho
      clear hO2 hx ho
      go_wp2
      go_roundw
      case rel =>
        have hsz := HX2.out.size
        have hs0 := HS.out
        have hC : Chg (fun b => b = w.heap.size) w2 (w2.setCell ⟨w.heap.size, k, none⟩ (.slice q.A (gL d k).length q.c)) := (Chg.refl (fun b => b = w.heap.size) w2).set (b := w.heap.size) rfl _
        have hp := ((HRs.out.ext HX2.out).push HQ.out (Nat.le_refl _) (by omega) hsz).chg hC (fun b h1 _ h => by omega)
        have hst := (HO2.out.stored k (.slice q.A (gL d k).length q.c)).1
        have hf : (List.range k).map (hd H d) = (List.range k).map (hd (fun i => if i = k then q else H i) d) :=
          List.map_congr_left fun i hi => by have := List.mem_range.1 hi; simp only [hd, if_neg (show ¬ i = k by omega)]
        rw [hf, show Value.slice q.A (gL d k).length q.c = hd (fun i => if i = k then q else H i) d k by simp [hd], fill_rep _ _ _ _ hlt] at hst
        refine ⟨k + 1, _, by omega, by go_num, (HX.out.trans HX2.out).set (Nat.le_refl _) _, ?_, by simpa [hd] using hst, ?_⟩
        · have := hC.size; omega
        · have := hC.size; exact hp.mono (Nat.le_refl _) this
      case measure => simp [intOf]; omega
    · have hk' : k = d.length := by omega
      subst hk'
      go_wp2
      go_ret
      refine ⟨⟨some ⟨w.heap.size, 0, none⟩, d.length⟩, rfl, ⟨H, ?_, hrows.mono (Nat.le_succ _) (Nat.le_refl _)⟩, hx⟩
      rw [Nat.sub_self] at hown
      exact RowB.mk' (by simpa [hdrs] using hown)

set_option maxHeartbeats 1000000 in
theorem eqL_t (d : List (List Int)) (a b : SlA) (w : World) (h1 : RdL w a d) (h2 : RdL w b d) :
    Calls Try.prog 79 #[.slice a.A d.length a.c, .slice b.A d.length b.c] w fun e w' => e = .returned (.bool true) ∧ Ext w w' := by
  have hn := h1.le
  have H1 := Lib.hid h1; have H2 := Lib.hid h2
  clear h1 h2
  go_enter Try.func79, Try.ntmps79
  go_wp2
  go_loopw [5] (fun i wr => ∃ k : Nat, k ≤ d.length ∧ i = .int .i64 k ∧ Ext w wr) (fun i _ => d.length - (intOf i).toNat)
  case atStart => exact ⟨0, Nat.zero_le _, rfl, Ext.refl _⟩
  case round =>
    obtain ⟨k, hk, rfl, hx⟩ := hrel
    by_cases hlt : k < d.length
    · obtain ⟨b1, o1, r1, hA, hc1, hrow1⟩ := (H1.out.ext hx).at k hlt
      obtain ⟨b2, o2, r2, hB, hc2, hrow2⟩ := (H2.out.ext hx).at k hlt
      have R1 := Lib.hid hrow1; have R2 := Lib.hid hrow2; have HX := Lib.hid hx
      have i0 : (0 : Int) ≤ (k : Int) := by omega
      have i1 : (k : Int) < (d.length : Int) := by omega
      have g1 := fun w' (e : Ext wr w') => e.cell hc1
      have g2 := fun w' (e : Ext wr w') => e.cell hc2
      rw [hA, hB]
      clear hrow1 hrow2 hx hA hB hc1 hc2
      go_wp2_with fail
      go_region_held3 (fun w' => Ext wr w')
        (first
          | exact (Ext.refl _).drew
          | assumption
          | exact Ext.trans (by assumption) hy1)
        (first
          | (go_at_call 28; refine (eqI_t (gL d k) r1 r2 _ (R1.out.ext (by assumption)) (R2.out.ext (by assumption))).mono ?_; rintro e w5 ⟨rfl, hy1⟩))
      have hz : Ext wr w5 := by assumption
      have HZ := Lib.hid (HX.out.trans hz)
      clear hz hy1 g1 g2
      go_wp2
      go_roundw
      case rel => exact ⟨k + 1, by omega, by go_num, HZ.out⟩
      case measure => simp [intOf]; omega
    · have hk' : k = d.length := by omega
      subst hk'
      go_wp2
      go_ret
      exact ⟨rfl, hx⟩

/-- Marks up to row j. -/
def mkTo (k : Int) (d : List (List Int)) (j i : Nat) : List Int := if i < j then marks (k + (sumN (d.take i) : Int)) (gL d i).length else gL d i
theorem mkTo_length (k : Int) (d : List (List Int)) (j i : Nat) : (mkTo k d j i).length = (gL d i).length := by unfold mkTo; split; exact marks_length _ _; rfl

set_option maxHeartbeats 1000000 in
theorem markL_t (d : List (List Int)) (a : SlA) (lo hi : Nat) (k : Int) (w : World) (h : OwL w lo hi a d) (_hh : hi ≤ w.heap.size) (hb : BdL d) (h0 : 0 ≤ k) (h1 : k ≤ 536870912) :
    Calls Try.prog 80 #[.slice a.A d.length a.c, .int .i64 k] w fun e w' => e = .returned (.int .i64 (k + cntL d)) ∧ OwL w' lo hi a (mkL k d) ∧ Chg (fun b => lo ≤ b ∧ b < hi) w w' := by
  obtain ⟨H, hout, hrows, hne⟩ := h
  have hb1 := hb.1
  have HOut := Lib.hid hout; have HRows := Lib.hid hrows; have HNe := Lib.hid hne; have HB := Lib.hid hb
  clear hout hrows hne hb
  go_enter Try.func80, Try.ntmps80
  go_wp2
  go_loopw [1, 5] (fun m i wr => ∃ j : Nat, j ≤ d.length ∧ i = .int .i64 j ∧ m = .int .i64 (k + (sumN (d.take j) : Int)) ∧ Chg (fun b => lo ≤ b ∧ b < hi) w wr ∧ RowB wr lo hi 40 1 a d.length (hdrs H d) ∧ ∀ i, i < d.length → RowB wr lo hi 3 1 (H i) (gL d i).length (ints (mkTo k d j i))) (fun _ i _ => d.length - (intOf i).toNat)
  case atStart => exact ⟨0, Nat.zero_le _, rfl, by simp [sumN], Chg.refl _ _, HOut.out, fun i hi => by have := HRows.out i hi; unfold OwI at this; simpa [mkTo] using this⟩
  case round =>
    obtain ⟨j, hj, rfl, rfl, hch, hout, hrows⟩ := hrel
    by_cases hlt : j < d.length
    · obtain ⟨b, o, hA, hbb, hc⟩ := hout.sl.2.2 (by omega)
      have hcell := hc j _ (hdrs_at H d j hlt)
      have hle := gL_le_sum d j hlt
      have hsb := HB.out.2
      have htk := sumN_take_le d j
      have hts := sumN_take d j hlt
      have HCh := Lib.hid hch; have HO := Lib.hid hout; have HR := Lib.hid hrows
      have hrow := (hrows j hlt).1
      rw [show mkTo k d j j = gL d j by simp [mkTo]] at hrow
      have HRow := Lib.hid hrow
      have i0 : (0 : Int) ≤ (j : Int) := by omega
      have i1 : (j : Int) < (d.length : Int) := by omega
      have p0 : 0 ≤ k + (sumN (d.take j) : Int) := by omega
      have p1 : k + (sumN (d.take j) : Int) ≤ 1073741824 := by omega
      have HTS := Lib.hid hts
      rw [hA]
      clear hch hout hrows hrow hc hA hts
      go_wp2_with fail
      refine (markIntS_c (H j).A (gL d j).length (H j).c lo (k + (sumN (d.take j) : Int)) (gL d j) _ HRow.out (by omega) p0 p1).mono ?_
      rintro e w1 ⟨rfl, ho, hch⟩
      have HM := Lib.hid ho; have HC := Lib.hid hch
      clear ho hch
      go_wp2
      go_roundw
      case rel =>
        refine ⟨j + 1, by omega, by go_num, by rw [HTS.out]; congr 1; omega, ?_, ?_, ?_⟩
        · exact HCh.out.trans (HC.out.in (fun b _ hb => ⟨(RowB.lo (HR.out j hlt) hb).1, (RowB.lo (HR.out j hlt) hb).2.1⟩)) (fun _ _ h => h)
        · exact ⟨own_blk HO.out.1 (fun b hb => HC.out.block b (HO.out.lo hb).2.2 (own_types HO.out.1 HRow.out (by decide) hb)), HO.out.2⟩
        · intro i hi
          by_cases hij : i = j
          · subst hij
            rw [show mkTo k d (i + 1) i = marks (k + (sumN (d.take i) : Int)) (gL d i).length by simp [mkTo]]
            exact ⟨HM.out, (HR.out i hi).2⟩
          · have hr := HR.out i hi
            rw [show mkTo k d (j + 1) i = mkTo k d j i by unfold mkTo; by_cases hc : i < j; rw [if_pos hc, if_pos (by omega)]; rw [if_neg hc, if_neg (by omega)]]
            exact ⟨own_blk hr.1 (fun b hb => HC.out.block b (hr.lo hb).2.2 (fun hb2 => hij (HNe.out i j b hi hlt hb hb2))), hr.2⟩
      case measure => simp [intOf]; omega
    · have hk' : j = d.length := by omega
      subst hk'
      rw [List.take_length]
      go_wp2
      go_ret
      refine ⟨rfl, ⟨H, by rw [mkL_length, hdrs_mkL]; exact hout, fun i hi => ?_, fun i j b hi hj e1 e2 => ?_⟩, hch⟩
      · rw [mkL_length] at hi
        have hr := hrows i hi
        unfold OwI
        rw [mkL_at k d i hi, marks_length]
        simpa [mkTo, hi] using hr
      · rw [mkL_length] at hi hj
        unfold blk at e1 e2
        rw [mkL_row k d i hi] at e1
        rw [mkL_row k d j hj] at e2
        exact HNe.out i j b hi hj e1 e2

set_option maxHeartbeats 1000000 in
theorem heldL_t (d : List (List Int)) (a : SlA) (k : Int) (w : World) (h : RdL w a (mkL k d)) (hb : BdL d) (h0 : 0 ≤ k) (h1 : k ≤ 536870912) :
    Calls Try.prog 81 #[.slice a.A d.length a.c, .int .i64 k] w fun e w' => e = .returned (.int .i64 (k + cntL d)) ∧ Ext w w' := by
  have hb1 := hb.1
  have HR := Lib.hid h; have HB := Lib.hid hb
  clear h hb
  go_enter Try.func81, Try.ntmps81
  go_wp2
  go_loopw [1, 5] (fun m i wr => ∃ j : Nat, j ≤ d.length ∧ i = .int .i64 j ∧ m = .int .i64 (k + (sumN (d.take j) : Int)) ∧ Ext w wr) (fun _ i _ => d.length - (intOf i).toNat)
  case atStart => exact ⟨0, Nat.zero_le _, rfl, by simp [sumN], Ext.refl _⟩
  case round =>
    obtain ⟨j, hj, rfl, rfl, hx⟩ := hrel
    by_cases hlt : j < d.length
    · obtain ⟨b, o, r, hA, hc, hrow⟩ := (HR.out.ext hx).at j (by rw [mkL_length]; exact hlt)
      rw [mkL_row k d j hlt] at hc
      rw [mkL_at k d j hlt] at hrow
      have hle := gL_le_sum d j hlt
      have hsb := HB.out.2
      have htk := sumN_take_le d j
      have hts := sumN_take d j hlt
      have HRow := Lib.hid hrow; have HX := Lib.hid hx; have HTS := Lib.hid hts
      have i0 : (0 : Int) ≤ (j : Int) := by omega
      have i1 : (j : Int) < (d.length : Int) := by omega
      have p0 : 0 ≤ k + (sumN (d.take j) : Int) := by omega
      have p1 : k + (sumN (d.take j) : Int) ≤ 1073741824 := by omega
      have p2 : decide (k + (sumN (d.take j) : Int) + cntI (gL d j) < 0) = false := by rw [decide_eq_false_iff_not]; unfold cntI; omega
      rw [hA]
      clear hrow hx hA hts
      go_wp2_with fail
      refine (heldI_t (gL d j) r (k + (sumN (d.take j) : Int)) _ HRow.out (HB.out.row j hlt) p0 p1).mono ?_
      rintro e w1 ⟨rfl, hx⟩
      have HX1 := Lib.hid (HX.out.trans hx); clear hx
      go_wp2
      go_roundw
      case rel => exact ⟨j + 1, by omega, by go_num, by rw [HTS.out]; unfold cntI; congr 1; omega, HX1.out⟩
      case measure => simp [intOf]; omega
    · have hk' : j = d.length := by omega
      subst hk'
      rw [List.take_length]
      go_wp2
      go_ret
      exact ⟨rfl, hx⟩
end Go.Proofs.Ytkfbkflneppggaa
