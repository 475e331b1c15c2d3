/-
  slices.Compact at an owned row of whole numbers: is its length kept? Conditions: none.
-/
import Derived.Test.YtkfbkflneppggaaTg
import Derived.BigQuiet
import Derived.Lib.SliceRun
namespace Go.Proofs.Ytkfbkflneppggaa
open Go.RowKit
set_option linter.unusedVariables false
set_option linter.unusedSimpArgs false

theorem own_cellI {w : World} {base g n cap : Nat} {ys : List Int} (h : w.ownsRow base 3 1 (.slice (some ⟨g, 0, none⟩) n cap) n (ints ys)) (j : Nat) (hj : j < n) : w.cell? ⟨g, j, none⟩ = some (.int .i64 (gI ys j)) ∧ w.frozen? ⟨g, j, none⟩ = false := by
  have hl : ys.length = n := by have := h.1; rw [ints_length] at this; omega
  refine ⟨?_, h.frozenAt j⟩
  rw [h.cellAt j (by omega), gI_eq ys j (by omega)]
  exact ints_at ys j (by omega)
theorem Chg.setCells {D : Nat → Prop} {a : World} {b : Nat} (hb : D b) : ∀ (vs : List Value) (o : Nat) {w : World}, Chg D a w → Chg D a (w.setCells b o vs)
  | [], _, _, h => h
  | v :: r, o, w, h => Chg.setCells hb r (o + 1) (h.set hb v)
theorem Chg.drewN {D : Nat → Prop} {a w : World} (h : Chg D a w) (n : Nat) : Chg D a (w.drewN n) := ⟨h.os, h.tape, h.output, h.size, h.block⟩
theorem zeroI (w : World) : (zeroValue 3).run Try.prog w = .ok (.int .i64 0) w := by kernel_rfl
/-- No two neighbours are equal. -/
def apart (ys : List Int) (n : Nat) : Prop := ∀ j, 0 < j → j < n → gI ys (j - 1) ≠ gI ys j

set_option maxHeartbeats 4000000 in
theorem Compact_c (A : Option Addr) (n c base : Nat) (ys : List Int) (w : World) (ho : w.ownsRow base 3 1 (.slice A n c) n (ints ys)) (hn : n ≤ 1048576) :
    Calls Try.prog 138 #[.slice A n c] w fun e w' => ∃ A' m c', e = .returned (.slice A' m c') ∧ (m = n ↔ apart ys n) ∧ m ≤ n ∧ Chg (fun b => (Value.slice A n c).ownBlock = some b) w w' := by
  by_cases h2 : n < 2
  · have t : (n : Int) < 2 := by omega
    clear ho
    go_enter Try.func138, Try.ntmps138
    go_wp2
    go_ret
    exact ⟨A, n, c, rfl, ⟨fun _ j h0 h1 => by omega, fun _ => rfl⟩, Nat.le_refl _, Chg.refl _ _⟩
  have t : ¬ (n : Int) < 2 := by omega
  obtain ⟨g, cap, hv, _, hg, hcap⟩ := own_at ho (by omega)
  obtain ⟨rfl, rfl⟩ : A = some ⟨g, 0, none⟩ ∧ c = cap := by injection hv with e1 e2 e3; exact ⟨e1, e3⟩
  have HO := Lib.hid ho
  clear ho hv
  go_enter Try.func138, Try.ntmps138
  go_wp2
  go_loopw [3] (fun i wr => ∃ k : Nat, 1 ≤ k ∧ k ≤ n ∧ i = .int .i64 k ∧ Ext w wr ∧ apart ys k) (fun i _ => n - (intOf i).toNat)
  case atStart => exact ⟨1, Nat.le_refl _, by omega, rfl, Ext.refl _, fun j h0 h1 => by omega⟩
  case round =>
    obtain ⟨k, hk1, hk, rfl, hx, hap⟩ := hrel
    have HAp := Lib.hid hap; clear hap
    by_cases hlt : k < n
    · have hown := own_ext HO.out hx
      have c1 := (own_cellI hown k hlt).1
      have c0 := (own_cellI hown (k - 1) (by omega)).1
      have HX := Lib.hid hx; have HOw := Lib.hid hown
      clear hx hown
      have i0 : (0 : Int) ≤ (k : Int) := by omega
      have i1 : (k : Int) < (n : Int) := by omega
      have t4 : (0 : Int) ≤ (k : Int) - 1 := by omega
      have t5 : (1 : Int) ≤ (k : Int) := by omega
      have t6 : (k : Int) ≤ (n : Int) := by omega
      have t7 : (k : Int) - 1 < (n : Int) := by omega
      have t8 : ((k : Int) - 1).toNat = k - 1 := by omega
      have hw2 : IntKind.i64.wrap ((k : Int) - 1) = (k : Int) - 1 := IntWalk.i64_in _ (by omega)
      by_cases hd : gI ys k = gI ys (k - 1)
      · have q1 : (gI ys k == gI ys (k - 1)) = true := by simp [hd]
        have HD := Lib.hid hd
        clear hd
        go_wp2_with fail
        go_quiet (fail)
        clear hw2 t4 t5 t6 t7 t8 q1 c0 c1
        go_wp2
        go_loopw [3, 5] (fun i j wr2 => ∃ (kk k2 : Nat) (zs : List Int), i = .int .i64 kk ∧ j = .int .i64 k2 ∧ 1 ≤ k2 ∧ 1 ≤ kk ∧ k + k2 ≤ n ∧ kk + 1 ≤ k + k2 ∧ wr2.ownsRow base 3 1 (.slice (some ⟨g, 0, none⟩) n c) n (ints zs) ∧ Chg (fun b => (Value.slice (some ⟨g, 0, none⟩) n c).ownBlock = some b) w wr2) (fun _ j _ => n - (intOf j).toNat)
        case atStart => exact ⟨k, 1, ys, rfl, rfl, Nat.le_refl _, hk1, by omega, by omega, own_ext HOw.out ((Ext.refl _).drewN _), (HX.out.drewN _).chg _⟩
        case round =>
          obtain ⟨kk, k2, zs, rfl, rfl, h1, hkk, hle, hkl, hown, hch⟩ := hrel
          have HC := Lib.hid hch
          clear hch
          by_cases hlt2 : k + k2 < n
          · have c1 := (own_cellI hown (k + k2) hlt2).1
            have c0 := (own_cellI hown (k + (k2 - 1)) (by omega)).1
            obtain ⟨cs, fs⟩ := own_cellI hown kk (by omega)
            have HOw2 := Lib.hid hown; clear hown
            have j0 : (0 : Int) ≤ (k2 : Int) := by omega
            have j1 : (k2 : Int) < (n : Int) - (k : Int) := by omega
            have j2 : k2 < n - k := by omega
            have t4 : (0 : Int) ≤ (k2 : Int) - 1 := by omega
            have t5 : (1 : Int) ≤ (k2 : Int) := by omega
            have t8 : ((k2 : Int) - 1).toNat = k2 - 1 := by omega
            have hw2 : IntKind.i64.wrap ((k2 : Int) - 1) = (k2 : Int) - 1 := IntWalk.i64_in _ (by omega)
            have s0 : (0 : Int) ≤ (kk : Int) := by omega
            have s1 : (kk : Int) < (n : Int) := by omega
            by_cases hd2 : gI zs (k + k2) = gI zs (k + (k2 - 1))
            · have q2 : (gI zs (k + k2) != gI zs (k + (k2 - 1))) = false := by simp [hd2]
              go_wp2_with fail
              go_quiet (fail)
              clear hw2 t4 t5 t8 q2 c0 c1
              go_wp2
              go_roundw
              case rel => exact ⟨kk, k2 + 1, zs, rfl, by go_num, by omega, hkk, by omega, by omega, own_ext HOw2.out ((Ext.refl _).drewN _), HC.out.drewN _⟩
              case measure => simp [intOf]; omega
            · have q2 : (gI zs (k + k2) != gI zs (k + (k2 - 1))) = true := by simp [hd2]
              go_wp2_with fail
              go_quiet (fail)
              go_wp2
              go_roundw
              case rel => exact ⟨kk + 1, k2 + 1, _, by go_num, by go_num, by omega, by omega, by omega, by omega, own_setI (k := kk) (own_ext HOw2.out ((Ext.refl _).drewN _)), (HC.out.drewN _).set rfl _⟩
              case measure => simp [intOf]; omega
          · have hend : k + k2 = n := by omega
            have hcl : ∀ ty, (Builtin.clear_ #[40] ty #[.slice (some ⟨g, kk, none⟩) (n - kk) (c - kk)]).run Try.prog wr = .ok (.tuple #[]) (wr.setCells g kk (List.replicate (n - kk) (.int .i64 0))) :=
              fun ty => Lib.run_clear_slice wr _ _ ty _ Try.underlying40 zeroI rfl rfl g kk _ _ (by omega) (fun j hj => by rw [(own_cellI hown (kk + j) (by omega)).1]; rfl) (fun j hj => (own_cellI hown (kk + j) (by omega)).2)
            have s0 : (0 : Int) ≤ (kk : Int) := by omega
            have s1 : (kk : Int) < (n : Int) := by omega
            have s2 : kk ≤ n := by omega
            have s3 : kk ≤ c := by omega
            clear hown
            go_wp2
            go_ret
            exact ⟨_, kk, _, rfl, ⟨fun h => by omega, fun h => absurd HD.out.symm (h k (by omega) hlt)⟩, by omega, Chg.setCells (D := fun b => (Value.slice (some ⟨g, 0, none⟩) n c).ownBlock = some b) (b := g) rfl _ _ HC.out⟩
      · have q1 : (gI ys k == gI ys (k - 1)) = false := by simp [hd]
        have HD := Lib.hid hd
        clear hd
        go_wp2_with fail
        go_quiet (fail)
        clear hw2
        go_wp2
        go_roundw
        case rel =>
          refine ⟨k + 1, by omega, by omega, by go_num, HX.out.drewN _, fun j h0 h1 => ?_⟩
          by_cases hj : j < k
          · exact HAp.out j h0 hj
          · obtain rfl : j = k := by omega
            exact fun e => HD.out e.symm
        case measure => simp [intOf]; omega
    · have hk' : k = n := by omega
      subst hk'
      go_wp2
      go_ret
      exact ⟨_, k, _, rfl, ⟨fun _ => HAp.out, fun _ => rfl⟩, Nat.le_refl _, hx.chg _⟩
end Go.Proofs.Ytkfbkflneppggaa
