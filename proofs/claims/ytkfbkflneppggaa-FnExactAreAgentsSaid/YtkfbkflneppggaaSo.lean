/-
  slices.Sort at few whole numbers, and what it calls. Conditions: none.
-/
import Derived.Test.YtkfbkflneppggaaSp
import Derived.Test.YtkfbkflneppggaaBa
import Derived.Test.YtkfbkflneppggaaBo
import Derived.BigQuiet
import Derived.BigRegion
namespace Go.Proofs.Ytkfbkflneppggaa
open Go.RowKit
set_option linter.unusedVariables false
set_option linter.unusedSimpArgs false

set_option maxHeartbeats 400000 in
theorem Less_c (x y : Int) (w : World) :
    Calls Try.prog 167 #[.int .i64 x, .int .i64 y] w fun e w' => e = .returned (.bool (decide (x < y))) ∧ w = w' := by
  go_enter Try.func167, Try.ntmps167
  go_wp2_with (go_at_call 186; refine (isNaN_c _ _).mono ?_; rintro e w1 ⟨rfl, rfl⟩)
  go_ret
  exact ⟨rfl, rfl⟩

theorem own_sli {w : World} {base n c : Nat} {A : Option Addr} {e : TypeId} {xs : List Int} (h : w.ownsRow base e 1 (.slice A n c) n (ints xs)) : SlI w A n xs := by
  obtain ⟨A', c', hv, hs⟩ := own_sl h
  obtain ⟨rfl, _⟩ : A = A' ∧ c = c' := by injection hv with h1 h2 h3; exact ⟨h1, h3⟩
  exact hs

set_option maxHeartbeats 2000000 in
theorem insSort_c (A : Option Addr) (n cap base : Nat) (xs : List Int) (w : World) (h : w.ownsRow base 3 1 (.slice A n cap) n (ints xs)) (hn : n ≤ 1048576) :
    Calls Try.prog 211 #[.slice A n cap, .int .i64 0, .int .i64 (n : Int)] w fun e w' => e = .returned (.tuple #[]) ∧
      ∃ ys : List Int, ys.Perm xs ∧ srt ys n ∧ w'.ownsRow base 3 1 (.slice A n cap) n (ints ys) ∧ Chg (fun b => (Value.slice A n cap).ownBlock = some b) w w' := by
  go_enter Try.func211, Try.ntmps211
  go_wp2
  go_loopw [6] (fun i wr => ∃ (k : Nat) (ys : List Int), 1 ≤ k ∧ (k ≤ n ∨ k = 1) ∧ i = .int .i64 (k : Int) ∧ ys.Perm xs ∧ srt ys k ∧ wr.ownsRow base 3 1 (.slice A n cap) n (ints ys) ∧ Chg (fun b => (Value.slice A n cap).ownBlock = some b) w wr) (fun i _ => n - (intOf i).toNat)
  case atStart => exact ⟨1, xs, Nat.le_refl _, .inr rfl, rfl, List.Perm.refl _, fun p q h1 h2 => by omega, h, Chg.refl _ _⟩
  case round =>
    obtain ⟨i, ys, hi1, hi, rfl, hperm, hsrt, hown, hch⟩ := hrel
    have HPerm := Lib.hid hperm; have HSrt := Lib.hid hsrt; have HOwn := Lib.hid hown; have HCh := Lib.hid hch; have Hi := Lib.hid hi
    clear h hperm hsrt hown hch hi
    by_cases hlt : i < n
    · go_wp2
      go_loopw [7] (fun k2 wq => ∃ (j : Nat) (zs : List Int), k2 = .int .i64 (j : Int) ∧ zs.Perm xs ∧ insI zs i j ∧ wq.ownsRow base 3 1 (.slice A n cap) n (ints zs) ∧ Chg (fun b => (Value.slice A n cap).ownBlock = some b) w wq) (fun k2 _ => (intOf k2).toNat)
      case atStart => exact ⟨i, ys, rfl, HPerm.out, ins_start HSrt.out, HOwn.out, HCh.out⟩
      case round =>
        obtain ⟨j, zs, rfl, hperm, hins, hown, hch⟩ := hrel
        obtain ⟨g, cap', hv, hb, hg, _⟩ := own_at hown (by omega)
        obtain ⟨rfl, rfl⟩ : A = some ⟨g, 0, none⟩ ∧ cap = cap' := by injection hv with e1 e2 e3; exact ⟨e1, e3⟩
        have hji := hins.1
        have hl : zs.length = n := (own_sli hown).len
        have HL := Lib.hid hl
        have HPerm := Lib.hid hperm; have HIns := Lib.hid hins; have HOw := Lib.hid hown; have HCh := Lib.hid hch
        clear hperm hins hch hv HOwn hl
        by_cases hj : 0 < j
        · have s1 := (own_sli hown).at j (by have := HL.out; omega)
          have s2 := (own_sli hown).at (j - 1) (by have := HL.out; omega)
          obtain ⟨b1, o1, e1, p1⟩ := s1
          obtain ⟨b2, o2, e2, p2⟩ := s2
          obtain ⟨rfl, rfl⟩ : g = b1 ∧ 0 = o1 := by injection e1 with e1; injection e1 with e1 e2 _; exact ⟨e1, e2⟩
          obtain ⟨rfl, rfl⟩ : g = b2 ∧ 0 = o2 := by injection e2 with e1; injection e1 with e1 e2 _; exact ⟨e1, e2⟩
          simp only [Nat.zero_add] at p1 p2
          clear e1 e2
          obtain ⟨_, _, f1⟩ := own_ready hown j (by omega)
          obtain ⟨_, _, f2⟩ := own_ready hown (j - 1) (by omega)
          have t0 : decide ((0 : Int) < (j : Int)) = true := by simp; omega
          have t1 : (0 : Int) ≤ (j : Int) := by omega
          have t2 : (j : Int) < (n : Int) := by omega
          have t3 : (0 : Int) ≤ (j : Int) - 1 := by omega
          have t4 : (j : Int) - 1 < (n : Int) := by omega
          have t5 : ((j : Int) - 1).toNat = j - 1 := by omega
          have t6 : (1 : Int) ≤ (j : Int) := by omega
          clear hown
          by_cases hless : gI zs j < gI zs (j - 1)
          · have q1 : decide (gI zs j < gI zs (j - 1)) = true := by simpa using hless
            have HLs := Lib.hid hless
            clear hless
            have hw1 : IntKind.i64.wrap ((j : Int) - 1) = (j : Int) - 1 := IntWalk.i64_in _ (by omega)
            go_wp2_with fail
            go_quiet ((go_at_call 167; exact quiet_eq (Less_c _ _ _)))
            go_wp2_with fail
            obtain ⟨W, hW⟩ : ∃ W, W = wr.drewN nq := ⟨_, rfl⟩
            have hext : Ext wr W := by rw [hW]; exact (Ext.refl wr).drewN _
            have HW := Lib.hid hext
            have p1' := hext.cell p1
            have p2' := hext.cell p2
            have f1' := (hext.frozen (p := ⟨g, j, none⟩) hg).trans f1
            have f2' := (hext.frozen (p := ⟨g, j - 1, none⟩) hg).trans f2
            have f3' : (W.setCell ⟨g, j, none⟩ (.int .i64 (gI zs (j - 1)))).frozen? ⟨g, j - 1, none⟩ = false := (World.frozen?_setCell _ _ _ _).trans f2'
            have p3' : (W.setCell ⟨g, j, none⟩ (.int .i64 (gI zs (j - 1)))).cell? ⟨g, j - 1, none⟩ = some (.int .i64 (gI zs (j - 1))) := (World.cell?_setCell_other _ _ _ _ (by intro e; injection e with _ e2 _; omega)).trans p2'
            rw [← hW]
            clear hW p1 p2 f1 f2 hext hg
            go_region
            go_wp2
            go_roundw
            case rel =>
              have hI := ins_step HIns.out hj (by have := HL.out; omega) HLs.out
              have ho1 := own_setI (k := j) (x := gI zs (j - 1)) (own_ext HOw.out HW.out)
              have ho2 := own_setI (k := j - 1) (x := gI zs j) ho1
              exact ⟨j - 1, swapL zs j, by go_num, (swap_perm zs j hj (by have := HL.out; omega)).trans HPerm.out, hI, own_ext ho2 (Ext.refl _).drew,
                (((HCh.out.trans (HW.out.chg _) (fun _ _ h => h)).set rfl _).set rfl _).trans ((Ext.refl _).drew.chg _) (fun _ _ h => h)⟩
            case measure => simp [intOf]; omega
          · have q1 : decide (gI zs j < gI zs (j - 1)) = false := by simpa using hless
            have HLs := Lib.hid hless
            clear hless
            have hw1 : IntKind.i64.wrap ((j : Int) - 1) = (j : Int) - 1 := IntWalk.i64_in _ (by omega)
            go_wp2_with fail
            go_quiet ((go_at_call 167; exact quiet_eq (Less_c _ _ _)))
            clear hw1
            go_wp2
            go_roundw
            case rel =>
              exact ⟨i + 1, zs, by omega, by omega, by go_num, HPerm.out, ins_stop HIns.out (.inr (by have := HLs.out; omega)), own_ext HOw.out ((Ext.refl _).drewN _), HCh.out.trans (((Ext.refl _).drewN _).chg _) (fun _ _ h => h)⟩
            case measure => simp [intOf]; omega
        · have t0 : decide ((0 : Int) < (j : Int)) = false := by simp; omega
          have t0' : decide (0 < j) = false := by simp; omega
          have HJ := Lib.hid hj
          clear hj hown
          go_wp2_with fail
          go_quiet (fail)
          go_wp2
          go_roundw
          case rel =>
            exact ⟨i + 1, zs, by omega, by omega, by go_num, HPerm.out, ins_stop HIns.out (.inl (by have := HJ.out; omega)), own_ext HOw.out ((Ext.refl _).drewN _), HCh.out.trans (((Ext.refl _).drewN _).chg _) (fun _ _ h => h)⟩
          case measure => simp [intOf]; omega
    · go_wp2
      go_end0
      exact ⟨rfl, ys, HPerm.out, fun p q h1 h2 => HSrt.out p q h1 (by omega), HOwn.out, HCh.out⟩
end Go.Proofs.Ytkfbkflneppggaa
