/-
  NewStudio, the program's and the reference's, and what they call. Conditions: none.
-/
import Derived.Test.YtkfbkflneppggaaUl
import Derived.Test.YtkfbkflneppggaaUi
namespace Go.Proofs.Ytkfbkflneppggaa
open Go.RowKit
set_option linter.unusedVariables false
set_option linter.unusedSimpArgs false

def zeroU : StD := ⟨⟨0, []⟩, 0, [], [], [], 0⟩
/-- A new studio's datum. -/
def nsD (g : GrD) (kinds : Int) (n : Nat) : StD := ⟨g, kinds, [], [], homeL n, 0⟩

set_option maxHeartbeats 2000000 in
theorem orFail_yes (d : StD) (a : StA) (w : World) (h : RdU w a d) (hs : stuB d = true) :
    Calls Try.prog 103 #[.agg #[.int .i64 d.g.sz, .slice a.g.A d.g.ps.length a.g.c, .int .i64 d.kinds, .slice a.tok.A d.tok.length a.tok.c, .slice a.col.A d.col.length a.col.c, .slice a.brd.A d.brd.length a.brd.c, .int .i64 d.count]] w fun e w' => e = .returned (.tuple #[.agg #[.int .i64 d.g.sz, .slice a.g.A d.g.ps.length a.g.c, .int .i64 d.kinds, .slice a.tok.A d.tok.length a.tok.c, .slice a.col.A d.col.length a.col.c, .slice a.brd.A d.brd.length a.brd.c, .int .i64 d.count], .bool true]) ∧ Ext w w' := by
  have hE : Ext w ((w.alloc (.cells #[.int .i64 d.g.sz, .slice a.g.A d.g.ps.length a.g.c, .int .i64 d.kinds, .slice a.tok.A d.tok.length a.tok.c, .slice a.col.A d.col.length a.col.c, .slice a.brd.A d.brd.length a.brd.c, .int .i64 d.count] 66)).alloc (.cells #[.int .i64 0, .slice none 0 0, .int .i64 0, .slice none 0 0, .slice none 0 0, .slice none 0 0, .int .i64 0] 66)) := ((Ext.refl w).alloc _).alloc _
  have hA := (Bx.new w [.int .i64 d.g.sz, .slice a.g.A d.g.ps.length a.g.c, .int .i64 d.kinds, .slice a.tok.A d.tok.length a.tok.c, .slice a.col.A d.col.length a.col.c, .slice a.brd.A d.brd.length a.brd.c, .int .i64 d.count] 66).alloc (.cells #[.int .i64 0, .slice none 0 0, .int .i64 0, .slice none 0 0, .slice none 0 0, .slice none 0 0, .int .i64 0] 66)
  have hR := Bx.new (w.alloc (.cells #[.int .i64 d.g.sz, .slice a.g.A d.g.ps.length a.g.c, .int .i64 d.kinds, .slice a.tok.A d.tok.length a.tok.c, .slice a.col.A d.col.length a.col.c, .slice a.brd.A d.brd.length a.brd.c, .int .i64 d.count] 66)) [.int .i64 0, .slice none 0 0, .int .i64 0, .slice none 0 0, .slice none 0 0, .slice none 0 0, .int .i64 0] 66
  simp only [alloc_size] at hR
  have HRd := Lib.hid (h.ext hE); have HE := Lib.hid hE; have BA := Lib.hid hA; have BR := Lib.hid hR; have HS := Lib.hid hs
  clear h hE hA hR hs
  go_enter Try.func103, Try.ntmps103
  have a0 := BA.out.c 0 rfl; have ga0 := BA.out.f 0 (Nat.lt_of_lt_of_eq (by decide : 0 < 7) rfl); have a1 := BA.out.c 1 rfl; have ga1 := BA.out.f 1 (Nat.lt_of_lt_of_eq (by decide : 1 < 7) rfl); have a2 := BA.out.c 2 rfl; have ga2 := BA.out.f 2 (Nat.lt_of_lt_of_eq (by decide : 2 < 7) rfl); have a3 := BA.out.c 3 rfl; have ga3 := BA.out.f 3 (Nat.lt_of_lt_of_eq (by decide : 3 < 7) rfl); have a4 := BA.out.c 4 rfl; have ga4 := BA.out.f 4 (Nat.lt_of_lt_of_eq (by decide : 4 < 7) rfl); have a5 := BA.out.c 5 rfl; have ga5 := BA.out.f 5 (Nat.lt_of_lt_of_eq (by decide : 5 < 7) rfl); have a6 := BA.out.c 6 rfl; have ga6 := BA.out.f 6 (Nat.lt_of_lt_of_eq (by decide : 6 < 7) rfl)
  go_wp2_with fail
  refine (IsStudioI_c d a _ HRd.out).mono ?_
  rw [HS.out]
  rintro e w1 ⟨rfl, hx⟩
  have BA1 := Lib.hid (BA.out.ext hx); have BR1 := Lib.hid (BR.out.ext hx); have E1 := Lib.hid (HE.out.trans hx)
  clear hx a0 ga0 a1 ga1 a2 ga2 a3 ga3 a4 ga4 a5 ga5 a6 ga6
  have a0 := BA1.out.c 0 rfl; have ga0 := BA1.out.f 0 (Nat.lt_of_lt_of_eq (by decide : 0 < 7) rfl); have a1 := BA1.out.c 1 rfl; have ga1 := BA1.out.f 1 (Nat.lt_of_lt_of_eq (by decide : 1 < 7) rfl); have a2 := BA1.out.c 2 rfl; have ga2 := BA1.out.f 2 (Nat.lt_of_lt_of_eq (by decide : 2 < 7) rfl); have a3 := BA1.out.c 3 rfl; have ga3 := BA1.out.f 3 (Nat.lt_of_lt_of_eq (by decide : 3 < 7) rfl); have a4 := BA1.out.c 4 rfl; have ga4 := BA1.out.f 4 (Nat.lt_of_lt_of_eq (by decide : 4 < 7) rfl); have a5 := BA1.out.c 5 rfl; have ga5 := BA1.out.f 5 (Nat.lt_of_lt_of_eq (by decide : 5 < 7) rfl); have a6 := BA1.out.c 6 rfl; have ga6 := BA1.out.f 6 (Nat.lt_of_lt_of_eq (by decide : 6 < 7) rfl)
  have r0 := BR1.out.c 0 rfl; have gr0 := BR1.out.f 0 (Nat.lt_of_lt_of_eq (by decide : 0 < 7) rfl); have r1 := BR1.out.c 1 rfl; have gr1 := BR1.out.f 1 (Nat.lt_of_lt_of_eq (by decide : 1 < 7) rfl); have r2 := BR1.out.c 2 rfl; have gr2 := BR1.out.f 2 (Nat.lt_of_lt_of_eq (by decide : 2 < 7) rfl); have r3 := BR1.out.c 3 rfl; have gr3 := BR1.out.f 3 (Nat.lt_of_lt_of_eq (by decide : 3 < 7) rfl); have r4 := BR1.out.c 4 rfl; have gr4 := BR1.out.f 4 (Nat.lt_of_lt_of_eq (by decide : 4 < 7) rfl); have r5 := BR1.out.c 5 rfl; have gr5 := BR1.out.f 5 (Nat.lt_of_lt_of_eq (by decide : 5 < 7) rfl); have r6 := BR1.out.c 6 rfl; have gr6 := BR1.out.f 6 (Nat.lt_of_lt_of_eq (by decide : 6 < 7) rfl)
  go_wp2
  refine bodyPost_ret (v := .tuple #[.agg #[.int .i64 d.g.sz, .slice a.g.A d.g.ps.length a.g.c, .int .i64 d.kinds, .slice a.tok.A d.tok.length a.tok.c, .slice a.col.A d.col.length a.col.c, .slice a.brd.A d.brd.length a.brd.c, .int .i64 d.count], .bool true]) (by simp [results, Try.results103, go_sem, r0, gr0, r1, gr1, r2, gr2, r3, gr3, r4, gr4, r5, gr5, r6, gr6]) rfl ⟨rfl, ?_⟩
  have he := E1.out
  replace he := Ext.set (a := w) he (b := w.heap.size + 1) (o := 0) (by omega) (.int .i64 d.g.sz)
  replace he := Ext.set (a := w) he (b := w.heap.size + 1) (o := 1) (by omega) (.slice a.g.A d.g.ps.length a.g.c)
  replace he := Ext.set (a := w) he (b := w.heap.size + 1) (o := 2) (by omega) (.int .i64 d.kinds)
  replace he := Ext.set (a := w) he (b := w.heap.size + 1) (o := 3) (by omega) (.slice a.tok.A d.tok.length a.tok.c)
  replace he := Ext.set (a := w) he (b := w.heap.size + 1) (o := 4) (by omega) (.slice a.col.A d.col.length a.col.c)
  replace he := Ext.set (a := w) he (b := w.heap.size + 1) (o := 5) (by omega) (.slice a.brd.A d.brd.length a.brd.c)
  replace he := Ext.set (a := w) he (b := w.heap.size + 1) (o := 6) (by omega) (.int .i64 d.count)
  exact he

set_option maxHeartbeats 2000000 in
theorem orFail_no (d : StD) (a : StA) (w : World) (h : RdU w a d) (hs : stuB d = false) :
    Calls Try.prog 103 #[.agg #[.int .i64 d.g.sz, .slice a.g.A d.g.ps.length a.g.c, .int .i64 d.kinds, .slice a.tok.A d.tok.length a.tok.c, .slice a.col.A d.col.length a.col.c, .slice a.brd.A d.brd.length a.brd.c, .int .i64 d.count]] w fun e w' => e = .returned (.tuple #[.agg #[.int .i64 0, .slice none 0 0, .int .i64 0, .slice none 0 0, .slice none 0 0, .slice none 0 0, .int .i64 0], .bool false]) ∧ Ext w w' := by
  have hE : Ext w ((w.alloc (.cells #[.int .i64 d.g.sz, .slice a.g.A d.g.ps.length a.g.c, .int .i64 d.kinds, .slice a.tok.A d.tok.length a.tok.c, .slice a.col.A d.col.length a.col.c, .slice a.brd.A d.brd.length a.brd.c, .int .i64 d.count] 66)).alloc (.cells #[.int .i64 0, .slice none 0 0, .int .i64 0, .slice none 0 0, .slice none 0 0, .slice none 0 0, .int .i64 0] 66)) := ((Ext.refl w).alloc _).alloc _
  have hA := (Bx.new w [.int .i64 d.g.sz, .slice a.g.A d.g.ps.length a.g.c, .int .i64 d.kinds, .slice a.tok.A d.tok.length a.tok.c, .slice a.col.A d.col.length a.col.c, .slice a.brd.A d.brd.length a.brd.c, .int .i64 d.count] 66).alloc (.cells #[.int .i64 0, .slice none 0 0, .int .i64 0, .slice none 0 0, .slice none 0 0, .slice none 0 0, .int .i64 0] 66)
  have hR := Bx.new (w.alloc (.cells #[.int .i64 d.g.sz, .slice a.g.A d.g.ps.length a.g.c, .int .i64 d.kinds, .slice a.tok.A d.tok.length a.tok.c, .slice a.col.A d.col.length a.col.c, .slice a.brd.A d.brd.length a.brd.c, .int .i64 d.count] 66)) [.int .i64 0, .slice none 0 0, .int .i64 0, .slice none 0 0, .slice none 0 0, .slice none 0 0, .int .i64 0] 66
  simp only [alloc_size] at hR
  have HRd := Lib.hid (h.ext hE); have HE := Lib.hid hE; have BA := Lib.hid hA; have BR := Lib.hid hR; have HS := Lib.hid hs
  clear h hE hA hR hs
  go_enter Try.func103, Try.ntmps103
  have a0 := BA.out.c 0 rfl; have ga0 := BA.out.f 0 (Nat.lt_of_lt_of_eq (by decide : 0 < 7) rfl); have a1 := BA.out.c 1 rfl; have ga1 := BA.out.f 1 (Nat.lt_of_lt_of_eq (by decide : 1 < 7) rfl); have a2 := BA.out.c 2 rfl; have ga2 := BA.out.f 2 (Nat.lt_of_lt_of_eq (by decide : 2 < 7) rfl); have a3 := BA.out.c 3 rfl; have ga3 := BA.out.f 3 (Nat.lt_of_lt_of_eq (by decide : 3 < 7) rfl); have a4 := BA.out.c 4 rfl; have ga4 := BA.out.f 4 (Nat.lt_of_lt_of_eq (by decide : 4 < 7) rfl); have a5 := BA.out.c 5 rfl; have ga5 := BA.out.f 5 (Nat.lt_of_lt_of_eq (by decide : 5 < 7) rfl); have a6 := BA.out.c 6 rfl; have ga6 := BA.out.f 6 (Nat.lt_of_lt_of_eq (by decide : 6 < 7) rfl)
  go_wp2_with fail
  refine (IsStudioI_c d a _ HRd.out).mono ?_
  rw [HS.out]
  rintro e w1 ⟨rfl, hx⟩
  have BA1 := Lib.hid (BA.out.ext hx); have BR1 := Lib.hid (BR.out.ext hx); have E1 := Lib.hid (HE.out.trans hx)
  clear hx a0 ga0 a1 ga1 a2 ga2 a3 ga3 a4 ga4 a5 ga5 a6 ga6
  have a0 := BA1.out.c 0 rfl; have ga0 := BA1.out.f 0 (Nat.lt_of_lt_of_eq (by decide : 0 < 7) rfl); have a1 := BA1.out.c 1 rfl; have ga1 := BA1.out.f 1 (Nat.lt_of_lt_of_eq (by decide : 1 < 7) rfl); have a2 := BA1.out.c 2 rfl; have ga2 := BA1.out.f 2 (Nat.lt_of_lt_of_eq (by decide : 2 < 7) rfl); have a3 := BA1.out.c 3 rfl; have ga3 := BA1.out.f 3 (Nat.lt_of_lt_of_eq (by decide : 3 < 7) rfl); have a4 := BA1.out.c 4 rfl; have ga4 := BA1.out.f 4 (Nat.lt_of_lt_of_eq (by decide : 4 < 7) rfl); have a5 := BA1.out.c 5 rfl; have ga5 := BA1.out.f 5 (Nat.lt_of_lt_of_eq (by decide : 5 < 7) rfl); have a6 := BA1.out.c 6 rfl; have ga6 := BA1.out.f 6 (Nat.lt_of_lt_of_eq (by decide : 6 < 7) rfl)
  have r0 := BR1.out.c 0 rfl; have gr0 := BR1.out.f 0 (Nat.lt_of_lt_of_eq (by decide : 0 < 7) rfl); have r1 := BR1.out.c 1 rfl; have gr1 := BR1.out.f 1 (Nat.lt_of_lt_of_eq (by decide : 1 < 7) rfl); have r2 := BR1.out.c 2 rfl; have gr2 := BR1.out.f 2 (Nat.lt_of_lt_of_eq (by decide : 2 < 7) rfl); have r3 := BR1.out.c 3 rfl; have gr3 := BR1.out.f 3 (Nat.lt_of_lt_of_eq (by decide : 3 < 7) rfl); have r4 := BR1.out.c 4 rfl; have gr4 := BR1.out.f 4 (Nat.lt_of_lt_of_eq (by decide : 4 < 7) rfl); have r5 := BR1.out.c 5 rfl; have gr5 := BR1.out.f 5 (Nat.lt_of_lt_of_eq (by decide : 5 < 7) rfl); have r6 := BR1.out.c 6 rfl; have gr6 := BR1.out.f 6 (Nat.lt_of_lt_of_eq (by decide : 6 < 7) rfl)
  go_wp2
  refine bodyPost_ret (v := .tuple #[.agg #[.int .i64 0, .slice none 0 0, .int .i64 0, .slice none 0 0, .slice none 0 0, .slice none 0 0, .int .i64 0], .bool false]) (by simp [results, Try.results103, go_sem, r0, gr0, r1, gr1, r2, gr2, r3, gr3, r4, gr4, r5, gr5, r6, gr6]) rfl ⟨rfl, ?_⟩
  have he := E1.out
  replace he := Ext.set (a := w) he (b := w.heap.size + 1) (o := 0) (by omega) (.int .i64 0)
  replace he := Ext.set (a := w) he (b := w.heap.size + 1) (o := 1) (by omega) (.slice none 0 0)
  replace he := Ext.set (a := w) he (b := w.heap.size + 1) (o := 2) (by omega) (.int .i64 0)
  replace he := Ext.set (a := w) he (b := w.heap.size + 1) (o := 3) (by omega) (.slice none 0 0)
  replace he := Ext.set (a := w) he (b := w.heap.size + 1) (o := 4) (by omega) (.slice none 0 0)
  replace he := Ext.set (a := w) he (b := w.heap.size + 1) (o := 5) (by omega) (.slice none 0 0)
  replace he := Ext.set (a := w) he (b := w.heap.size + 1) (o := 6) (by omega) (.int .i64 0)
  exact he

theorem rdN {g : GrD} {kinds : Int} {n c1 : Nat} {a : SlA} {A1 : Option Addr} {w : World} (h : RdG w a g) (h1 : SlI w A1 n (homeL n)) : RdU w ⟨a, ⟨none, 0⟩, ⟨none, 0⟩, ⟨A1, c1⟩⟩ (nsD g kinds n) :=
  ⟨h, SlI.nil w none, SlI.nil w none, by unfold RdI; show SlI w A1 (homeL n).length (homeL n); rw [homeL_length]; exact h1⟩
theorem bdN {g : GrD} {kinds : Int} {n : Nat} (hb : BdG g) (hn : n ≤ 1048576) : BdU (nsD g kinds n) :=
  ⟨hb, by unfold BdI nsD; simp, by unfold BdI nsD; simp, by unfold BdI nsD; rw [homeL_length]; exact hn⟩

theorem copiedN_c (g : GrD) (kinds : Int) (n c1 : Nat) (a : SlA) (A1 : Option Addr) (w : World) (h : RdG w a g) (hb : BdG g) (h1 : SlI w A1 n (homeL n)) (hn : n ≤ 1048576) :
    Calls Try.prog 105 #[.agg #[.int .i64 g.sz, .slice a.A g.ps.length a.c, .int .i64 kinds, .slice none 0 0, .slice none 0 0, .slice A1 n c1, .int .i64 0]] w fun e w' => ∃ b : StA, e = .returned (.agg #[.int .i64 g.sz, .slice b.g.A g.ps.length b.g.c, .int .i64 kinds, .slice b.tok.A 0 b.tok.c, .slice b.col.A 0 b.col.c, .slice b.brd.A n b.brd.c, .int .i64 0]) ∧ OwU w' w.heap.size w'.heap.size b (nsD g kinds n) ∧ Ext w w' := by
  have hc := copied_c (nsD g kinds n) ⟨a, ⟨none, 0⟩, ⟨none, 0⟩, ⟨A1, c1⟩⟩ w (rdN h h1) (bdN hb hn)
  have e : (nsD g kinds n).brd.length = n := homeL_length n
  rw [e] at hc
  exact hc

theorem ownN_c (g : GrD) (kinds : Int) (n c1 : Nat) (a : SlA) (A1 : Option Addr) (w : World) (h : RdG w a g) (hb : BdG g) (h1 : SlI w A1 n (homeL n)) (hn : n ≤ 1048576) :
    Calls Try.prog 101 #[.agg #[.int .i64 g.sz, .slice a.A g.ps.length a.c, .int .i64 kinds, .slice none 0 0, .slice none 0 0, .slice A1 n c1, .int .i64 0]] w fun e w' => ∃ b : StA, e = .returned (.agg #[.int .i64 g.sz, .slice b.g.A g.ps.length b.g.c, .int .i64 kinds, .slice b.tok.A 0 b.tok.c, .slice b.col.A 0 b.col.c, .slice b.brd.A n b.brd.c, .int .i64 0]) ∧ OwU w' w.heap.size w'.heap.size b (nsD g kinds n) ∧ Ext w w' := by
  have hc := l12Own_c (nsD g kinds n) ⟨a, ⟨none, 0⟩, ⟨none, 0⟩, ⟨A1, c1⟩⟩ w (rdN h h1) (bdN hb hn)
  have e : (nsD g kinds n).brd.length = n := homeL_length n
  rw [e] at hc
  exact hc

theorem orFailN_yes (g : GrD) (kinds : Int) (n : Nat) (b : StA) (w : World) (h : RdU w b (nsD g kinds n)) (hs : stuB (nsD g kinds n) = true) :
    Calls Try.prog 103 #[.agg #[.int .i64 g.sz, .slice b.g.A g.ps.length b.g.c, .int .i64 kinds, .slice b.tok.A 0 b.tok.c, .slice b.col.A 0 b.col.c, .slice b.brd.A n b.brd.c, .int .i64 0]] w fun e w' => e = .returned (.tuple #[.agg #[.int .i64 g.sz, .slice b.g.A g.ps.length b.g.c, .int .i64 kinds, .slice b.tok.A 0 b.tok.c, .slice b.col.A 0 b.col.c, .slice b.brd.A n b.brd.c, .int .i64 0], .bool true]) ∧ Ext w w' := by
  have hc := orFail_yes (nsD g kinds n) b w h hs
  have e : (nsD g kinds n).brd.length = n := homeL_length n
  rw [e] at hc
  exact hc
theorem orFailN_no (g : GrD) (kinds : Int) (n : Nat) (b : StA) (w : World) (h : RdU w b (nsD g kinds n)) (hs : stuB (nsD g kinds n) = false) :
    Calls Try.prog 103 #[.agg #[.int .i64 g.sz, .slice b.g.A g.ps.length b.g.c, .int .i64 kinds, .slice b.tok.A 0 b.tok.c, .slice b.col.A 0 b.col.c, .slice b.brd.A n b.brd.c, .int .i64 0]] w fun e w' => e = .returned (.tuple #[.agg #[.int .i64 0, .slice none 0 0, .int .i64 0, .slice none 0 0, .slice none 0 0, .slice none 0 0, .int .i64 0], .bool false]) ∧ Ext w w' := by
  have hc := orFail_no (nsD g kinds n) b w h hs
  have e : (nsD g kinds n).brd.length = n := homeL_length n
  rw [e] at hc
  exact hc

def nsB (g : GrD) (kinds : Int) : Bool := goodG g.sz g.ps && stuB (nsD g kinds g.sz.toNat)
def nsV (g : GrD) (kinds : Int) : StD := if nsB g kinds then nsD g kinds g.sz.toNat else zeroU
theorem nil_own (w : World) (k : Nat) : OwU w k k ⟨⟨none, 0⟩, ⟨none, 0⟩, ⟨none, 0⟩, ⟨none, 0⟩⟩ zeroU :=
  ⟨k, k, k, Nat.le_refl _, Nat.le_refl _, Nat.le_refl _, Nat.le_refl _, ⟨own_nil _ _ _ _, fun k hk => by cases hk⟩, ⟨own_nil _ _ _ _, fun k hk => by cases hk⟩, ⟨own_nil _ _ _ _, fun k hk => by cases hk⟩, ⟨own_nil _ _ _ _, fun k hk => by cases hk⟩⟩
theorem setR {w w1 : World} (h : Ext w w1) (b : Nat) (hb : w.heap.size ≤ b) (v0 v1 v2 v3 v4 v5 v6 : Value) :
    Ext w (((((((w1.setCell ⟨b, 0, none⟩ v0).setCell ⟨b, 1, none⟩ v1).setCell ⟨b, 2, none⟩ v2).setCell ⟨b, 3, none⟩ v3).setCell ⟨b, 4, none⟩ v4).setCell ⟨b, 5, none⟩ v5).setCell ⟨b, 6, none⟩ v6) :=
  ((((((h.set hb v0).set hb v1).set hb v2).set hb v3).set hb v4).set hb v5).set hb v6
theorem setC {w1 : World} (b : Nat) (v0 v1 v2 v3 v4 v5 v6 : Value) :
    Chg (fun k => k = b) w1 (((((((w1.setCell ⟨b, 0, none⟩ v0).setCell ⟨b, 1, none⟩ v1).setCell ⟨b, 2, none⟩ v2).setCell ⟨b, 3, none⟩ v3).setCell ⟨b, 4, none⟩ v4).setCell ⟨b, 5, none⟩ v5).setCell ⟨b, 6, none⟩ v6) :=
  ((((((((Chg.refl (fun k => k = b) w1).set (b := b) rfl v0).set (b := b) rfl v1).set (b := b) rfl v2).set (b := b) rfl v3).set (b := b) rfl v4).set (b := b) rfl v5).set (b := b) rfl v6)

set_option maxHeartbeats 4000000 in
theorem NewStudioI_c (g : GrD) (kinds : Int) (a : SlA) (w : World) (h : RdG w a g) (hb : BdG g) :
    Calls Try.prog 49 #[.agg #[.int .i64 g.sz, .slice a.A g.ps.length a.c], .int .i64 kinds] w fun e w' => ∃ b : StA, e = .returned (.tuple #[.agg #[.int .i64 (nsV g kinds).g.sz, .slice b.g.A (nsV g kinds).g.ps.length b.g.c, .int .i64 (nsV g kinds).kinds, .slice b.tok.A (nsV g kinds).tok.length b.tok.c, .slice b.col.A (nsV g kinds).col.length b.col.c, .slice b.brd.A (nsV g kinds).brd.length b.brd.c, .int .i64 (nsV g kinds).count], .bool (nsB g kinds)]) ∧ OwU w' w.heap.size w'.heap.size b (nsV g kinds) ∧ Ext w w' := by
  obtain ⟨W, hW⟩ : ∃ W, W = (w.alloc (.cells #[.int .i64 g.sz, .slice a.A g.ps.length a.c] 28)).alloc (.cells #[.int .i64 0, .slice none 0 0, .int .i64 0, .slice none 0 0, .slice none 0 0, .slice none 0 0, .int .i64 0] 66) := ⟨_, rfl⟩
  have hE : Ext w W := by rw [hW]; exact ((Ext.refl w).alloc _).alloc _
  have hsz : W.heap.size = w.heap.size + 2 := by rw [hW]; simp only [alloc_size]
  have hA : Bx W w.heap.size [.int .i64 g.sz, .slice a.A g.ps.length a.c] := by rw [hW]; exact (Bx.new w _ _).alloc _
  have hR : Bx W (w.heap.size + 1) [.int .i64 0, .slice none 0 0, .int .i64 0, .slice none 0 0, .slice none 0 0, .slice none 0 0, .int .i64 0] := by
    rw [hW]; have := Bx.new (w.alloc (.cells #[.int .i64 g.sz, .slice a.A g.ps.length a.c] 28)) [.int .i64 0, .slice none 0 0, .int .i64 0, .slice none 0 0, .slice none 0 0, .slice none 0 0, .int .i64 0] 66; simpa only [alloc_size] using this
  have HRd := Lib.hid (h.ext hE); have HE := Lib.hid hE; have BA := Lib.hid hA; have BR := Lib.hid hR; have HSz := Lib.hid hsz; have HB := Lib.hid hb; have HW := Lib.hid hW
  clear h hb hE hA hR hsz hW
  cases q : goodG g.sz g.ps with
  | false =>
    have hv : nsB g kinds = false := by simp [nsB, q]
    have hv2 : nsV g kinds = zeroU := by simp [nsV, hv]
    rw [hv, hv2]
    clear hv hv2
    go_enter Try.func49, Try.ntmps49
    go_wp2_with fail
    rw [← HW.out]
    refine (IsGraph_c g.sz a.A g.ps.length a.c g.ps _ HRd.out).mono ?_
    rw [q]
    rintro e w1 ⟨rfl, hx⟩
    have BR1 := Lib.hid (BR.out.ext hx); have E1 := Lib.hid (HE.out.trans hx)
    clear hx
    have r0 := BR1.out.c 0 rfl; have gr0 := BR1.out.f 0 (Nat.lt_of_lt_of_eq (by decide : 0 < 7) rfl); have r1 := BR1.out.c 1 rfl; have gr1 := BR1.out.f 1 (Nat.lt_of_lt_of_eq (by decide : 1 < 7) rfl); have r2 := BR1.out.c 2 rfl; have gr2 := BR1.out.f 2 (Nat.lt_of_lt_of_eq (by decide : 2 < 7) rfl); have r3 := BR1.out.c 3 rfl; have gr3 := BR1.out.f 3 (Nat.lt_of_lt_of_eq (by decide : 3 < 7) rfl); have r4 := BR1.out.c 4 rfl; have gr4 := BR1.out.f 4 (Nat.lt_of_lt_of_eq (by decide : 4 < 7) rfl); have r5 := BR1.out.c 5 rfl; have gr5 := BR1.out.f 5 (Nat.lt_of_lt_of_eq (by decide : 5 < 7) rfl); have r6 := BR1.out.c 6 rfl; have gr6 := BR1.out.f 6 (Nat.lt_of_lt_of_eq (by decide : 6 < 7) rfl)
    go_wp2
    refine bodyPost_ret (v := .tuple #[.agg #[.int .i64 0, .slice none 0 0, .int .i64 0, .slice none 0 0, .slice none 0 0, .slice none 0 0, .int .i64 0], .bool false]) (by simp [results, Try.results49, go_sem, r0, gr0, r1, gr1, r2, gr2, r3, gr3, r4, gr4, r5, gr5, r6, gr6]) rfl ⟨⟨⟨none, 0⟩, ⟨none, 0⟩, ⟨none, 0⟩, ⟨none, 0⟩⟩, rfl, ?_, setR E1.out _ (Nat.le_succ _) _ _ _ _ _ _ _⟩
    exact (nil_own _ w.heap.size).mono (Nat.le_refl _) (setR E1.out _ (Nat.le_succ _) _ _ _ _ _ _ _).size
  | true =>
    obtain ⟨g0, g8⟩ := goodG_range q
    obtain ⟨n, hn⟩ := Int.eq_ofNat_of_zero_le g0
    have hnn : g.sz.toNat = n := by omega
    have hn8 : n ≤ 8 := by omega
    have d0 := fun w' (e : Chg (fun k => k = w.heap.size + 1) W w') => e.cell (BA.out.c 0 rfl) (show ¬ w.heap.size = w.heap.size + 1 by omega)
    have d1 := fun w' (e : Chg (fun k => k = w.heap.size + 1) W w') => e.cell (BA.out.c 1 rfl) (show ¬ w.heap.size = w.heap.size + 1 by omega)
    have HHome := Lib.hid (show ∀ w, Calls Try.prog 104 #[.int .i64 g.sz] w fun e w' => ∃ A c, e = .returned (.slice A n c) ∧ w'.ownsRow w.heap.size 3 1 (.slice A n c) n (ints (homeL n)) ∧ Ext w w' from fun w => by rw [hn]; exact home_c n (by omega) w)
    have HN := Lib.hid hn
    cases qs : stuB (nsD g kinds n) with
    | false =>
      have hv : nsB g kinds = false := by simp [nsB, q, hnn, qs]
      have hv2 : nsV g kinds = zeroU := by simp [nsV, hv]
      rw [hv, hv2]
      clear hv hv2 g0 g8 hn hnn
      have hlen : (nsD g kinds n).brd.length = n := homeL_length n
      skip
      clear hlen
      go_enter Try.func49, Try.ntmps49
      go_wp2_with fail
      rw [← HW.out]
      refine (IsGraph_c g.sz a.A g.ps.length a.c g.ps _ HRd.out).mono ?_
      rw [q]
      rintro e w1 ⟨rfl, hx⟩
      have X1 := Lib.hid hx
      have hc0 : Chg (fun k => k = w.heap.size + 1) W w1.drew := hx.drew.chg _
      clear hx
      go_wp2_with fail
      go_region_held3 (fun w' => Chg (fun k => k = w.heap.size + 1) W w')
        (first
          | with_reducible assumption
          | with_reducible exact hc0)
        (first
          | ((fail_if_success (have _h := ho1)); go_at_call 104; refine (HHome.out _).mono ?_; rintro e w2 ⟨A1, c1, rfl, ho1, hy1⟩; have hz1 := (X1.out.drew).trans hy1; have hc1 : Chg (fun k => k = w.heap.size + 1) W w2 := hz1.chg _)
          | ((have _h := ho1); (fail_if_success (have _h := ho2)); go_at_call 105; refine (copiedN_c g kinds n c1 a A1 _ (HRd.out.ext hz1) HB.out (own_sli ho1) (by omega)).mono ?_; rintro e w3 ⟨b2, rfl, ho2, hy1⟩; have hz2 := hz1.trans hy1; have hc1 : Chg (fun k => k = w.heap.size + 1) W w3 := hz2.chg _; have hq2 := hz1.size)
          | ((have _h := ho2); go_at_call 103; refine (orFailN_no g kinds n b2 _ ho2.rd qs).mono ?_; rintro e w4 ⟨rfl, hy1⟩; have hy4 := hy1; have hz3 := hz2.trans hy1; have hc2 : Chg (fun k => k = w.heap.size + 1) W w4 := hz3.chg _; have hc3 := hc2.trans (setC (w1 := w4) (w.heap.size + 1) (.int .i64 0) (.slice none 0 0) (.int .i64 0) (.slice none 0 0) (.slice none 0 0) (.slice none 0 0) (.int .i64 0)) (fun _ _ h => h); have BR4 := BR.out.ext hz3; have r0 := BR4.c 0 rfl; have gr0 := BR4.f 0 (Nat.lt_of_lt_of_eq (by decide : 0 < 7) rfl); have r1 := BR4.c 1 rfl; have gr1 := BR4.f 1 (Nat.lt_of_lt_of_eq (by decide : 1 < 7) rfl); have r2 := BR4.c 2 rfl; have gr2 := BR4.f 2 (Nat.lt_of_lt_of_eq (by decide : 2 < 7) rfl); have r3 := BR4.c 3 rfl; have gr3 := BR4.f 3 (Nat.lt_of_lt_of_eq (by decide : 3 < 7) rfl); have r4 := BR4.c 4 rfl; have gr4 := BR4.f 4 (Nat.lt_of_lt_of_eq (by decide : 4 < 7) rfl); have r5 := BR4.c 5 rfl; have gr5 := BR4.f 5 (Nat.lt_of_lt_of_eq (by decide : 5 < 7) rfl); have r6 := BR4.c 6 rfl; have gr6 := BR4.f 6 (Nat.lt_of_lt_of_eq (by decide : 6 < 7) rfl)))
      have HO2 := Lib.hid ho2; have HY4 := Lib.hid hy4; have HZ3 := Lib.hid (HE.out.trans hz3); have HQ2 := Lib.hid hq2
      clear hc0 hc1 hc2 hc3 d0 d1 ho1 ho2 hy1 hy4 hz1 hz2 hz3 hq2 _h BR4
      go_wp2
      refine bodyPost_ret (v := .tuple #[.agg #[.int .i64 0, .slice none 0 0, .int .i64 0, .slice none 0 0, .slice none 0 0, .slice none 0 0, .int .i64 0], .bool false]) (by simp [results, Try.results49, go_sem, r0, gr0, r1, gr1, r2, gr2, r3, gr3, r4, gr4, r5, gr5, r6, gr6]) rfl ⟨⟨⟨none, 0⟩, ⟨none, 0⟩, ⟨none, 0⟩, ⟨none, 0⟩⟩, rfl, ?_, setR HZ3.out _ (Nat.le_succ _) _ _ _ _ _ _ _⟩
      have hfin := (setR HZ3.out (w.heap.size + 1) (Nat.le_succ _) (.int .i64 0) (.slice none 0 0) (.int .i64 0) (.slice none 0 0) (.slice none 0 0) (.slice none 0 0) (.int .i64 0)).size
      exact (nil_own _ w.heap.size).mono (Nat.le_refl _) hfin
    | true =>
      have hv : nsB g kinds = true := by simp [nsB, q, hnn, qs]
      have hv2 : nsV g kinds = nsD g kinds n := by simp [nsV, hv, hnn]
      rw [hv, hv2]
      clear hv hv2 g0 g8 hn hnn
      have hlen : (nsD g kinds n).brd.length = n := homeL_length n
      rw [hlen]
      clear hlen
      go_enter Try.func49, Try.ntmps49
      go_wp2_with fail
      rw [← HW.out]
      refine (IsGraph_c g.sz a.A g.ps.length a.c g.ps _ HRd.out).mono ?_
      rw [q]
      rintro e w1 ⟨rfl, hx⟩
      have X1 := Lib.hid hx
      have hc0 : Chg (fun k => k = w.heap.size + 1) W w1.drew := hx.drew.chg _
      clear hx
      go_wp2_with fail
      go_region_held3 (fun w' => Chg (fun k => k = w.heap.size + 1) W w')
        (first
          | with_reducible assumption
          | with_reducible exact hc0)
        (first
          | ((fail_if_success (have _h := ho1)); go_at_call 104; refine (HHome.out _).mono ?_; rintro e w2 ⟨A1, c1, rfl, ho1, hy1⟩; have hz1 := (X1.out.drew).trans hy1; have hc1 : Chg (fun k => k = w.heap.size + 1) W w2 := hz1.chg _)
          | ((have _h := ho1); (fail_if_success (have _h := ho2)); go_at_call 105; refine (copiedN_c g kinds n c1 a A1 _ (HRd.out.ext hz1) HB.out (own_sli ho1) (by omega)).mono ?_; rintro e w3 ⟨b2, rfl, ho2, hy1⟩; have hz2 := hz1.trans hy1; have hc1 : Chg (fun k => k = w.heap.size + 1) W w3 := hz2.chg _; have hq2 := hz1.size)
          | ((have _h := ho2); go_at_call 103; refine (orFailN_yes g kinds n b2 _ ho2.rd qs).mono ?_; rintro e w4 ⟨rfl, hy1⟩; have hy4 := hy1; have hz3 := hz2.trans hy1; have hc2 : Chg (fun k => k = w.heap.size + 1) W w4 := hz3.chg _; have hc3 := hc2.trans (setC (w1 := w4) (w.heap.size + 1) (.int .i64 g.sz) (.slice b2.g.A g.ps.length b2.g.c) (.int .i64 kinds) (.slice b2.tok.A 0 b2.tok.c) (.slice b2.col.A 0 b2.col.c) (.slice b2.brd.A n b2.brd.c) (.int .i64 0)) (fun _ _ h => h); have BR4 := BR.out.ext hz3; have r0 := BR4.c 0 rfl; have gr0 := BR4.f 0 (Nat.lt_of_lt_of_eq (by decide : 0 < 7) rfl); have r1 := BR4.c 1 rfl; have gr1 := BR4.f 1 (Nat.lt_of_lt_of_eq (by decide : 1 < 7) rfl); have r2 := BR4.c 2 rfl; have gr2 := BR4.f 2 (Nat.lt_of_lt_of_eq (by decide : 2 < 7) rfl); have r3 := BR4.c 3 rfl; have gr3 := BR4.f 3 (Nat.lt_of_lt_of_eq (by decide : 3 < 7) rfl); have r4 := BR4.c 4 rfl; have gr4 := BR4.f 4 (Nat.lt_of_lt_of_eq (by decide : 4 < 7) rfl); have r5 := BR4.c 5 rfl; have gr5 := BR4.f 5 (Nat.lt_of_lt_of_eq (by decide : 5 < 7) rfl); have r6 := BR4.c 6 rfl; have gr6 := BR4.f 6 (Nat.lt_of_lt_of_eq (by decide : 6 < 7) rfl)))
      have HO2 := Lib.hid ho2; have HY4 := Lib.hid hy4; have HZ3 := Lib.hid (HE.out.trans hz3); have HQ2 := Lib.hid hq2
      clear hc0 hc1 hc2 hc3 d0 d1 ho1 ho2 hy1 hy4 hz1 hz2 hz3 hq2 _h BR4
      go_wp2
      refine bodyPost_ret (v := .tuple #[.agg #[.int .i64 g.sz, .slice b2.g.A g.ps.length b2.g.c, .int .i64 kinds, .slice b2.tok.A 0 b2.tok.c, .slice b2.col.A 0 b2.col.c, .slice b2.brd.A n b2.brd.c, .int .i64 0], .bool true]) (by simp [results, Try.results49, go_sem, r0, gr0, r1, gr1, r2, gr2, r3, gr3, r4, gr4, r5, gr5, r6, gr6]) rfl ⟨b2, rfl, ?_, setR HZ3.out _ (Nat.le_succ _) _ _ _ _ _ _ _⟩
      have hfin := (setR HZ3.out (w.heap.size + 1) (Nat.le_succ _) (.int .i64 g.sz) (.slice b2.g.A g.ps.length b2.g.c) (.int .i64 kinds) (.slice b2.tok.A 0 b2.tok.c) (.slice b2.col.A 0 b2.col.c) (.slice b2.brd.A n b2.brd.c) (.int .i64 0)).size
      have hs4 := (setC (w1 := w4) (w.heap.size + 1) (.int .i64 g.sz) (.slice b2.g.A g.ps.length b2.g.c) (.int .i64 kinds) (.slice b2.tok.A 0 b2.tok.c) (.slice b2.col.A 0 b2.col.c) (.slice b2.brd.A n b2.brd.c) (.int .i64 0)).size; exact ((HO2.out.ext HY4.out).chg (setC (w.heap.size + 1) _ _ _ _ _ _ _) (fun k h1 _ h => by have := HQ2.out; have := HSz.out; (try simp only at h); omega)).mono (by have := HQ2.out; have := HSz.out; omega) (by have := HY4.out.size; omega)
end Go.Proofs.Ytkfbkflneppggaa
