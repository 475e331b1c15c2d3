/-
  Words that all walks of this seat use: what a slice reads as (whole numbers, pairs, lists), worlds that only grow, rows that a call owns; no program stands here. Conditions: none.
-/
import Derived.WalkKit
import Derived.WalkSpells
import Derived.WalkLawsBesides
import Derived.Lib.Hide
import Derived.Maps.AppendAt
import Derived.Laws.AppendOwnNone
namespace Go.Proofs.Ytkfbkflneppggaa
open Go.RowKit
set_option linter.unusedVariables false

/-! ### Worlds that only grow -/

/-- What lay in w lies unturned in w'. -/
def Ext (w w' : World) : Prop := Below w.heap.size w w'

theorem Ext.refl (w : World) : Ext w w := Below.refl _ _
theorem Ext.size {w w' : World} (h : Ext w w') : w.heap.size ≤ w'.heap.size := Below.size h
theorem Ext.trans {a b c : World} (h : Ext a b) (k : Ext b c) : Ext a c := Below.trans h (Below.mono k h.size)
theorem Ext.alloc {a w : World} (h : Ext a w) (o : Obj) : Ext a (w.alloc o) := Below.alloc h (Below.size h) o
theorem Ext.drew {a w : World} (h : Ext a w) : Ext a w.drew := Below.drew h
theorem Ext.drewN {a w : World} (h : Ext a w) (n : Nat) : Ext a (w.drewN n) := ⟨h.os, h.tape, h.output, h.size, h.block⟩
theorem Ext.draws {a w : World} (h : Ext a w) (n : Nat) : Ext a { w with drawn := n } := ⟨h.os, h.tape, h.output, h.size, h.block⟩
theorem Ext.setCell {a w : World} (h : Ext a w) {p : Addr} (hp : a.heap.size ≤ p.block) (u : Value) : Ext a (w.setCell p u) := Below.setCell h hp u
theorem Ext.grown {a w w' : World} {row : Option Nat} (h : Ext a w) (hg : w.grownBy w' row) (hr : ∀ k, row = some k → a.heap.size ≤ k) : Ext a w' := Below.grown h hg h.size hr
theorem Ext.cell {w w' : World} (h : Ext w w') {p : Addr} {v : Value} (hc : w.cell? p = some v) : w'.cell? p = some v :=
  (Below.cell h (World.block_lt_of_cell? w p hc)).trans hc
theorem Ext.frozen {w w' : World} (h : Ext w w') {p : Addr} (hp : p.block < w.heap.size) : w'.frozen? p = w.frozen? p := Below.frozen h hp
theorem Ext.grownBy {w w' : World} (h : Ext w w') (row : Option Nat) : w.grownBy w' row := ⟨h.os, h.tape, h.output, h.size, fun i hi _ => h.block i hi⟩
theorem Ext.block {w w' : World} (h : Ext w w') (k : Nat) (hk : k < w.heap.size) : w'.heap[k]? = w.heap[k]? := Below.block h k hk
theorem Ext.of_below {w w' : World} (h : Below w.heap.size w w') : Ext w w' := h
theorem Ext.below {w w' : World} (h : Ext w w') : Below w.heap.size w w' := h
/-- One block may have turned, but it lay behind. -/
theorem Ext.of_grown {a w w' : World} {row : Option Nat} (h : Ext a w) (hg : w.grownBy w' row) (hr : ∀ k, row = some k → a.heap.size ≤ k) : Ext a w' := h.grown hg hr

/-- What a walk may use of old blocks. -/
theorem Ext.rules {W w1 : World} (h : Ext W w1) : (∀ b o, b < W.heap.size → w1.cell? ⟨b, o, none⟩ = W.cell? ⟨b, o, none⟩) ∧ (∀ b o, b < W.heap.size → w1.frozen? ⟨b, o, none⟩ = W.frozen? ⟨b, o, none⟩) :=
  ⟨fun b o hb => Below.cell (p := ⟨b, o, none⟩) h hb, fun b o hb => Below.frozen (p := ⟨b, o, none⟩) h hb⟩
/-- What lay in w lies unturned in w', but for some blocks. -/
structure Chg (D : Nat → Prop) (w w' : World) : Prop where
  os : w'.os = w.os
  tape : w'.tape = w.tape
  output : w'.output = w.output
  size : w.heap.size ≤ w'.heap.size
  block : ∀ k, k < w.heap.size → ¬ D k → w'.heap[k]? = w.heap[k]?

theorem Chg.refl (D : Nat → Prop) (w : World) : Chg D w w := ⟨rfl, rfl, rfl, Nat.le_refl _, fun _ _ _ => rfl⟩
theorem Ext.chg {w w' : World} (h : Ext w w') (D : Nat → Prop) : Chg D w w' := ⟨h.os, h.tape, h.output, h.size, fun k hk _ => h.block k hk⟩
theorem Chg.trans {D E : Nat → Prop} {a b c : World} (h : Chg D a b) (k : Chg E b c) (hE : ∀ i, i < a.heap.size → E i → D i) : Chg D a c :=
  ⟨k.os.trans h.os, k.tape.trans h.tape, k.output.trans h.output, Nat.le_trans h.size k.size, fun i hi hD => (k.block i (Nat.lt_of_lt_of_le hi h.size) (fun e => hD (hE i hi e))).trans (h.block i hi hD)⟩
theorem Chg.ext {D : Nat → Prop} {a w w' : World} (h : Chg D w w') (e : Ext a w) (hD : ∀ k, D k → a.heap.size ≤ k) : Ext a w' :=
  ⟨h.os.trans e.os, h.tape.trans e.tape, h.output.trans e.output, Nat.le_trans e.size h.size, fun k hk => (h.block k (Nat.lt_of_lt_of_le hk e.size) (fun x => by have := hD k x; omega)).trans (e.block k hk)⟩
theorem Chg.set {D : Nat → Prop} {a w : World} (h : Chg D a w) {b o : Nat} (hb : D b) (u : Value) : Chg D a (w.setCell ⟨b, o, none⟩ u) :=
  ⟨h.os, h.tape, h.output, by simpa [World.setCell] using h.size, fun k hk hk2 => (Below.heap_setCell _ _ _ _ (fun e => hk2 (by subst e; exact hb))).trans (h.block k hk hk2)⟩
theorem Chg.alloc {D : Nat → Prop} {a w : World} (h : Chg D a w) (o : Obj) : Chg D a (w.alloc o) := h.trans (((Ext.refl w).alloc o).chg D) (fun _ _ e => e)
theorem Chg.cell {D : Nat → Prop} {w w' : World} (h : Chg D w w') {p : Addr} {v : Value} (hc : w.cell? p = some v) (hD : ¬ D p.block) : w'.cell? p = some v :=
  (World.cell?_of_block (w := w) (h.block p.block (World.block_lt_of_cell? w p hc) hD)).trans hc
theorem Chg.frozen {D : Nat → Prop} {w w' : World} (h : Chg D w w') {p : Addr} (hp : p.block < w.heap.size) (hD : ¬ D p.block) : w'.frozen? p = w.frozen? p :=
  World.frozen?_of_block (w := w) (h.block p.block hp hD)
theorem Chg.mono {D E : Nat → Prop} {w w' : World} (h : Chg D w w') (hD : ∀ k, k < w.heap.size → D k → E k) : Chg E w w' := ⟨h.os, h.tape, h.output, h.size, fun k hk hE => h.block k hk (fun e => hE (hD k hk e))⟩

theorem cell_new (w : World) (cs : Array Value) (t : TypeId) (j : Nat) (u : Value) (h : cs[j]? = some u) : (w.alloc (.cells cs t)).cell? ⟨w.heap.size, j, none⟩ = some u := by
  rw [World.cell?_alloc_at _ _ _ _ rfl]; exact h
theorem cell_old {w : World} {p : Addr} {v : Value} (o : Obj) (h : w.cell? p = some v) : (w.alloc o).cell? p = some v := ((Ext.refl w).alloc o).cell h
theorem alloc_size (w : World) (o : Obj) : (w.alloc o).heap.size = w.heap.size + 1 := by show (w.heap.push o).size = _; simp

/-- A callee that leaves the world alone, in a region that draws. -/
theorem quiet_eq {P : Program} {f : FuncId} {args : Array Value} {w : World} {n : Nat} {v : Value}
    (h : Calls P f args (w.drewN n) fun e w' => e = .returned v ∧ w.drewN n = w') : Calls P f args (w.drewN n) fun e w'' => e = .returned v ∧ ∃ m, w'' = w.drewN m :=
  h.mono fun _ _ ⟨he, hm⟩ => ⟨he, n, hm.symm⟩

/-! ### Lists of values -/
def ints (xs : List Int) : List Value := xs.map (Value.int .i64)
def bools (xs : List Bool) : List Value := xs.map Value.bool
def prs (ps : List (Int × Int)) : List Value := ps.flatMap fun p => [.int .i64 p.1, .int .i64 p.2]

theorem ints_length (xs : List Int) : (ints xs).length = xs.length := by simp [ints]
theorem ints_append (xs ys : List Int) : ints (xs ++ ys) = ints xs ++ ints ys := by simp [ints]
theorem ints_at (xs : List Int) (k : Nat) (h : k < xs.length) : (ints xs)[k]? = some (.int .i64 xs[k]) := by simp [ints, h]
theorem bools_length (xs : List Bool) : (bools xs).length = xs.length := by simp [bools]
theorem bools_at (xs : List Bool) (k : Nat) (h : k < xs.length) : (bools xs)[k]? = some (.bool xs[k]) := by simp [bools, h]
theorem prs_length (ps : List (Int × Int)) : (prs ps).length = ps.length * 2 := by
  induction ps with
  | nil => rfl
  | cons p ps ih => simp [prs] at ih ⊢; omega
theorem prs_append (ps qs : List (Int × Int)) : prs (ps ++ qs) = prs ps ++ prs qs := by simp [prs]
theorem prs_at (ps : List (Int × Int)) (k : Nat) (h : k < ps.length) : (prs ps)[k * 2]? = some (.int .i64 ps[k].1) ∧ (prs ps)[k * 2 + 1]? = some (.int .i64 ps[k].2) := by
  induction ps generalizing k with
  | nil => simp at h
  | cons p ps ih =>
    cases k with
    | zero => simp [prs]
    | succ k =>
      have := ih k (by simpa using h)
      simp only [prs, List.flatMap_cons, List.cons_append, List.nil_append] at this ⊢
      rw [show (k + 1) * 2 = k * 2 + 1 + 1 by omega, show k * 2 + 1 + 1 + 1 = (k * 2 + 1) + 1 + 1 by omega]
      simp only [List.getElem?_cons_succ, List.getElem_cons_succ]
      exact this
theorem ints_one (xs : List Int) : ∀ u ∈ ints xs, u.oneCell' = true := by
  intro u hu
  simp only [ints, List.mem_map] at hu
  obtain ⟨x, _, rfl⟩ := hu
  rfl
theorem prs_one (ps : List (Int × Int)) : ∀ u ∈ prs ps, u.oneCell' = true := by
  intro u hu
  simp only [prs, List.mem_flatMap] at hu
  obtain ⟨p, _, hp⟩ := hu
  simp only [List.mem_cons, List.not_mem_nil, or_false] at hp
  rcases hp with rfl | rfl <;> rfl

/-- The k-th element, said so that no step of a walk looks inside. -/
def gI (xs : List Int) (k : Nat) : Int := xs.getD k 0
def gP (ps : List (Int × Int)) (k : Nat) : Int × Int := ps.getD k (0, 0)
def gB (xs : List Bool) (k : Nat) : Bool := xs.getD k false
def gL (xs : List (List Int)) (k : Nat) : List Int := xs.getD k []
theorem gI_eq (xs : List Int) (k : Nat) (h : k < xs.length) : gI xs k = xs[k] := by simp [gI, h]
theorem gP_eq (xs : List (Int × Int)) (k : Nat) (h : k < xs.length) : gP xs k = xs[k] := by simp [gP, h]
theorem gB_eq (xs : List Bool) (k : Nat) (h : k < xs.length) : gB xs k = xs[k] := by simp [gB, h]
theorem gL_eq (xs : List (List Int)) (k : Nat) (h : k < xs.length) : gL xs k = xs[k] := by simp [gL, h]

/-! ### Slices: n elements of sz cells; the flat list of their cells -/
/-- The cells cs lie from A on; nothing is said where there are none. -/
def Sl (w : World) (sz : Nat) (A : Option Addr) (n : Nat) (cs : List Value) : Prop :=
  cs.length = n * sz ∧ n ≤ 9223372036854775807 ∧ (0 < n → ∃ b o, A = some ⟨b, o, none⟩ ∧ b < w.heap.size ∧ ∀ j u, cs[j]? = some u → w.cell? ⟨b, o + j, none⟩ = some u)

theorem Sl.ext {w w' : World} {sz : Nat} {A : Option Addr} {n : Nat} {cs : List Value} (h : Sl w sz A n cs) (e : Ext w w') : Sl w' sz A n cs :=
  ⟨h.1, h.2.1, fun hn => by
    obtain ⟨b, o, hA, hb, hc⟩ := h.2.2 hn
    exact ⟨b, o, hA, Nat.lt_of_lt_of_le hb e.size, fun j u hj => e.cell (hc j u hj)⟩⟩
theorem Sl.nil (w : World) (sz : Nat) (A : Option Addr) : Sl w sz A 0 [] := ⟨by simp, by omega, fun h => absurd h (by omega)⟩

def SlI (w : World) (A : Option Addr) (n : Nat) (xs : List Int) : Prop := Sl w 1 A n (ints xs)
def SlB (w : World) (A : Option Addr) (n : Nat) (xs : List Bool) : Prop := Sl w 1 A n (bools xs)
def SlP (w : World) (A : Option Addr) (n : Nat) (ps : List (Int × Int)) : Prop := Sl w 2 A n (prs ps)

theorem SlI.ext {w w' : World} {A : Option Addr} {n : Nat} {xs : List Int} (h : SlI w A n xs) (e : Ext w w') : SlI w' A n xs := Sl.ext h e
theorem SlB.ext {w w' : World} {A : Option Addr} {n : Nat} {xs : List Bool} (h : SlB w A n xs) (e : Ext w w') : SlB w' A n xs := Sl.ext h e
theorem SlP.ext {w w' : World} {A : Option Addr} {n : Nat} {xs : List (Int × Int)} (h : SlP w A n xs) (e : Ext w w') : SlP w' A n xs := Sl.ext h e
theorem SlI.len {w : World} {A : Option Addr} {n : Nat} {xs : List Int} (h : SlI w A n xs) : xs.length = n := by have := h.1; simp [ints] at this; exact this
theorem SlB.len {w : World} {A : Option Addr} {n : Nat} {xs : List Bool} (h : SlB w A n xs) : xs.length = n := by have := h.1; simp [bools] at this; exact this
theorem SlP.len {w : World} {A : Option Addr} {n : Nat} {xs : List (Int × Int)} (h : SlP w A n xs) : xs.length = n := by have := h.1; rw [prs_length] at this; omega
theorem SlI.le {w : World} {A : Option Addr} {n : Nat} {xs : List Int} (h : SlI w A n xs) : n ≤ 9223372036854775807 := h.2.1
theorem SlB.le {w : World} {A : Option Addr} {n : Nat} {xs : List Bool} (h : SlB w A n xs) : n ≤ 9223372036854775807 := h.2.1
theorem SlP.le {w : World} {A : Option Addr} {n : Nat} {xs : List (Int × Int)} (h : SlP w A n xs) : n ≤ 9223372036854775807 := h.2.1
theorem SlI.nil (w : World) (A : Option Addr) : SlI w A 0 [] := Sl.nil w 1 A
theorem SlB.nil (w : World) (A : Option Addr) : SlB w A 0 [] := Sl.nil w 1 A
theorem SlP.nil (w : World) (A : Option Addr) : SlP w A 0 [] := Sl.nil w 2 A

theorem SlI.at {w : World} {A : Option Addr} {n : Nat} {xs : List Int} (h : SlI w A n xs) (k : Nat) (hk : k < xs.length) :
    ∃ b o, A = some ⟨b, o, none⟩ ∧ w.cell? ⟨b, o + k, none⟩ = some (.int .i64 (gI xs k)) := by
  obtain ⟨b, o, hA, _, hc⟩ := h.2.2 (by rw [h.len] at hk; omega)
  rw [gI_eq xs k hk]
  exact ⟨b, o, hA, hc k _ (ints_at xs k hk)⟩
theorem SlB.at {w : World} {A : Option Addr} {n : Nat} {xs : List Bool} (h : SlB w A n xs) (k : Nat) (hk : k < xs.length) :
    ∃ b o, A = some ⟨b, o, none⟩ ∧ w.cell? ⟨b, o + k, none⟩ = some (.bool (gB xs k)) := by
  obtain ⟨b, o, hA, _, hc⟩ := h.2.2 (by rw [h.len] at hk; omega)
  rw [gB_eq xs k hk]
  exact ⟨b, o, hA, hc k _ (bools_at xs k hk)⟩
theorem SlP.at {w : World} {A : Option Addr} {n : Nat} {ps : List (Int × Int)} (h : SlP w A n ps) (k : Nat) (hk : k < ps.length) :
    ∃ b o, A = some ⟨b, o, none⟩ ∧ w.cell? ⟨b, o + k * 2, none⟩ = some (.int .i64 (gP ps k).1) ∧ w.cell? ⟨b, o + k * 2 + 1, none⟩ = some (.int .i64 (gP ps k).2) := by
  obtain ⟨b, o, hA, _, hc⟩ := h.2.2 (by rw [h.len] at hk; omega)
  rw [gP_eq ps k hk]
  obtain ⟨p1, p2⟩ := prs_at ps k hk
  exact ⟨b, o, hA, hc _ _ p1, by rw [Nat.add_assoc]; exact hc _ _ p2⟩
/-- One address for all elements. -/
theorem SlI.all {w : World} {A : Option Addr} {n : Nat} {xs : List Int} (h : SlI w A n xs) (hn : 0 < n) :
    ∃ b o, A = some ⟨b, o, none⟩ ∧ b < w.heap.size ∧ ∀ k (hk : k < xs.length), w.cell? ⟨b, o + k, none⟩ = some (.int .i64 (gI xs k)) := by
  obtain ⟨b, o, hA, hb, hc⟩ := h.2.2 hn
  exact ⟨b, o, hA, hb, fun k hk => by rw [gI_eq xs k hk]; exact hc k _ (ints_at xs k hk)⟩
theorem SlP.all {w : World} {A : Option Addr} {n : Nat} {ps : List (Int × Int)} (h : SlP w A n ps) (hn : 0 < n) :
    ∃ b o, A = some ⟨b, o, none⟩ ∧ b < w.heap.size ∧ ∀ k (hk : k < ps.length), w.cell? ⟨b, o + k * 2, none⟩ = some (.int .i64 (gP ps k).1) ∧ w.cell? ⟨b, o + k * 2 + 1, none⟩ = some (.int .i64 (gP ps k).2) := by
  obtain ⟨b, o, hA, hb, hc⟩ := h.2.2 hn
  exact ⟨b, o, hA, hb, fun k hk => by rw [gP_eq ps k hk]; exact ⟨hc _ _ (prs_at ps k hk).1, by rw [Nat.add_assoc]; exact hc _ _ (prs_at ps k hk).2⟩⟩

/-- Two numbers in a block of their own. -/
theorem two_ints (w : World) (x y : Int) (t : TypeId) : SlI (w.alloc (.cells #[.int .i64 x, .int .i64 y] t)) (some ⟨w.heap.size, 0, none⟩) 2 [x, y] :=
  ⟨by simp [ints], by omega, fun _ => ⟨_, _, rfl, by rw [alloc_size]; omega, fun j u hj => by rw [Nat.zero_add]; exact cell_new w _ t j u (by simpa [ints] using hj)⟩⟩

/-! ### Rows that a call owns -/
theorem own_ext {w w' : World} {base : Nat} {e : TypeId} {size : Nat} {v : Value} {n : Nat} {xs : List Value} (h : w.ownsRow base e size v n xs) (x : Ext w w') : w'.ownsRow base e size v n xs :=
  h.kept (x.grownBy none) (by cases v.ownBlock <;> simp)
theorem own_chg {w w' : World} {D : Nat → Prop} {base g n cap : Nat} {e : TypeId} {size : Nat} {xs : List Value} (h : w.ownsRow base e size (.slice (some ⟨g, 0, none⟩) n cap) n xs) (x : Chg D w w') (hD : ¬ D g) : w'.ownsRow base e size (.slice (some ⟨g, 0, none⟩) n cap) n xs := by
  refine ⟨h.1, ?_⟩
  rcases h.2 with h2 | ⟨g', cap', cur, hv, hb, hh, r⟩
  · exact .inl h2
  · obtain rfl : g = g' := by injection hv with h1 _ _; injection h1 with h1; injection h1
    exact .inr ⟨g, cap', cur, hv, hb, by rw [x.block g (Array.getElem?_eq_some_iff.1 hh).1 hD]; exact hh, r⟩
theorem own_mono {w : World} {base base' : Nat} {e : TypeId} {size : Nat} {v : Value} {n : Nat} {xs : List Value} (h : w.ownsRow base e size v n xs) (hb : base' ≤ base) : w.ownsRow base' e size v n xs := by
  refine ⟨h.1, ?_⟩
  rcases h.2 with h2 | ⟨g, cap, cur, hv, hg, r⟩
  · exact .inl h2
  · exact .inr ⟨g, cap, cur, hv, Nat.le_trans hb hg, r⟩
theorem own_nil (w : World) (base : Nat) (e : TypeId) (size : Nat) : w.ownsRow base e size (.slice none 0 0) 0 [] := ⟨by simp, .inl ⟨rfl, rfl⟩⟩
theorem own_base {w : World} {base : Nat} {e : TypeId} {size n : Nat} {v : Value} {xs : List Value} (h : w.ownsRow base e size v n xs) (k : Nat) (hk : v.ownBlock = some k) : base ≤ k := (h.lt k hk).1
/-- A new row of no cells. -/
theorem own_empty (w : World) (e : TypeId) (size c : Nat) (cur : Array Value) (hc : cur.size = c * size) (hm : c ≤ 9223372036854775807) : (w.alloc (.cells cur e)).ownsRow w.heap.size e size (.slice (some ⟨w.heap.size, 0, none⟩) 0 c) 0 [] :=
  World.ownsRow_made w cur c (Nat.le_refl _) hm hc
theorem own_slice {w : World} {base n : Nat} {e : TypeId} {size : Nat} {v : Value} {xs : List Value} (h : w.ownsRow base e size v n xs) : ∃ A c, v = .slice A n c := by
  rcases h.2 with ⟨rfl, rfl⟩ | ⟨g, cap, cur, rfl, _⟩
  · exact ⟨none, 0, rfl⟩
  · exact ⟨_, cap, rfl⟩
/-- What is owned can be read. -/
theorem own_sl {w : World} {base n : Nat} {e : TypeId} {size : Nat} {v : Value} {xs : List Value} (h : w.ownsRow base e size v n xs) : ∃ A c, v = .slice A n c ∧ Sl w size A n xs := by
  rcases Nat.eq_zero_or_pos n with h0 | h0
  · obtain ⟨A, c, hv⟩ := own_slice h
    exact ⟨A, c, hv, h.1, by omega, fun hp => absurd hp (by omega)⟩
  · rcases h.2 with ⟨_, rfl⟩ | ⟨g, cap, cur, rfl, hb, hh, h1, h2, _⟩
    · omega
    · refine ⟨_, cap, rfl, h.1, by simp only [maxLen] at h2; omega, fun _ => ⟨g, 0, rfl, (Array.getElem?_eq_some_iff.1 hh).1, fun j u hj => ?_⟩⟩
      have := h.cells (g := g) rfl j u hj
      rwa [Addr.add_lit] at this

/-! ### append of one element, make: what the walk meets; E: the element's type; sz its cells; bytes its bytes -/
section
variable {P : Program} {ops : Array Oper} {rest : List Oper} {o : Oper} {a : Act} {Q : Exit → Act → World → Prop}

/-- 'append(v, y)', y's cells being in the variadic's own block. -/
theorem append_one {w0 W : World} (t E : TypeId) (z : Value) (sz bytes : Nat) (ht : P.underlying t = some (.slice E))
    (hinfo : (P.info? E).map (fun i => (i.zero, i.size, i.bytes)) = some (some z, sz, bytes)) (hz : z.cells.size = sz) (hs0 : 0 < sz)
    (hgd : o.guard = none) (s x : Operand)
    (ho : o.op = .call { callee := .builtin .append, args := #[s, x], argTypes := #[t, t] })
    (v : Value) (n : Nat) (xs ys : List Value) (hs : a.eval s = v) (hx : a.eval x = .slice (some ⟨W.heap.size, 0, none⟩) 1 1)
    (hy : ys.length = sz) (hy1 : ∀ u ∈ ys, u.oneCell' = true)
    (HO : W.ownsRow w0.heap.size E sz v n xs) (HE : Ext w0 W) (hl : (n + 1) * bytes ≤ 140737488355328) (hb0 : 0 < bytes)
    (h : ∀ v1 w1, w1.ownsRow w0.heap.size E sz v1 (n + 1) (xs ++ ys) → Ext w0 w1 → W.grownBy w1 v.ownBlock → (v1.ownBlock = v.ownBlock ∨ ∃ b, v1.ownBlock = some b ∧ W.heap.size ≤ b) → wpList P ops Q rest (a.put o.dst v1) w1) :
    wpList P ops Q (o :: rest) a (W.alloc (.cells ys.toArray E)) := by
  obtain ⟨i0, hi, hzz⟩ := Option.map_eq_some_iff.1 hinfo
  simp only [Prod.mk.injEq] at hzz
  obtain ⟨hz0, hz1, hz2⟩ := hzz
  have hlen : n + 1 ≤ 140737488355328 := Nat.le_trans (Nat.le_mul_of_pos_right _ hb0) hl
  refine wpList_append_own_at (W.alloc (.cells ys.toArray E)) hgd s x t ho w0.heap.size E i0 z sz bytes ht hi hz0 hz1 hz2 hz hs0 v n xs hs (HO.alloc _) ⟨W.heap.size, 0, none⟩ 1 1 ys hx (by omega)
    (fun j u hj => ?_) hy1 (by simp only [maxLen]; omega) hl (by rw [alloc_size]; have := HE.size; omega) ?_
  · rw [Addr.add_lit]
    exact (by rw [Nat.zero_add]; exact cell_new W ys.toArray E j u (by simpa using hj))
  intro v1 w1 hown hg _ hat
  have hg' : W.grownBy w1 v.ownBlock := World.grownBy.trans (World.grownBy_alloc W _ _) hg
  refine h v1 w1 hown (HE.grown hg' (own_base HO)) hg' ?_
  rcases hat with hat | hat
  · exact .inl hat
  · exact .inr ⟨_, hat, by rw [alloc_size]; omega⟩

theorem run_append_none (base : Nat) (t ty e : TypeId) (i : TypeInfo) (size : Nat) (w : World) (ht : P.underlying t = some (.slice e)) (hi : P.info? e = some i)
    (v : Value) (n c : Nat) (xs : List Value) (hown : w.ownsRow base e size v n xs) :
    (Builtin.append_ #[t, t] ty #[v, .slice none 0 c]).run P w = .ok v w := by
  rcases hown.2 with ⟨rfl, rfl⟩ | ⟨g, cap, cur, rfl, _, _, hnc, _⟩
  · simp [Builtin.append_, run_underlying ht, sizeOf, typeInfo, hi, Builtin.lenOf, Builtin.firstCells]
  · simp [Builtin.append_, run_underlying ht, sizeOf, typeInfo, hi, Builtin.lenOf, Builtin.firstCells, hnc, storeCells]

/-- 'append(v, s...)', s any slice. -/
theorem append_all {w0 W : World} (t E : TypeId) (z : Value) (sz bytes : Nat) (ht : P.underlying t = some (.slice E))
    (hinfo : (P.info? E).map (fun i => (i.zero, i.size, i.bytes)) = some (some z, sz, bytes)) (hz : z.cells.size = sz) (hs0 : 0 < sz)
    (hgd : o.guard = none) (s x : Operand)
    (ho : o.op = .call { callee := .builtin .append, args := #[s, x], argTypes := #[t, t] })
    (v : Value) (n m c : Nat) (A : Option Addr) (xs ys : List Value) (hs : a.eval s = v) (hx : a.eval x = .slice A m c)
    (hS : Sl W sz A m ys) (hy1 : ∀ u ∈ ys, u.oneCell' = true)
    (HO : W.ownsRow w0.heap.size E sz v n xs) (HE : Ext w0 W) (hl : (n + m) * bytes ≤ 140737488355328) (hb0 : 0 < bytes)
    (h : ∀ v1 w1, w1.ownsRow w0.heap.size E sz v1 (n + m) (xs ++ ys) → Ext w0 w1 → W.grownBy w1 v.ownBlock → (v1.ownBlock = v.ownBlock ∨ ∃ b, v1.ownBlock = some b ∧ W.heap.size ≤ b) → wpList P ops Q rest (a.put o.dst v1) w1) :
    wpList P ops Q (o :: rest) a W := by
  obtain ⟨i0, hi, hzz⟩ := Option.map_eq_some_iff.1 hinfo
  simp only [Prod.mk.injEq] at hzz
  obtain ⟨hz0, hz1, hz2⟩ := hzz
  have hlen : n + m ≤ 140737488355328 := Nat.le_trans (Nat.le_mul_of_pos_right _ hb0) hl
  cases A with
  | none =>
    have hm0 : m = 0 := by
      rcases Nat.eq_zero_or_pos m with h0 | h0
      · exact h0
      · obtain ⟨b, o', hA, _⟩ := hS.2.2 h0
        exact absurd hA (by simp)
    subst hm0
    have hys : ys = [] := List.eq_nil_of_length_eq_zero (by simpa using hS.1)
    subst hys
    refine wpList_plain hgd fun K hK => ?_
    have hrun := run_append_none (P := P) w0.heap.size t o.type E i0 sz W ht hi v n c xs HO
    unfold Oper.wp
    simp [execOp, ho, resolve, invoke, builtin, hs, hx, hrun, Result.andThen]
    exact hK _ _ (h v W (by simpa using HO) HE (World.grownBy.refl _ _) (.inl rfl))
  | some ad =>
    have hnews : ∀ j u, ys[j]? = some u → W.cell? (ad.add j) = some u := by
      intro j u hj
      have hj' := (List.getElem?_eq_some_iff.1 hj).1
      have hm0 : 0 < m := by
        rcases Nat.eq_zero_or_pos m with h0 | h0
        · have := hS.1; rw [h0] at this; omega
        · exact h0
      obtain ⟨b, o', hA, _, hc⟩ := hS.2.2 hm0
      obtain rfl := Option.some.inj hA
      rw [Addr.add_lit]
      exact hc j u hj
    refine wpList_append_own_at W hgd s x t ho w0.heap.size E i0 z sz bytes ht hi hz0 hz1 hz2 hz hs0 v n xs hs HO ad m c ys hx hS.1 hnews hy1 (by simp only [maxLen]; omega) hl HE.size ?_
    intro v1 w1 hown hg _ hat
    refine h v1 w1 hown (HE.grown hg (own_base HO)) hg ?_
    rcases hat with hat | hat
    · exact .inl hat
    · exact .inr ⟨_, hat, Nat.le_refl _⟩

/-- 'make([]T, n)'. -/
theorem make_full {W : World} (t E : TypeId) (z : Value) (sz bytes : Nat) (ht : P.underlying t = some (.slice E))
    (hinfo : (P.info? E).map (fun i => (i.zero, i.size, i.bytes)) = some (some z, sz, bytes))
    (hgd : o.guard = none) (l c : Operand) (hop : o.op = Op.makeSlice t l c) (n : Nat) (hl : a.eval l = .int .i64 (n : Int)) (hc : a.eval c = .int .i64 (n : Int)) (hn : bytes * n ≤ 281474976710656) (hn2 : n ≤ 9223372036854775807)
    (hK : ∀ w', w'.ownsRow W.heap.size E sz (.slice (some ⟨W.heap.size, 0, none⟩) n n) n (madeCells z.cells (n * sz)).toList → Ext W w' → wpList P ops Q rest (a.put o.dst (.slice (some ⟨W.heap.size, 0, none⟩) n n)) w') :
    wpList P ops Q (o :: rest) a W := by
  obtain ⟨i0, hi, hzz⟩ := Option.map_eq_some_iff.1 hinfo
  simp only [Prod.mk.injEq] at hzz
  obtain ⟨hz0, hz1, hz2⟩ := hzz
  refine wpList_make_full W hgd l c t hop W.heap.size E i0 z sz ht hi hz0 hz1 .i64 .i64 _ _ n hl hc rfl rfl (by rw [hz2]; exact hn) (by simp only [maxLen]; exact hn2) (Nat.le_refl _) ?_
  intro w' h1 h2
  exact hK w' h1 ⟨h2.os, h2.tape, h2.output, h2.size, fun k hk => h2.block k hk (by simp)⟩
end

theorem made_ints (n : Nat) : (madeCells (Value.int .i64 0).cells (n * 1)).toList = ints (List.replicate n 0) := by
  rw [Nat.mul_one]; exact (toList_madeCells_one (.int .i64 0) n).trans (by simp [ints])
theorem made_bools (n : Nat) : (madeCells (Value.bool false).cells (n * 1)).toList = bools (List.replicate n false) := by
  rw [Nat.mul_one]; exact (toList_madeCells_one (.bool false) n).trans (by simp [bools])
theorem madeCells_two (x y : Value) (n : Nat) : (madeCells #[x, y] (n * 2)).toList = (List.replicate n [x, y]).flatten := by
  simp only [madeCells, Array.toList_map, Array.toList_range]
  induction n with
  | zero => rfl
  | succ n ih =>
    rw [show (n + 1) * 2 = n * 2 + 1 + 1 by omega, List.range_succ, List.range_succ, List.map_append, List.map_append, ih, List.replicate_succ', List.flatten_append]
    have e1 : n * 2 % 2 = 0 := by omega
    have e2 : (n * 2 + 1) % 2 = 1 := by omega
    simp [e1, e2]
theorem made_prs (n : Nat) : (madeCells (Value.agg #[.int .i64 0, .int .i64 0]).cells (n * 2)).toList = prs (List.replicate n (0, 0)) := by
  refine (madeCells_two (.int .i64 0) (.int .i64 0) n).trans ?_
  induction n with
  | zero => rfl
  | succ n ih => simp [List.replicate_succ, prs] at ih ⊢; exact ih

theorem ints_set (xs : List Int) (k : Nat) (y : Int) : (ints xs).set k (.int .i64 y) = ints (xs.set k y) := by simp [ints, List.map_set]
theorem bools_set (xs : List Bool) (k : Nat) (y : Bool) : (bools xs).set k (.bool y) = bools (xs.set k y) := by simp [bools, List.map_set]
theorem prs_set (ps : List (Int × Int)) (k : Nat) (x y : Int) : ((prs ps).set (k * 2) (.int .i64 x)).set (k * 2 + 1) (.int .i64 y) = prs (ps.set k (x, y)) := by
  induction ps generalizing k with
  | nil => simp [prs]
  | cons p ps ih =>
    cases k with
    | zero => simp [prs]
    | succ k =>
      have := ih k
      simp only [prs, List.flatMap_cons, List.cons_append, List.nil_append, List.set_cons_succ] at this ⊢
      rw [show (k + 1) * 2 = k * 2 + 1 + 1 by omega, show k * 2 + 1 + 1 + 1 = (k * 2 + 1) + 1 + 1 by omega]
      simp only [List.set_cons_succ]
      rw [this]
theorem own_at {w : World} {base : Nat} {e : TypeId} {size n : Nat} {v : Value} {xs : List Value} (h : w.ownsRow base e size v n xs) (hn : 0 < n) : ∃ g cap, v = .slice (some ⟨g, 0, none⟩) n cap ∧ base ≤ g ∧ g < w.heap.size ∧ n ≤ cap := by
  rcases h.2 with ⟨_, rfl⟩ | ⟨g, cap, cur, rfl, hb, hh, h1, h2, _⟩
  · omega
  · exact ⟨g, cap, rfl, hb, (Array.getElem?_eq_some_iff.1 hh).1, h1⟩

/-! ### Stores into an owned row, or beside it -/
theorem Ext.set {a w : World} (h : Ext a w) {b o : Nat} (hb : a.heap.size ≤ b) (u : Value) : Ext a (w.setCell ⟨b, o, none⟩ u) := Ext.setCell (p := ⟨b, o, none⟩) h hb u
theorem own_beside {w : World} {base : Nat} {e : TypeId} {size : Nat} {v : Value} {n : Nat} {xs : List Value} (h : w.ownsRow base e size v n xs) {b o : Nat} (hb : b < base) (u : Value) : (w.setCell ⟨b, o, none⟩ u).ownsRow base e size v n xs :=
  ownsRow_setCell_below (a := ⟨b, o, none⟩) h hb u
theorem own_setP {w : World} {base g n cap k : Nat} {e : TypeId} {ps : List (Int × Int)} {x y : Int} (h : w.ownsRow base e 2 (.slice (some ⟨g, 0, none⟩) n cap) n (prs ps)) :
    ((w.setCell ⟨g, k * 2, none⟩ (.int .i64 x)).setCell ⟨g, k * 2 + 1, none⟩ (.int .i64 y)).ownsRow base e 2 (.slice (some ⟨g, 0, none⟩) n cap) n (prs (ps.set k (x, y))) := by
  have h1 := ((h.stored (k * 2) (.int .i64 x)).1.stored (k * 2 + 1) (.int .i64 y)).1
  rwa [prs_set] at h1
theorem own_setI {w : World} {base g n cap k : Nat} {e : TypeId} {xs : List Int} {x : Int} (h : w.ownsRow base e 1 (.slice (some ⟨g, 0, none⟩) n cap) n (ints xs)) :
    (w.setCell ⟨g, k, none⟩ (.int .i64 x)).ownsRow base e 1 (.slice (some ⟨g, 0, none⟩) n cap) n (ints (xs.set k x)) := by
  have h1 := (h.stored k (.int .i64 x)).1
  rwa [ints_set] at h1
theorem own_setB {w : World} {base g n cap k : Nat} {e : TypeId} {xs : List Bool} {x : Bool} (h : w.ownsRow base e 1 (.slice (some ⟨g, 0, none⟩) n cap) n (bools xs)) :
    (w.setCell ⟨g, k, none⟩ (.bool x)).ownsRow base e 1 (.slice (some ⟨g, 0, none⟩) n cap) n (bools (xs.set k x)) := by
  have h1 := (h.stored k (.bool x)).1
  rwa [bools_set] at h1
/-- A cell of an owned row may be stored into. -/
theorem own_ready {w : World} {base g n cap size : Nat} {e : TypeId} {xs : List Value} (h : w.ownsRow base e size (.slice (some ⟨g, 0, none⟩) n cap) n xs) (j : Nat) (hj : j < n * size) :
    ∃ u, w.cell? ⟨g, j, none⟩ = some u ∧ w.frozen? ⟨g, j, none⟩ = false :=
  ⟨xs[j]'(by rw [h.1]; exact hj), by rw [h.cellAt j hj]; exact List.getElem?_eq_getElem _, h.frozenAt j⟩
/-- Setting the next element of a row that is filled from its begin on. -/
theorem fill_set {α : Type} (xs : List α) (z : α) (n k : Nat) (hn : xs.length = n) (hk : k < n) :
    (xs.take k ++ List.replicate (n - k) z).set k (xs[k]'(by omega)) = xs.take (k + 1) ++ List.replicate (n - (k + 1)) z := by
  obtain ⟨m, hm⟩ : ∃ m, n - k = m + 1 := ⟨n - k - 1, by omega⟩
  rw [hm, show n - (k + 1) = m by omega, List.set_append_right _ _ (by simp; omega)]
  simp only [List.length_take, List.replicate_succ]
  rw [show k - min k xs.length = 0 by omega, List.set_cons_zero, List.take_succ_eq_append_getElem (by omega), List.append_assoc]
  rfl
end Go.Proofs.Ytkfbkflneppggaa
