/-
  Words for rows of rows of numbers, and an append of a whole row at a step of a region that draws its order. No program stands here. Conditions: none.
-/
import Derived.Test.YtkfbkflneppggaaRe
namespace Go.Proofs.Ytkfbkflneppggaa
open Go.RowKit
set_option linter.unusedVariables false

/-- The values vs are slices that read as the lists of ls, in blocks of B. -/
def LL (w : World) (B : Nat → Prop) : List Value → List (List Int) → Prop
  | [], [] => True
  | v :: vs, l :: ls => (∃ A c, v = .slice A l.length c ∧ SlI w A l.length l ∧ ∀ b, v.ownBlock = some b → B b ∧ b < w.heap.size) ∧ LL w B vs ls
  | _, _ => False
theorem LL.nil (w : World) (B : Nat → Prop) : LL w B [] [] := trivial
theorem LL.one {w : World} {B : Nat → Prop} {A : Option Addr} {n c : Nat} {l : List Int} (h : SlI w A n l) (hb : ∀ b, (Value.slice A n c).ownBlock = some b → B b ∧ b < w.heap.size) : LL w B [.slice A n c] [l] := by
  have hl := h.len
  subst hl
  exact ⟨⟨A, c, rfl, h, hb⟩, trivial⟩
theorem SlI.chg {w w' : World} {D : Nat → Prop} {A : Option Addr} {n c : Nat} {l : List Int} (h : SlI w A n l) (x : Chg D w w') (hD : ∀ b, (Value.slice A n c).ownBlock = some b → ¬ D b) : SlI w' A n l :=
  ⟨h.1, h.2.1, fun hn => by
    obtain ⟨b, o, rfl, hb, hc⟩ := h.2.2 hn
    exact ⟨b, o, rfl, Nat.lt_of_lt_of_le hb x.size, fun j u hj => x.cell (hc j u hj) (hD b rfl)⟩⟩
theorem LL.chg {w w' : World} {B B' D : Nat → Prop} (x : Chg D w w') (hD : ∀ b, B b → b < w.heap.size → ¬ D b) (hB : ∀ b, B b → b < w.heap.size → B' b) : ∀ {vs : List Value} {ls : List (List Int)}, LL w B vs ls → LL w' B' vs ls
  | [], [], _ => trivial
  | _ :: _, _ :: _, ⟨⟨A, c, hv, hs, hb⟩, h⟩ => ⟨⟨A, c, hv, hs.chg (c := c) x (fun b hA => by have := hb b (hv ▸ hA); exact hD b this.1 this.2), fun b hA => by have := hb b hA; exact ⟨hB b this.1 this.2, Nat.lt_of_lt_of_le this.2 x.size⟩⟩, LL.chg x hD hB h⟩
  | [], _ :: _, h => h.elim
  | _ :: _, [], h => h.elim
theorem LL.ext {w w' : World} {B : Nat → Prop} (e : Ext w w') {vs : List Value} {ls : List (List Int)} (h : LL w B vs ls) : LL w' B vs ls :=
  LL.chg (e.chg fun _ => False) (fun _ _ _ h => h) (fun _ h _ => h) h
theorem LL.length {w : World} {B : Nat → Prop} : ∀ {vs : List Value} {ls : List (List Int)}, LL w B vs ls → vs.length = ls.length
  | [], [], _ => rfl
  | _ :: _, _ :: _, ⟨_, h⟩ => by simp [LL.length h]
  | [], _ :: _, h => h.elim
  | _ :: _, [], h => h.elim
theorem LL.append {w : World} {B : Nat → Prop} {vs' : List Value} {ls' : List (List Int)} (h' : LL w B vs' ls') : ∀ {vs : List Value} {ls : List (List Int)}, LL w B vs ls → LL w B (vs ++ vs') (ls ++ ls')
  | [], [], _ => h'
  | _ :: _, _ :: _, ⟨h1, h⟩ => ⟨h1, LL.append h' h⟩
  | [], _ :: _, h => h.elim
  | _ :: _, [], h => h.elim
theorem LL.one_cell {w : World} {B : Nat → Prop} : ∀ {vs : List Value} {ls : List (List Int)}, LL w B vs ls → ∀ u ∈ vs, u.oneCell' = true
  | [], [], _ => fun u hu => by simp at hu
  | _ :: _, _ :: _, ⟨⟨A, c, hv, _⟩, h⟩ => fun u hu => by
    rcases List.mem_cons.1 hu with rfl | hu
    · rw [hv]; rfl
    · exact LL.one_cell h u hu
  | [], _ :: _, h => h.elim
  | _ :: _, [], h => h.elim
theorem LL.get {w : World} {B : Nat → Prop} : ∀ {vs : List Value} {ls : List (List Int)}, LL w B vs ls → ∀ (k : Nat) (hk : k < ls.length), ∃ A c, vs[k]? = some (.slice A ls[k].length c) ∧ SlI w A ls[k].length ls[k]
  | [], [], _, k, hk => by simp at hk
  | v :: vs, l :: ls, ⟨⟨A, c, hv, hs, _⟩, h⟩, k, hk => by
    cases k with
    | zero => exact ⟨A, c, by simp [hv], hs⟩
    | succ k => exact LL.get h k (by simpa using hk)
  | [], _ :: _, h, _, _ => h.elim
  | _ :: _, [], h, _, _ => h.elim

theorem Chg.grown {w w' : World} {ob : Option Nat} (h : w.grownBy w' ob) : Chg (fun b => ob = some b) w w' := ⟨h.os, h.tape, h.output, h.size, fun k hk hD => h.block k hk (fun e => hD e.symm)⟩

theorem ll_join {wo wr m2 m3 w4 : World} {ob ob1 ob4 : Option Nat} {base : Nat} {vs vs3 : List Value} {L L3 : List (List Int)} (hll : LL wo (fun b => base ≤ b ∧ ob ≠ some b) vs L) (hxy : Ext wo wr)
    (hob : ∀ b, ob = some b → base ≤ b ∧ b < wr.heap.size) (hbase : base ≤ wr.heap.size) (hz3 : Ext wr m3) (hll3 : LL m3 (fun b => m2.heap.size ≤ b ∨ ob1 = some b) vs3 L3) (hm2 : wr.heap.size ≤ m2.heap.size)
    (hob1 : ∀ b, ob1 = some b → wr.heap.size ≤ b) (hg : m3.grownBy w4 ob) (hat : ∀ b, ob4 = some b → ob = some b ∨ m3.heap.size ≤ b) : LL w4 (fun b => base ≤ b ∧ ob4 ≠ some b) (vs ++ vs3) (L ++ L3) := by
  have hs1 := hxy.size
  have hs2 := hz3.size
  refine LL.append ?_ (LL.chg (D := fun b => ob = some b) (((hxy.trans hz3).chg _).trans (Chg.grown hg) (fun _ _ h => h)) (fun b hb _ h => hb.2 h) (fun b hb hlt => ⟨hb.1, fun h4 => ?_⟩) hll)
  · refine LL.chg (D := fun b => ob = some b) (Chg.grown hg) (fun b hb _ h => ?_) (fun b hb hlt => ?_) hll3
    · have := hob b h
      rcases hb with hb | hb
      · omega
      · have := hob1 b hb; omega
    · have hge : wr.heap.size ≤ b := by
        rcases hb with hb | hb
        · omega
        · exact hob1 b hb
      refine ⟨by omega, fun h4 => ?_⟩
      rcases hat b h4 with h | h
      · have := hob b h; omega
      · omega
  · rcases hat b h4 with h | h
    · exact hb.2 h
    · omega
theorem own_slv {w : World} {base n c : Nat} {A : Option Addr} {e : TypeId} {xs : List Value} (h : w.ownsRow base e 1 (.slice A n c) n xs) : Sl w 1 A n xs := by
  obtain ⟨A', c', hv, hs⟩ := own_sl h
  obtain ⟨rfl, _⟩ : A = A' ∧ c = c' := by injection hv with h1 h2 h3; exact ⟨h1, h3⟩
  exact hs

/-- A new row of one cell. -/
theorem own_one (w : World) (e : TypeId) (v : Value) : (w.alloc (.cells #[v] e)).ownsRow w.heap.size e 1 (.slice (some ⟨w.heap.size, 0, none⟩) 1 1) 1 [v] := by
  refine ⟨rfl, .inr ⟨w.heap.size, 1, #[v], rfl, Nat.le_refl _, ?_, Nat.le_refl _, by simp only [maxLen]; omega, rfl, rfl⟩⟩
  show (w.heap.push (.cells #[v] e))[w.heap.size]? = _
  simp

section
variable {P : Program}
/-- 'append(v, s...)' at a step of a region that draws its order. -/
theorem step_append_all {ops : Array Oper} {o : Oper} {a : Act} {K : Act → World → Prop} {Q : Exit → Act → World → Prop} {F : Prop} {w0 W wo : World} (t E : TypeId) (z : Value) (sz bytes : Nat) (ht : P.underlying t = some (.slice E))
    (hinfo : (P.info? E).map (fun i => (i.zero, i.size, i.bytes)) = some (some z, sz, bytes)) (hz : z.cells.size = sz) (hs0 : 0 < sz)
    (hgd : o.guard = none) (s x : Operand)
    (ho : o.op = .call { callee := .builtin .append, args := #[s, x], argTypes := #[t, t] })
    (v : Value) (n m c : Nat) (A : Option Addr) (xs ys : List Value) (hs : a.eval s = v) (hx : a.eval x = .slice A m c)
    (hS : Sl W sz A m ys) (hy1 : ∀ u ∈ ys, u.oneCell' = true)
    (HO : wo.ownsRow w0.heap.size E sz v n xs) (HEo : Ext wo W) (HE : Ext w0 W) (hl : (n + m) * bytes ≤ 140737488355328) (hb0 : 0 < bytes)
    (h : ∀ A1 cap w1, w1.ownsRow w0.heap.size E sz (.slice A1 (n + m) cap) (n + m) (xs ++ ys) → Ext w0 w1 → W.grownBy w1 v.ownBlock → (∀ b, (Value.slice A1 (n + m) cap).ownBlock = some b → v.ownBlock = some b ∨ W.heap.size ≤ b) → K (a.put o.dst (.slice A1 (n + m) cap)) w1) :
    if Region.wanted o (yielded ops a.tmps) = true then Oper.wp P o a W K Q else F := by
  obtain ⟨i0, hi, hzz⟩ := Option.map_eq_some_iff.1 hinfo
  simp only [Prod.mk.injEq] at hzz
  obtain ⟨hz0, hz1, hz2⟩ := hzz
  have hlen : n + m ≤ 140737488355328 := Nat.le_trans (Nat.le_mul_of_pos_right _ hb0) hl
  have hw : Region.wanted o (yielded ops a.tmps) = true := by simp [Region.wanted, hgd]
  rw [if_pos hw]
  have HO' := own_ext HO HEo
  rcases Nat.eq_zero_or_pos m with hm0 | hm0
  · subst hm0
    have hys : ys = [] := List.eq_nil_of_length_eq_zero (by simpa using hS.1)
    subst hys
    obtain ⟨A1, cap, rfl⟩ := own_slice HO'
    have hK := h A1 cap W (by simpa using HO') HE (World.grownBy.refl _ _) (fun b hb => .inl hb)
    cases A with
    | none =>
      have hrun := run_append_none (P := P) w0.heap.size t o.type E i0 sz W ht hi _ n c xs HO'
      unfold Oper.wp
      simp [execOp, ho, resolve, invoke, builtin, hs, hx, hrun, Result.andThen]
      exact hK
    | some ad =>
      have hrun : (Builtin.append_ #[t, t] o.type #[.slice A1 n cap, .slice (some ad) 0 c]).run P W = .ok (.slice A1 n cap) W := by
        rcases HO'.2 with ⟨hv, rfl⟩ | ⟨g, cap', cur, hv, _, _, hnc, _⟩
        · injection hv with h1 h2 h3; subst h1 h3
          simp [Builtin.append_, run_underlying ht, sizeOf, typeInfo, hi, Builtin.lenOf, Builtin.firstCells, loadCells]
          rfl
        · injection hv with h1 h2 h3; subst h1 h3
          simp [Builtin.append_, run_underlying ht, sizeOf, typeInfo, hi, Builtin.lenOf, Builtin.firstCells, hnc, loadCells]
          rfl
      unfold Oper.wp
      simp [execOp, ho, resolve, invoke, builtin, hs, hx, hrun, Result.andThen]
      exact hK
  · obtain ⟨b, o', rfl, _, hc⟩ := hS.2.2 hm0
    refine wp_append_lies W s x t ho w0.heap.size E i0 z sz bytes ht hi hz0 hz1 hz2 hz hs0 v n xs hs HO' ⟨b, o', none⟩ m c ys hx hS.1 (fun j u hj => ?_) hy1 hm0 (by simp only [maxLen]; omega) hl HE.size _ rfl ?_
    · rw [Addr.add_lit]; exact hc j u hj
    · intro g cap w1 hown hg hat _
      refine h _ cap w1 hown (HE.grown hg (own_base HO')) hg (fun b hb => ?_)
      obtain rfl : g = b := by simpa [Value.ownBlock] using hb
      exact hat.imp id (fun h => Nat.le_of_eq h.symm)
end
end Go.Proofs.Ytkfbkflneppggaa
