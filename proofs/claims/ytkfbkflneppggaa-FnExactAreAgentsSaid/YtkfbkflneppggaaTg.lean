/-
  The laws' helpers, said alike for each type: a datum, an address, what reads, what is owned between two block numbers; graphs, rows of numbers, rows of pairs. Conditions: none.
-/
import Derived.Test.YtkfbkflneppggaaMk
namespace Go.Proofs.Ytkfbkflneppggaa
open Go.RowKit
set_option linter.unusedVariables false
set_option linter.unusedSimpArgs false

/-- Where a slice lies: its address and its capacity; its length is its datum's. -/
structure SlA where
  A : Option Addr
  c : Nat

/-! ### Rows between two block numbers -/
def RowB (w : World) (lo hi : Nat) (E : TypeId) (sz : Nat) (a : SlA) (n : Nat) (cs : List Value) : Prop :=
  w.ownsRow lo E sz (.slice a.A n a.c) n cs ∧ ∀ k, (Value.slice a.A n a.c).ownBlock = some k → k < hi
theorem RowB.ext {w w' : World} {lo hi : Nat} {E : TypeId} {sz n : Nat} {a : SlA} {cs : List Value} (h : RowB w lo hi E sz a n cs) (e : Ext w w') : RowB w' lo hi E sz a n cs := ⟨own_ext h.1 e, h.2⟩
theorem RowB.lo {w : World} {lo hi : Nat} {E : TypeId} {sz n : Nat} {a : SlA} {cs : List Value} (h : RowB w lo hi E sz a n cs) {k : Nat} (hk : (Value.slice a.A n a.c).ownBlock = some k) : lo ≤ k ∧ k < hi ∧ k < w.heap.size :=
  ⟨(h.1.lt k hk).1, h.2 k hk, (h.1.lt k hk).2⟩
theorem own_blk {w w' : World} {base n c : Nat} {A : Option Addr} {e : TypeId} {size : Nat} {xs : List Value} (h : w.ownsRow base e size (.slice A n c) n xs) (hD : ∀ k, (Value.slice A n c).ownBlock = some k → w'.heap[k]? = w.heap[k]?) : w'.ownsRow base e size (.slice A n c) n xs := by
  refine ⟨h.1, ?_⟩
  rcases h.2 with h2 | ⟨g, cap, cur, hv, hg, hc, r⟩
  · exact .inl h2
  · exact .inr ⟨g, cap, cur, hv, hg, (hD g (by rw [hv]; rfl)).trans hc, r⟩
theorem RowB.chg {w w' : World} {lo hi : Nat} {E : TypeId} {sz n : Nat} {a : SlA} {cs : List Value} {D : Nat → Prop} (h : RowB w lo hi E sz a n cs) (x : Chg D w w') (hD : ∀ k, lo ≤ k → k < hi → ¬ D k) : RowB w' lo hi E sz a n cs :=
  ⟨own_blk h.1 (fun k hk => x.block k (h.lo hk).2.2 (hD k (h.lo hk).1 (h.lo hk).2.1)), h.2⟩
theorem RowB.mono {w : World} {lo hi lo' hi' : Nat} {E : TypeId} {sz n : Nat} {a : SlA} {cs : List Value} (h : RowB w lo hi E sz a n cs) (h1 : lo' ≤ lo) (h2 : hi ≤ hi') : RowB w lo' hi' E sz a n cs :=
  ⟨own_mono h.1 h1, fun k hk => Nat.lt_of_lt_of_le (h.2 k hk) h2⟩
theorem RowB.mk' {w : World} {lo : Nat} {E : TypeId} {sz n c : Nat} {A : Option Addr} {cs : List Value} (h : w.ownsRow lo E sz (.slice A n c) n cs) : RowB w lo w.heap.size E sz ⟨A, c⟩ n cs := ⟨h, fun k hk => (h.lt k hk).2⟩
theorem RowB.sl {w : World} {lo hi : Nat} {E : TypeId} {sz n : Nat} {a : SlA} {cs : List Value} (h : RowB w lo hi E sz a n cs) : Sl w sz a.A n cs := by
  obtain ⟨A', c', hv, hs⟩ := own_sl h.1
  obtain ⟨h1, _⟩ : a.A = A' ∧ a.c = c' := by injection hv with h1 h2 h3; exact ⟨h1, h3⟩
  rw [h1]; exact hs
theorem Chg.in {D : Nat → Prop} {lo hi : Nat} {w w' : World} (h : Chg D w w') (hD : ∀ k, k < w.heap.size → D k → lo ≤ k ∧ k < hi) : Chg (fun b => lo ≤ b ∧ b < hi) w w' := h.mono hD

/-! ### Rows of numbers -/
def RdI (w : World) (a : SlA) (xs : List Int) : Prop := SlI w a.A xs.length xs
def OwI (w : World) (lo hi : Nat) (a : SlA) (xs : List Int) : Prop := RowB w lo hi 3 1 a xs.length (ints xs)
theorem RdI.ext {w w' : World} {a : SlA} {xs : List Int} (h : RdI w a xs) (e : Ext w w') : RdI w' a xs := SlI.ext h e
theorem OwI.ext {w w' : World} {lo hi : Nat} {a : SlA} {xs : List Int} (h : OwI w lo hi a xs) (e : Ext w w') : OwI w' lo hi a xs := RowB.ext h e
theorem OwI.chg {w w' : World} {lo hi : Nat} {a : SlA} {xs : List Int} {D : Nat → Prop} (h : OwI w lo hi a xs) (x : Chg D w w') (hD : ∀ k, lo ≤ k → k < hi → ¬ D k) : OwI w' lo hi a xs := RowB.chg h x hD
theorem OwI.mono {w : World} {lo hi lo' hi' : Nat} {a : SlA} {xs : List Int} (h : OwI w lo hi a xs) (h1 : lo' ≤ lo) (h2 : hi ≤ hi') : OwI w lo' hi' a xs := RowB.mono h h1 h2
theorem OwI.rd {w : World} {lo hi : Nat} {a : SlA} {xs : List Int} (h : OwI w lo hi a xs) : RdI w a xs := RowB.sl h
def BdI (xs : List Int) : Prop := xs.length ≤ 1048576
def mkI (k : Int) (xs : List Int) : List Int := marks k xs.length
def cntI (xs : List Int) : Int := xs.length
theorem mkI_length (k : Int) (xs : List Int) : (mkI k xs).length = xs.length := marks_length k xs.length
theorem cntI_le {xs : List Int} (h : BdI xs) : 0 ≤ cntI xs ∧ cntI xs ≤ 4194304 := by unfold cntI; unfold BdI at h; omega
theorem toI_t (xs : List Int) (a : SlA) (w : World) (h : RdI w a xs) (hb : BdI xs) :
    Calls Try.prog 34 #[.slice a.A xs.length a.c] w fun e w' => ∃ b : SlA, e = .returned (.slice b.A xs.length b.c) ∧ OwI w' w.heap.size w'.heap.size b xs ∧ Ext w w' :=
  (toIntS_c a.A xs.length a.c xs w h hb).mono fun e w' ⟨A', c', he, ho, hx⟩ => ⟨⟨A', c'⟩, he, RowB.mk' ho, hx⟩
theorem eqI_t (xs : List Int) (a b : SlA) (w : World) (h1 : RdI w a xs) (h2 : RdI w b xs) :
    Calls Try.prog 28 #[.slice a.A xs.length a.c, .slice b.A xs.length b.c] w fun e w' => e = .returned (.bool true) ∧ Ext w w' :=
  eqIntS_c a.A b.A xs.length a.c b.c xs w h1 h2
theorem markI_t (xs : List Int) (a : SlA) (lo hi : Nat) (k : Int) (w : World) (h : OwI w lo hi a xs) (_hh : hi ≤ w.heap.size) (hb : BdI xs) (h0 : 0 ≤ k) (h1 : k ≤ 1073741824) :
    Calls Try.prog 29 #[.slice a.A xs.length a.c, .int .i64 k] w fun e w' => e = .returned (.int .i64 (k + cntI xs)) ∧ OwI w' lo hi a (mkI k xs) ∧ Chg (fun b => lo ≤ b ∧ b < hi) w w' :=
  (markIntS_c a.A xs.length a.c lo k xs w h.1 (by unfold BdI at hb; omega) h0 h1).mono fun e w' ⟨he, ho, hc⟩ =>
    ⟨he, ⟨by rw [mkI_length]; exact ho, by rw [mkI_length]; exact h.2⟩, hc.in (fun k _ hk => ⟨(RowB.lo h hk).1, (RowB.lo h hk).2.1⟩)⟩
theorem heldI_t (xs : List Int) (a : SlA) (k : Int) (w : World) (h : RdI w a (mkI k xs)) (hb : BdI xs) (h0 : 0 ≤ k) (h1 : k ≤ 1073741824) :
    Calls Try.prog 30 #[.slice a.A xs.length a.c, .int .i64 k] w fun e w' => e = .returned (.int .i64 (k + cntI xs)) ∧ Ext w w' := by
  unfold RdI at h
  rw [mkI_length] at h
  refine (heldIntS_c a.A xs.length a.c k w h (by unfold BdI at hb; omega) h0 h1).mono ?_
  rintro e w' ⟨he, rfl⟩
  exact ⟨he, Ext.refl _⟩

/-! ### Rows of pairs -/
def RdP (w : World) (a : SlA) (ps : List (Int × Int)) : Prop := SlP w a.A ps.length ps
def OwP (w : World) (lo hi : Nat) (a : SlA) (ps : List (Int × Int)) : Prop := RowB w lo hi 83 2 a ps.length (prs ps)
theorem RdP.ext {w w' : World} {a : SlA} {xs : List (Int × Int)} (h : RdP w a xs) (e : Ext w w') : RdP w' a xs := SlP.ext h e
theorem OwP.ext {w w' : World} {lo hi : Nat} {a : SlA} {xs : List (Int × Int)} (h : OwP w lo hi a xs) (e : Ext w w') : OwP w' lo hi a xs := RowB.ext h e
theorem OwP.chg {w w' : World} {lo hi : Nat} {a : SlA} {xs : List (Int × Int)} {D : Nat → Prop} (h : OwP w lo hi a xs) (x : Chg D w w') (hD : ∀ k, lo ≤ k → k < hi → ¬ D k) : OwP w' lo hi a xs := RowB.chg h x hD
theorem OwP.mono {w : World} {lo hi lo' hi' : Nat} {a : SlA} {xs : List (Int × Int)} (h : OwP w lo hi a xs) (h1 : lo' ≤ lo) (h2 : hi ≤ hi') : OwP w lo' hi' a xs := RowB.mono h h1 h2
theorem OwP.rd {w : World} {lo hi : Nat} {a : SlA} {xs : List (Int × Int)} (h : OwP w lo hi a xs) : RdP w a xs := RowB.sl h
def BdP (xs : List (Int × Int)) : Prop := xs.length ≤ 1048576
def mkP (k : Int) (xs : List (Int × Int)) : List (Int × Int) := markP k xs.length
def cntP (xs : List (Int × Int)) : Int := 2 * (xs.length : Int)
theorem mkP_length (k : Int) (xs : List (Int × Int)) : (mkP k xs).length = xs.length := markP_length k xs.length
theorem cntP_le {xs : List (Int × Int)} (h : BdP xs) : 0 ≤ cntP xs ∧ cntP xs ≤ 4194304 := by unfold cntP; unfold BdP at h; omega
theorem toP_t (xs : List (Int × Int)) (a : SlA) (w : World) (h : RdP w a xs) (hb : BdP xs) :
    Calls Try.prog 57 #[.slice a.A xs.length a.c] w fun e w' => ∃ b : SlA, e = .returned (.slice b.A xs.length b.c) ∧ OwP w' w.heap.size w'.heap.size b xs ∧ Ext w w' :=
  (toIntA2S_c a.A xs.length a.c xs w h hb).mono fun e w' ⟨A', c', he, ho, hx⟩ => ⟨⟨A', c'⟩, he, RowB.mk' ho, hx⟩
theorem eqP_t (xs : List (Int × Int)) (a b : SlA) (w : World) (h1 : RdP w a xs) (h2 : RdP w b xs) :
    Calls Try.prog 22 #[.slice a.A xs.length a.c, .slice b.A xs.length b.c] w fun e w' => e = .returned (.bool true) ∧ Ext w w' :=
  eqIntA2S_c a.A b.A xs.length a.c b.c xs w h1 h2
theorem markP_t (xs : List (Int × Int)) (a : SlA) (lo hi : Nat) (k : Int) (w : World) (h : OwP w lo hi a xs) (_hh : hi ≤ w.heap.size) (hb : BdP xs) (h0 : 0 ≤ k) (h1 : k ≤ 1073741824) :
    Calls Try.prog 24 #[.slice a.A xs.length a.c, .int .i64 k] w fun e w' => e = .returned (.int .i64 (k + cntP xs)) ∧ OwP w' lo hi a (mkP k xs) ∧ Chg (fun b => lo ≤ b ∧ b < hi) w w' :=
  (markIntA2S_c a.A xs.length a.c lo k xs w h.1 (by unfold BdP at hb; omega) h0 h1).mono fun e w' ⟨he, ho, hc⟩ =>
    ⟨he, ⟨by rw [mkP_length]; exact ho, by rw [mkP_length]; exact h.2⟩, hc.in (fun k _ hk => ⟨(RowB.lo h hk).1, (RowB.lo h hk).2.1⟩)⟩

set_option maxHeartbeats 1000000 in
/-- The marks of pairs are found. -/
theorem heldIntA2S_c (A : Option Addr) (n c : Nat) (k : Int) (w : World) (h : SlP w A n (markP k n)) (hn : n ≤ 1073741824) (h0 : 0 ≤ k) (h1 : k ≤ 1073741824) :
    Calls Try.prog 25 #[.slice A n c, .int .i64 k] w fun e w' => e = .returned (.int .i64 (k + 2 * n)) ∧ w = w' := by
  have hl := h.len
  go_enter Try.func25, Try.ntmps25
  go_wp2
  go_loopw [1, 5] (fun m i wr => ∃ j : Nat, j ≤ n ∧ i = .int .i64 j ∧ m = .int .i64 (k + 2 * j) ∧ w = wr) (fun _ i _ => n - (intOf i).toNat)
  case atStart => exact ⟨0, Nat.zero_le _, rfl, by simp, rfl⟩
  case round =>
    obtain ⟨j, hj, rfl, rfl, rfl⟩ := hrel
    by_cases hlt : j < n
    · obtain ⟨b, o, rfl, p1, p2⟩ := h.at j (by omega)
      rw [gP_markP k n j hlt] at p1 p2
      have Hh := Lib.hid h; clear h
      have Hl := Lib.hid hl; clear hl
      have i0 : (0 : Int) ≤ (j : Int) := by omega
      have i1 : (j : Int) < (n : Int) := by omega
      have e1 : IntKind.i64.wrap (k + 2 * (j : Int) + 1) = k + 2 * (j : Int) + 1 := IntWalk.i64_in _ (by omega)
      have e2 : IntKind.i64.wrap (k + 2 * (j : Int) + 1 + 1) = k + 2 * (j : Int) + 1 + 1 := IntWalk.i64_in _ (by omega)
      have q1 : ((k + 2 * (j : Int)) != (k + 2 * (j : Int))) = false := by simp
      have q2 : ((k + 2 * (j : Int) + 1) != (k + 2 * (j : Int) + 1)) = false := by simp
      go_wp2
      refine wp_loop_rounds 3 ?_
      rw [rounds_succ]
      go_wp2
      rw [rounds_succ]
      go_wp2
      rw [rounds_succ]
      go_wp2
      go_roundw
      case rel => exact ⟨j + 1, by omega, by go_num, by first | (congr 1; omega) | (simp; omega), by first | rfl | trivial⟩
      case measure => simp [intOf]; omega
    · have hk' : j = n := by omega
      subst hk'
      go_wp2
      go_ret
      exact ⟨rfl, rfl⟩
theorem heldP_t (xs : List (Int × Int)) (a : SlA) (k : Int) (w : World) (h : RdP w a (mkP k xs)) (hb : BdP xs) (h0 : 0 ≤ k) (h1 : k ≤ 1073741824) :
    Calls Try.prog 25 #[.slice a.A xs.length a.c, .int .i64 k] w fun e w' => e = .returned (.int .i64 (k + cntP xs)) ∧ Ext w w' := by
  unfold RdP at h
  rw [mkP_length] at h
  refine (heldIntA2S_c a.A xs.length a.c k w h (by unfold BdP at hb; omega) h0 h1).mono ?_
  rintro e w' ⟨he, rfl⟩
  exact ⟨he, Ext.refl _⟩

/-! ### Graphs -/
structure GrD where
  sz : Int
  ps : List (Int × Int)
def RdG (w : World) (a : SlA) (d : GrD) : Prop := SlP w a.A d.ps.length d.ps
def OwG (w : World) (lo hi : Nat) (a : SlA) (d : GrD) : Prop := RowB w lo hi 83 2 a d.ps.length (prs d.ps)
theorem RdG.ext {w w' : World} {a : SlA} {d : GrD} (h : RdG w a d) (e : Ext w w') : RdG w' a d := SlP.ext h e
theorem OwG.ext {w w' : World} {lo hi : Nat} {a : SlA} {d : GrD} (h : OwG w lo hi a d) (e : Ext w w') : OwG w' lo hi a d := RowB.ext h e
theorem OwG.chg {w w' : World} {lo hi : Nat} {a : SlA} {d : GrD} {D : Nat → Prop} (h : OwG w lo hi a d) (x : Chg D w w') (hD : ∀ k, lo ≤ k → k < hi → ¬ D k) : OwG w' lo hi a d := RowB.chg h x hD
theorem OwG.mono {w : World} {lo hi lo' hi' : Nat} {a : SlA} {d : GrD} (h : OwG w lo hi a d) (h1 : lo' ≤ lo) (h2 : hi ≤ hi') : OwG w lo' hi' a d := RowB.mono h h1 h2
theorem OwG.rd {w : World} {lo hi : Nat} {a : SlA} {d : GrD} (h : OwG w lo hi a d) : RdG w a d := RowB.sl h
def BdG (d : GrD) : Prop := d.ps.length ≤ 1048576
def mkG (k : Int) (d : GrD) : GrD := ⟨d.sz, markP k d.ps.length⟩
def cntG (d : GrD) : Int := 2 * (d.ps.length : Int)
theorem mkG_length (k : Int) (d : GrD) : (mkG k d).ps.length = d.ps.length := markP_length k d.ps.length
theorem cntG_le {d : GrD} (h : BdG d) : 0 ≤ cntG d ∧ cntG d ≤ 4194304 := by unfold cntG; unfold BdG at h; omega
def leftG (left : Int) (d : GrD) : Int := leftOf left d.ps.length
theorem leftG_ok {left : Int} {d : GrD} (h : ¬ leftG left d < 0) : BdG d ∨ 1048576 < left := by unfold leftG leftOf at h; unfold BdG; split at h <;> omega
theorem leftG_le {left : Int} {d : GrD} : leftG left d ≤ left ∨ left < 0 := by unfold leftG leftOf; split <;> omega
theorem szG_t (d : GrD) (a : SlA) (left : Int) (w : World) (h : RdG w a d) (h1 : 0 ≤ left) (h2 : left ≤ 1048576) :
    Calls Try.prog 13 #[.agg #[.int .i64 d.sz, .slice a.A d.ps.length a.c], .int .i64 left] w fun e w' => e = .returned (.int .i64 (leftG left d)) ∧ Ext w w' :=
  szGraph_c d.sz a.A d.ps.length a.c left w (SlP.le h) h1 h2
theorem toG_t (d : GrD) (a : SlA) (w : World) (h : RdG w a d) (hb : BdG d) :
    Calls Try.prog 15 #[.agg #[.int .i64 d.sz, .slice a.A d.ps.length a.c]] w fun e w' => ∃ b : SlA, e = .returned (.agg #[.int .i64 d.sz, .slice b.A d.ps.length b.c]) ∧ OwG w' w.heap.size w'.heap.size b d ∧ Ext w w' :=
  (toGraph_c d.sz a.A d.ps.length a.c d.ps w h hb).mono fun e w' ⟨A', c', he, ho, hx⟩ => ⟨⟨A', c'⟩, he, RowB.mk' ho, hx⟩
theorem eqG_t (d : GrD) (a b : SlA) (w : World) (h1 : RdG w a d) (h2 : RdG w b d) :
    Calls Try.prog 17 #[.agg #[.int .i64 d.sz, .slice a.A d.ps.length a.c], .agg #[.int .i64 d.sz, .slice b.A d.ps.length b.c]] w fun e w' => e = .returned (.bool true) ∧ Ext w w' :=
  eqGraph_c d.sz a.A b.A d.ps.length a.c b.c d.ps w h1 h2
theorem markG_t (d : GrD) (a : SlA) (lo hi : Nat) (k : Int) (w : World) (h : OwG w lo hi a d) (_hh : hi ≤ w.heap.size) (hb : BdG d) (h0 : 0 ≤ k) (h1 : k ≤ 1073741824) :
    Calls Try.prog 23 #[.agg #[.int .i64 d.sz, .slice a.A d.ps.length a.c], .int .i64 k] w fun e w' => e = .returned (.int .i64 (k + cntG d)) ∧ OwG w' lo hi a (mkG k d) ∧ Chg (fun b => lo ≤ b ∧ b < hi) w w' :=
  (markGraph_c d.sz a.A d.ps.length a.c lo k d.ps w h.1 (by unfold BdG at hb; omega) h0 h1).mono fun e w' ⟨he, ho, hc⟩ =>
    ⟨he, ⟨by rw [mkG_length]; exact ho, by rw [mkG_length]; exact h.2⟩, hc.in (fun k _ hk => ⟨(RowB.lo h hk).1, (RowB.lo h hk).2.1⟩)⟩
end Go.Proofs.Ytkfbkflneppggaa
