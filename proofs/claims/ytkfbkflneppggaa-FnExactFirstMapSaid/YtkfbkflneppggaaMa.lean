/-
  The contract of the program's maps, for any function that it calls: the closure that asks whether a neighbor's value does not suit, the closure that goes on from a node. Conditions: none.
-/
import Derived.Test.YtkfbkflneppggaaNa
import Derived.Test.YtkfbkflneppggaaFa
import Derived.KernelRfl
namespace Go.Proofs.Ytkfbkflneppggaa
open Go.RowKit
set_option linter.unusedVariables false
set_option linter.unusedSimpArgs false

theorem nbrK_range {ps : List (Int × Int)} {x z : Int} {k : Nat} (h : z ∈ nbrK ps x k) : 0 ≤ z ∧ z < k := by
  simp only [nbrK, List.mem_filter, List.mem_map, List.mem_range] at h
  obtain ⟨⟨j, hj, rfl⟩, _⟩ := h
  exact ⟨Int.natCast_nonneg _, Int.ofNat_lt.2 hj⟩

set_option maxHeartbeats 1000000 in
/-- The closure that asks whether a neighbor's value does not suit. -/
theorem asks_c (bx b4 b9 b3 b5 bl gs hn hc k x : Nat) (hA : Option Addr) (hs : Int) (lz : Bool) (l xs : List Int) (hps : List (Int × Int)) (w : World)
    (cx : w.cell? ⟨bx, 0, none⟩ = some (.int .i64 (x : Int))) (c4 : w.cell? ⟨b4, 0, none⟩ = some (.int .i64 hs)) (c4' : w.cell? ⟨b4, 1, none⟩ = some (.slice hA hn hc))
    (c9 : w.cell? ⟨b9, 0, none⟩ = some (.int .i64 (k : Int))) (c3 : w.cell? ⟨b3, 0, none⟩ = some (.slice (some ⟨bl, 0, none⟩) gs gs)) (c5 : w.cell? ⟨b5, 0, none⟩ = some (.bool lz))
    (hl : SlI w (some ⟨bl, 0, none⟩) gs l) (hh : SlP w hA hn hps) (hx : ∀ z ∈ xs, 0 ≤ z ∧ z < (gs : Int)) :
    TellsI 118 #[.pointer (some ⟨bx, 0, none⟩), .pointer (some ⟨b4, 0, none⟩), .pointer (some ⟨b9, 0, none⟩), .pointer (some ⟨b3, 0, none⟩), .pointer (some ⟨b5, 0, none⟩)]
      (fun z => decide (z < (x : Int)) && !fitB hps (k : Int) (gI l z.toNat) lz) xs w := by
  intro W z hE hz
  obtain ⟨z0, z1⟩ := hx z hz
  obtain ⟨j, rfl⟩ := Int.eq_ofNat_of_zero_le z0
  obtain ⟨b, o, hA', r⟩ := hl.at j (by have := hl.len; omega)
  obtain ⟨rfl, rfl⟩ : b = bl ∧ o = 0 := by simpa [eq_comm] using hA'
  rw [Nat.zero_add] at r
  have e1 := fun w' (e : Ext W w') => e.cell (hE.cell cx)
  have e2 := fun w' (e : Ext W w') => e.cell (hE.cell c4)
  have e3 := fun w' (e : Ext W w') => e.cell (hE.cell c4')
  have e4 := fun w' (e : Ext W w') => e.cell (hE.cell c9)
  have e5 := fun w' (e : Ext W w') => e.cell (hE.cell c3)
  have e6 := fun w' (e : Ext W w') => e.cell (hE.cell c5)
  have e7 := fun w' (e : Ext W w') => e.cell (hE.cell r)
  have HH := Lib.hid (fun w' (e : Ext W w') => hh.ext (hE.trans e))
  have HE := Lib.hid hE
  clear hE hh hl cx c4 c4' c9 c3 c5 r hA' hx hz
  by_cases q : (j : Int) < (x : Int)
  · have t0 : decide ((j : Int) < (x : Int)) = true := by simp; omega
    have t1 : (0 : Int) ≤ (j : Int) := by omega
    have t2 : (j : Int) < (gs : Int) := by omega
    have HQ := Lib.hid (show (decide ((j : Int) < (x : Int)) && !fitB hps (k : Int) (gI l (j : Int).toNat) lz) = !fitB hps (k : Int) (gI l j) lz by rw [t0, Int.toNat_natCast]; simp)
    simp only [List.append_toArray, List.cons_append, List.nil_append]
    go_enter Try.func118, Try.ntmps118
    go_wp2_with fail
    go_region_held3 (fun w' => Ext W w')
      (first
        | exact (Ext.refl _).drew
        | assumption
        | exact Ext.trans (by assumption) hy)
      (first
        | (go_at_call 119; refine (isFit_c _ _ _ _ hps _ _ _ _ (HH.out _ (by assumption))).mono ?_; rintro e w1 ⟨rfl, hy⟩))
    go_wp2
    go_ret
    exact ⟨ret_bool HQ.out.symm, by assumption⟩
  · have t0 : decide ((j : Int) < (x : Int)) = false := by simp; omega
    have t0' : decide (j < x) = false := by simp; omega
    have HQ := Lib.hid (show (decide ((j : Int) < (x : Int)) && !fitB hps (k : Int) (gI l (j : Int).toNat) lz) = false by rw [t0]; simp)
    have f1 := e1 W (Ext.refl _)
    clear e1 e2 e3 e4 e5 e6 e7 q
    simp only [List.append_toArray, List.cons_append, List.nil_append]
    go_enter Try.func118, Try.ntmps118
    go_wp2
    go_quiet (fail)
    go_wp2
    go_ret
    exact ⟨ret_bool HQ.out.symm, (Ext.refl W).drewN _⟩

/-- A function that maps calls: its state s lies in the blocks D of the world, from lo on. -/
structure CB (σ : Type) (cf : Nat) (caps : Array Value) (n lo : Nat) (step : σ → List Int → σ × Bool) (ok : σ → Prop) (Inv : σ → (Nat → Prop) → World → Prop) : Prop where
  ent : Enters Try.prog cf
  low : ∀ s D w, Inv s D w → ∀ k, D k → lo ≤ k ∧ k < w.heap.size
  keep : ∀ s D w w', Inv s D w → w.heap.size ≤ w'.heap.size → (∀ k, D k → w'.heap[k]? = w.heap[k]?) → Inv s D w'
  call : ∀ s D w A c (m : List Int), Inv s D w → ok s → SlI w A n m → lo ≤ w.heap.size → Calls Try.prog cf (#[.slice A n c] ++ caps) w fun e w' =>
    ∃ D', e = .returned (.bool (step s m).2) ∧ Inv (step s m).1 D' w' ∧ ((step s m).2 = true → ok (step s m).1) ∧ Chg D w w' ∧ ∀ k, D' k → D k ∨ w.heap.size ≤ k

/-- What lies in the boxes of maps. -/
structure MEnv (w : World) (b1 b2 b3 b4 b5 b6 bl gs hs gn gc hn hc : Nat) (gA hA : Option Addr) (lz : Bool) (cf : Nat) (caps : Array Value) : Prop where
  c1 : w.cell? ⟨b1, 0, none⟩ = some (.int .i64 (gs : Int))
  c1' : w.cell? ⟨b1, 1, none⟩ = some (.slice gA gn gc)
  c2 : w.cell? ⟨b2, 0, none⟩ = some (.func (.func cf) #[] caps)
  c3 : w.cell? ⟨b3, 0, none⟩ = some (.slice (some ⟨bl, 0, none⟩) gs gs)
  c4 : w.cell? ⟨b4, 0, none⟩ = some (.int .i64 (hs : Int))
  c4' : w.cell? ⟨b4, 1, none⟩ = some (.slice hA hn hc)
  c5 : w.cell? ⟨b5, 0, none⟩ = some (.bool lz)
  c6 : w.cell? ⟨b6, 0, none⟩ = some (.func (.func 115) #[] #[.pointer (some ⟨b1, 0, none⟩), .pointer (some ⟨b2, 0, none⟩), .pointer (some ⟨b3, 0, none⟩), .pointer (some ⟨b4, 0, none⟩), .pointer (some ⟨b5, 0, none⟩), .pointer (some ⟨b6, 0, none⟩)])

theorem MEnv.chg {w w' : World} {b1 b2 b3 b4 b5 b6 bl gs hs gn gc hn hc : Nat} {gA hA : Option Addr} {lz : Bool} {cf : Nat} {caps : Array Value} {D : Nat → Prop}
    (h : MEnv w b1 b2 b3 b4 b5 b6 bl gs hs gn gc hn hc gA hA lz cf caps) (x : Chg D w w') (hD : ∀ k, k = b1 ∨ k = b2 ∨ k = b3 ∨ k = b4 ∨ k = b5 ∨ k = b6 → ¬ D k) :
    MEnv w' b1 b2 b3 b4 b5 b6 bl gs hs gn gc hn hc gA hA lz cf caps :=
  ⟨x.cell h.c1 (hD _ (by simp)), x.cell h.c1' (hD _ (by simp)), x.cell h.c2 (hD _ (by simp)), x.cell h.c3 (hD _ (by simp)), x.cell h.c4 (hD _ (by simp)), x.cell h.c4' (hD _ (by simp)), x.cell h.c5 (hD _ (by simp)), x.cell h.c6 (hD _ (by simp))⟩

/-- What a call of the closure that goes on leaves. -/
def FromPost {σ : Type} (step : σ → List Int → σ × Bool) (ok : σ → Prop) (Inv : σ → (Nat → Prop) → World → Prop) (lo bl gs x : Nat) (maps : List (List Int)) (s : σ) (D : Nat → Prop) (l : List Int) (w : World) (e : Ending) (w' : World) : Prop :=
  ∃ s' D' l' r, e = .returned (.bool r) ∧ stopFold step s maps = (s', r) ∧ Inv s' D' w' ∧ (r = true → ok s') ∧ w'.ownsRow lo 3 1 (.slice (some ⟨bl, 0, none⟩) gs gs) gs (ints l') ∧ l'.take x = l.take x ∧
    Chg (fun k => k = bl ∨ D k) w w' ∧ ∀ k, D' k → D k ∨ w.heap.size ≤ k

theorem own_sl1 {w : World} {base b n c : Nat} {e : TypeId} {xs : List Int} (h : w.ownsRow base e 1 (.slice (some ⟨b, 0, none⟩) n c) n (ints xs)) : SlI w (some ⟨b, 0, none⟩) n xs := by
  obtain ⟨A, c', hv, hs⟩ := own_sl h
  obtain ⟨rfl, _⟩ : A = some ⟨b, 0, none⟩ ∧ c' = c := by injection hv with h1 h2 h3; exact ⟨h1.symm, h3.symm⟩
  exact hs

/-- What holds at the head of each round of the closure that goes on: k values have been tried. -/
def FromRel {σ : Type} (step : σ → List Int → σ × Bool) (ok : σ → Prop) (Inv : σ → (Nat → Prop) → World → Prop) (lo bl gs hs x : Nat) (tried : Nat → List (List Int)) (s : σ) (D : Nat → Prop) (l : List Int) (W : World) (i : Value) (wr : World) : Prop :=
  ∃ (k : Nat) (s1 : σ) (D1 : Nat → Prop) (l1 : List Int), k ≤ hs ∧ i = .int .i64 (k : Int) ∧ Chg (fun j => j = bl ∨ D j) W wr ∧ Inv s1 D1 wr ∧ ok s1 ∧
    wr.ownsRow lo 3 1 (.slice (some ⟨bl, 0, none⟩) gs gs) gs (ints l1) ∧ l1.take x = l.take x ∧ (∀ j, D1 j → D j ∨ W.heap.size ≤ j) ∧ stopFold step s (tried k) = (s1, true)

theorem okB_any (gps hps : List (Int × Int)) (n x : Nat) (lz : Bool) (pre l2 : List Int) (k : Int) (hx : pre.length = x) (hl : ∀ j, j < x → gI l2 j = gI pre j) :
    ((nbrK gps (x : Int) n).any fun z => decide (z < (x : Int)) && !fitB hps k (gI l2 z.toNat) lz) = !okB gps hps n lz pre k := by
  unfold okB
  rw [Bool.not_not, hx]
  rw [Bool.eq_iff_iff]
  simp only [List.any_eq_true, Bool.and_eq_true, decide_eq_true_eq]
  constructor
  · rintro ⟨z, hz, h1, h2⟩
    have := nbrK_range hz
    exact ⟨z, hz, h1, by rw [← hl z.toNat (by omega)]; exact h2⟩
  · rintro ⟨z, hz, h1, h2⟩
    have := nbrK_range hz
    exact ⟨z, hz, h1, by rw [hl z.toNat (by omega)]; exact h2⟩

theorem take_set (l : List Int) (x : Nat) (y : Int) : (l.set x y).take x = l.take x := by
  rw [List.take_set_of_le (Nat.le_refl _)]
theorem take_set_succ (l : List Int) (x : Nat) (y : Int) (h : x < l.length) : (l.set x y).take (x + 1) = l.take x ++ [y] := by
  rw [List.take_succ_eq_append_getElem (by simpa using h), take_set]
  simp
theorem gI_take {l l1 : List Int} {x : Nat} (h : l1.take x = l.take x) (j : Nat) (hj : j < x) (y : Int) : gI (l1.set x y) j = gI (l.take x) j := by
  rw [← h]
  simp [gI, List.getD_eq_getElem?_getD, List.getElem?_take, hj, List.getElem?_set, show ¬ x = j by omega]

theorem own_sl1' {w : World} {base n c : Nat} {A : Option Addr} {e : TypeId} {xs : List Int} (h : w.ownsRow base e 1 (.slice A n c) n (ints xs)) : SlI w A n xs := by
  obtain ⟨A', c', hv, hs⟩ := own_sl h
  obtain ⟨rfl, _⟩ : A = A' ∧ c = c' := by injection hv with h1 h2 h3; exact ⟨h1, h3⟩
  exact hs

set_option maxHeartbeats 4000000 in
theorem from_c {σ : Type} {cf : Nat} {caps : Array Value} {step : σ → List Int → σ × Bool} {ok : σ → Prop} {Inv : σ → (Nat → Prop) → World → Prop}
    (b1 b2 b3 b4 b5 b6 bl gs hs gn gc hn hc lo : Nat) (gA hA : Option Addr) (lz : Bool) (gps hps : List (Int × Int)) (Wlo : World) (hlo : Wlo.heap.size = lo)
    (hcb : CB σ cf caps gs lo step ok Inv) (hgp : SlP Wlo gA gn gps) (hhp : SlP Wlo hA hn hps) (hgs : gs ≤ 8) (hhs : hs ≤ 8) (hbl : lo ≤ bl) :
    ∀ (m x : Nat) (s : σ) (D : Nat → Prop) (l : List Int) (w : World), x + m = gs → MEnv w b1 b2 b3 b4 b5 b6 bl gs hs gn gc hn hc gA hA lz cf caps → Ext Wlo w → Inv s D w → ok s →
      (∀ k, k = b1 ∨ k = b2 ∨ k = b3 ∨ k = b4 ∨ k = b5 ∨ k = b6 → ¬ D k ∧ k ≠ bl ∧ k < w.heap.size) → ¬ D bl →
      w.ownsRow lo 3 1 (.slice (some ⟨bl, 0, none⟩) gs gs) gs (ints l) →
      Calls Try.prog 115 #[.int .i64 (x : Int), .pointer (some ⟨b1, 0, none⟩), .pointer (some ⟨b2, 0, none⟩), .pointer (some ⟨b3, 0, none⟩), .pointer (some ⟨b4, 0, none⟩), .pointer (some ⟨b5, 0, none⟩), .pointer (some ⟨b6, 0, none⟩)] w
        (FromPost step ok Inv lo bl gs x (allM hs (okB gps hps gs lz) m (l.take x)) s D l w) := by
  have hent := hcb.ent
  unfold Enters at hent
  have hmf : ∀ (fn : Fn) (first cap : Array Value) (w : World), (Instr.makeFunc fn first cap).run Try.prog w = .ok (.func fn first cap) w := fun _ _ _ _ => rfl
  intro m
  induction m with
  | zero =>
    intro x s D l w hx E hE hI hok hb hD hrow
    obtain rfl : x = gs := by omega
    have hll : l.length = x := by have := hrow.1; rw [ints_length] at this; omega
    have q0 : ((x : Int) == (x : Int)) = true := by simp
    obtain ⟨c1, c1', c2, c3, c4, c4', c5, c6⟩ := E
    have hI1 := hcb.keep s D w (w.alloc (.cells #[.int .i64 (x : Int)] 3)) hI (by rw [alloc_size]; omega) (fun k hk => ((Ext.refl w).alloc _).block k (hcb.low s D w hI k hk).2)
    have HC := Lib.hid (fun c => hcb.call s D (w.alloc (.cells #[.int .i64 (x : Int)] 3)) (some ⟨bl, 0, none⟩) c l hI1 hok ((own_sl1 hrow).ext ((Ext.refl w).alloc _)) (by rw [alloc_size]; have := hE.size; omega))
    have HI := Lib.hid hI; have HE := Lib.hid hE; have HR := Lib.hid hrow; have HB := Lib.hid hb
    have HL := Lib.hid hll
    have d1 := cell_old (.cells #[.int .i64 (x : Int)] 3) c1
    have d2 := cell_old (.cells #[.int .i64 (x : Int)] 3) c2
    have d3 := cell_old (.cells #[.int .i64 (x : Int)] 3) c3
    clear hI hE hrow hb hI1 hcb hgp hhp hll hx c1 c1' c2 c3 c4 c4' c5 c6
    go_enter Try.func115, Try.ntmps115
    go_wp2_with fail
    refine (HC.out _).mono ?_
    rintro e w1 ⟨D', rfl, hI', hok', hch, hD'⟩
    have HC' := Lib.hid hch; have HI' := Lib.hid hI'; have HO' := Lib.hid hok'; have HD' := Lib.hid hD'
    clear hch hI' hok' hD'
    go_wp2
    go_ret
    have hch : Chg (fun k => k = bl ∨ D k) w w1 := (((Ext.refl w).alloc _).chg _).trans HC'.out (fun _ _ h => .inr h)
    refine ⟨(step s l).1, D', l, (step s l).2, rfl, ?_, HI'.out, HO'.out, ?_, rfl, hch, fun k hk => (HD'.out k hk).imp id (fun h => by rw [alloc_size] at h; omega)⟩
    · rw [allM, List.take_of_length_le (by have := HL.out; omega)]
      cases h : (step s l).2 <;> simp [stopFold, h, Prod.ext_iff]
    · exact own_chg (HR.out.alloc _) HC'.out hD
  | succ m ih =>
    intro x s D l w hx E hE hI hok hb hD hrow
    have hll : l.length = gs := by have := hrow.1; rw [ints_length] at this; omega
    have hxg : x < gs := by omega
    have q0 : ((x : Int) == (gs : Int)) = false := by simp; omega
    have hpre : (l.take x).length = x := by simp; omega
    have E1 := E.chg (((Ext.refl w).alloc (.cells #[.int .i64 (x : Int)] 3)).chg (fun _ => False)) (by simp)
    obtain ⟨c1, c1', c2, c3, c4, c4', c5, c6⟩ := E1
    have HI := Lib.hid hI; have HE := Lib.hid hE; have HR := Lib.hid hrow; have HB := Lib.hid hb; have HL := Lib.hid hll; have HE0 := Lib.hid E; have HCB := Lib.hid hcb
    have HIH := Lib.hid ih; have HGP := Lib.hid hgp; have HHP := Lib.hid hhp; have HPRE := Lib.hid hpre; have HLO := Lib.hid hlo
    have hcx := cell_new w #[.int .i64 (x : Int)] 3 0 _ rfl
    have HCX := Lib.hid hcx
    clear hI hE hrow hb hcb hgp hhp hll E ih hpre hlo hcx
    go_enter Try.func115, Try.ntmps115
    go_wp2_with fail
    go_loopw [20] (FromRel step ok Inv lo bl gs hs x (someM hs (okB gps hps gs lz) m (l.take x)) s D l (w.alloc (.cells #[.int .i64 (x : Int)] 3))) (fun i _ => hs - (intOf i).toNat)
    case atStart =>
      exact ⟨0, s, D, l, Nat.zero_le _, rfl, Chg.refl _ _, HCB.out.keep s D w _ HI.out (by rw [alloc_size]; omega) (fun k hk => ((Ext.refl w).alloc _).block k (HCB.out.low s D w HI.out k hk).2), hok, HR.out.alloc _, rfl, fun j hj => .inl hj, by rw [someM_zero]; rfl⟩
    case round =>
      obtain ⟨k, s1, D1, l1, hk, rfl, hch, hI1, hok1, hrow1, htk, hD1, hfold⟩ := hrel
      clear c1 c1' c2 c3 c4 c4' c5 c6
      have hbw := HB.out
      have hblt : bl < w.heap.size := (HR.out.lt bl rfl).2
      have hD1bl : ¬ D1 bl := fun h => by rcases hD1 bl h with h | h; exact hD h; rw [alloc_size] at h; omega
      have hE1 : MEnv wr b1 b2 b3 b4 b5 b6 bl gs hs gn gc hn hc gA hA lz cf caps :=
        (HE0.out.chg (((Ext.refl w).alloc _).chg (fun _ => False)) (by simp)).chg hch (fun j hj h => by rcases h with h | h; exact (hbw j hj).2.1 h; exact (hbw j hj).1 h)
      have hcx := hch.cell HCX.out (by intro h; rcases h with h | h; (have h : w.heap.size = bl := h; omega); exact absurd (HCB.out.low s D w HI.out _ h).2 (by show ¬ w.heap.size < _; omega))
      by_cases hlt : k < hs
      · have hgl1 : l1.length = gs := by have := hrow1.1; rw [ints_length] at this; omega
        obtain ⟨u0, cu, fu⟩ := own_ready (hrow1.alloc (.cells #[.int .i64 (k : Int)] 3)) x (by omega)
        have d3 := cell_old (.cells #[.int .i64 (k : Int)] 3) hE1.c3
        have dx := cell_old (.cells #[.int .i64 (k : Int)] 3) hcx
        have dy := cell_new wr #[.int .i64 (k : Int)] 3 0 _ rfl
        have hX2 : Chg (fun j => j = bl) wr ((wr.alloc (.cells #[.int .i64 (k : Int)] 3)).setCell ⟨bl, x, none⟩ (.int .i64 (k : Int))) := Chg.set (D := fun j => j = bl) ((Chg.refl _ wr).alloc _) rfl _
        have hbne : ∀ j, j = b1 ∨ j = b2 ∨ j = b3 ∨ j = b4 ∨ j = b5 ∨ j = b6 → ¬ j = bl := fun j hj => (hbw j hj).2.1
        have hE2 := hE1.chg hX2 hbne
        have ex := hX2.cell hcx (by show ¬ w.heap.size = bl; omega)
        have ey : ((wr.alloc (.cells #[.int .i64 (k : Int)] 3)).setCell ⟨bl, x, none⟩ (.int .i64 (k : Int))).cell? ⟨wr.heap.size, 0, none⟩ = some (.int .i64 (k : Int)) :=
          (World.cell?_setCell_other _ _ _ _ (by intro h; injection h with h _ _; have := hch.size; rw [alloc_size] at this; omega)).trans dy
        have hrow2 := own_setI (k := x) (x := (k : Int)) (hrow1.alloc (.cells #[.int .i64 (k : Int)] 3))
        have hE02 : Ext Wlo ((wr.alloc (.cells #[.int .i64 (k : Int)] 3)).setCell ⟨bl, x, none⟩ (.int .i64 (k : Int))) :=
          hX2.ext ((hch.ext ((HE.out).alloc _) (fun j hj => by have := HLO.out; rcases hj with h | h; omega; have := (HCB.out.low s D w HI.out j h).1; omega))) (fun j hj => by have := HLO.out; omega)
        have HG2 := Lib.hid (HGP.out.ext hE02)
        have HH2 := Lib.hid (HHP.out.ext hE02)
        obtain ⟨c1, c1', c2, c3, c4, c4', c5, c6⟩ := hE2
        have i0 : (0 : Int) ≤ (x : Int) := by omega
        have i1 : (x : Int) < (gs : Int) := by omega
        have HRow2 := Lib.hid hrow2; have HX2 := Lib.hid hX2; have HE02 := Lib.hid hE02; have HRow1 := Lib.hid hrow1; have HCh := Lib.hid hch; have HI1 := Lib.hid hI1; have HD1 := Lib.hid hD1; have HTk := Lib.hid htk; have HF := Lib.hid hfold; have HE1 := Lib.hid hE1; have HL1 := Lib.hid hgl1
        have HBNE := Lib.hid hbne; have HX := Lib.hid hx; have HBW := Lib.hid hbw
        clear hrow2 hX2 hE02 hrow1 hch hI1 hD1 htk hfold hE1 hgl1 hbne hx hbw hcx
        go_wp2_with fail
        refine (neighbors_c gs gA gn gc gps (x : Int) _ HG2.out (by omega)).mono ?_
        rintro e w3 ⟨A3, n3, rfl, hown3, hx3⟩
        have HAsk := Lib.hid (asks_c w.heap.size b4 wr.heap.size b3 b5 bl gs hn hc k x hA (hs : Int) lz (l1.set x (k : Int)) (nbrK gps (x : Int) gs) hps w3
          (hx3.cell ex) (hx3.cell c4) (hx3.cell c4') (hx3.cell ey) (hx3.cell c3) (hx3.cell c5) ((own_sl1 HRow2.out).ext hx3) (HH2.out.ext hx3) (fun z hz => nbrK_range hz))
        have HAny := Lib.hid (okB_any gps hps gs x lz (l.take x) (l1.set x (k : Int)) (k : Int) HPRE.out (fun j hj => gI_take HTk.out j hj _))
        have HN3 := Lib.hid (own_sl1' hown3)
        have HX3 := Lib.hid hx3
        have d6 := hx3.cell c6
        have dx3 := hx3.cell ex
        clear hown3 hx3 c1 c1' c2 c3 c4 c4' c5 c6 cu fu d3 dx dy ex ey
        go_wp2_with fail
        refine (ContainsFuncI_c A3 _ n3 (nbrK gps (x : Int) gs) 118 _ _ _ HN3.out (enters_of Try.func118 (by kernel_rfl) rfl) HAsk.out).mono ?_
        rintro e w4 ⟨rfl, hx4⟩
        rw [HAny.out]
        have hX4 : Chg (fun j => j = bl) wr w4 := (HX2.out.trans ((HX3.out.trans hx4).chg (fun _ => False)) (fun _ _ h => h.elim))
        have hrow4 := own_ext HRow2.out (HX3.out.trans hx4)
        have e6 := hx4.cell d6
        have ex4 := hx4.cell dx3
        have hE04 := HE02.out.trans (HX3.out.trans hx4)
        have HX4 := Lib.hid hX4; have HRow4 := Lib.hid hrow4; have HE04 := Lib.hid hE04
        clear hx4 hX4 hrow4 hE04 d6 dx3
        have hI4 : Inv s1 D1 w4 := HCB.out.keep s1 D1 wr w4 HI1.out HX4.out.size (fun j hj => HX4.out.block j (HCB.out.low s1 D1 wr HI1.out j hj).2 (fun h => hD1bl (h ▸ hj)))
        have HI4 := Lib.hid hI4; clear hI4
        cases q : okB gps hps gs lz (l.take x) (k : Int) with
        | false =>
          have HS := Lib.hid (someM_succ hs (okB gps hps gs lz) m (l.take x) k)
          rw [q] at HS
          go_wp2
          go_roundw
          case rel =>
            refine ⟨k + 1, s1, D1, l1.set x (k : Int), by omega, by go_num, HCh.out.trans HX4.out (fun j _ h => .inl h), HI4.out, hok1, HRow4.out, by rw [take_set]; exact HTk.out, HD1.out, ?_⟩
            rw [HS.out]; simpa using HF.out
          case measure => simp [intOf]; omega
        | true =>
          have HS := Lib.hid (someM_succ hs (okB gps hps gs lz) m (l.take x) k)
          rw [q] at HS
          go_wp2_with fail
          rw [show ((x : Int) + 1) = ((x + 1 : Nat) : Int) from by omega]
          have hbw4 : ∀ j, j = b1 ∨ j = b2 ∨ j = b3 ∨ j = b4 ∨ j = b5 ∨ j = b6 → ¬ D1 j ∧ j ≠ bl ∧ j < w4.heap.size := fun j hj => by
            have h1 := HBW.out j hj
            have h2 := HCh.out.size
            have h3 := HX4.out.size
            rw [alloc_size] at h2
            refine ⟨fun h => ?_, h1.2.1, by omega⟩
            rcases HD1.out j h with h | h
            · exact h1.1 h
            · rw [alloc_size] at h; omega
          refine (HIH.out (x + 1) s1 D1 (l1.set x (k : Int)) w4 (by have := HX.out; omega) (HE1.out.chg HX4.out HBNE.out) HE04.out HI4.out hok1 hbw4 hD1bl HRow4.out).mono ?_
          rintro e w5 ⟨s', D', l', r, rfl, hf5, hI5, hok5, hrow5, htk5, hch5, hD5⟩
          rw [take_set_succ _ _ _ (by have := HL1.out; omega), HTk.out] at hf5
          have HF5 := Lib.hid hf5; have HI5 := Lib.hid hI5; have HOk5 := Lib.hid hok5; have HRow5 := Lib.hid hrow5; have HTk5 := Lib.hid htk5; have HCh5 := Lib.hid hch5; have HD5 := Lib.hid hD5
          have HB4 := Lib.hid hbw4
          clear hf5 hI5 hok5 hrow5 htk5 hch5 hD5 hbw4
          have HTkx := Lib.hid (show l'.take x = l.take x by
            have h1 := congrArg (List.take x) HTk5.out
            rw [List.take_take, List.take_take, show min x (x + 1) = x by omega, take_set] at h1
            exact h1.trans HTk.out)
          have HCh6 := Lib.hid (show Chg (fun j => j = bl ∨ D j) (w.alloc (.cells #[.int .i64 (x : Int)] 3)) w5 from
            (HCh.out.trans HX4.out (fun j _ h => .inl h)).trans HCh5.out (fun j hj h => h.elim .inl (fun h => (HD1.out j h).elim .inr (fun h => absurd h (by omega)))))
          have HD6 := Lib.hid (show ∀ j, D' j → D j ∨ (w.alloc (.cells #[.int .i64 (x : Int)] 3)).heap.size ≤ j from fun j hj => by
            rcases HD5.out j hj with h | h
            · exact HD1.out j h
            · right; have h2 := HCh.out.size; have h3 := HX4.out.size; omega)
          cases r with
          | true =>
            go_wp2
            go_roundw
            case rel =>
              refine ⟨k + 1, s', D', l', by omega, by go_num, HCh6.out, HI5.out, HOk5.out (by trivial), HRow5.out, HTkx.out, HD6.out, ?_⟩
              rw [HS.out, stopFold_more step _ s1 _ s HF.out]; simpa using HF5.out
            case measure => simp [intOf]; omega
          | false =>
            have HSp := Lib.hid (someM_split hs (okB gps hps gs lz) m (l.take x) (k + 1) (by omega))
            go_wp2
            go_ret
            refine ⟨s', D', l', false, rfl, ?_, HI5.out, fun h => by simp at h, HRow5.out, HTkx.out, ?_, fun j hj => (HD6.out j hj).imp id (fun h => by rw [alloc_size] at h; omega)⟩
            · obtain ⟨rest, hr⟩ := HSp.out
              rw [hr, HS.out, List.append_assoc, stopFold_more step _ s1 _ s HF.out]
              exact stopFold_stop step rest s' _ _ (by simpa using HF5.out)
            · exact (((Ext.refl w).alloc _).chg _).trans HCh6.out (fun _ _ h => h)
      · have hk' : k = hs := by omega
        subst hk'
        have HCh := Lib.hid hch; have HI1 := Lib.hid hI1; have HD1 := Lib.hid hD1; have HTk := Lib.hid htk; have HF := Lib.hid hfold; have HR1 := Lib.hid hrow1
        clear hch hI1 hD1 htk hfold hrow1 hE1 hbw hcx
        go_wp2
        go_ret
        exact ⟨s1, D1, l1, true, rfl, by rw [someM_all]; exact HF.out, HI1.out, fun _ => hok1, HR1.out, HTk.out, (((Ext.refl w).alloc _).chg _).trans HCh.out (fun _ _ h => h), fun j hj => (HD1.out j hj).imp id (fun h => by rw [alloc_size] at h; omega)⟩
end Go.Proofs.Ytkfbkflneppggaa
