/-
  The contract of the program's maps, and of CountMaps. Conditions: none.
-/
import Derived.Test.YtkfbkflneppggaaMa
import Derived.Laws.EntriesVeiled
namespace Go.Proofs.Ytkfbkflneppggaa
open Go.RowKit
set_option linter.unusedVariables false
set_option linter.unusedSimpArgs false

/-- What a call of maps leaves. -/
def MapsPost {σ : Type} (step : σ → List Int → σ × Bool) (ok : σ → Prop) (Inv : σ → (Nat → Prop) → World → Prop) (maps : List (List Int)) (s : σ) (D : Nat → Prop) (w : World) (e : Ending) (w' : World) : Prop :=
  ∃ s' D' r, e = .returned (.tuple #[]) ∧ stopFold step s maps = (s', r) ∧ Inv s' D' w' ∧ (r = true → ok s') ∧ Chg D w w' ∧ ∀ k, D' k → D k ∨ w.heap.size ≤ k

set_option maxHeartbeats 2000000 in
theorem maps_c {σ : Type} {cf : Nat} {caps : Array Value} {step : σ → List Int → σ × Bool} {ok : σ → Prop} {Inv : σ → (Nat → Prop) → World → Prop}
    (gs hs gn gc hn hc : Nat) (gA hA : Option Addr) (lz : Bool) (gps hps : List (Int × Int)) (Wlo w : World) (s : σ) (D : Nat → Prop)
    (hcb : CB σ cf caps gs Wlo.heap.size step ok Inv) (hgp : SlP Wlo gA gn gps) (hhp : SlP Wlo hA hn hps) (hgs : gs ≤ 8) (hhs : hs ≤ 8) (hE : Ext Wlo w) (hI : Inv s D w) (hok : ok s) :
    Calls Try.prog 59 #[.agg #[.int .i64 (gs : Int), .slice gA gn gc], .agg #[.int .i64 (hs : Int), .slice hA hn hc], .bool lz, .func (.func cf) #[] caps] w
      (MapsPost step ok Inv (allM hs (okB gps hps gs lz) gs []) s D w) := by
  have hmf : ∀ (fn : Fn) (first cap : Array Value) (w : World), (Instr.makeFunc fn first cap).run Try.prog w = .ok (.func fn first cap) w := fun _ _ _ _ => rfl
  have HE := Lib.hid hE; have HI := Lib.hid hI; have HG := Lib.hid hgp; have HH := Lib.hid hhp; have HCB := Lib.hid hcb
  clear hE hI hgp hhp hcb
  go_enter Try.func59, Try.ntmps59
  go_wp2_with ((at_make; refine make_full 40 3 _ 1 8 Try.underlying40 infoI rfl _ _ rfl gs rfl rfl (by omega) (by omega) ?_; intro w1 hown hx))
  rw [made_ints] at hown
  have hs1 := hx.size
  simp only [alloc_size] at hs1
  have hlo := HE.out.size
  have hx5 := (hx.alloc (.cells #[.slice (some ⟨w.heap.size + 1 + 1 + 1 + 1, 0, none⟩) gs gs] 40)).alloc (.cells #[.func (.func 115) #[] #[.pointer (some ⟨w.heap.size, 0, none⟩), .pointer (some ⟨w.heap.size + 1 + 1 + 1, 0, none⟩), .pointer (some ⟨w1.heap.size, 0, none⟩), .pointer (some ⟨w.heap.size + 1, 0, none⟩), .pointer (some ⟨w.heap.size + 1 + 1, 0, none⟩), .pointer (some ⟨w1.heap.size + 1, 0, none⟩)]] 94)
  have hw4 : Ext w ((((w.alloc (.cells #[.int .i64 (gs : Int), .slice gA gn gc] 28)).alloc (.cells #[.int .i64 (hs : Int), .slice hA hn hc] 28)).alloc (.cells #[.bool lz] 4)).alloc (.cells #[.func (.func cf) #[] caps] 78)) := ((((Ext.refl w).alloc _).alloc _).alloc _).alloc _
  have hw5 := hw4.trans hx5
  have k1 := hx5.cell (cell_old _ (cell_old _ (cell_old _ (cell_new w #[.int .i64 (gs : Int), .slice gA gn gc] 28 0 _ rfl))))
  have k1' := hx5.cell (cell_old _ (cell_old _ (cell_old _ (cell_new w #[.int .i64 (gs : Int), .slice gA gn gc] 28 1 _ rfl))))
  have k4 := hx5.cell (cell_old _ (cell_old _ (cell_new (w.alloc (.cells #[.int .i64 (gs : Int), .slice gA gn gc] 28)) #[.int .i64 (hs : Int), .slice hA hn hc] 28 0 _ rfl)))
  have k4' := hx5.cell (cell_old _ (cell_old _ (cell_new (w.alloc (.cells #[.int .i64 (gs : Int), .slice gA gn gc] 28)) #[.int .i64 (hs : Int), .slice hA hn hc] 28 1 _ rfl)))
  have k5 := hx5.cell (cell_old _ (cell_new ((w.alloc (.cells #[.int .i64 (gs : Int), .slice gA gn gc] 28)).alloc (.cells #[.int .i64 (hs : Int), .slice hA hn hc] 28)) #[.bool lz] 4 0 _ rfl))
  have k2 := hx5.cell (cell_new (((w.alloc (.cells #[.int .i64 (gs : Int), .slice gA gn gc] 28)).alloc (.cells #[.int .i64 (hs : Int), .slice hA hn hc] 28)).alloc (.cells #[.bool lz] 4)) #[.func (.func cf) #[] caps] 78 0 _ rfl)
  simp only [alloc_size] at k4 k4' k5 k2 hown
  have hlt : w.heap.size + 1 + 1 + 1 + 1 < w1.heap.size := (hown.lt _ rfl).2
  have hI5 := HCB.out.keep s D w _ HI.out hw5.size (fun k hk => hw5.block k (HCB.out.low s D w HI.out k hk).2)
  have hcall := from_c w.heap.size (w.heap.size + 1 + 1 + 1) w1.heap.size (w.heap.size + 1) (w.heap.size + 1 + 1) (w1.heap.size + 1) (w.heap.size + 1 + 1 + 1 + 1) gs hs gn gc hn hc Wlo.heap.size gA hA lz gps hps Wlo rfl HCB.out HG.out HH.out hgs hhs (by omega)
    gs 0 s D (List.replicate gs 0) _ (by omega)
    ⟨k1, k1', k2, cell_old _ (cell_new w1 _ _ 0 _ rfl), k4, k4', k5, by have := cell_new (w1.alloc (.cells #[.slice (some ⟨w.heap.size + 1 + 1 + 1 + 1, 0, none⟩) gs gs] 40)) #[.func (.func 115) #[] #[.pointer (some ⟨w.heap.size, 0, none⟩), .pointer (some ⟨w.heap.size + 1 + 1 + 1, 0, none⟩), .pointer (some ⟨w1.heap.size, 0, none⟩), .pointer (some ⟨w.heap.size + 1, 0, none⟩), .pointer (some ⟨w.heap.size + 1 + 1, 0, none⟩), .pointer (some ⟨w1.heap.size + 1, 0, none⟩)]] 94 0 _ rfl; simp only [alloc_size] at this; exact this⟩
    (HE.out.trans hw5) hI5 hok
    (fun k hk => ⟨fun hD => by have := (HCB.out.low s D w HI.out k hD).2; omega, by omega, by simp only [alloc_size]; omega⟩)
    (fun hD => by have := (HCB.out.low s D w HI.out _ hD).2; omega)
    ((own_mono hown (by omega)).alloc _ |>.alloc _)
  have e0 : ((0 : Nat) : Int) = 0 := rfl
  rw [e0, List.take_zero] at hcall
  refine hcall.mono ?_
  rintro e w6 ⟨s', D', l', r, rfl, hf, hI6, hok6, _, _, hch, hD6⟩
  have H6 := Lib.hid hch; have HI6 := Lib.hid hI6; have HF := Lib.hid hf; have HO := Lib.hid hok6; have HD6 := Lib.hid hD6; have HW5 := Lib.hid hw5; have HS1 := Lib.hid hs1
  clear hlt hch hI6 hf hok6 hD6 hw5 hs1 hcall hown hx hx5 hw4 k1 k1' k4 k4' k5 k2 hI5
  go_wp2
  go_end0
  refine ⟨s', D', r, rfl, HF.out, HI6.out, HO.out, (HW5.out.chg _).trans H6.out (fun j hj h => h.elim (fun h => absurd h (by omega)) id), fun j hj => (HD6.out j hj).imp id (fun h => by have := HW5.out.size; omega)⟩

/-! ### Counting -/
theorem wrap_succ (s : Int) : wrap64 (wrap64 s + 1) = wrap64 (s + 1) := by
  unfold wrap64; omega

def CountInv (cb lo : Nat) (s : Nat) (D : Nat → Prop) (w : World) : Prop :=
  (∀ k, D k ↔ k = cb) ∧ lo ≤ cb ∧ cb < w.heap.size ∧ w.cell? ⟨cb, 0, none⟩ = some (.int .i64 (wrap64 (s : Int))) ∧ w.frozen? ⟨cb, 0, none⟩ = false

theorem count_cb (cb lo n : Nat) : CB Nat 60 #[.pointer (some ⟨cb, 0, none⟩)] n lo (fun s _ => (s + 1, true)) (fun _ => True) (CountInv cb lo) where
  ent := enters_of Try.func60 (by kernel_rfl) rfl
  low := fun s D w h k hk => by obtain rfl := (h.1 k).1 hk; exact ⟨h.2.1, h.2.2.1⟩
  keep := fun s D w w' h hs hD => by
    have hb := hD cb ((h.1 cb).2 rfl)
    exact ⟨h.1, h.2.1, Nat.lt_of_lt_of_le h.2.2.1 hs, (World.cell?_of_block (w := w) hb).trans h.2.2.2.1, (World.frozen?_of_block (w := w) hb).trans h.2.2.2.2⟩
  call := fun s D w A c m h _ hm _ => by
    obtain ⟨hD, hlo, hlt, hcell, hfr⟩ := h
    have HD := Lib.hid hD; have HLT := Lib.hid hlt; have HW := Lib.hid (wrap_succ (s : Int)); have HC := Lib.hid hcell; have HF := Lib.hid hfr
    clear hD hm hlt
    simp only [List.append_toArray, List.cons_append, List.nil_append]
    go_enter Try.func60, Try.ntmps60
    go_wp2
    go_ret
    refine ⟨D, rfl, ⟨HD.out, hlo, by simpa [World.setCell] using HLT.out, ?_, (World.frozen?_setCell _ _ _ _).trans HF.out⟩, fun _ => trivial, Chg.set (D := D) (Chg.refl _ w) ((HD.out cb).2 rfl) _, fun k hk => .inl hk⟩
    rw [World.cell?_setCell_same _ _ _ HC.out, HW.out]
    rfl

set_option maxHeartbeats 1000000 in
theorem CountMaps_c (gs hs : Int) (gn gc hn hc : Nat) (gA hA : Option Addr) (lz : Bool) (gps hps : List (Int × Int)) (w : World) (hgp : SlP w gA gn gps) (hhp : SlP w hA hn hps) :
    Calls Try.prog 16 #[.agg #[.int .i64 gs, .slice gA gn gc], .agg #[.int .i64 hs, .slice hA hn hc], .bool lz] w fun e w' =>
      e = .returned (.tuple #[.int .i64 (if goodM gs gps hs hps then ((allM hs.toNat (okB gps hps gs.toNat lz) gs.toNat []).length : Int) else 0), .bool (goodM gs gps hs hps)]) ∧ Ext w w' := by
  have hmf : ∀ (fn : Fn) (first cap : Array Value) (w : World), (Instr.makeFunc fn first cap).run Try.prog w = .ok (.func fn first cap) w := fun _ _ _ _ => rfl
  have hE := ((Ext.refl w).alloc (.cells #[.int .i64 gs, .slice gA gn gc] 28)).alloc (.cells #[.int .i64 hs, .slice hA hn hc] 28)
  have HA := Lib.hid (hgp.ext hE)
  have HB := Lib.hid (hhp.ext hE)
  have HE := Lib.hid hE
  clear hE hgp hhp
  cases q : goodM gs gps hs hps with
  | false =>
    go_enter Try.func16, Try.ntmps16
    go_wp2_with (go_at_call 58; refine (isMapCase_c _ _ gA hA gn hn gc hc gps hps _ HA.out HB.out).mono ?_; rintro e w1 ⟨rfl, hx⟩)
    go_ret2
    exact ⟨rfl, HE.out.trans hx⟩
  | true =>
    obtain ⟨⟨g0, g1⟩, h0, h1⟩ := goodM_range q
    obtain ⟨g, rfl⟩ := Int.eq_ofNat_of_zero_le g0
    obtain ⟨h, rfl⟩ := Int.eq_ofNat_of_zero_le h0
    have hg8 : g ≤ 8 := by omega
    have hh8 : h ≤ 8 := by omega
    clear g0 g1 h0 h1
    go_enter Try.func16, Try.ntmps16
    go_wp2_with fail
    refine (isMapCase_c _ _ gA hA gn hn gc hc gps hps _ HA.out HB.out).mono ?_
    rintro e w1 ⟨rfl, hx⟩
    rw [q]
    have d1 := cell_old (.cells #[.int .i64 0] 3) (hx.cell (cell_old (.cells #[.int .i64 (h : Int), .slice hA hn hc] 28) (cell_new w #[.int .i64 (g : Int), .slice gA gn gc] 28 0 _ rfl)))
    have d1' := cell_old (.cells #[.int .i64 0] 3) (hx.cell (cell_old (.cells #[.int .i64 (h : Int), .slice hA hn hc] 28) (cell_new w #[.int .i64 (g : Int), .slice gA gn gc] 28 1 _ rfl)))
    have d2 := cell_old (.cells #[.int .i64 0] 3) (hx.cell (cell_new (w.alloc (.cells #[.int .i64 (g : Int), .slice gA gn gc] 28)) #[.int .i64 (h : Int), .slice hA hn hc] 28 0 _ rfl))
    have d2' := cell_old (.cells #[.int .i64 0] 3) (hx.cell (cell_new (w.alloc (.cells #[.int .i64 (g : Int), .slice gA gn gc] 28)) #[.int .i64 (h : Int), .slice hA hn hc] 28 1 _ rfl))
    simp only [alloc_size] at d2 d2'
    have HI0 := Lib.hid (show CountInv w1.heap.size w1.heap.size 0 (fun k => k = w1.heap.size) (w1.alloc (.cells #[.int .i64 0] 3)) from
      ⟨fun k => Iff.rfl, Nat.le_refl _, by rw [alloc_size]; omega, cell_new w1 _ _ 0 _ (by rw [show wrap64 ((0 : Nat) : Int) = 0 by unfold wrap64; omega]; rfl), World.frozen?_alloc_at _ _ _ _ rfl⟩)
    have HX := Lib.hid hx
    clear hx
    go_wp2_with fail
    refine (maps_c g h gn gc hn hc gA hA lz gps hps w1 _ 0 _ (count_cb w1.heap.size w1.heap.size g) (HA.out.ext HX.out) (HB.out.ext HX.out) hg8 hh8 ((Ext.refl w1).alloc _) HI0.out trivial).mono ?_
    rintro e w2 ⟨s', D', r, rfl, hf, hI, _, hch, _⟩
    rw [stopFold_count] at hf
    injection hf with hf1 hf2
    have hlen := allM_length h (okB gps hps g lz) hh8 g [] (by omega)
    have hcell := hI.2.2.2.1
    have HC := Lib.hid hch
    have HF := Lib.hid (show wrap64 (s' : Int) = ((allM h (okB gps hps g lz) g []).length : Int) by rw [← hf1, Nat.zero_add]; exact IntWalk.wrap64_in _ (by omega))
    clear hI hch hf1 hf2 hlen d1 d1' d2 d2'
    go_wp2
    go_ret2
    refine ⟨?_, ?_⟩
    · rw [← HF.out]; rfl
    · exact (HE.out.trans HX.out).trans (HC.out.ext ((Ext.refl w1).alloc _) (fun k hk => by omega))
end Go.Proofs.Ytkfbkflneppggaa
