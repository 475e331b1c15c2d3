/-
  The reference's l12Own. Conditions: none.
-/
import Derived.Test.YtkfbkflneppggaaUk
import Derived.Test.YtkfbkflneppggaaRl
import Derived.Test.YtkfbkflneppggaaSb
import Derived.Deep.RegionHeld3
namespace Go.Proofs.Ytkfbkflneppggaa
open Go.RowKit
set_option linter.unusedVariables false
set_option linter.unusedSimpArgs false

theorem l1Own_t (xs : List Int) (a : SlA) (w : World) (h : RdI w a xs) (hb : BdI xs) :
    Calls Try.prog 113 #[.slice a.A xs.length a.c] w fun e w' => ∃ b : SlA, e = .returned (.slice b.A xs.length b.c) ∧ OwI w' w.heap.size w'.heap.size b xs ∧ Ext w w' :=
  (l1Own_c a.A xs.length a.c xs w h hb).mono fun e w' ⟨A', c', he, ho, hx⟩ => ⟨⟨A', c'⟩, he, RowB.mk' ho, hx⟩

theorem chgO2 {W w1 : World} {b : Nat} {u v : Value} (h : Chg (fun k => k = b) W w1) : Chg (fun k => k = b) W ((w1.setCell ⟨b, 0, none⟩ u).setCell ⟨b, 1, none⟩ v) := (h.set rfl u).set rfl v
theorem own_fin {w w1 w1' w2 w2' w3 w3' w4 F : World} {lo0 : Nat} {b1 b2 b3 b4 : SlA} {d : StD} (hlo : w.heap.size + 1 + 1 < lo0) (h0 : Ext w w1) (hq0 : lo0 ≤ w1.heap.size) (o0 : OwP w1 lo0 w1.heap.size b1 d.g.ps)
    (c1 : Chg (fun k => k = w.heap.size + 1 ∨ k = w.heap.size + 1 + 1) w1 w1') (hz1 : Ext w1' w2) (o1 : OwI w2 w1'.heap.size w2.heap.size b2 d.tok)
    (c2 : Chg (fun k => k = w.heap.size + 1 ∨ k = w.heap.size + 1 + 1) w2 w2') (hz2 : Ext w2' w3) (o2 : OwI w3 w2'.heap.size w3.heap.size b3 d.col)
    (c3 : Chg (fun k => k = w.heap.size + 1 ∨ k = w.heap.size + 1 + 1) w3 w3') (hz3 : Ext w3' w4) (o3 : OwI w4 w3'.heap.size w4.heap.size b4 d.brd) (hF : Chg (fun k => k = w.heap.size + 1 ∨ k = w.heap.size + 1 + 1) w4 F) :
    OwU F w.heap.size F.heap.size ⟨b1, b2, b3, b4⟩ d ∧ Ext w F := by
  have s0 := h0.size; have t1 := c1.size; have s2 := hz1.size; have t2 := c2.size; have s3 := hz2.size; have t3 := c3.size; have s4 := hz3.size; have s5 := hF.size
  have k3 := c3.trans ((hz3.chg _).trans hF (fun _ _ h => h)) (fun _ _ h => h)
  have k2 := c2.trans ((hz2.chg _).trans k3 (fun _ _ h => h)) (fun _ _ h => h)
  have k1 := c1.trans ((hz1.chg _).trans k2 (fun _ _ h => h)) (fun _ _ h => h)
  refine ⟨⟨w1.heap.size, w2.heap.size, w3.heap.size, by omega, by omega, by omega, by omega, ?_, ?_, ?_, ?_⟩, k1.ext h0 (fun k h => by rcases h with h | h <;> omega)⟩
  · exact (OwP.chg o0 k1 (fun k h1 _ h => by rcases h with h | h <;> omega)).mono (by omega) (Nat.le_refl _)
  · exact (OwI.chg o1 k2 (fun k h1 _ h => by rcases h with h | h <;> omega)).mono (by omega) (Nat.le_refl _)
  · exact (OwI.chg o2 k3 (fun k h1 _ h => by rcases h with h | h <;> omega)).mono (by omega) (Nat.le_refl _)
  · exact (OwI.chg o3 hF (fun k h1 _ h => by rcases h with h | h <;> omega)).mono (by omega) (by omega)

set_option maxHeartbeats 8000000 in
theorem l12Own_c (d : StD) (a : StA) (w : World) (h : RdU w a d) (hb : BdU d) :
    Calls Try.prog 101 #[.agg #[.int .i64 d.g.sz, .slice a.g.A d.g.ps.length a.g.c, .int .i64 d.kinds, .slice a.tok.A d.tok.length a.tok.c, .slice a.col.A d.col.length a.col.c, .slice a.brd.A d.brd.length a.brd.c, .int .i64 d.count]] w fun e w' => ∃ b : StA, e = .returned (.agg #[.int .i64 d.g.sz, .slice b.g.A d.g.ps.length b.g.c, .int .i64 d.kinds, .slice b.tok.A d.tok.length b.tok.c, .slice b.col.A d.col.length b.col.c, .slice b.brd.A d.brd.length b.brd.c, .int .i64 d.count]) ∧ OwU w' w.heap.size w'.heap.size b d ∧ Ext w w' := by
  obtain ⟨W, hW⟩ : ∃ W, W = (((w.alloc (.cells #[.int .i64 d.g.sz, .slice a.g.A d.g.ps.length a.g.c, .int .i64 d.kinds, .slice a.tok.A d.tok.length a.tok.c, .slice a.col.A d.col.length a.col.c, .slice a.brd.A d.brd.length a.brd.c, .int .i64 d.count] 66)).alloc (.cells #[.int .i64 0, .slice none 0 0, .int .i64 0, .slice none 0 0, .slice none 0 0, .slice none 0 0, .int .i64 0] 66)).alloc (.cells #[.int .i64 d.g.sz, .slice a.g.A d.g.ps.length a.g.c, .int .i64 d.kinds, .slice a.tok.A d.tok.length a.tok.c, .slice a.col.A d.col.length a.col.c, .slice a.brd.A d.brd.length a.brd.c, .int .i64 d.count] 66)) := ⟨_, rfl⟩
  have hE : Ext w W := by rw [hW]; exact (((Ext.refl w).alloc _).alloc _).alloc _
  have hsz : W.heap.size = w.heap.size + 3 := by rw [hW]; simp only [alloc_size]
  have hA : Bx W w.heap.size [.int .i64 d.g.sz, .slice a.g.A d.g.ps.length a.g.c, .int .i64 d.kinds, .slice a.tok.A d.tok.length a.tok.c, .slice a.col.A d.col.length a.col.c, .slice a.brd.A d.brd.length a.brd.c, .int .i64 d.count] := by rw [hW]; exact ((Bx.new w [.int .i64 d.g.sz, .slice a.g.A d.g.ps.length a.g.c, .int .i64 d.kinds, .slice a.tok.A d.tok.length a.tok.c, .slice a.col.A d.col.length a.col.c, .slice a.brd.A d.brd.length a.brd.c, .int .i64 d.count] 66).alloc _).alloc _
  have hR : Bx W (w.heap.size + 1) [.int .i64 0, .slice none 0 0, .int .i64 0, .slice none 0 0, .slice none 0 0, .slice none 0 0, .int .i64 0] := by
    rw [hW]; have := (Bx.new (w.alloc (.cells #[.int .i64 d.g.sz, .slice a.g.A d.g.ps.length a.g.c, .int .i64 d.kinds, .slice a.tok.A d.tok.length a.tok.c, .slice a.col.A d.col.length a.col.c, .slice a.brd.A d.brd.length a.brd.c, .int .i64 d.count] 66)) [.int .i64 0, .slice none 0 0, .int .i64 0, .slice none 0 0, .slice none 0 0, .slice none 0 0, .int .i64 0] 66).alloc (.cells #[.int .i64 d.g.sz, .slice a.g.A d.g.ps.length a.g.c, .int .i64 d.kinds, .slice a.tok.A d.tok.length a.tok.c, .slice a.col.A d.col.length a.col.c, .slice a.brd.A d.brd.length a.brd.c, .int .i64 d.count] 66); simpa only [alloc_size] using this
  have hO : Bx W (w.heap.size + 1 + 1) [.int .i64 d.g.sz, .slice a.g.A d.g.ps.length a.g.c, .int .i64 d.kinds, .slice a.tok.A d.tok.length a.tok.c, .slice a.col.A d.col.length a.col.c, .slice a.brd.A d.brd.length a.brd.c, .int .i64 d.count] := by
    rw [hW]; have := Bx.new ((w.alloc (.cells #[.int .i64 d.g.sz, .slice a.g.A d.g.ps.length a.g.c, .int .i64 d.kinds, .slice a.tok.A d.tok.length a.tok.c, .slice a.col.A d.col.length a.col.c, .slice a.brd.A d.brd.length a.brd.c, .int .i64 d.count] 66)).alloc (.cells #[.int .i64 0, .slice none 0 0, .int .i64 0, .slice none 0 0, .slice none 0 0, .slice none 0 0, .int .i64 0] 66)) [.int .i64 d.g.sz, .slice a.g.A d.g.ps.length a.g.c, .int .i64 d.kinds, .slice a.tok.A d.tok.length a.tok.c, .slice a.col.A d.col.length a.col.c, .slice a.brd.A d.brd.length a.brd.c, .int .i64 d.count] 66; simpa only [alloc_size] using this
  have R0 := Lib.hid (show RdP W a.g d.g.ps from RdP.ext h.1 hE); have R1 := Lib.hid (h.2.1.ext hE); have R2 := Lib.hid (h.2.2.1.ext hE); have R3 := Lib.hid (h.2.2.2.ext hE)
  have D0 := Lib.hid (show BdP d.g.ps from hb.1); have D1 := Lib.hid hb.2.1; have D2 := Lib.hid hb.2.2.1; have D3 := Lib.hid hb.2.2.2
  have Hr1 := Lib.hid h.2.1; have Hr2 := Lib.hid h.2.2.1; have Hr3 := Lib.hid h.2.2.2
  have BA := Lib.hid hA; have BR := Lib.hid hR; have BO := Lib.hid hO; have HE := Lib.hid hE; have HSz := Lib.hid hsz
  have d0 := fun w' (e : Chg (fun k => k = w.heap.size + 1 + 1) W w') => e.cell (hA.c 0 rfl) (show ¬ w.heap.size = w.heap.size + 1 + 1 by omega)
  have d1 := fun w' (e : Chg (fun k => k = w.heap.size + 1 + 1) W w') => e.cell (hA.c 1 rfl) (show ¬ w.heap.size = w.heap.size + 1 + 1 by omega)
  have HW := Lib.hid hW
  clear h hb hE hA hR hO hsz hW
  go_enter Try.func101, Try.ntmps101
  go_wp2_with fail
  rw [← HW.out]
  clear HW

  go_region_held3 (fun w' => Chg (fun k => k = w.heap.size + 1 + 1) W w')
    (first
      | exact (Ext.refl _).drew.chg _
      | assumption
      | exact Chg.alloc (by assumption) _
      | exact chgO2 (by assumption)
      | exact chgO2 hc1
      | exact hc1)
    (first
      | (refine step_append_all (w0 := W) (wo := W.alloc (.cells #[] 83)) 22 83 _ 2 16 Try.underlying22 infoP rfl (by decide) rfl _ _ rfl (.slice (some ⟨W.heap.size, 0, none⟩) 0 0) 0 d.g.ps.length a.g.c a.g.A [] (prs d.g.ps) rfl rfl (SlP.ext R0.out ((Ext.refl W).alloc _).drew) (prs_one _) (own_empty W 83 2 0 #[] rfl (by omega)) (Ext.refl _).drew ((Ext.refl W).alloc _).drew (by have := D0.out; unfold BdP at this; omega) (by omega) ?_
         intro A1 cap w1 ho hx hgr hat
         have hc1 : Chg (fun k => k = w.heap.size + 1 + 1) W w1 := hx.chg _
         have f0 := (BO.out.ext hx).c 0 rfl; have f1 := (BO.out.ext hx).c 1 rfl; have g0 := (BO.out.ext hx).f 0 (Nat.lt_of_lt_of_eq (by decide : 0 < 7) rfl); have g1 := (BO.out.ext hx).f 1 (Nat.lt_of_lt_of_eq (by decide : 1 < 7) rfl)))

  have HX := Lib.hid hx
  have E0 := Lib.hid (HE.out.trans hx)
  simp only [Nat.zero_add, List.nil_append] at ho
  have O0 := Lib.hid (show OwP w1 W.heap.size w1.heap.size ⟨A1, cap⟩ d.g.ps from ⟨ho, fun k hk => (ho.lt k hk).2⟩)
  have HA := Lib.hid (BA.out.ext hx); have HR := Lib.hid (BR.out.ext hx); have HO := Lib.hid (BO.out.ext hx)
  have Q0 := Lib.hid hx.size
  have LO := Lib.hid (show w.heap.size + 1 + 1 < W.heap.size by have := HSz.out; omega)
  clear ho hx hgr hat hc1 d0 d1 f0 f1 g0 g1
  have K0 := Lib.hid (Chg.refl (fun k => k = w.heap.size + 1 ∨ k = w.heap.size + 1 + 1) w1)
  have fa0 := HA.out.c 0 rfl; have ga0 := HA.out.f 0 (Nat.lt_of_lt_of_eq (by decide : 0 < 7) rfl)
  have fa1 := HA.out.c 1 rfl; have ga1 := HA.out.f 1 (Nat.lt_of_lt_of_eq (by decide : 1 < 7) rfl)
  have fa2 := HA.out.c 2 rfl; have ga2 := HA.out.f 2 (Nat.lt_of_lt_of_eq (by decide : 2 < 7) rfl)
  have fa3 := HA.out.c 3 rfl; have ga3 := HA.out.f 3 (Nat.lt_of_lt_of_eq (by decide : 3 < 7) rfl)
  have fa4 := HA.out.c 4 rfl; have ga4 := HA.out.f 4 (Nat.lt_of_lt_of_eq (by decide : 4 < 7) rfl)
  have fa5 := HA.out.c 5 rfl; have ga5 := HA.out.f 5 (Nat.lt_of_lt_of_eq (by decide : 5 < 7) rfl)
  have fa6 := HA.out.c 6 rfl; have ga6 := HA.out.f 6 (Nat.lt_of_lt_of_eq (by decide : 6 < 7) rfl)
  have fo0 := HO.out.c 0 rfl; have go0 := HO.out.f 0 (Nat.lt_of_lt_of_eq (by decide : 0 < 7) rfl)
  have fo1 := HO.out.c 1 rfl; have go1 := HO.out.f 1 (Nat.lt_of_lt_of_eq (by decide : 1 < 7) rfl)
  have fo2 := HO.out.c 2 rfl; have go2 := HO.out.f 2 (Nat.lt_of_lt_of_eq (by decide : 2 < 7) rfl)
  have fo3 := HO.out.c 3 rfl; have go3 := HO.out.f 3 (Nat.lt_of_lt_of_eq (by decide : 3 < 7) rfl)
  have fo4 := HO.out.c 4 rfl; have go4 := HO.out.f 4 (Nat.lt_of_lt_of_eq (by decide : 4 < 7) rfl)
  have fo5 := HO.out.c 5 rfl; have go5 := HO.out.f 5 (Nat.lt_of_lt_of_eq (by decide : 5 < 7) rfl)
  have fo6 := HO.out.c 6 rfl; have go6 := HO.out.f 6 (Nat.lt_of_lt_of_eq (by decide : 6 < 7) rfl)
  have fr0 := HR.out.c 0 rfl; have gr0 := HR.out.f 0 (Nat.lt_of_lt_of_eq (by decide : 0 < 7) rfl)
  have fr1 := HR.out.c 1 rfl; have gr1 := HR.out.f 1 (Nat.lt_of_lt_of_eq (by decide : 1 < 7) rfl)
  have fr2 := HR.out.c 2 rfl; have gr2 := HR.out.f 2 (Nat.lt_of_lt_of_eq (by decide : 2 < 7) rfl)
  have fr3 := HR.out.c 3 rfl; have gr3 := HR.out.f 3 (Nat.lt_of_lt_of_eq (by decide : 3 < 7) rfl)
  have fr4 := HR.out.c 4 rfl; have gr4 := HR.out.f 4 (Nat.lt_of_lt_of_eq (by decide : 4 < 7) rfl)
  have fr5 := HR.out.c 5 rfl; have gr5 := HR.out.f 5 (Nat.lt_of_lt_of_eq (by decide : 5 < 7) rfl)
  have fr6 := HR.out.c 6 rfl; have gr6 := HR.out.f 6 (Nat.lt_of_lt_of_eq (by decide : 6 < 7) rfl)
  have A_1 := Lib.hid (HA.out.beside (c := w.heap.size + 1 + 1) (k := 0) (by omega) (.int .i64 d.g.sz))
  have R_3 := Lib.hid (HR.out.beside (c := w.heap.size + 1 + 1) (k := 0) (by omega) (.int .i64 d.g.sz))
  have O_2 := Lib.hid (HO.out.set 0 (Nat.lt_of_lt_of_eq (by decide : 0 < 7) rfl) (.int .i64 d.g.sz))
  have E_4 := Lib.hid (Ext.set (a := w) E0.out (b := w.heap.size + 1 + 1) (o := 0) (by omega) (.int .i64 d.g.sz))
  have K_5 := Lib.hid (K0.out.set (b := w.heap.size + 1 + 1) (o := 0) (.inr rfl) (.int .i64 d.g.sz))
  have A_6 := Lib.hid (A_1.out.beside (c := w.heap.size + 1 + 1) (k := 1) (by omega) (.slice A1 d.g.ps.length cap))
  have R_8 := Lib.hid (R_3.out.beside (c := w.heap.size + 1 + 1) (k := 1) (by omega) (.slice A1 d.g.ps.length cap))
  have O_7 := Lib.hid (O_2.out.set 1 (Nat.lt_of_lt_of_eq (by decide : 1 < 7) rfl) (.slice A1 d.g.ps.length cap))
  have E_9 := Lib.hid (Ext.set (a := w) E_4.out (b := w.heap.size + 1 + 1) (o := 1) (by omega) (.slice A1 d.g.ps.length cap))
  have K_10 := Lib.hid (K_5.out.set (b := w.heap.size + 1 + 1) (o := 1) (.inr rfl) (.slice A1 d.g.ps.length cap))
  go_wp2_with fail
  refine (l1Own_t d.tok a.tok _ (Hr1.out.ext E_9.out) D1.out).mono ?_
  rintro e w2 ⟨b2, rfl, ho, hx⟩
  clear fa0 ga0 fa1 ga1 fa2 ga2 fa3 ga3 fa4 ga4 fa5 ga5 fa6 ga6 fo0 go0 fo1 go1 fo2 go2 fo3 go3 fo4 go4 fo5 go5 fo6 go6 fr0 gr0 fr1 gr1 fr2 gr2 fr3 gr3 fr4 gr4 fr5 gr5 fr6 gr6
  have X1 := Lib.hid hx; have O1 := Lib.hid ho
  have A_11 := Lib.hid (A_6.out.ext hx); have O_12 := Lib.hid (O_7.out.ext hx); have R_13 := Lib.hid (R_8.out.ext hx); have E_14 := Lib.hid (E_9.out.trans hx)
  clear ho hx
  have K_15 := Lib.hid (Chg.refl (fun k => k = w.heap.size + 1 ∨ k = w.heap.size + 1 + 1) w2)
  have fa0 := A_11.out.c 0 rfl; have ga0 := A_11.out.f 0 (Nat.lt_of_lt_of_eq (by decide : 0 < 7) rfl)
  have fa1 := A_11.out.c 1 rfl; have ga1 := A_11.out.f 1 (Nat.lt_of_lt_of_eq (by decide : 1 < 7) rfl)
  have fa2 := A_11.out.c 2 rfl; have ga2 := A_11.out.f 2 (Nat.lt_of_lt_of_eq (by decide : 2 < 7) rfl)
  have fa3 := A_11.out.c 3 rfl; have ga3 := A_11.out.f 3 (Nat.lt_of_lt_of_eq (by decide : 3 < 7) rfl)
  have fa4 := A_11.out.c 4 rfl; have ga4 := A_11.out.f 4 (Nat.lt_of_lt_of_eq (by decide : 4 < 7) rfl)
  have fa5 := A_11.out.c 5 rfl; have ga5 := A_11.out.f 5 (Nat.lt_of_lt_of_eq (by decide : 5 < 7) rfl)
  have fa6 := A_11.out.c 6 rfl; have ga6 := A_11.out.f 6 (Nat.lt_of_lt_of_eq (by decide : 6 < 7) rfl)
  have fo0 := O_12.out.c 0 rfl; have go0 := O_12.out.f 0 (Nat.lt_of_lt_of_eq (by decide : 0 < 7) rfl)
  have fo1 := O_12.out.c 1 rfl; have go1 := O_12.out.f 1 (Nat.lt_of_lt_of_eq (by decide : 1 < 7) rfl)
  have fo2 := O_12.out.c 2 rfl; have go2 := O_12.out.f 2 (Nat.lt_of_lt_of_eq (by decide : 2 < 7) rfl)
  have fo3 := O_12.out.c 3 rfl; have go3 := O_12.out.f 3 (Nat.lt_of_lt_of_eq (by decide : 3 < 7) rfl)
  have fo4 := O_12.out.c 4 rfl; have go4 := O_12.out.f 4 (Nat.lt_of_lt_of_eq (by decide : 4 < 7) rfl)
  have fo5 := O_12.out.c 5 rfl; have go5 := O_12.out.f 5 (Nat.lt_of_lt_of_eq (by decide : 5 < 7) rfl)
  have fo6 := O_12.out.c 6 rfl; have go6 := O_12.out.f 6 (Nat.lt_of_lt_of_eq (by decide : 6 < 7) rfl)
  have fr0 := R_13.out.c 0 rfl; have gr0 := R_13.out.f 0 (Nat.lt_of_lt_of_eq (by decide : 0 < 7) rfl)
  have fr1 := R_13.out.c 1 rfl; have gr1 := R_13.out.f 1 (Nat.lt_of_lt_of_eq (by decide : 1 < 7) rfl)
  have fr2 := R_13.out.c 2 rfl; have gr2 := R_13.out.f 2 (Nat.lt_of_lt_of_eq (by decide : 2 < 7) rfl)
  have fr3 := R_13.out.c 3 rfl; have gr3 := R_13.out.f 3 (Nat.lt_of_lt_of_eq (by decide : 3 < 7) rfl)
  have fr4 := R_13.out.c 4 rfl; have gr4 := R_13.out.f 4 (Nat.lt_of_lt_of_eq (by decide : 4 < 7) rfl)
  have fr5 := R_13.out.c 5 rfl; have gr5 := R_13.out.f 5 (Nat.lt_of_lt_of_eq (by decide : 5 < 7) rfl)
  have fr6 := R_13.out.c 6 rfl; have gr6 := R_13.out.f 6 (Nat.lt_of_lt_of_eq (by decide : 6 < 7) rfl)
  have A_16 := Lib.hid (A_11.out.beside (c := w.heap.size + 1 + 1) (k := 3) (by omega) (.slice b2.A d.tok.length b2.c))
  have R_18 := Lib.hid (R_13.out.beside (c := w.heap.size + 1 + 1) (k := 3) (by omega) (.slice b2.A d.tok.length b2.c))
  have O_17 := Lib.hid (O_12.out.set 3 (Nat.lt_of_lt_of_eq (by decide : 3 < 7) rfl) (.slice b2.A d.tok.length b2.c))
  have E_19 := Lib.hid (Ext.set (a := w) E_14.out (b := w.heap.size + 1 + 1) (o := 3) (by omega) (.slice b2.A d.tok.length b2.c))
  have K_20 := Lib.hid (K_15.out.set (b := w.heap.size + 1 + 1) (o := 3) (.inr rfl) (.slice b2.A d.tok.length b2.c))
  go_wp2_with fail
  refine (l1Own_t d.col a.col _ (Hr2.out.ext E_19.out) D2.out).mono ?_
  rintro e w3 ⟨b3, rfl, ho, hx⟩
  clear fa0 ga0 fa1 ga1 fa2 ga2 fa3 ga3 fa4 ga4 fa5 ga5 fa6 ga6 fo0 go0 fo1 go1 fo2 go2 fo3 go3 fo4 go4 fo5 go5 fo6 go6 fr0 gr0 fr1 gr1 fr2 gr2 fr3 gr3 fr4 gr4 fr5 gr5 fr6 gr6
  have X2 := Lib.hid hx; have O2 := Lib.hid ho
  have A_21 := Lib.hid (A_16.out.ext hx); have O_22 := Lib.hid (O_17.out.ext hx); have R_23 := Lib.hid (R_18.out.ext hx); have E_24 := Lib.hid (E_19.out.trans hx)
  clear ho hx
  have K_25 := Lib.hid (Chg.refl (fun k => k = w.heap.size + 1 ∨ k = w.heap.size + 1 + 1) w3)
  have fa0 := A_21.out.c 0 rfl; have ga0 := A_21.out.f 0 (Nat.lt_of_lt_of_eq (by decide : 0 < 7) rfl)
  have fa1 := A_21.out.c 1 rfl; have ga1 := A_21.out.f 1 (Nat.lt_of_lt_of_eq (by decide : 1 < 7) rfl)
  have fa2 := A_21.out.c 2 rfl; have ga2 := A_21.out.f 2 (Nat.lt_of_lt_of_eq (by decide : 2 < 7) rfl)
  have fa3 := A_21.out.c 3 rfl; have ga3 := A_21.out.f 3 (Nat.lt_of_lt_of_eq (by decide : 3 < 7) rfl)
  have fa4 := A_21.out.c 4 rfl; have ga4 := A_21.out.f 4 (Nat.lt_of_lt_of_eq (by decide : 4 < 7) rfl)
  have fa5 := A_21.out.c 5 rfl; have ga5 := A_21.out.f 5 (Nat.lt_of_lt_of_eq (by decide : 5 < 7) rfl)
  have fa6 := A_21.out.c 6 rfl; have ga6 := A_21.out.f 6 (Nat.lt_of_lt_of_eq (by decide : 6 < 7) rfl)
  have fo0 := O_22.out.c 0 rfl; have go0 := O_22.out.f 0 (Nat.lt_of_lt_of_eq (by decide : 0 < 7) rfl)
  have fo1 := O_22.out.c 1 rfl; have go1 := O_22.out.f 1 (Nat.lt_of_lt_of_eq (by decide : 1 < 7) rfl)
  have fo2 := O_22.out.c 2 rfl; have go2 := O_22.out.f 2 (Nat.lt_of_lt_of_eq (by decide : 2 < 7) rfl)
  have fo3 := O_22.out.c 3 rfl; have go3 := O_22.out.f 3 (Nat.lt_of_lt_of_eq (by decide : 3 < 7) rfl)
  have fo4 := O_22.out.c 4 rfl; have go4 := O_22.out.f 4 (Nat.lt_of_lt_of_eq (by decide : 4 < 7) rfl)
  have fo5 := O_22.out.c 5 rfl; have go5 := O_22.out.f 5 (Nat.lt_of_lt_of_eq (by decide : 5 < 7) rfl)
  have fo6 := O_22.out.c 6 rfl; have go6 := O_22.out.f 6 (Nat.lt_of_lt_of_eq (by decide : 6 < 7) rfl)
  have fr0 := R_23.out.c 0 rfl; have gr0 := R_23.out.f 0 (Nat.lt_of_lt_of_eq (by decide : 0 < 7) rfl)
  have fr1 := R_23.out.c 1 rfl; have gr1 := R_23.out.f 1 (Nat.lt_of_lt_of_eq (by decide : 1 < 7) rfl)
  have fr2 := R_23.out.c 2 rfl; have gr2 := R_23.out.f 2 (Nat.lt_of_lt_of_eq (by decide : 2 < 7) rfl)
  have fr3 := R_23.out.c 3 rfl; have gr3 := R_23.out.f 3 (Nat.lt_of_lt_of_eq (by decide : 3 < 7) rfl)
  have fr4 := R_23.out.c 4 rfl; have gr4 := R_23.out.f 4 (Nat.lt_of_lt_of_eq (by decide : 4 < 7) rfl)
  have fr5 := R_23.out.c 5 rfl; have gr5 := R_23.out.f 5 (Nat.lt_of_lt_of_eq (by decide : 5 < 7) rfl)
  have fr6 := R_23.out.c 6 rfl; have gr6 := R_23.out.f 6 (Nat.lt_of_lt_of_eq (by decide : 6 < 7) rfl)
  have A_26 := Lib.hid (A_21.out.beside (c := w.heap.size + 1 + 1) (k := 4) (by omega) (.slice b3.A d.col.length b3.c))
  have R_28 := Lib.hid (R_23.out.beside (c := w.heap.size + 1 + 1) (k := 4) (by omega) (.slice b3.A d.col.length b3.c))
  have O_27 := Lib.hid (O_22.out.set 4 (Nat.lt_of_lt_of_eq (by decide : 4 < 7) rfl) (.slice b3.A d.col.length b3.c))
  have E_29 := Lib.hid (Ext.set (a := w) E_24.out (b := w.heap.size + 1 + 1) (o := 4) (by omega) (.slice b3.A d.col.length b3.c))
  have K_30 := Lib.hid (K_25.out.set (b := w.heap.size + 1 + 1) (o := 4) (.inr rfl) (.slice b3.A d.col.length b3.c))
  go_wp2_with fail
  refine (l1Own_t d.brd a.brd _ (Hr3.out.ext E_29.out) D3.out).mono ?_
  rintro e w4 ⟨b4, rfl, ho, hx⟩
  clear fa0 ga0 fa1 ga1 fa2 ga2 fa3 ga3 fa4 ga4 fa5 ga5 fa6 ga6 fo0 go0 fo1 go1 fo2 go2 fo3 go3 fo4 go4 fo5 go5 fo6 go6 fr0 gr0 fr1 gr1 fr2 gr2 fr3 gr3 fr4 gr4 fr5 gr5 fr6 gr6
  have X3 := Lib.hid hx; have O3 := Lib.hid ho
  have A_31 := Lib.hid (A_26.out.ext hx); have O_32 := Lib.hid (O_27.out.ext hx); have R_33 := Lib.hid (R_28.out.ext hx); have E_34 := Lib.hid (E_29.out.trans hx)
  clear ho hx
  have K_35 := Lib.hid (Chg.refl (fun k => k = w.heap.size + 1 ∨ k = w.heap.size + 1 + 1) w4)
  have fa0 := A_31.out.c 0 rfl; have ga0 := A_31.out.f 0 (Nat.lt_of_lt_of_eq (by decide : 0 < 7) rfl)
  have fa1 := A_31.out.c 1 rfl; have ga1 := A_31.out.f 1 (Nat.lt_of_lt_of_eq (by decide : 1 < 7) rfl)
  have fa2 := A_31.out.c 2 rfl; have ga2 := A_31.out.f 2 (Nat.lt_of_lt_of_eq (by decide : 2 < 7) rfl)
  have fa3 := A_31.out.c 3 rfl; have ga3 := A_31.out.f 3 (Nat.lt_of_lt_of_eq (by decide : 3 < 7) rfl)
  have fa4 := A_31.out.c 4 rfl; have ga4 := A_31.out.f 4 (Nat.lt_of_lt_of_eq (by decide : 4 < 7) rfl)
  have fa5 := A_31.out.c 5 rfl; have ga5 := A_31.out.f 5 (Nat.lt_of_lt_of_eq (by decide : 5 < 7) rfl)
  have fa6 := A_31.out.c 6 rfl; have ga6 := A_31.out.f 6 (Nat.lt_of_lt_of_eq (by decide : 6 < 7) rfl)
  have fo0 := O_32.out.c 0 rfl; have go0 := O_32.out.f 0 (Nat.lt_of_lt_of_eq (by decide : 0 < 7) rfl)
  have fo1 := O_32.out.c 1 rfl; have go1 := O_32.out.f 1 (Nat.lt_of_lt_of_eq (by decide : 1 < 7) rfl)
  have fo2 := O_32.out.c 2 rfl; have go2 := O_32.out.f 2 (Nat.lt_of_lt_of_eq (by decide : 2 < 7) rfl)
  have fo3 := O_32.out.c 3 rfl; have go3 := O_32.out.f 3 (Nat.lt_of_lt_of_eq (by decide : 3 < 7) rfl)
  have fo4 := O_32.out.c 4 rfl; have go4 := O_32.out.f 4 (Nat.lt_of_lt_of_eq (by decide : 4 < 7) rfl)
  have fo5 := O_32.out.c 5 rfl; have go5 := O_32.out.f 5 (Nat.lt_of_lt_of_eq (by decide : 5 < 7) rfl)
  have fo6 := O_32.out.c 6 rfl; have go6 := O_32.out.f 6 (Nat.lt_of_lt_of_eq (by decide : 6 < 7) rfl)
  have fr0 := R_33.out.c 0 rfl; have gr0 := R_33.out.f 0 (Nat.lt_of_lt_of_eq (by decide : 0 < 7) rfl)
  have fr1 := R_33.out.c 1 rfl; have gr1 := R_33.out.f 1 (Nat.lt_of_lt_of_eq (by decide : 1 < 7) rfl)
  have fr2 := R_33.out.c 2 rfl; have gr2 := R_33.out.f 2 (Nat.lt_of_lt_of_eq (by decide : 2 < 7) rfl)
  have fr3 := R_33.out.c 3 rfl; have gr3 := R_33.out.f 3 (Nat.lt_of_lt_of_eq (by decide : 3 < 7) rfl)
  have fr4 := R_33.out.c 4 rfl; have gr4 := R_33.out.f 4 (Nat.lt_of_lt_of_eq (by decide : 4 < 7) rfl)
  have fr5 := R_33.out.c 5 rfl; have gr5 := R_33.out.f 5 (Nat.lt_of_lt_of_eq (by decide : 5 < 7) rfl)
  have fr6 := R_33.out.c 6 rfl; have gr6 := R_33.out.f 6 (Nat.lt_of_lt_of_eq (by decide : 6 < 7) rfl)
  go_wp2
  refine bodyPost_ret (v := .agg #[(.int .i64 d.g.sz), (.slice A1 d.g.ps.length cap), (.int .i64 d.kinds), (.slice b2.A d.tok.length b2.c), (.slice b3.A d.col.length b3.c), (.slice b4.A d.brd.length b4.c), (.int .i64 d.count)]) (by simp [results, Try.results101, go_sem, fa0, ga0, fa1, ga1, fa2, ga2, fa3, ga3, fa4, ga4, fa5, ga5, fa6, ga6, fo0, go0, fo1, go1, fo2, go2, fo3, go3, fo4, go4, fo5, go5, fo6, go6, fr0, gr0, fr1, gr1, fr2, gr2, fr3, gr3, fr4, gr4, fr5, gr5, fr6, gr6]) rfl ⟨⟨⟨A1, cap⟩, b2, b3, b4⟩, rfl, own_fin LO.out E0.out Q0.out O0.out K_10.out X1.out O1.out K_20.out X2.out O2.out K_30.out X3.out O3.out ?_⟩
  have hc := K_35.out
  replace hc := hc.set (b := w.heap.size + 1 + 1) (o := 5) (.inr rfl) (.slice b4.A d.brd.length b4.c)
  replace hc := hc.set (b := w.heap.size + 1) (o := 0) (.inl rfl) (.int .i64 d.g.sz)
  replace hc := hc.set (b := w.heap.size + 1) (o := 1) (.inl rfl) (.slice A1 d.g.ps.length cap)
  replace hc := hc.set (b := w.heap.size + 1) (o := 2) (.inl rfl) (.int .i64 d.kinds)
  replace hc := hc.set (b := w.heap.size + 1) (o := 3) (.inl rfl) (.slice b2.A d.tok.length b2.c)
  replace hc := hc.set (b := w.heap.size + 1) (o := 4) (.inl rfl) (.slice b3.A d.col.length b3.c)
  replace hc := hc.set (b := w.heap.size + 1) (o := 5) (.inl rfl) (.slice b4.A d.brd.length b4.c)
  replace hc := hc.set (b := w.heap.size + 1) (o := 6) (.inl rfl) (.int .i64 d.count)
  with_reducible exact hc
end Go.Proofs.Ytkfbkflneppggaa
