/-
  The contracts of the program's FirstMap and of the reference's one. Conditions: none.
-/
import Derived.Test.YtkfbkflneppggaaMb
import Derived.Test.YtkfbkflneppggaaCl
import Derived.Test.YtkfbkflneppggaaSe
import Derived.BigQuiet
namespace Go.Proofs.Ytkfbkflneppggaa
open Go.RowKit
set_option linter.unusedVariables false
set_option linter.unusedSimpArgs false

/-- The first list, or the empty one. -/
def headM : List (List Int) → List Int
  | [] => []
  | m :: _ => m
def anyM : List (List Int) → Bool
  | [] => false
  | _ :: _ => true

/-- What the boxes of FirstMap hold: the list that was found, none before. -/
def FirstInv (ob fb lo : Nat) (s : Option (List Int)) (D : Nat → Prop) (w : World) : Prop :=
  ∃ A n c, lo ≤ ob ∧ ob < w.heap.size ∧ lo ≤ fb ∧ fb < w.heap.size ∧ ob ≠ fb ∧ w.cell? ⟨ob, 0, none⟩ = some (.slice A n c) ∧ w.frozen? ⟨ob, 0, none⟩ = false ∧ w.cell? ⟨fb, 0, none⟩ = some (.bool s.isSome) ∧ w.frozen? ⟨fb, 0, none⟩ = false ∧
    w.ownsRow lo 3 1 (.slice A n c) n (ints (s.getD [])) ∧ ∀ k, D k ↔ (k = ob ∨ k = fb ∨ (Value.slice A n c).ownBlock = some k)

theorem own_block {w w' : World} {base n c : Nat} {A : Option Addr} {e : TypeId} {size : Nat} {xs : List Value} (h : w.ownsRow base e size (.slice A n c) n xs) (hD : ∀ k, (Value.slice A n c).ownBlock = some k → w'.heap[k]? = w.heap[k]?) : w'.ownsRow base e size (.slice A n c) n xs := by
  refine ⟨h.1, ?_⟩
  rcases h.2 with h2 | ⟨g, cap, cur, hv, hg, hc, r⟩
  · exact .inl h2
  · exact .inr ⟨g, cap, cur, hv, hg, (hD g (by rw [hv]; rfl)).trans hc, r⟩

theorem first_cb (ob fb lo n : Nat) (hn : n ≤ 8) : CB (Option (List Int)) 67 #[.pointer (some ⟨ob, 0, none⟩), .pointer (some ⟨fb, 0, none⟩)] n lo (fun _ m => (some m, false)) (fun s => s = none) (FirstInv ob fb lo) where
  ent := enters_of Try.func67 (by kernel_rfl) rfl
  low := fun s D w h k hk => by
    obtain ⟨A, n, c, h1, h2, h3, h4, _, _, _, _, _, ho, hD⟩ := h
    rcases (hD k).1 hk with rfl | rfl | hb
    · exact ⟨h1, h2⟩
    · exact ⟨h3, h4⟩
    · exact ho.lt k hb
  keep := fun s D w w' h hs hk => by
    obtain ⟨A, n, c, h1, h2, h3, h4, h5, h6, h7, h8, h9, ho, hD⟩ := h
    have e1 := hk ob ((hD ob).2 (.inl rfl))
    have e2 := hk fb ((hD fb).2 (.inr (.inl rfl)))
    exact ⟨A, n, c, h1, Nat.lt_of_lt_of_le h2 hs, h3, Nat.lt_of_lt_of_le h4 hs, h5, (World.cell?_of_block (w := w) e1).trans h6, (World.frozen?_of_block (w := w) e1).trans h7, (World.cell?_of_block (w := w) e2).trans h8, (World.frozen?_of_block (w := w) e2).trans h9,
      own_block ho (fun k hb => hk k ((hD k).2 (.inr (.inr hb)))), hD⟩
  call := fun s D w A c m h hok hm hlo => by
    obtain ⟨A0, n0, c0, h1, h2, h3, h4, h5, h6, h7, h8, h9, ho, hD⟩ := h
    subst hok
    have HD := Lib.hid hD; have H2 := Lib.hid h2; have H4 := Lib.hid h4; have HM := Lib.hid hm; have HO := Lib.hid ho; have H6 := Lib.hid h6; have H7 := Lib.hid h7; have H8 := Lib.hid h8; have H9 := Lib.hid h9
    clear hD h2 h4 hm ho h6 h7 h8 h9
    simp only [List.append_toArray, List.cons_append, List.nil_append]
    go_enter Try.func67, Try.ntmps67
    go_wp2_with fail
    refine (CloneI_c A n c m w HM.out (by omega)).mono ?_
    rintro e w1 ⟨A1, c1, rfl, ho1, hx1⟩
    have k1 := hx1.cell H6.out
    have f1 : w1.frozen? ⟨ob, 0, none⟩ = false := (hx1.frozen (p := ⟨ob, 0, none⟩) H2.out).trans H7.out
    have k2 := hx1.cell H8.out
    have f2 : w1.frozen? ⟨fb, 0, none⟩ = false := (hx1.frozen (p := ⟨fb, 0, none⟩) H4.out).trans H9.out
    have HO1 := Lib.hid ho1; have HX1 := Lib.hid hx1
    clear ho1 hx1
    have hne : ¬ (fb = ob) := fun h => h5 h.symm
    have K1 := Lib.hid k1; have K2 := Lib.hid k2; have F1 := Lib.hid f1; have F2 := Lib.hid f2
    go_wp2
    go_ret
    have hch : Chg (fun k => k = ob ∨ k = fb) w1 ((w1.setCell ⟨ob, 0, none⟩ (.slice A1 n c1)).setCell ⟨fb, 0, none⟩ (.bool true)) := ((Chg.refl _ w1).set (.inl rfl) _).set (.inr rfl) _
    have hs1 := HX1.out.size
    have hs2 := hch.size
    have hlt := HO1.out.lt
    refine ⟨fun k => k = ob ∨ k = fb ∨ (Value.slice A1 n c1).ownBlock = some k, rfl, ⟨A1, n, c1, h1, by have := H2.out; omega, h3, by have := H4.out; omega, h5, ?_, ?_, ?_, ?_, ?_, fun k => Iff.rfl⟩, by simp, ?_, ?_⟩
    · rw [World.cell?_setCell_other _ _ _ _ (by intro h; injection h with h _ _; omega)]
      exact World.cell?_setCell_same _ _ _ K1.out
    · rw [World.frozen?_setCell, World.frozen?_setCell]; exact F1.out
    · exact World.cell?_setCell_same _ _ _ ((World.cell?_setCell_other _ _ _ _ (by intro h; injection h with h _ _; omega)).trans K2.out)
    · rw [World.frozen?_setCell, World.frozen?_setCell]; exact F2.out
    · refine own_mono (own_block HO1.out (fun k hk => hch.block k (hlt k hk).2 (fun h => ?_))) hlo
      have := (hlt k hk).1
      have := H2.out; have := H4.out
      omega
    · exact (HX1.out.chg D).trans hch (fun k _ h => (HD.out k).2 (h.elim .inl (fun h => .inr (.inl h))))
    · intro k hk
      rcases hk with rfl | rfl | hk
      · exact .inl ((HD.out _).2 (.inl rfl))
      · exact .inl ((HD.out _).2 (.inr (.inl rfl)))
      · exact .inr (hlt k hk).1

theorem stopFold_first (l : List (List Int)) : stopFold (fun (_ : Option (List Int)) m => (some m, false)) none l = (if anyM l then some (headM l) else none, !anyM l) := by
  cases l <;> simp [stopFold, anyM, headM]

set_option maxHeartbeats 1000000 in
theorem FirstMapI_c (gs hs : Int) (gn gc hn hc : Nat) (gA hA : Option Addr) (lz : Bool) (gps hps : List (Int × Int)) (w : World) (hgp : SlP w gA gn gps) (hhp : SlP w hA hn hps) :
    Calls Try.prog 27 #[.agg #[.int .i64 gs, .slice gA gn gc], .agg #[.int .i64 hs, .slice hA hn hc], .bool lz] w fun e w' =>
      ∃ A n c l b, e = .returned (.tuple #[.slice A n c, .bool b]) ∧ w'.ownsRow w.heap.size 3 1 (.slice A n c) n (ints l) ∧ Ext w w' ∧
        (goodM gs gps hs hps = true → l = headM (allM hs.toNat (okB gps hps gs.toNat lz) gs.toNat []) ∧ b = anyM (allM hs.toNat (okB gps hps gs.toNat lz) gs.toNat [])) ∧ (goodM gs gps hs hps = false → l = [] ∧ b = false) := by
  have hmf : ∀ (fn : Fn) (first cap : Array Value) (w : World), (Instr.makeFunc fn first cap).run Try.prog w = .ok (.func fn first cap) w := fun _ _ _ _ => rfl
  have hE := ((Ext.refl w).alloc (.cells #[.int .i64 gs, .slice gA gn gc] 28)).alloc (.cells #[.int .i64 hs, .slice hA hn hc] 28)
  have HA := Lib.hid (hgp.ext hE)
  have HB := Lib.hid (hhp.ext hE)
  have HE := Lib.hid hE
  clear hE hgp hhp
  cases q : goodM gs gps hs hps with
  | false =>
    go_enter Try.func27, Try.ntmps27
    go_wp2_with (go_at_call 58; refine (isMapCase_c _ _ gA hA gn hn gc hc gps hps _ HA.out HB.out).mono ?_; rintro e w1 ⟨rfl, hx⟩)
    go_ret2
    exact ⟨none, 0, 0, [], false, rfl, own_nil _ _ _ _, HE.out.trans hx, by simp, by simp⟩
  | true =>
    obtain ⟨⟨g0, g1⟩, h0, h1⟩ := goodM_range q
    obtain ⟨g, rfl⟩ := Int.eq_ofNat_of_zero_le g0
    obtain ⟨h, rfl⟩ := Int.eq_ofNat_of_zero_le h0
    have hg8 : g ≤ 8 := by omega
    have hh8 : h ≤ 8 := by omega
    clear g0 g1 h0 h1
    go_enter Try.func27, Try.ntmps27
    go_wp2_with fail
    refine (isMapCase_c _ _ gA hA gn hn gc hc gps hps _ HA.out HB.out).mono ?_
    rintro e w1 ⟨rfl, hx⟩
    rw [q]
    have HX := Lib.hid hx
    have e1 := cell_old (.cells #[.bool false] 4) <| cell_old (.cells #[.slice none 0 0] 40) <| hx.cell (cell_old (.cells #[.int .i64 (h : Int), .slice hA hn hc] 28) (cell_new w #[.int .i64 (g : Int), .slice gA gn gc] 28 0 _ rfl))
    have e1' := cell_old (.cells #[.bool false] 4) <| cell_old (.cells #[.slice none 0 0] 40) <| hx.cell (cell_old (.cells #[.int .i64 (h : Int), .slice hA hn hc] 28) (cell_new w #[.int .i64 (g : Int), .slice gA gn gc] 28 1 _ rfl))
    have e2 := cell_old (.cells #[.bool false] 4) <| cell_old (.cells #[.slice none 0 0] 40) <| hx.cell (cell_new (w.alloc (.cells #[.int .i64 (g : Int), .slice gA gn gc] 28)) #[.int .i64 (h : Int), .slice hA hn hc] 28 0 _ rfl)
    have e2' := cell_old (.cells #[.bool false] 4) <| cell_old (.cells #[.slice none 0 0] 40) <| hx.cell (cell_new (w.alloc (.cells #[.int .i64 (g : Int), .slice gA gn gc] 28)) #[.int .i64 (h : Int), .slice hA hn hc] 28 1 _ rfl)
    simp only [alloc_size] at e2 e2'
    clear hx
    go_wp2_with fail
    have HI0 := Lib.hid (show FirstInv w1.heap.size (w1.heap.size + 1) w1.heap.size none (fun k => k = w1.heap.size ∨ k = w1.heap.size + 1 ∨ (Value.slice none 0 0).ownBlock = some k) ((w1.alloc (.cells #[.slice none 0 0] 40)).alloc (.cells #[.bool false] 4)) from by
      refine ⟨none, 0, 0, Nat.le_refl _, by simp only [alloc_size]; omega, by omega, by simp only [alloc_size]; omega, by omega, cell_old _ (cell_new w1 _ _ 0 _ rfl), ?_, ?_, ?_, own_nil _ _ _ _, fun k => Iff.rfl⟩
      · rw [Ext.frozen ((Ext.refl _).alloc _) (by rw [alloc_size]; show w1.heap.size < _; omega)]
        exact World.frozen?_alloc_at _ _ _ _ rfl
      · have := cell_new (w1.alloc (.cells #[.slice none 0 0] 40)) #[.bool false] 4 0 _ rfl
        simp only [alloc_size] at this
        exact this
      · have : ((w1.alloc (.cells #[.slice none 0 0] 40)).alloc (.cells #[.bool false] 4)).frozen? ⟨(w1.alloc (.cells #[.slice none 0 0] 40)).heap.size, 0, none⟩ = false := World.frozen?_alloc_at _ _ _ _ rfl
        simp only [alloc_size] at this
        exact this)
    refine (maps_c g h gn gc hn hc gA hA lz gps hps w1 _ none _ (first_cb w1.heap.size (w1.heap.size + 1) w1.heap.size g hg8) (HA.out.ext HX.out) (HB.out.ext HX.out) hg8 hh8 (((Ext.refl w1).alloc _).alloc _) HI0.out rfl).mono ?_
    rintro e w2 ⟨s', D', r, rfl, hf, hI, _, hch, _⟩
    rw [stopFold_first] at hf
    have HF := Lib.hid (congrArg Prod.fst hf).symm
    obtain ⟨A, n, c, _, _, _, _, _, i1, _, i2, _, ho, _⟩ := hI
    have HO := Lib.hid ho
    have HC := Lib.hid hch
    clear hf ho hch e1 e1' e2 e2'
    go_wp2
    go_quiet (fail)
    go_wp2
    go_ret2
    have hz : Ext w w2 := (HE.out.trans HX.out).trans (HC.out.ext (((Ext.refl w1).alloc _).alloc _) (fun k hk => by
      rcases hk with h | h | h
      · omega
      · omega
      · simp [Value.ownBlock] at h))
    refine ⟨A, n, c, s'.getD [], s'.isSome, rfl, own_mono ?_ (HE.out.trans HX.out).size, hz.drewN _, fun _ => ?_, by simp⟩
    · exact own_ext HO.out ((Ext.refl w2).drewN _)
    · rw [HF.out]
      simp only [Int.toNat_natCast]
      cases allM h (okB gps hps g lz) g [] <;> simp [anyM, headM]
end Go.Proofs.Ytkfbkflneppggaa
