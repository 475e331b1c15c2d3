/-
  The program's folds: the closure that looks for the next pair, the loop. Conditions: none.
-/
import Derived.Test.YtkfbkflneppggaaCv
import Derived.Test.YtkfbkflneppggaaRl
import Derived.Laws.EntriesVeiled
namespace Go.Proofs.Ytkfbkflneppggaa
open Go.RowKit
set_option linter.unusedVariables false
set_option linter.unusedSimpArgs false

/-- The first pair of nodes of which something holds. -/
def scan (P : Int → Int → Bool) (all : List Int) : List Int → Option (Int × Int)
  | [] => none
  | x :: xs => match all.find? (P x) with
    | some y => some (x, y)
    | none => scan P all xs
theorem find_drop (P : Int → Bool) (l : List Int) (j : Nat) (h : j < l.length) : (l.drop j).find? P = if P (gI l j) then some (gI l j) else (l.drop (j + 1)).find? P := by
  rw [List.drop_eq_getElem_cons h, gI_eq l j h, List.find?_cons]
  cases P l[j] <;> rfl
theorem scan_drop (P : Int → Int → Bool) (l : List Int) (k : Nat) (h : k < l.length) : scan P l (l.drop k) = match l.find? (P (gI l k)) with
    | some y => some (gI l k, y)
    | none => scan P l (l.drop (k + 1)) := by
  rw [List.drop_eq_getElem_cons h, gI_eq l k h]
  rfl

/-- A set without a node. -/
def bagW (b x : Nat) : Nat := b &&& (18446744073709551615 - 2 ^ x)
theorem bagW_lt (b x : Nat) (hb : b < 256) : bagW b x < 256 := Nat.lt_of_le_of_lt Nat.and_le_left hb
theorem bit_andNot (b x : Nat) (hb : b < 256) (hx : x < 8) : bits BinOp.andNot IntKind.u64 (b : Int) (IntKind.u64.wrap ((2 : Int) ^ x)) = ((bagW b x : Nat) : Int) := by
  rw [wrap_pow x (by omega)]
  exact u64_andNot_nat _ _ (by omega) (by have := pow_lt8 hx; omega)
theorem bagW_bit (b x j : Nat) (hb : b < 256) (hx : x < 8) : (bagW b x).testBit j = (b.testBit j && decide (j ≠ x)) := by
  have hp := pow_lt8 hx
  rw [bagW, Nat.testBit_and, show (18446744073709551615 : Nat) - 2 ^ x = 2 ^ 64 - (2 ^ x + 1) by omega, Nat.testBit_two_pow_sub_succ (by omega), Nat.testBit_two_pow]
  rcases Nat.lt_or_ge j 8 with h8 | h8
  · have : j < 64 := by omega
    by_cases hjx : x = j
    · subst hjx; simp
    · simp [this, hjx]; exact fun _ h => hjx h.symm
  · rw [Nat.testBit_lt_two_pow (Nat.lt_of_lt_of_le (show b < 2 ^ 8 from hb) (Nat.pow_le_pow_right (by omega) h8))]
    simp
theorem setL_without (b x : Nat) (hb : b < 256) (hx : x < 8) : setL (bagW b x) = (setL b).filter fun z => z != (x : Int) := by
  unfold setL setK
  rw [List.filter_map, List.filter_filter]
  congr 1
  refine List.filter_congr fun j _ => ?_
  rw [bagW_bit b x j hb hx]
  simp only [Function.comp, Int.ofNat_eq_natCast]
  rw [Bool.and_comm]
  congr 1
  rw [Bool.eq_iff_iff, decide_eq_true_eq, bne_iff_ne]
  omega

/-- What the boxes of folds hold. -/
def FoldInv (b0 bg bo lo gs gn gc : Nat) (gA : Option Addr) (b : Nat) (ps : List (Int × Int)) (w : World) : Prop :=
  ∃ A c, (lo ≤ b0 ∧ b0 < w.heap.size) ∧ (lo ≤ bg ∧ bg < w.heap.size) ∧ (lo ≤ bo ∧ bo < w.heap.size) ∧ b0 ≠ bo ∧ b0 ≠ bg ∧ bo ≠ bg ∧
    w.cell? ⟨b0, 0, none⟩ = some (.int .u64 (b : Int)) ∧ w.frozen? ⟨b0, 0, none⟩ = false ∧ w.cell? ⟨bg, 0, none⟩ = some (.int .i64 (gs : Int)) ∧ w.cell? ⟨bg, 1, none⟩ = some (.slice gA gn gc) ∧
    w.cell? ⟨bo, 0, none⟩ = some (.slice A ps.length c) ∧ w.frozen? ⟨bo, 0, none⟩ = false ∧ w.ownsRow lo 83 2 (.slice A ps.length c) ps.length (prs ps) ∧ ∀ k, (Value.slice A ps.length c).ownBlock = some k → k ≠ b0 ∧ k ≠ bg ∧ k ≠ bo
theorem FoldInv.ext {b0 bg bo lo gs gn gc : Nat} {gA : Option Addr} {b : Nat} {ps : List (Int × Int)} {w w' : World} (h : FoldInv b0 bg bo lo gs gn gc gA b ps w) (e : Ext w w') : FoldInv b0 bg bo lo gs gn gc gA b ps w' := by
  obtain ⟨A, c, h0, h1, h2, h3, h4, h5, c0, f0, c1, c2, c3, f3, ho, hd⟩ := h
  exact ⟨A, c, ⟨h0.1, Nat.lt_of_lt_of_le h0.2 e.size⟩, ⟨h1.1, Nat.lt_of_lt_of_le h1.2 e.size⟩, ⟨h2.1, Nat.lt_of_lt_of_le h2.2 e.size⟩, h3, h4, h5, e.cell c0, (e.frozen (p := ⟨b0, 0, none⟩) h0.2).trans f0, e.cell c1, e.cell c2, e.cell c3, (e.frozen (p := ⟨bo, 0, none⟩) h2.2).trans f3, own_ext ho e, hd⟩

theorem own_far2 {w w' : World} {base n c : Nat} {A : Option Addr} {e : TypeId} {size : Nat} {xs : List Value} (h : w.ownsRow base e size (.slice A n c) n xs) (hD : ∀ k, (Value.slice A n c).ownBlock = some k → k < w.heap.size → w'.heap[k]? = w.heap[k]?) : w'.ownsRow base e size (.slice A n c) n xs := by
  have hlt := h.lt
  refine ⟨h.1, ?_⟩
  rcases h.2 with h2 | ⟨g, cap, cur, hv, hg, hc, r⟩
  · exact .inl h2
  · exact .inr ⟨g, cap, cur, hv, hg, (hD g (by rw [hv]; rfl) (hlt g (by rw [hv]; rfl)).2).trans hc, r⟩

/-- What a call of the closure leaves. -/
def NextPost (b0 bg bo lo gs gn gc : Nat) (gA : Option Addr) (gps : List (Int × Int)) (b : Nat) (ps : List (Int × Int)) (w : World) (e : Ending) (w' : World) : Prop :=
  Chg (fun k => lo ≤ k) w w' ∧ match scan (covL gps (setL b)) (setL b) (setL b) with
    | none => e = .returned (.bool false) ∧ FoldInv b0 bg bo lo gs gn gc gA b ps w'
    | some p => e = .returned (.bool true) ∧ FoldInv b0 bg bo lo gs gn gc gA (bagW b p.1.toNat) (ps ++ [p]) w'

set_option maxHeartbeats 4000000 in
theorem next_c (Wlo : World) (b0 bg bo gs gn gc : Nat) (gA : Option Addr) (gps : List (Int × Int)) (b : Nat) (ps : List (Int × Int)) (w : World) (hEw : Ext Wlo w) (hI : FoldInv b0 bg bo Wlo.heap.size gs gn gc gA b ps w) (hg : SlP w gA gn gps) (hgs : gs ≤ 8) (hgood : goodP gps (gs : Int) = true) (hb : b < 256) (hps : ps.length ≤ 8) :
    Calls Try.prog 126 #[.pointer (some ⟨b0, 0, none⟩), .pointer (some ⟨bg, 0, none⟩), .pointer (some ⟨bo, 0, none⟩)] w (NextPost b0 bg bo Wlo.heap.size gs gn gc gA gps b ps w) := by
  have HEw := Lib.hid hEw; have HI := Lib.hid hI; have HG := Lib.hid hg; have HGood := Lib.hid hgood
  obtain ⟨A, c, h0, h1, h2, h3, h4, h5, c0, f0, c1, c2, c3, f3, ho, hd⟩ := hI
  have C0 := Lib.hid c0; have C1 := Lib.hid c1; have C2 := Lib.hid c2
  clear hEw hg hgood h0 h1 h2 h3 h4 h5 f0 c1 c2 c3 f3 ho hd
  have hl8 := setK_length b 8
  obtain ⟨l, hl⟩ : ∃ l, l = setL b := ⟨_, rfl⟩
  have hl8' : l.length ≤ 8 := by rw [hl]; exact hl8
  have HL := Lib.hid hl
  have hmem : ∀ j, j < l.length → ∃ x : Nat, gI l j = (x : Int) ∧ b.testBit x = true ∧ x < 8 := fun j hj => by
    rw [gI_eq l j hj]
    obtain ⟨x, hx, hbx⟩ := (setL_mem b hb l[j]).1 (by rw [← hl]; exact List.getElem_mem _)
    refine ⟨x, hx, hbx, ?_⟩
    rcases Nat.lt_or_ge x 8 with h8 | h8
    · exact h8
    · rw [Nat.testBit_lt_two_pow (Nat.lt_of_lt_of_le (show b < 2 ^ 8 from hb) (Nat.pow_le_pow_right (by omega) h8))] at hbx
      cases hbx
  have HM := Lib.hid hmem
  clear hl8 hl hmem
  go_enter Try.func126, Try.ntmps126
  go_wp2_with fail
  refine (bagList_c b hb _).mono ?_
  rintro e w1 ⟨A1, c1, rfl, ho1, hx1⟩
  rw [← HL.out] at ho1 ⊢
  have HS1 := Lib.hid (own_slI ho1); have HX1 := Lib.hid hx1
  clear ho1 hx1 c0
  go_wp2_with fail
  go_loopw [11] (fun i wr => ∃ k : Nat, k ≤ l.length ∧ i = .int .i64 (k : Int) ∧ Ext w1 wr ∧ scan (covL gps l) l l = scan (covL gps l) l (l.drop k)) (fun i _ => l.length - (intOf i).toNat)
  case atStart => exact ⟨0, Nat.zero_le _, rfl, Ext.refl _, rfl⟩
  case round =>
    obtain ⟨k, hk, rfl, hx, hscan⟩ := hrel
    have Hx := Lib.hid hx; have HScan := Lib.hid hscan
    clear hx hscan
    by_cases hlt : k < l.length
    · obtain ⟨x, hx, hbx, hx8⟩ := HM.out k hlt
      obtain ⟨bb, o, rfl, p1⟩ := (HS1.out.ext Hx.out).at k hlt
      rw [hx] at p1
      have HXx := Lib.hid hx
      have i0 : (0 : Int) ≤ (k : Int) := by omega
      have i1 : (k : Int) < (l.length : Int) := by omega
      have p0 := Hx.out.cell (HX1.out.cell C0.out)
      clear hx
      go_wp2_with fail
      refine (bagList_c b hb _).mono ?_
      rintro e w2 ⟨A2, c2, rfl, ho2, hx2⟩
      rw [← HL.out] at ho2 ⊢
      have HS2 := Lib.hid (own_slI ho2); have HX2 := Lib.hid hx2
      have HScan2 := Lib.hid (scan_drop (covL gps l) l k hlt)
      clear ho2 hx2 p0 p1
      go_wp2_with fail
      go_loopw [18] (fun i wr => ∃ j : Nat, j ≤ l.length ∧ i = .int .i64 (j : Int) ∧ Ext w2 wr ∧ l.find? (covL gps l (x : Int)) = (l.drop j).find? (covL gps l (x : Int))) (fun i _ => l.length - (intOf i).toNat)
      case atStart => exact ⟨0, Nat.zero_le _, rfl, Ext.refl _, rfl⟩
      case round =>
        obtain ⟨j, hj, rfl, hy, hfind⟩ := hrel
        have Hy := Lib.hid ((HX1.out.trans Hx.out).trans (HX2.out.trans hy)); have Hyy := Lib.hid hy; have HFind := Lib.hid hfind
        clear hy hfind
        by_cases hjl : j < l.length
        · obtain ⟨y, hyy, hby, hy8⟩ := HM.out j hjl
          obtain ⟨bb2, o2, rfl, p2⟩ := (HS2.out.ext Hyy.out).at j hjl
          rw [hyy] at p2
          have HYy := Lib.hid hyy
          have j0 : (0 : Int) ≤ (j : Int) := by omega
          have j1 : (j : Int) < (l.length : Int) := by omega
          have e0 := Hy.out.cell C0.out
          have e1 := Hy.out.cell C1.out
          have e2 := Hy.out.cell C2.out
          have HFD := Lib.hid (find_drop (covL gps l (x : Int)) l j hjl)
          clear hyy
          go_wp2_with fail
          refine (covers_c gs b x y gA gn gc gps _ (HG.out.ext Hy.out) hgs HGood.out hb hbx hby hx8 hy8).mono ?_
          rintro e w3 ⟨rfl, hx3⟩
          rw [← HL.out] at ⊢
          have HX3 := Lib.hid hx3
          clear hx3 e0 e1 e2 p2
          cases q : covL gps l (x : Int) (y : Int) with
          | false =>
            have HQ := Lib.hid q
            go_wp2
            go_roundw
            case rel => exact ⟨j + 1, by omega, by go_num, Hyy.out.trans HX3.out, by rw [HFind.out, HFD.out, HYy.out, HQ.out]; rfl⟩
            case measure => simp [intOf]; omega
          | true =>
            have HQ := Lib.hid q
            have HRes := Lib.hid (show scan (covL gps l) l l = some ((x : Int), (y : Int)) by
              rw [HScan.out, HScan2.out, HXx.out, HFind.out, HFD.out, HYy.out, HQ.out]; rfl)
            have hI3 := HI.out.ext (Hy.out.trans HX3.out)
            have HI3 := Lib.hid hI3
            obtain ⟨A, c, g0, g1, g2, g3, g4, g5, m0, n0, m1, m2, m3, n3, ho3, hd3⟩ := hI3
            have HO3 := Lib.hid ho3; have HM1 := Lib.hid m1; have HM2 := Lib.hid m2; have HG012 := Lib.hid (And.intro g0 (And.intro g1 g2))
            clear m1 m2 ho3
            have HM0 := Lib.hid m0; have HM3 := Lib.hid m3; have HN0 := Lib.hid n0; have HN3 := Lib.hid n3; have HD3 := Lib.hid hd3
            have HE3 := Lib.hid (HEw.out.trans (Hy.out.trans HX3.out))
            clear m0 n0 n3 hd3
            go_wp2_with (at_builtin; refine append_one (w0 := Wlo) 22 83 _ 2 16 Try.underlying22 infoP rfl (by omega) rfl _ _ rfl (.slice A ps.length c) ps.length (prs ps) [.int .i64 (x : Int), .int .i64 (y : Int)] rfl rfl rfl (by simp [Value.oneCell']) HO3.out HE3.out (by omega) (by omega) ?_; intro v1 w4 ho4 hx4 hgr4 hat4; obtain ⟨A4, c4, rfl⟩ := own_slice ho4; have hch4 := Chg.grown hgr4; have m3' := hch4.cell HM3.out (fun h => (HD3.out _ h).2.2 rfl); have n3' := (hch4.frozen (p := ⟨bo, 0, none⟩) g2.2 (fun h => (HD3.out _ h).2.2 rfl)).trans HN3.out; have m0' := hch4.cell HM0.out (fun h => (HD3.out _ h).1 rfl); have n0' := (hch4.frozen (p := ⟨b0, 0, none⟩) g0.2 (fun h => (HD3.out _ h).1 rfl)).trans HN0.out)
            obtain ⟨w5, hw5⟩ : ∃ w5, w5 = w4.setCell ⟨bo, 0, none⟩ (.slice A4 (ps.length + 1) c4) := ⟨_, rfl⟩
            rw [← hw5]
            have r0 : w5.cell? ⟨b0, 0, none⟩ = some (.int .u64 (b : Int)) := by rw [hw5, World.cell?_setCell_other _ _ _ _ (by intro h; injection h with h _ _; exact g3 h.symm)]; exact m0'
            have s0 : w5.frozen? ⟨b0, 0, none⟩ = false := by rw [hw5, World.frozen?_setCell]; exact n0'
            have han := bit_andNot b x hb hx8
            have HW5 := Lib.hid hw5; have HO4 := Lib.hid ho4; have HX4 := Lib.hid hx4; have HC4 := Lib.hid hch4; have HA4 := Lib.hid hat4; have M3 := Lib.hid m3'; have N3 := Lib.hid n3'; have R0 := Lib.hid r0; have S0 := Lib.hid s0
            clear hw5 ho4 hx4 hch4 hat4 hgr4 m3' n3' m0' n0' g0 g1 g2
            go_region
            have hg012 := HG012.out
            go_wp2
            go_ret
            have e5 := HW5.out
            subst e5
            obtain ⟨⟨g0a, g0b⟩, ⟨g1a, g1b⟩, g2a, g2b⟩ := HG012.out
            have hfin : Chg (fun k => (Value.slice A ps.length c).ownBlock = some k ∨ k = bo ∨ k = b0) w3 ((w4.setCell ⟨bo, 0, none⟩ (.slice A4 (ps.length + 1) c4)).setCell ⟨b0, 0, none⟩ (.int .u64 ((bagW b x : Nat) : Int))).drew :=
              (((HC4.out.mono (fun k _ h => .inl h)).set (.inr (.inl rfl)) _).set (.inr (.inr rfl)) _).trans ((Ext.refl _).drew.chg _) (fun _ _ h => h)
            have hfin4 : Chg (fun k => k = bo ∨ k = b0) w4 ((w4.setCell ⟨bo, 0, none⟩ (.slice A4 (ps.length + 1) c4)).setCell ⟨b0, 0, none⟩ (.int .u64 ((bagW b x : Nat) : Int))).drew :=
              (((Chg.refl _ w4).set (.inl rfl) _).set (.inr rfl) _).trans ((Ext.refl _).drew.chg _) (fun _ _ h => h)
            have hsz := hfin.size
            have hA4 : ∀ k, (Value.slice A4 (ps.length + 1) c4).ownBlock = some k → k ≠ b0 ∧ k ≠ bg ∧ k ≠ bo := fun k hk => by
              rcases HA4.out with h | ⟨b', h, hb'⟩
              · exact HD3.out k (h ▸ hk)
              · rw [h] at hk
                obtain rfl := Option.some.inj hk
                exact ⟨by omega, by omega, by omega⟩
            refine ⟨((Hy.out.trans HX3.out).chg _).trans hfin (fun k _ h => ?_), ?_⟩
            · rcases h with h | rfl | rfl
              · exact (HO3.out.lt k h).1
              · exact g2a
              · exact g0a
            · rw [← HL.out, HRes.out]
              simp only [Int.toNat_natCast]
              refine ⟨rfl, A4, c4, ⟨g0a, by omega⟩, ⟨g1a, by omega⟩, ⟨g2a, by omega⟩, g3, g4, g5, ?_, ?_, ?_, ?_, ?_, ?_, ?_, ?_⟩
              · exact World.cell?_setCell_same _ _ _ R0.out
              · show World.frozen? _ _ = _
                rw [← S0.out]; exact World.frozen?_setCell _ _ _ _
              · exact hfin.cell HM1.out (fun h => by rcases h with h | h | h; exact (HD3.out _ h).2.1 rfl; exact g5 h.symm; exact g4 h.symm)
              · exact hfin.cell HM2.out (fun h => by rcases h with h | h | h; exact (HD3.out _ h).2.1 rfl; exact g5 h.symm; exact g4 h.symm)
              · rw [List.length_append]
                exact (World.cell?_setCell_other _ _ _ _ (by intro h; injection h with h _ _; exact g3 h)).trans (World.cell?_setCell_same _ _ _ M3.out)
              · exact (World.frozen?_setCell _ _ _ _).trans ((World.frozen?_setCell _ _ _ _).trans N3.out)
              · rw [List.length_append, show prs (ps ++ [((x : Int), (y : Int))]) = prs ps ++ [.int .i64 (x : Int), .int .i64 (y : Int)] by simp [prs]]
                exact own_far2 HO4.out (fun k hk hlt => hfin4.block k hlt (fun h => by have := hA4 k hk; rcases h with h | h; exact this.2.2 h; exact this.1 h))
              · rw [List.length_append]; exact hA4
        · obtain rfl : j = l.length := by omega
          have HNo := Lib.hid (show l.find? (covL gps l (x : Int)) = none by rw [HFind.out]; simp)
          go_wp2
          go_roundw
          case rel => exact ⟨k + 1, by omega, by go_num, (Hx.out.trans HX2.out).trans Hyy.out, by rw [HScan.out, HScan2.out, HXx.out, HNo.out]⟩
          case measure => simp [intOf]; omega
    · obtain rfl : k = l.length := by omega
      have HNone := Lib.hid (show scan (covL gps l) l l = none by rw [HScan.out]; simp [scan])
      go_wp2
      go_ret
      refine ⟨(HX1.out.trans Hx.out).chg _, ?_⟩
      rw [← HL.out, HNone.out]
      exact ⟨rfl, HI.out.ext (HX1.out.trans Hx.out)⟩
end Go.Proofs.Ytkfbkflneppggaa
