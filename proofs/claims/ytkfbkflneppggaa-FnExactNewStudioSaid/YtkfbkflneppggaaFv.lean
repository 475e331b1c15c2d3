/-
  The reference's l10Folds. Conditions: none.
-/
import Derived.Test.YtkfbkflneppggaaFu
import Derived.Test.YtkfbkflneppggaaRe
namespace Go.Proofs.Ytkfbkflneppggaa
open Go.RowKit
set_option linter.unusedVariables false
set_option linter.unusedSimpArgs false

theorem full_pow (g p : Nat) (hg : g ≤ 8) (hp : p = 2 ^ g) : IntKind.i64.wrap ((2 : Int) ^ g) = (p : Int) := by
  have h1 : (2 : Nat) ^ g ≤ 256 := Nat.le_trans (Nat.pow_le_pow_right (by omega) hg) (by decide)
  have h3 : ((2 : Int) ^ g) = ((2 ^ g : Nat) : Int) := by simp
  rw [h3, ← hp, IntWalk.i64_in _ (by omega)]
theorem full_code (g p q : Nat) (hg : g ≤ 8) (hp : p = 2 ^ g) (hq : q = 2 ^ g - 1) : IntKind.i64.wrap ((p : Int) - 1) = (q : Int) := by
  have h1 : (2 : Nat) ^ g ≤ 256 := Nat.le_trans (Nat.pow_le_pow_right (by omega) hg) (by decide)
  have h2 : 0 < (2 : Nat) ^ g := Nat.pow_pos (by omega)
  rw [IntWalk.i64_in _ (by omega)]
  omega

def Up (l : List Int) : Prop := l.Pairwise (· < ·) ∧ ∀ z ∈ l, 0 ≤ z
theorem Up.ne {l : List Int} (h : Up l) {n : Nat} (hn : l.length = n) : ∀ i j, i < n → j < n → i ≠ j → gI l i ≠ gI l j := fun i j hi hj hij => by
  rw [gI_eq l i (by omega), gI_eq l j (by omega)]
  have hp := List.pairwise_iff_getElem.1 h.1
  rcases Nat.lt_or_ge i j with h1 | h1
  · have := hp i j (by omega) (by omega) h1; omega
  · have := hp j i (by omega) (by omega) (by omega); omega
theorem Up.filter {l : List Int} (h : Up l) (f : Int → Bool) : Up (l.filter f) := ⟨h.1.filter f, fun z hz => h.2 z (List.mem_filter.1 hz).1⟩
theorem Up.setL (b : Nat) : Up (setL b) := by
  unfold Go.Proofs.Ytkfbkflneppggaa.setL setK
  refine ⟨List.pairwise_map.2 ((List.pairwise_lt_range.filter _).imp (fun h => Int.ofNat_lt.2 h)), fun z hz => ?_⟩
  simp only [List.mem_map] at hz
  obtain ⟨j, _, rfl⟩ := hz
  exact Int.natCast_nonneg _
theorem foldP_none {gps : List (Int × Int)} {l : List Int} (h : scan (covL gps l) l l = none) : foldP gps l = (-1, -1) := by rw [foldP, h]; rfl
theorem foldP_some {gps : List (Int × Int)} {l : List Int} {p : Int × Int} (h : scan (covL gps l) l l = some p) : foldP gps l = p := by rw [foldP, h]; rfl
theorem rows_apart {w : World} {base base' n m c c' : Nat} {A A' : Option Addr} {e e' : TypeId} {sz sz' : Nat} {xs xs' : List Value} (hne : e ≠ e') (h : w.ownsRow base e sz (.slice A n c) n xs) (h' : w.ownsRow base' e' sz' (.slice A' m c') m xs') (k : Nat) (hk : (Value.slice A n c).ownBlock = some k) : (Value.slice A' m c').ownBlock ≠ some k := by
  intro hk'
  rcases h.2 with ⟨hv, _⟩ | ⟨g, cap, cur, hv, _, hc, _⟩
  · rw [hv] at hk; cases hk
  · rcases h'.2 with ⟨hv', _⟩ | ⟨g', cap', cur', hv', _, hc', _⟩
    · rw [hv'] at hk'; cases hk'
    · rw [hv] at hk; rw [hv'] at hk'
      obtain rfl : g = k := by simpa [Value.ownBlock] using hk
      obtain rfl : g' = g := by simpa [Value.ownBlock] using hk'
      rw [hc] at hc'
      have := Option.some.inj hc'
      injection this with _ h2 _
      exact hne h2

def rowLenOf : Value → Nat
  | .slice _ n _ => n
  | _ => 0
/-- What holds at the head of each round of l10Folds. -/
def FoldsRel (gps : List (Int × Int)) (W : World) (base : Nat) (l0 : List Int) (o l p : Value) (wr : World) : Prop :=
  ∃ (Ao : Option Addr) (co : Nat) (ps : List (Int × Int)) (Al : Option Addr) (cl : Nat) (ls : List Int) (pb : Nat), o = .slice Ao ps.length co ∧ l = .slice Al ls.length cl ∧ p = .pointer (some ⟨pb, 0, none⟩) ∧
    wr.ownsRow base 83 2 (.slice Ao ps.length co) ps.length (prs ps) ∧ wr.ownsRow base 3 1 (.slice Al ls.length cl) ls.length (ints ls) ∧
    wr.cell? ⟨pb, 0, none⟩ = some (.int .i64 (foldP gps ls).1) ∧ wr.cell? ⟨pb, 1, none⟩ = some (.int .i64 (foldP gps ls).2) ∧ (Value.slice Ao ps.length co).ownBlock ≠ some pb ∧ Ext W wr ∧ Up ls ∧ ls.length + ps.length ≤ 8 ∧
    foldsL gps 9 l0 = ps ++ foldsL gps (9 - ps.length) ls

set_option maxHeartbeats 4000000 in
theorem l10Folds_c (g gn gc : Nat) (gA : Option Addr) (gps : List (Int × Int)) (w : World) (h : SlP w gA gn gps) (hg : g ≤ 8) :
    Calls Try.prog 62 #[.agg #[.int .i64 (g : Int), .slice gA gn gc]] w fun e w' =>
      ∃ A c, e = .returned (.slice A (foldsL gps 9 (setL (2 ^ g - 1))).length c) ∧ w'.ownsRow w.heap.size 83 2 (.slice A (foldsL gps 9 (setL (2 ^ g - 1))).length c) (foldsL gps 9 (setL (2 ^ g - 1))).length (prs (foldsL gps 9 (setL (2 ^ g - 1)))) ∧ Ext w w' := by
  have hE := (Ext.refl w).alloc (.cells #[.int .i64 (g : Int), .slice gA gn gc] 28)
  have HE := Lib.hid hE; have HG := Lib.hid (h.ext hE)
  have c0 := cell_new w #[.int .i64 (g : Int), .slice gA gn gc] 28 0 _ rfl
  have c1 := cell_new w #[.int .i64 (g : Int), .slice gA gn gc] 28 1 _ rfl
  have C0 := Lib.hid c0; have C1 := Lib.hid c1
  have d0 := fun w' (e : Ext (w.alloc (.cells #[.int .i64 (g : Int), .slice gA gn gc] 28)) w') => e.cell c0
  obtain ⟨p, hp⟩ : ∃ p : Nat, p = 2 ^ g := ⟨_, rfl⟩
  obtain ⟨q, hq⟩ : ∃ q : Nat, q = 2 ^ g - 1 := ⟨_, rfl⟩
  have hpow := full_pow g p hg hp
  have hcode := full_code g p q hg hp hq
  have hbits := l2Bits_c g hg
  have HQ0 := Lib.hid hq
  rw [← hq] at hbits ⊢
  have HBits := Lib.hid hbits
  clear hp hq hbits
  clear hE h c0 c1
  go_enter Try.func62, Try.ntmps62
  go_wp2_with fail
  go_region_held3 (fun w' => Ext (w.alloc (.cells #[.int .i64 (g : Int), .slice gA gn gc] 28)) w')
    (first
      | exact (Ext.refl _).drew
      | assumption
      | exact Ext.alloc (by assumption) _
      | exact Ext.trans (by assumption) hy1)
    (first
      | (go_at_call 121; refine (HBits.out _).mono ?_; rintro e w1 ⟨A1, c1, rfl, ho1, hy1⟩))
  all_goals (
    first
      | (have hz : Ext (w.alloc (.cells #[.int .i64 (g : Int), .slice gA gn gc] 28)) (w1.alloc (.cells #[] 83)) := by assumption
         have hout := own_mono (base' := w.heap.size + 1) (own_empty w1 83 2 0 #[] rfl (by omega)) (by have h1 := hy1.size; have h2 := alloc_size w (.cells #[.int .i64 (g : Int), .slice gA gn gc] 28); have h3 : ((w.alloc (.cells #[.int .i64 (g : Int), .slice gA gn gc] 28))).drew.heap.size = ((w.alloc (.cells #[.int .i64 (g : Int), .slice gA gn gc] 28))).heap.size := rfl; omega)
         have hleft := own_mono (base' := w.heap.size + 1) (own_ext ho1 ((Ext.refl w1).alloc (.cells #[] 83))) (by have h2 := alloc_size w (.cells #[.int .i64 (g : Int), .slice gA gn gc] 28); have h3 : ((w.alloc (.cells #[.int .i64 (g : Int), .slice gA gn gc] 28))).drew.heap.size = ((w.alloc (.cells #[.int .i64 (g : Int), .slice gA gn gc] 28))).heap.size := rfl; omega))
      | (have hz : Ext (w.alloc (.cells #[.int .i64 (g : Int), .slice gA gn gc] 28)) w1 := by assumption
         have hout := own_mono (base' := w.heap.size + 1) (own_ext (own_empty (w.alloc (.cells #[.int .i64 (g : Int), .slice gA gn gc] 28)) 83 2 0 #[] rfl (by omega)) ((Ext.refl _).drew.trans hy1)) (Nat.le_of_eq (alloc_size _ _).symm)
         have hleft := own_mono (base' := w.heap.size + 1) ho1 (by have h2 := alloc_size w (.cells #[.int .i64 (g : Int), .slice gA gn gc] 28); have h4 := alloc_size (w.alloc (.cells #[.int .i64 (g : Int), .slice gA gn gc] 28)) (.cells #[] 83); have h3 : ((w.alloc (.cells #[.int .i64 (g : Int), .slice gA gn gc] 28)).alloc (.cells #[] 83)).drew.heap.size = ((w.alloc (.cells #[.int .i64 (g : Int), .slice gA gn gc] 28)).alloc (.cells #[] 83)).heap.size := rfl; omega))
    try simp only [alloc_size] at hout
    have HOut := Lib.hid hout; have HLeft := Lib.hid hleft; have HZ := Lib.hid hz
    clear hout hleft ho1 hy1 hcode hpow d0
    have d0 := hz.cell C0.out
    have d1 := hz.cell C1.out
    go_wp2_with fail
    refine (l10Fold_c (g : Int) gA gn gc gps A1 _ c1 (setL q) _ (HG.out.ext HZ.out) (own_slI HLeft.out) ((Up.setL _).ne (own_slI HLeft.out).len)).mono ?_
    rintro e w2 ⟨rfl, hx2⟩
    have HX2 := Lib.hid hx2
    clear hx2 d0 d1 hz
    go_wp2_with fail
    have hb1 := HOut.out.lt
    go_loopw [3, 4, 5] (FoldsRel gps (w.alloc (.cells #[.int .i64 (g : Int), .slice gA gn gc] 28)) (w.heap.size + 1) (setL q)) (fun _ l _ _ => rowLenOf l)
    case atStart =>
      exact ⟨_, _, [], _, _, setL q, w2.heap.size, rfl, rfl, rfl, (own_ext HOut.out HX2.out).alloc _, (own_ext HLeft.out HX2.out).alloc _, cell_new w2 _ _ 0 _ rfl, cell_new w2 _ _ 1 _ rfl, (fun h => by have h1 := (hb1 _ h).2; have h2 := HX2.out.size; omega), (HZ.out.trans HX2.out).alloc _, Up.setL _, (by have := setK_length q 8; simpa [setL] using this), rfl⟩
    case round =>
      obtain ⟨Ao, co, ps, Al, cl, ls, pb, rfl, rfl, rfl, ho, hle, hp0, hp1, hne, hx, hup, hlen, hfold⟩ := hrel
      have HO := Lib.hid ho; have HLe := Lib.hid hle; have HP0 := Lib.hid hp0; have HP1 := Lib.hid hp1; have HNe := Lib.hid hne; have Hx := Lib.hid hx; have HUp := Lib.hid hup; have HLen := Lib.hid hlen; have HFold := Lib.hid hfold
      clear ho hle hp1 hne hx hup hlen hfold hb1
      cases q : scan (covL gps ls) ls ls with
      | none =>
        have hf := foldP_none q
        rw [hf] at hp0
        have HQ := Lib.hid (foldsL_none q (9 - ps.length))
        clear hf q
        go_wp2
        go_ret
        have he : foldsL gps 9 (setL q) = ps := by rw [HFold.out, HQ.out, List.append_nil]
        rw [he]
        exact ⟨Ao, co, rfl, own_mono HO.out (by omega), HE.out.trans Hx.out⟩
      | some pp =>
        obtain ⟨x, y⟩ := pp
        have hf := foldP_some q
        have hxm := scan_mem q
        have hx0 : 0 ≤ x := HUp.out.2 _ hxm
        rw [hf] at hp0 HP0 HP1
        have hp1 := HP1.out
        have HQ := Lib.hid q
        have HSh := Lib.hid (filter_shorter ls x hxm)
        have t0 : decide (x ≥ 0) = true := by simp; omega
        have hps : ps.length ≤ 8 := by have := HLen.out; omega
        clear hf hxm q
        have HOg := Lib.hid (show wr.ownsRow ((w.alloc (.cells #[.int .i64 (g : Int), .slice gA gn gc] 28))).heap.size 83 2 (.slice Ao ps.length co) ps.length (prs ps) by rw [alloc_size]; exact HO.out)
        go_wp2_with (at_builtin; refine append_one (w0 := (w.alloc (.cells #[.int .i64 (g : Int), .slice gA gn gc] 28))) 22 83 _ 2 16 Try.underlying22 infoP rfl (by omega) rfl _ _ rfl (.slice Ao ps.length co) ps.length (prs ps) [.int .i64 x, .int .i64 y] rfl rfl rfl (by simp [Value.oneCell']) HOg.out Hx.out (by omega) (by omega) ?_; intro v1 w4 ho4 hx4 hgr4 hat4; obtain ⟨A4, c4, rfl⟩ := own_slice ho4; have hch4 := Chg.grown hgr4; have p0' := hch4.cell HP0.out (fun h => HNe.out h); have p1' := hch4.cell HP1.out (fun h => HNe.out h))
        have HLe4 := Lib.hid (own_far2 HLe.out (fun k hk hlt => hch4.block k hlt (fun h => rows_apart (by decide) HLe.out HO.out k hk h)))
        have HO4 := Lib.hid ho4; have HX4 := Lib.hid hx4; have P0 := Lib.hid p0'; have P1 := Lib.hid p1'; have HA4 := Lib.hid hat4
        clear ho4 hx4 hgr4 hat4 hch4 hp0 hp1 p0' p1'
        refine (l4Without_c Al _ cl ls x _ (own_slI HLe4.out) (by have := HLen.out; omega)).mono ?_
        rintro e w5 ⟨A5, c5, rfl, ho5, hx5⟩
        have HO5 := Lib.hid ho5; have HX5 := Lib.hid hx5
        have p0 := hx5.cell P0.out
        have p1 := hx5.cell P1.out
        have d0 := cell_old (.cells #[.int .i64 x, .int .i64 y] 83) (hx5.cell (HX4.out.cell C0.out))
        have d1 := cell_old (.cells #[.int .i64 x, .int .i64 y] 83) (hx5.cell (HX4.out.cell C1.out))
        clear ho5 hx5
        go_wp2_with fail
        have HX5a := Lib.hid (HX5.out.alloc (.cells #[.int .i64 x, .int .i64 y] 83))
        have HO5a := Lib.hid (own_ext HO5.out ((Ext.refl w5).alloc (.cells #[.int .i64 x, .int .i64 y] 83)))
        refine (l10Fold_c (g : Int) gA gn gc gps A5 _ c5 (ls.filter fun z => z != x) _ (HG.out.ext (HX4.out.trans HX5a.out)) (own_slI HO5a.out) ((HUp.out.filter _).ne rfl)).mono ?_
        rintro e w6 ⟨rfl, hx6⟩
        have HX6 := Lib.hid hx6
        have b0 := hx6.cell (cell_new w5 #[.int .i64 x, .int .i64 y] 83 0 _ rfl)
        have b1 := hx6.cell (cell_new w5 #[.int .i64 x, .int .i64 y] 83 1 _ rfl)
        have f0 : w6.frozen? ⟨w5.heap.size, 0, none⟩ = false := (hx6.frozen (p := ⟨w5.heap.size, 0, none⟩) (by rw [alloc_size]; exact Nat.lt_succ_self _)).trans (World.frozen?_alloc_at _ _ _ _ rfl)
        have f1 : w6.frozen? ⟨w5.heap.size, 1, none⟩ = false := (hx6.frozen (p := ⟨w5.heap.size, 1, none⟩) (by rw [alloc_size]; exact Nat.lt_succ_self _)).trans (World.frozen?_alloc_at _ _ _ _ rfl)
        have B0 := Lib.hid b0; have B1 := Lib.hid b1
        clear hx6 d0 d1 p0 p1
        go_wp2
        go_roundw
        case rel =>
          have hs5 := HX5.out.size
          obtain ⟨r0, r1⟩ := two_set w6 w5.heap.size (.int .i64 (foldP gps (ls.filter fun z => z != x)).1) (.int .i64 (foldP gps (ls.filter fun z => z != x)).2) _ _ B0.out B1.out
          have hch6 : Chg (fun k => k = w5.heap.size) w6 ((w6.setCell ⟨w5.heap.size, 0, none⟩ (.int .i64 (foldP gps (ls.filter fun z => z != x)).1)).setCell ⟨w5.heap.size, 1, none⟩ (.int .i64 (foldP gps (ls.filter fun z => z != x)).2)) := ((Chg.refl _ w6).set (D := fun k => k = w5.heap.size) rfl _).set (D := fun k => k = w5.heap.size) rfl _
          have hO6 := own_ext (own_ext HO4.out HX5a.out) HX6.out
          have hL6 := own_ext HO5a.out HX6.out
          have hO4lt := HO4.out.lt
          have hO5lt := HO5.out.lt
          refine ⟨A4, c4, ps ++ [(x, y)], A5, c5, ls.filter fun z => z != x, w5.heap.size, ?_, rfl, rfl, ?_, ?_, r0, r1, ?_, ?_, HUp.out.filter _, ?_, ?_⟩
          · rw [List.length_append]; rfl
          · rw [List.length_append, show prs (ps ++ [(x, y)]) = prs ps ++ [.int .i64 x, .int .i64 y] by simp [prs]]
            have h9 := own_far2 hO6 (fun k hk hlt => hch6.block k hlt (fun h => by have := (hO4lt k hk).2; omega))
            rw [alloc_size] at h9
            exact h9
          · exact own_mono (own_far2 hL6 (fun k hk hlt => hch6.block k hlt (fun h => by have := (hO5lt k hk).2; omega))) (by have := (HX4.out).size; rw [alloc_size] at this; omega)
          · rw [List.length_append]; exact fun h => by have := (hO4lt _ h).2; omega
          · exact hch6.ext ((HX4.out.trans HX5a.out).trans HX6.out) (fun k h => by have := (HX4.out).size; omega)
          · have := HLen.out; have := HSh.out; rw [List.length_append]; simp only [List.length_singleton]; omega
          · rw [HFold.out, show 9 - ps.length = (9 - (ps ++ [(x, y)]).length) + 1 by rw [List.length_append]; simp only [List.length_singleton]; omega, foldsL_some HQ.out]
            simp
        case measure =>
          have := HSh.out
          simpa [rowLenOf] using this)
end Go.Proofs.Ytkfbkflneppggaa
