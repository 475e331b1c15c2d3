/-
  The program's folds and FoldOrder. Conditions: none.
-/
import Derived.Test.YtkfbkflneppggaaFo
import Derived.Test.YtkfbkflneppggaaIa
import Derived.Test.YtkfbkflneppggaaFa
namespace Go.Proofs.Ytkfbkflneppggaa
open Go.RowKit
set_option linter.unusedVariables false
set_option linter.unusedSimpArgs false

/-- The pairs that are found when a list of nodes is folded, at most so many. -/
def foldsL (gps : List (Int × Int)) : Nat → List Int → List (Int × Int)
  | 0, _ => []
  | f + 1, l => match scan (covL gps l) l l with
    | none => []
    | some p => p :: foldsL gps f (l.filter fun z => z != p.1)
theorem foldsL_none {gps : List (Int × Int)} {l : List Int} (h : scan (covL gps l) l l = none) (f : Nat) : foldsL gps f l = [] := by
  cases f with
  | zero => rfl
  | succ f => simp only [foldsL, h]
theorem foldsL_some {gps : List (Int × Int)} {l : List Int} {p : Int × Int} (h : scan (covL gps l) l l = some p) (f : Nat) : foldsL gps (f + 1) l = p :: foldsL gps f (l.filter fun z => z != p.1) := by
  simp only [foldsL, h]
theorem scan_mem {P : Int → Int → Bool} {all : List Int} : ∀ {l : List Int} {p : Int × Int}, scan P all l = some p → p.1 ∈ l
  | [], p, h => by simp [scan] at h
  | x :: xs, p, h => by
    simp only [scan] at h
    split at h
    · obtain rfl := Option.some.inj h; simp
    · exact List.mem_cons_of_mem _ (scan_mem h)
theorem filter_shorter (l : List Int) (x : Int) (h : x ∈ l) : (l.filter fun z => z != x).length < l.length := by
  induction l with
  | nil => simp at h
  | cons y ys ih =>
    rw [List.filter_cons]
    by_cases hy : y = x
    · subst hy
      simp
      exact Nat.lt_succ_of_le (List.length_filter_le _ _)
    · have : (y != x) = true := by rw [bne_iff_ne]; exact hy
      rw [if_pos this]
      simp only [List.length_cons]
      have := ih ((List.mem_cons.1 h).resolve_left (fun e => hy e.symm))
      omega

def leftIn (b0 : Nat) (w : World) : Nat := match w.cell? ⟨b0, 0, none⟩ with
  | some (.int _ v) => (setL v.toNat).length
  | _ => 0

set_option maxHeartbeats 2000000 in
theorem folds_c (gs gn gc : Nat) (gA : Option Addr) (gps : List (Int × Int)) (w : World) (hg : SlP w gA gn gps) (hgs : gs ≤ 8) (hgood : goodP gps (gs : Int) = true) :
    Calls Try.prog 64 #[.agg #[.int .i64 (gs : Int), .slice gA gn gc]] w fun e w' =>
      ∃ A c, e = .returned (.slice A (foldsL gps 9 (setL (2 ^ gs - 1))).length c) ∧ w'.ownsRow w.heap.size 83 2 (.slice A (foldsL gps 9 (setL (2 ^ gs - 1))).length c) (foldsL gps 9 (setL (2 ^ gs - 1))).length (prs (foldsL gps 9 (setL (2 ^ gs - 1)))) ∧ Ext w w' := by
  have hmf : ∀ (fn : Fn) (first cap : Array Value) (w : World), (Instr.makeFunc fn first cap).run Try.prog w = .ok (.func fn first cap) w := fun _ _ _ _ => rfl
  have hent : Enters Try.prog 126 := enters_of Try.func126 (by kernel_rfl) rfl
  unfold Enters at hent
  have HG := Lib.hid hg; have HGood := Lib.hid hgood
  clear hg hgood
  go_enter Try.func64, Try.ntmps64
  go_wp2_with fail
  refine (bagAll_c gs hgs gA gn gc _).mono ?_
  rintro e w1 ⟨rfl, hx1⟩
  have HX1 := Lib.hid hx1
  have hX : Ext w w1 := (((Ext.refl w).alloc _).alloc _).trans hx1
  have hXs := hX.size
  have k1 := hx1.cell (cell_old (.cells #[] 83) (cell_new w #[.int .i64 (gs : Int), .slice gA gn gc] 28 0 _ rfl))
  have k1' := hx1.cell (cell_old (.cells #[] 83) (cell_new w #[.int .i64 (gs : Int), .slice gA gn gc] 28 1 _ rfl))
  have ho := own_ext (own_empty (w.alloc (.cells #[.int .i64 (gs : Int), .slice gA gn gc] 28)) 83 2 0 #[] rfl (by omega)) hx1
  have hs1 := hx1.size
  simp only [alloc_size] at hs1 ho
  have HX := Lib.hid hX
  have HI0 := Lib.hid (show FoldInv (w1.heap.size + 1) w.heap.size w1.heap.size w.heap.size gs gn gc gA (2 ^ gs - 1) [] ((w1.alloc (.cells #[.slice (some ⟨w.heap.size + 1, 0, none⟩) 0 0] 22)).alloc (.cells #[.int .u64 ((2 ^ gs - 1 : Nat) : Int)] 115)) from by
    refine ⟨some ⟨w.heap.size + 1, 0, none⟩, 0, ⟨by omega, by simp only [alloc_size]; omega⟩, ⟨by omega, by simp only [alloc_size]; omega⟩, ⟨by omega, by simp only [alloc_size]; omega⟩, by omega, by omega, by omega, ?_, ?_, ?_, ?_, ?_, ?_, ?_, ?_⟩
    · have := cell_new (w1.alloc (.cells #[.slice (some ⟨w.heap.size + 1, 0, none⟩) 0 0] 22)) #[.int .u64 ((2 ^ gs - 1 : Nat) : Int)] 115 0 _ rfl
      simp only [alloc_size] at this
      exact this
    · have : ((w1.alloc (.cells #[.slice (some ⟨w.heap.size + 1, 0, none⟩) 0 0] 22)).alloc (.cells #[.int .u64 ((2 ^ gs - 1 : Nat) : Int)] 115)).frozen? ⟨(w1.alloc (.cells #[.slice (some ⟨w.heap.size + 1, 0, none⟩) 0 0] 22)).heap.size, 0, none⟩ = false := World.frozen?_alloc_at _ _ _ _ rfl
      simp only [alloc_size] at this
      exact this
    · exact cell_old _ (cell_old _ k1)
    · exact cell_old _ (cell_old _ k1')
    · exact cell_old _ (cell_new w1 _ _ 0 _ rfl)
    · rw [Ext.frozen ((Ext.refl _).alloc _) (by rw [alloc_size]; show w1.heap.size < _; omega)]
      exact World.frozen?_alloc_at _ _ _ _ rfl
    · exact own_mono (own_ext ho (((Ext.refl w1).alloc _).alloc _)) (by omega)
    · intro k hk
      obtain rfl : w.heap.size + 1 = k := by simpa [Value.ownBlock] using hk
      exact ⟨by omega, by omega, by omega⟩)
  clear hx1 hX hXs k1 k1' ho hs1
  go_wp2_with fail
  have h256 : 2 ^ gs - 1 < 256 := by
    have h1 : (2 : Nat) ^ gs ≤ 256 := Nat.le_trans (Nat.pow_le_pow_right (by omega) hgs) (by decide)
    have h2 : 0 < (2 : Nat) ^ gs := Nat.pow_pos (by omega)
    omega
  go_loopw [11] (fun z wr => ∃ (b : Nat) (ps : List (Int × Int)), b < 256 ∧ FoldInv (w1.heap.size + 1) w.heap.size w1.heap.size w.heap.size gs gn gc gA b ps wr ∧ Ext w wr ∧ (setL b).length + ps.length ≤ 8 ∧ foldsL gps 9 (setL (2 ^ gs - 1)) = ps ++ foldsL gps (9 - ps.length) (setL b)) (fun z wr => leftIn (w1.heap.size + 1) wr)
  case atStart => exact ⟨2 ^ gs - 1, [], h256, HI0.out, (HX.out.alloc _).alloc _, by have := setK_length (2 ^ gs - 1) 8; simpa [setL] using this, rfl⟩
  case round =>
    obtain ⟨b, ps, hb, hI, hx, hlen, hfold⟩ := hrel
    have hps : ps.length ≤ 8 := by omega
    have HI := Lib.hid hI; have Hx := Lib.hid hx; have HLen := Lib.hid hlen; have HFold := Lib.hid hfold
    clear hI hx hlen hfold
    go_wp2_with fail
    refine (next_c w (w1.heap.size + 1) w.heap.size w1.heap.size gs gn gc gA gps b ps wr Hx.out HI.out (HG.out.ext Hx.out) hgs HGood.out hb hps).mono ?_
    rintro e w3 ⟨hch, hres⟩
    have HX3 := Lib.hid (hch.ext Hx.out (fun k h => h))
    clear hch
    cases q : scan (covL gps (setL b)) (setL b) (setL b) with
    | none =>
      rw [q] at hres
      obtain ⟨rfl, hI3⟩ := hres
      have HQ := Lib.hid (foldsL_none q (9 - ps.length))
      obtain ⟨A, c, _, _, _, _, _, _, _, _, _, _, c3, _, ho, _⟩ := hI3
      have HO := Lib.hid ho
      clear ho q
      go_wp2
      go_ret
      have he : foldsL gps 9 (setL (2 ^ gs - 1)) = ps := by rw [HFold.out, HQ.out, List.append_nil]
      rw [he]
      exact ⟨A, c, rfl, HO.out, HX3.out⟩
    | some p =>
      rw [q] at hres
      obtain ⟨rfl, hI3⟩ := hres
      have hpm := scan_mem q
      obtain ⟨x, hpx, hbx⟩ := (setL_mem b hb p.1).1 hpm
      have hx8 : x < 8 := by
        rcases Nat.lt_or_ge x 8 with h8 | h8
        · exact h8
        · rw [Nat.testBit_lt_two_pow (Nat.lt_of_lt_of_le (show b < 2 ^ 8 from hb) (Nat.pow_le_pow_right (by omega) h8))] at hbx
          cases hbx
      have hset : setL (bagW b p.1.toNat) = (setL b).filter fun z => z != p.1 := by rw [hpx, Int.toNat_natCast]; exact setL_without b x hb hx8
      have hshort := filter_shorter (setL b) p.1 hpm
      rw [← hset] at hshort
      have HSet := Lib.hid hset; have HShort := Lib.hid hshort; have HQ := Lib.hid q; have HI3 := Lib.hid hI3
      clear hpm hpx hbx hx8 hset hshort q hI3
      go_wp2
      go_roundw
      case rel =>
        refine ⟨bagW b p.1.toNat, ps ++ [p], bagW_lt _ _ hb, HI3.out, HX3.out, by have := HLen.out; have := HShort.out; rw [List.length_append]; simp only [List.length_singleton]; omega, ?_⟩
        have hlt : ps.length < 9 := by omega
        rw [HFold.out, show 9 - ps.length = (9 - (ps ++ [p]).length) + 1 by rw [List.length_append]; simp only [List.length_singleton]; omega, foldsL_some HQ.out, HSet.out]
        simp
      case measure =>
        obtain ⟨_, _, _, _, _, _, _, _, m0, _⟩ := HI.out
        obtain ⟨_, _, _, _, _, _, _, _, m1, _⟩ := HI3.out
        have e0 : leftIn (w1.heap.size + 1) wr = (setL b).length := by unfold leftIn; rw [m0]; simp
        have e1 : leftIn (w1.heap.size + 1) w3 = (setL (bagW b p.1.toNat)).length := by unfold leftIn; rw [m1]; simp
        have := HShort.out
        first | (rw [e0, e1]; exact this) | (simp only [e0, e1]; exact this)
end Go.Proofs.Ytkfbkflneppggaa
