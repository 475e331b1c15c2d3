/-
  Contracts of the small functions that all statements of this seat use: between, pair, comparePairs, has, and the library's functions at whole numbers and pairs. Conditions: none.
-/
import Derived.Test.YtkfbkflneppggaaPu
import Derived.Test.YtkfbkflneppggaaProg
import Derived.KernelRfl
import Derived.BigQuiet
import Derived.Deep.QuietTactic
import Derived.Deep.RegionHeld3
import Derived.Deep.DeepFit
import Derived.Laws.StructEq
namespace Go.Proofs.Ytkfbkflneppggaa
open Go.RowKit
set_option linter.unusedVariables false
set_option linter.unusedSimpArgs false

theorem infoI : (Try.prog.info? 3).map (fun i => (i.zero, i.size, i.bytes)) = some (some (.int .i64 0), 1, 8) := by kernel_rfl
theorem infoP : (Try.prog.info? 83).map (fun i => (i.zero, i.size, i.bytes)) = some (some (.agg #[.int .i64 0, .int .i64 0]), 2, 16) := by kernel_rfl

@[go_sem] theorem build_pair (a b : Int) (w : World) : (Instr.build 83 #[(0, .int .i64 a), (1, .int .i64 b)]).run Try.prog w = .ok (.agg #[.int .i64 a, .int .i64 b]) w := run_build w 83 _ _ (by kernel_rfl)
@[go_sem] theorem eq_pair (a b c d : Int) (w : World) : (Op.equalIn 10000 83 (.agg #[.int .i64 a, .int .i64 b]) (.agg #[.int .i64 c, .int .i64 d])).run Try.prog w = .ok (eqP a b c d) w := by
  have u3 := Try.underlying3
  have a3 := Try.isAgg3
  have z3 := Try.sizeOf3
  rw [show (10000 : Nat) = 9999 + 1 from rfl, Op.equalIn]
  simp only [Sem.run_bind, run_underlying Try.underlying83, Result.andThen_ok]
  simp only [Std.Legacy.Range.forIn_eq_forIn_range', Std.Legacy.Range.size, Nat.sub_zero, Nat.add_sub_cancel, Nat.div_one, List.range'_succ, List.range'_zero, List.forIn_cons, List.forIn_nil]
  go_simp
  by_cases h1 : a = c <;> by_cases h2 : b = d <;> simp [h1, h2, eqP]

theorem ret_int {k : IntKind} {a b : Int} (h : a = b) : Ending.returned (.int k a) = .returned (.int k b) := by rw [h]
theorem ret_val {a b : Value} (h : a = b) : Ending.returned a = .returned b := by rw [h]
theorem ret_bool {a b : Bool} (h : a = b) : Ending.returned (.bool a) = .returned (.bool b) := by rw [h]

set_option maxHeartbeats 400000 in
theorem between_c (n a b : Int) (w : World) :
    Calls Try.prog 76 #[.int .i64 n, .int .i64 a, .int .i64 b] w fun e w' => e = .returned (.bool (inB n a b)) ∧ w = w' := by
  go_enter Try.func76, Try.ntmps76
  by_cases h : a ≤ n
  · go_wp2
    go_ret
    exact ⟨ret_bool (by simp [inB, h]), rfl⟩
  · go_wp2
    go_ret
    exact ⟨ret_bool (by simp [inB]; omega), rfl⟩

set_option maxHeartbeats 400000 in
theorem isNaN_c (x : Int) (w : World) :
    Calls Try.prog 186 #[.int .i64 x] w fun e w' => e = .returned (.bool false) ∧ w = w' := by
  go_enter Try.func186, Try.ntmps186
  go_wp2
  go_ret
  simp

set_option maxHeartbeats 400000 in
theorem Compare_c (x y : Int) (w : World) :
    Calls Try.prog 170 #[.int .i64 x, .int .i64 y] w fun e w' => e = .returned (.int .i64 (cmpI x y)) ∧ w = w' := by
  go_enter Try.func170, Try.ntmps170
  rcases Int.lt_trichotomy x y with h | h | h
  · go_wp2
    go_ret
    simp [cmpI, h]
  · subst h
    go_wp2
    go_ret
    simp [cmpI]
  · have h' : ¬ x < y := by omega
    go_wp2
    go_ret
    simp [cmpI, h, h']

set_option maxHeartbeats 400000 in
theorem pair_c (a b : Int) (w : World) :
    Calls Try.prog 145 #[.int .i64 a, .int .i64 b] w fun e w' => e = .returned (.agg #[.int .i64 (min a b), .int .i64 (max a b)]) ∧ Ext w w' := by
  go_enter Try.func145, Try.ntmps145
  rcases Int.lt_trichotomy a b with h | h | h
  · rw [show min a b = a by omega, show max a b = b by omega]
    go_wp2
    all_goals refine bodyPost_ret (v := .agg #[.int .i64 a, .int .i64 b]) (by simp [results, Try.results145, go_sem]) rfl ⟨rfl, (Ext.refl _).alloc _⟩
  · subst h
    rw [show min a a = a by omega, show max a a = a by omega]
    go_wp2
    all_goals refine bodyPost_ret (v := .agg #[.int .i64 a, .int .i64 a]) (by simp [results, Try.results145, go_sem]) rfl ⟨rfl, (Ext.refl _).alloc _⟩
  · rw [show min a b = b by omega, show max a b = a by omega]
    go_wp2
    all_goals refine bodyPost_ret (v := .agg #[.int .i64 b, .int .i64 a]) (by simp [results, Try.results145, go_sem]) rfl ⟨rfl, (Ext.refl _).alloc _⟩

set_option maxHeartbeats 400000 in
theorem IndexP_c (A : Option Addr) (n c : Nat) (ps : List (Int × Int)) (x y : Int) (w : World) (h : SlP w A n ps) :
    Calls Try.prog 210 #[.slice A n c, .agg #[.int .i64 x, .int .i64 y]] w fun e w' => e = .returned (.int .i64 (findP (x, y) ps 0)) ∧ Ext w w' := by
  have hl := h.len
  have hm := h.le
  obtain rfl := hl
  go_enter Try.func210, Try.ntmps210
  go_wp2
  go_loopw [5, 8] (fun t i wr => ∃ k : Nat, k ≤ ps.length ∧ i = .int .i64 k ∧ Ext (w.alloc (.cells #[.int .i64 x, .int .i64 y] 83)) wr ∧ findP (x, y) ps 0 = findP (x, y) (ps.drop k) k) (fun _ i _ => ps.length - (intOf i).toNat)
  case atStart => exact ⟨0, Nat.zero_le _, rfl, Ext.refl _, rfl⟩
  case round =>
    obtain ⟨k, hk, rfl, hb, hf⟩ := hrel
    by_cases hlt : k < ps.length
    · obtain ⟨b, o, rfl, d1, d2⟩ := (h.ext (((Ext.refl w).alloc _).trans hb)).at k hlt
      have e1 := hb.cell (cell_new w #[.int .i64 x, .int .i64 y] 83 0 _ rfl)
      have e2 := hb.cell (cell_new w #[.int .i64 x, .int .i64 y] 83 1 _ rfl)
      rw [findP_drop _ _ _ hlt] at hf
      have HF := Lib.hid hf; clear hf
      have Hh := Lib.hid h; clear h
      have HB := Lib.hid hb; clear hb
      by_cases heq : (x, y) = gP ps k
      · have hq := eqP_true heq
        go_wp2
        go_quiet (fail)
        go_wp2
        go_ret
        have := HF.out
        rw [if_pos heq] at this
        exact ⟨ret_int this.symm, (((Ext.refl w).alloc _).trans HB.out).drewN _⟩
      · have hq := eqP_false heq
        go_wp2
        go_quiet (fail)
        go_wp2
        go_roundw
        case rel => 
          have := HF.out
          rw [if_neg heq] at this
          exact ⟨k + 1, by omega, by go_num, HB.out.drewN _, this⟩
        case measure => simp [intOf]; omega
    · have hk' : k = ps.length := by omega
      subst hk'
      go_wp2
      go_ret
      exact ⟨ret_int (by rw [hf]; simp [findP]), ((Ext.refl w).alloc _).trans hb⟩

set_option maxHeartbeats 400000 in
theorem ContainsP_c (A : Option Addr) (n c : Nat) (ps : List (Int × Int)) (x y : Int) (w : World) (h : SlP w A n ps) :
    Calls Try.prog 185 #[.slice A n c, .agg #[.int .i64 x, .int .i64 y]] w fun e w' => e = .returned (.bool (inP ps x y)) ∧ Ext w w' := by
  go_enter Try.func185, Try.ntmps185
  go_wp2_with (go_at_call 210; refine (IndexP_c A n c ps x y _ (h.ext ((Ext.refl w).alloc _))).mono ?_; rintro e w' ⟨rfl, hx⟩)
  go_ret
  exact ⟨ret_bool (inP_find ps x y), ((Ext.refl w).alloc _).trans hx⟩

set_option maxHeartbeats 400000 in
theorem has_c (sz : Int) (A : Option Addr) (n c : Nat) (ps : List (Int × Int)) (x y : Int) (w : World) (h : SlP w A n ps) :
    Calls Try.prog 162 #[.agg #[.int .i64 sz, .slice A n c], .int .i64 x, .int .i64 y] w fun e w' => e = .returned (.bool (nearB ps x y)) ∧ Ext w w' := by
  go_enter Try.func162, Try.ntmps162
  go_wp2_with fail
  have hc0 := fun w' (hw' : Ext (w.alloc (.cells #[.int .i64 sz, .slice A n c] 28)) w') => hw'.cell (cell_new w #[.int .i64 sz, .slice A n c] 28 1 _ rfl)
  have Hs := Lib.hid (fun w' (hw' : Ext (w.alloc (.cells #[.int .i64 sz, .slice A n c] 28)) w') => h.ext (((Ext.refl w).alloc _).trans hw'))
  clear h
  go_region_held3 (fun w' => Ext (w.alloc (.cells #[.int .i64 sz, .slice A n c] 28)) w')
    (first
      | exact (Ext.refl _).drew
      | exact Ext.trans (by assumption) hx)
    (first
      | (go_at_call 145; refine (pair_c x y _).mono ?_; rintro e w1 ⟨rfl, hx⟩)
      | (go_at_call 185; refine (ContainsP_c A n c ps _ _ _ (Hs.out _ (by assumption))).mono ?_; rintro e w2 ⟨rfl, hx⟩))
  go_wp2
  go_ret
  exact ⟨rfl, ((Ext.refl w).alloc _).trans (by assumption)⟩
end Go.Proofs.Ytkfbkflneppggaa
