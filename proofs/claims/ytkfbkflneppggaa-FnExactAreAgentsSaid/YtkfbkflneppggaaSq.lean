/-
  slices.Sort at few whole numbers: bits.Len, pdqsortOrdered; slices.Sorted(slices.Values(s)). Conditions: none.
-/
import Derived.Test.YtkfbkflneppggaaSo
import Derived.Test.YtkfbkflneppggaaIt
namespace Go.Proofs.Ytkfbkflneppggaa
open Go.RowKit
set_option linter.unusedVariables false
set_option linter.unusedSimpArgs false

/-- Some whole number comes, and the world is as it was. -/
def SomeI (w : World) (e : Ending) (w' : World) : Prop := ∃ v : Int, e = .returned (.int .i64 v) ∧ w = w'

set_option maxRecDepth 100000 in
set_option maxHeartbeats 2000000 in
theorem len64_c (n : Nat) (hn : n ≤ 12) (w : World) : Calls Try.prog 198 #[.int .u64 (n : Int)] w (SomeI w) := by
  go_enter Try.func198, Try.ntmps198
  have h1 : decide ((4294967296 : Int) ≤ (n : Int)) = false := by simp; omega
  have h2 : decide ((65536 : Int) ≤ (n : Int)) = false := by simp; omega
  have h3 : decide ((256 : Int) ≤ (n : Int)) = false := by simp; omega
  go_wp2
  go_ret
  exact ⟨_, rfl, rfl⟩
set_option maxHeartbeats 400000 in
theorem bitsLen_c (n : Nat) (hn : n ≤ 12) (w : World) : Calls Try.prog 177 #[.int .u64 (n : Int)] w (SomeI w) := by
  go_enter Try.func177, Try.ntmps177
  go_wp2_with fail
  refine (len64_c n hn _).mono ?_
  rintro e w1 ⟨v, rfl, rfl⟩
  go_wp2
  go_ret
  exact ⟨_, rfl, rfl⟩

set_option maxRecDepth 100000 in
set_option maxHeartbeats 2000000 in
theorem pdq_c (A : Option Addr) (n cap base : Nat) (lim : Int) (xs : List Int) (w : World) (h : w.ownsRow base 3 1 (.slice A n cap) n (ints xs)) (hn : n ≤ 12) :
    Calls Try.prog 188 #[.slice A n cap, .int .i64 0, .int .i64 (n : Int), .int .i64 lim] w fun e w' => e = .returned (.tuple #[]) ∧
      ∃ ys : List Int, ys.Perm xs ∧ srt ys n ∧ w'.ownsRow base 3 1 (.slice A n cap) n (ints ys) ∧ Chg (fun b => (Value.slice A n cap).ownBlock = some b) w w' := by
  have h1 : decide ((n : Int) ≤ 12) = true := by simp; omega
  have h1' : decide (n ≤ 12) = true := by simp; omega
  have HO := Lib.hid h
  clear h
  go_enter Try.func188, Try.ntmps188
  go_wp2
  refine wp_loop_rounds 1 ?_
  rw [rounds_succ]
  go_wp2_with fail
  refine (insSort_c A n cap base xs _ HO.out (by omega)).mono ?_
  rintro e w1 ⟨rfl, ys, hp, hs, ho, hc⟩
  have HP := Lib.hid hp; have HS := Lib.hid hs; have HO1 := Lib.hid ho; have HC := Lib.hid hc
  clear hp hs ho hc
  go_wp2
  refine bodyPost_ret (results_none rfl _ _ _) rfl ?_
  exact ⟨rfl, ys, HP.out, HS.out, HO1.out, HC.out⟩

set_option maxHeartbeats 400000 in
theorem Sort_c (A : Option Addr) (n cap base : Nat) (xs : List Int) (w : World) (h : w.ownsRow base 3 1 (.slice A n cap) n (ints xs)) (hn : n ≤ 12) :
    Calls Try.prog 172 #[.slice A n cap] w fun e w' => e = .returned (.tuple #[]) ∧
      ∃ ys : List Int, ys.Perm xs ∧ srt ys n ∧ w'.ownsRow base 3 1 (.slice A n cap) n (ints ys) ∧ Chg (fun b => (Value.slice A n cap).ownBlock = some b) w w' := by
  have HO := Lib.hid h
  clear h
  go_enter Try.func172, Try.ntmps172
  go_wp2_with fail
  refine (bitsLen_c n hn _).mono ?_
  rintro e w1 ⟨v, rfl, rfl⟩
  go_wp2_with fail
  refine (pdq_c A n cap base v xs _ HO.out hn).mono ?_
  rintro e w1 ⟨rfl, ys, hp, hs, ho, hc⟩
  have HP := Lib.hid hp; have HS := Lib.hid hs; have HO1 := Lib.hid ho; have HC := Lib.hid hc
  clear hp hs ho hc
  go_wp2
  go_end0
  exact ⟨rfl, ys, HP.out, HS.out, HO1.out, HC.out⟩

set_option maxHeartbeats 400000 in
theorem Values_c (A : Option Addr) (n c : Nat) (w : World) :
    Calls Try.prog 140 #[.slice A n c] w fun e w' => e = .returned (.func (.func 173) #[] #[.pointer (some ⟨w.heap.size, 0, none⟩)]) ∧ w.alloc (.cells #[.slice A n c] 40) = w' := by
  have hmf : ∀ (fn : Fn) (first cap : Array Value) (w : World), (Instr.makeFunc fn first cap).run Try.prog w = .ok (.func fn first cap) w := fun _ _ _ _ => rfl
  go_enter Try.func140, Try.ntmps140
  go_wp2
  go_ret
  exact ⟨rfl, rfl⟩

set_option maxHeartbeats 400000 in
theorem Collect_c (Bs c : Nat) (A : Option Addr) (zs : List Int) (w : World) (hBs : w.cell? ⟨Bs, 0, none⟩ = some (.slice A zs.length c)) (hI : SlI w A zs.length zs) (hbytes : zs.length ≤ 1048576) :
    Calls Try.prog 171 #[.func (.func 173) #[] #[.pointer (some ⟨Bs, 0, none⟩)]] w fun e W' => ∃ v, e = .returned v ∧ W'.ownsRow w.heap.size 3 1 v zs.length (ints zs) ∧ Ext w W' := by
  have HB := Lib.hid hBs; have HI := Lib.hid hI; have HN := Lib.hid hbytes
  clear hBs hI hbytes
  go_enter Try.func171, Try.ntmps171
  go_wp2_with fail
  refine (callsIn_wide.1 (appendSeq_in Fence.wide 3 trivial trivial rfl (by omega) Bs c A zs _ HB.out HI.out (by have := HN.out; omega))).mono ?_
  rintro e w1 ⟨v, rfl, ho, hx⟩
  have HO := Lib.hid ho; have HX := Lib.hid hx
  clear ho hx
  go_wp2
  go_ret
  exact ⟨v, rfl, HO.out, HX.out⟩

/-- slices.Sorted(slices.Values(s)), behind slices.Values. -/
theorem Sorted_c (Bs c : Nat) (A : Option Addr) (zs : List Int) (w : World) (hBs : w.cell? ⟨Bs, 0, none⟩ = some (.slice A zs.length c)) (hI : SlI w A zs.length zs) (hn : zs.length ≤ 12) :
    Calls Try.prog 139 #[.func (.func 173) #[] #[.pointer (some ⟨Bs, 0, none⟩)]] w fun e W' => ∃ A' c' ys, e = .returned (.slice A' zs.length c') ∧ ys.Perm zs ∧ srt ys zs.length ∧ W'.ownsRow w.heap.size 3 1 (.slice A' zs.length c') zs.length (ints ys) ∧ Ext w W' := by
  have HB := Lib.hid hBs; have HI := Lib.hid hI; have HN := Lib.hid hn
  clear hBs hI hn
  go_enter Try.func139, Try.ntmps139
  go_wp2_with fail
  refine (Collect_c Bs c A zs _ HB.out HI.out (by have := HN.out; omega)).mono ?_
  rintro e w1 ⟨v, rfl, ho, hx⟩
  obtain ⟨A1, c1, rfl⟩ := own_slice ho
  have HO := Lib.hid ho; have HX := Lib.hid hx
  clear ho hx
  go_wp2_with fail
  refine (Sort_c A1 zs.length c1 w.heap.size zs _ HO.out HN.out).mono ?_
  rintro e w2 ⟨rfl, ys, hp, hs, ho, hc⟩
  have HP := Lib.hid hp; have HS := Lib.hid hs; have HO1 := Lib.hid ho; have HC := Lib.hid hc
  clear hp hs ho hc
  go_wp2
  go_ret
  exact ⟨A1, c1, ys, rfl, HP.out, HS.out, HO1.out, HC.out.ext HX.out (fun k hk => (HO.out.lt k hk).1)⟩
end Go.Proofs.Ytkfbkflneppggaa
