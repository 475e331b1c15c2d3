/-
  Plain lemmas, second part: the reference's own test of a next value, and that it agrees with the program's on valid graphs. No program and no memory. Conditions: none.
-/
import Derived.Test.YtkfbkflneppggaaPu
namespace Go.Proofs.Ytkfbkflneppggaa
set_option linter.unusedVariables false

/-- Does a value suit the k-th node's one (as the reference asks it)? -/
def okS1 (gps hps : List (Int × Int)) (lz : Bool) (x : Int) (pre : List Int) (v : Int) (k : Nat) : Bool := !nearE gps (k : Int) x || fitE hps (gI pre k) v lz
def okUpto (gps hps : List (Int × Int)) (lz : Bool) (x : Int) (pre : List Int) (v : Int) (n : Nat) : Bool := (List.range n).all (okS1 gps hps lz x pre v)
def okS (gps hps : List (Int × Int)) (lz : Bool) (pre : List Int) (v : Int) : Bool := okUpto gps hps lz (pre.length : Int) pre v pre.length
theorem okUpto_zero (gps hps : List (Int × Int)) (lz : Bool) (x : Int) (pre : List Int) (v : Int) : okUpto gps hps lz x pre v 0 = true := rfl
theorem okUpto_succ (gps hps : List (Int × Int)) (lz : Bool) (x : Int) (pre : List Int) (v : Int) (n : Nat) : okUpto gps hps lz x pre v (n + 1) = (okUpto gps hps lz x pre v n && okS1 gps hps lz x pre v n) := by
  simp [okUpto, List.range_succ]
theorem okUpto_false {gps hps : List (Int × Int)} {lz : Bool} {x : Int} {pre : List Int} {v : Int} {k n : Nat} (h : okUpto gps hps lz x pre v k = false) (hk : k ≤ n) : okUpto gps hps lz x pre v n = false := by
  rw [Bool.eq_false_iff]; intro hg
  rw [Bool.eq_false_iff] at h; apply h
  simp only [okUpto, List.all_eq_true, List.mem_range] at hg ⊢
  exact fun j hj => hg j (by omega)

theorem matchE_comm {p : Int × Int} {x y : Int} : matchE p x y = matchE p y x := by
  simp only [matchE]; exact Bool.or_comm _ _
theorem nearE_comm (ps : List (Int × Int)) (x y : Int) : nearE ps x y = nearE ps y x := by
  unfold nearE
  congr 1; funext k; exact matchE_comm
theorem nearE_iff (ps : List (Int × Int)) (x y : Int) : nearE ps x y = true ↔ (x, y) ∈ ps ∨ (y, x) ∈ ps := by
  simp only [nearE, List.any_eq_true, List.mem_range, matchE, Bool.or_eq_true, Bool.and_eq_true, beq_iff_eq]
  constructor
  · rintro ⟨k, hk, h | h⟩
    · left; rw [gP_eq ps k hk] at h; have : ps[k] = (x, y) := Prod.ext h.1 h.2; rw [← this]; exact List.getElem_mem _
    · right; rw [gP_eq ps k hk] at h; have : ps[k] = (y, x) := Prod.ext h.1 h.2; rw [← this]; exact List.getElem_mem _
  · rintro (h | h)
    · obtain ⟨k, hk, e⟩ := List.getElem_of_mem h
      exact ⟨k, hk, .inl (by rw [gP_eq ps k hk, e]; exact ⟨rfl, rfl⟩)⟩
    · obtain ⟨k, hk, e⟩ := List.getElem_of_mem h
      exact ⟨k, hk, .inr (by rw [gP_eq ps k hk, e]; exact ⟨rfl, rfl⟩)⟩
theorem goodP_mem {ps : List (Int × Int)} {n : Int} (h : goodP ps n = true) {p : Int × Int} (hp : p ∈ ps) : 0 ≤ p.1 ∧ p.1 < p.2 ∧ p.2 < n := by
  obtain ⟨k, hk, rfl⟩ := List.getElem_of_mem hp
  have := goodP_at h hk
  rw [okAt, gP_eq ps k hk] at this
  simp only [Bool.and_eq_true, decide_eq_true_eq] at this
  exact ⟨this.1.1.1, this.1.1.2, this.1.2⟩
/-- On a valid graph the program's test of two neighbors is the reference's. -/
theorem near_same {ps : List (Int × Int)} {n : Int} (h : goodP ps n = true) (x y : Int) : nearB ps x y = nearE ps x y := by
  rw [Bool.eq_iff_iff, nearE_iff]
  simp only [nearB, inP, decide_eq_true_eq]
  constructor
  · intro hm
    rcases Int.le_total x y with hxy | hxy
    · left; rwa [show min x y = x by omega, show max x y = y by omega] at hm
    · right; rwa [show min x y = y by omega, show max x y = x by omega] at hm
  · rintro (hm | hm)
    · have := goodP_mem h hm; simp only at this
      rwa [show min x y = x by omega, show max x y = y by omega]
    · have := goodP_mem h hm; simp only at this
      rwa [show min x y = y by omega, show max x y = x by omega]
theorem fit_same {ps : List (Int × Int)} {n : Int} (h : goodP ps n = true) (x y : Int) (z : Bool) : fitB ps x y z = fitE ps x y z := by
  rw [fitB_eq, fitE_eq, near_same h]
theorem fitE_comm (ps : List (Int × Int)) (x y : Int) (z : Bool) : fitE ps x y z = fitE ps y x z := by
  rw [fitE_eq, fitE_eq, nearE_comm]
  rw [show (x == y) = (y == x) from Bool.eq_iff_iff.2 (by rw [beq_iff_eq, beq_iff_eq]; exact eq_comm)]
/-- The two tests of a next value agree. -/
theorem ok_same {gps hps : List (Int × Int)} {n : Nat} {m : Int} (hg : goodP gps (n : Int) = true) (hh : goodP hps m = true) (lz : Bool) (pre : List Int) (v : Int) (hp : pre.length < n) : okB gps hps n lz pre v = okS gps hps lz pre v := by
  rw [Bool.eq_iff_iff]
  simp only [okB, okS, okUpto, okS1, Bool.not_eq_true', List.any_eq_false, List.all_eq_true, List.mem_range, Bool.or_eq_true, Bool.not_eq_true']
  constructor
  · intro h k hk
    cases hn : nearE gps (k : Int) (pre.length : Int) with
    | false => left; rfl
    | true =>
      right
      have hmem : (k : Int) ∈ nbrK gps (pre.length : Int) n := by
        simp only [nbrK, List.mem_filter, List.mem_map, List.mem_range, Bool.and_eq_true, bne_iff_ne]
        refine ⟨⟨k, by omega, rfl⟩, by omega, ?_⟩
        rw [near_same hg, nearE_comm]; exact hn
      have := h (k : Int) hmem
      simp only [Bool.and_eq_true, decide_eq_true_eq, Bool.not_eq_true', not_and, Bool.not_eq_false, Int.toNat_natCast] at this
      have h2 := this (by omega)
      rw [fit_same hh, fitE_comm] at h2; exact h2
  · intro h z hz
    simp only [nbrK, List.mem_filter, List.mem_map, List.mem_range, Bool.and_eq_true, bne_iff_ne] at hz
    obtain ⟨⟨j, hj, rfl⟩, hne, hnear⟩ := hz
    simp only [Bool.and_eq_true, decide_eq_true_eq, Bool.not_eq_true', not_and, Bool.not_eq_false]
    intro hlt
    have hlt' : j < pre.length := by simpa using hlt
    rw [near_same hg, nearE_comm] at hnear
    rcases h j hlt' with h1 | h1
    · simp only [Int.ofNat_eq_natCast] at hnear; rw [hnear] at h1; exact absurd h1 (by simp)
    · rw [fit_same hh, fitE_comm]; simpa using h1
theorem someM_length (hs : Nat) (ok : List Int → Int → Bool) (hh : hs ≤ 8) (m : Nat) (pre : List Int) (k : Nat) (hk : k ≤ 8) (hm : m ≤ 8) : (someM hs ok m pre k).length ≤ 134217728 := by
  have h1 := flat_length (fun y => if ok pre (y : Int) then allM hs ok m (pre ++ [(y : Int)]) else []) 16777216 (fun k => by
      split
      · exact allM_length hs ok hh m _ hm
      · simp) k
  unfold someM
  refine Nat.le_trans h1 ?_
  omega
theorem allM_congr {hs : Nat} {ok ok' : List Int → Int → Bool} {n : Nat} (h : ∀ pre v, pre.length < n → ok pre v = ok' pre v) : ∀ (m : Nat) (pre : List Int), pre.length + m ≤ n → allM hs ok m pre = allM hs ok' m pre
  | 0, pre, _ => rfl
  | m + 1, pre, hp => by
    simp only [allM]
    congr 1; funext y
    rw [h pre y (by omega), allM_congr h m (pre ++ [(y : Int)]) (by simp; omega)]
end Go.Proofs.Ytkfbkflneppggaa
