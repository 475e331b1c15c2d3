/-
  Plain functions and lemmas on numbers and lists that the walks of this seat name; no program and no memory. Conditions: none.
-/
import Derived.Test.YtkfbkflneppggaaWd
namespace Go.Proofs.Ytkfbkflneppggaa
set_option linter.unusedVariables false

/-- Are two pairs the same? -/
def eqP (a b c d : Int) : Bool := a == c && b == d
theorem eqP_true {p : Int × Int} {x y : Int} (h : (x, y) = p) : eqP x y p.1 p.2 = true := by subst h; simp [eqP]
theorem eqP_false {p : Int × Int} {x y : Int} (h : ¬ (x, y) = p) : eqP x y p.1 p.2 = false := by
  obtain ⟨a, b⟩ := p
  by_cases h1 : x = a
  · subst h1
    have : ¬ y = b := fun e => h (by rw [e])
    simp [eqP, this]
  · simp [eqP, h1]

/-- Is a pair among these? -/
def inP (ps : List (Int × Int)) (x y : Int) : Bool := decide ((x, y) ∈ ps)
/-- Are two nodes neighbors? -/
def nearB (ps : List (Int × Int)) (x y : Int) : Bool := inP ps (min x y) (max x y)
/-- Is a number from a to b? -/
def inB (n a b : Int) : Bool := decide (a ≤ n) && decide (n ≤ b)
theorem inB_true {n a b : Int} : inB n a b = true ↔ a ≤ n ∧ n ≤ b := by simp [inB]
theorem inB_false {n a b : Int} : inB n a b = false ↔ ¬ (a ≤ n ∧ n ≤ b) := by rw [← inB_true]; simp
/-- Does a pair come before another one? -/
def ltP (p q : Int × Int) : Bool := decide (p.1 < q.1 ∨ p.1 = q.1 ∧ p.2 < q.2)
/-- Is the pair at a place fine, for edges of n nodes? -/
def okAt (ps : List (Int × Int)) (n : Int) (k : Nat) : Bool :=
  decide (0 ≤ (gP ps k).1) && decide ((gP ps k).1 < (gP ps k).2) && decide ((gP ps k).2 < n) && (k == 0 || ltP (gP ps (k - 1)) (gP ps k))
theorem okAt_out1 {ps : List (Int × Int)} {m : Int} {k : Nat} (h : inB (gP ps k).1 0 (m - 1) = false) : okAt ps m k = false := by
  rw [inB_false] at h
  rw [Bool.eq_false_iff]; intro hg
  simp [okAt] at hg; omega
theorem okAt_out2 {ps : List (Int × Int)} {m : Int} {k : Nat} (h : inB (gP ps k).2 0 (m - 1) = false) : okAt ps m k = false := by
  rw [inB_false] at h
  rw [Bool.eq_false_iff]; intro hg
  simp [okAt] at hg; omega
theorem okAt_out3 {ps : List (Int × Int)} {m : Int} {k : Nat} (h : (gP ps k).2 ≤ (gP ps k).1) : okAt ps m k = false := by
  rw [Bool.eq_false_iff]; intro hg
  simp [okAt] at hg; omega
theorem okAt_zero {ps : List (Int × Int)} {m : Int} (h1 : inB (gP ps 0).1 0 (m - 1) = true) (h2 : inB (gP ps 0).2 0 (m - 1) = true) (h3 : ¬ (gP ps 0).2 ≤ (gP ps 0).1) : okAt ps m 0 = true := by
  rw [inB_true] at h1 h2
  simp [okAt]; omega
theorem okAt_zero' {ps : List (Int × Int)} {m : Int} {k : Nat} (h1 : inB (gP ps k).1 0 (m - 1) = true) (h2 : inB (gP ps k).2 0 (m - 1) = true) (h3 : ¬ (gP ps k).2 ≤ (gP ps k).1) (h4 : ¬ 0 < k) : okAt ps m k = true := by
  obtain rfl : k = 0 := by omega
  exact okAt_zero h1 h2 h3
theorem okAt_pos {ps : List (Int × Int)} {m : Int} {k : Nat} (h1 : inB (gP ps k).1 0 (m - 1) = true) (h2 : inB (gP ps k).2 0 (m - 1) = true) (h3 : ¬ (gP ps k).2 ≤ (gP ps k).1) (hk : 0 < k) : okAt ps m k = ltP (gP ps (k - 1)) (gP ps k) := by
  rw [inB_true] at h1 h2
  have e1 : decide (0 ≤ (gP ps k).1) = true := by simp; omega
  have e2 : decide ((gP ps k).1 < (gP ps k).2) = true := by simp; omega
  have e3 : decide ((gP ps k).2 < m) = true := by simp; omega
  have e4 : (k == 0) = false := by simp; omega
  rw [okAt, e1, e2, e3, e4]; simp
theorem okAt_o1 {ps : List (Int × Int)} {m : Int} {k : Nat} (h : (gP ps k).1 < 0) : okAt ps m k = false := by
  rw [Bool.eq_false_iff]; intro hg
  simp [okAt] at hg; omega
theorem okAt_o2 {ps : List (Int × Int)} {m : Int} {k : Nat} (h : m ≤ (gP ps k).2) : okAt ps m k = false := by
  rw [Bool.eq_false_iff]; intro hg
  simp [okAt] at hg; omega
theorem okAt_p {ps : List (Int × Int)} {m : Int} {k : Nat} (h1 : ¬ (gP ps k).1 < 0) (h2 : ¬ m ≤ (gP ps k).2) (h3 : ¬ (gP ps k).2 ≤ (gP ps k).1) (hk : 0 < k) : okAt ps m k = ltP (gP ps (k - 1)) (gP ps k) :=
  okAt_pos (inB_true.2 (by omega)) (inB_true.2 (by omega)) h3 hk
theorem okAt_z {ps : List (Int × Int)} {m : Int} {k : Nat} (h1 : ¬ (gP ps k).1 < 0) (h2 : ¬ m ≤ (gP ps k).2) (h3 : ¬ (gP ps k).2 ≤ (gP ps k).1) (hk : ¬ 0 < k) : okAt ps m k = true :=
  okAt_zero' (inB_true.2 (by omega)) (inB_true.2 (by omega)) h3 hk
def goodP (ps : List (Int × Int)) (n : Int) : Bool := (List.range ps.length).all (okAt ps n)
theorem goodP_true {ps : List (Int × Int)} {n : Int} (h : ∀ j, j < ps.length → okAt ps n j = true) : goodP ps n = true := by
  simp only [goodP, List.all_eq_true, List.mem_range]; exact h
theorem goodP_false {ps : List (Int × Int)} {n : Int} {k : Nat} (hk : k < ps.length) (h : okAt ps n k = false) : goodP ps n = false := by
  rw [Bool.eq_false_iff]; intro hg
  simp only [goodP, List.all_eq_true, List.mem_range] at hg
  rw [hg k hk] at h; exact absurd h (by simp)
theorem goodP_at {ps : List (Int × Int)} {n : Int} (h : goodP ps n = true) {k : Nat} (hk : k < ps.length) : okAt ps n k = true := by
  simp only [goodP, List.all_eq_true, List.mem_range] at h; exact h k hk

/-- Is a graph valid? Are two graphs, for maps? -/
def goodG (sz : Int) (ps : List (Int × Int)) : Bool := inB sz 0 8 && goodP ps sz
def goodM (s1 : Int) (ps : List (Int × Int)) (s2 : Int) (qs : List (Int × Int)) : Bool := goodG s1 ps && goodG s2 qs && decide (s1 ≤ 6)
/-- Is an edge one of two nodes, in either order? -/
def matchE (p : Int × Int) (x y : Int) : Bool := p.1 == x && p.2 == y || p.1 == y && p.2 == x
theorem matchE_eq (p : Int × Int) (x y : Int) : matchE p x y = (p.1 == x && p.2 == y || p.1 == y && p.2 == x) := rfl
def nearE (ps : List (Int × Int)) (x y : Int) : Bool := (List.range ps.length).any fun k => matchE (gP ps k) x y
theorem nearE_true {ps : List (Int × Int)} {x y : Int} {k : Nat} (hk : k < ps.length) (h : matchE (gP ps k) x y = true) : nearE ps x y = true := by
  simp only [nearE, List.any_eq_true, List.mem_range]; exact ⟨k, hk, h⟩
theorem nearE_false {ps : List (Int × Int)} {x y : Int} (h : ∀ k, k < ps.length → matchE (gP ps k) x y = false) : nearE ps x y = false := by
  rw [Bool.eq_false_iff]; intro hg
  simp only [nearE, List.any_eq_true, List.mem_range] at hg
  obtain ⟨k, hk, h1⟩ := hg
  rw [h k hk] at h1; exact absurd h1 (by simp)
/-- May two nodes be the values of neighbors? -/
def fitE (ps : List (Int × Int)) (x y : Int) (z : Bool) : Bool := nearE ps x y || z && x == y
theorem fitE_eq (ps : List (Int × Int)) (x y : Int) (z : Bool) : fitE ps x y z = (nearE ps x y || z && x == y) := rfl
def fitB (ps : List (Int × Int)) (x y : Int) (z : Bool) : Bool := nearB ps x y || z && x == y
theorem fitB_eq (ps : List (Int × Int)) (x y : Int) (z : Bool) : fitB ps x y z = (nearB ps x y || z && x == y) := rfl

/-- How two numbers compare. -/
def cmpI (x y : Int) : Int := if x < y then -1 else if y < x then 1 else 0

def or2 (x y : Int) : Int := if x == 0 then y else x
theorem or2_eq (x y : Int) : or2 x y = if x == 0 then y else x := rfl
/-- How two pairs compare. -/
def cmpP (p q : Int × Int) : Int := or2 (cmpI p.1 q.1) (cmpI p.2 q.2)
theorem cmpP_ge (p q : Int × Int) : 0 ≤ cmpP p q ↔ ltP p q = false := by
  unfold cmpP or2 cmpI ltP
  by_cases h1 : p.1 < q.1
  · simp [h1]
  · by_cases h2 : q.1 < p.1
    · simp [h1, h2]; omega
    · have h3 : p.1 = q.1 := by omega
      by_cases h4 : p.2 < q.2
      · simp [h3, h4]
      · by_cases h5 : q.2 < p.2
        · simp [h3, h4, h5]
        · simp [h3, h4, h5]

/-- The first place of a pair, from place k on. -/
def findP (p : Int × Int) : List (Int × Int) → Nat → Int
  | [], _ => -1
  | q :: qs, k => if p = q then k else findP p qs (k + 1)

theorem findP_drop (p : Int × Int) (ps : List (Int × Int)) (k : Nat) (h : k < ps.length) : findP p (ps.drop k) k = if p = gP ps k then (k : Int) else findP p (ps.drop (k + 1)) (k + 1) := by
  rw [List.drop_eq_getElem_cons h, gP_eq ps k h]; rfl

theorem findP_nonneg (p : Int × Int) : ∀ (ps : List (Int × Int)) (k : Nat), 0 ≤ findP p ps k ↔ p ∈ ps
  | [], k => by simp [findP]
  | q :: qs, k => by
    unfold findP
    by_cases h : p = q
    · simp [h]
    · rw [if_neg h, findP_nonneg p qs (k + 1)]; simp [h]
theorem inP_find (ps : List (Int × Int)) (x y : Int) : decide (0 ≤ findP (x, y) ps 0) = inP ps x y := by simp [inP, findP_nonneg]


/-- The first place at which something is so. -/
def idxI {α : Type} (p : α → Bool) : List α → Nat → Int
  | [], _ => -1
  | x :: xs, k => if p x then k else idxI p xs (k + 1)
theorem idxI_drop (p : Int → Bool) (xs : List Int) (k : Nat) (h : k < xs.length) : idxI p (xs.drop k) k = if p (gI xs k) then (k : Int) else idxI p (xs.drop (k + 1)) (k + 1) := by
  rw [List.drop_eq_getElem_cons h, gI_eq xs k h]; rfl
theorem idxI_dropP (p : Int × Int → Bool) (xs : List (Int × Int)) (k : Nat) (h : k < xs.length) : idxI p (xs.drop k) k = if p (gP xs k) then (k : Int) else idxI p (xs.drop (k + 1)) (k + 1) := by
  rw [List.drop_eq_getElem_cons h, gP_eq xs k h]; rfl
theorem idxI_nonneg {α : Type} (p : α → Bool) : ∀ (xs : List α) (k : Nat), 0 ≤ idxI p xs k ↔ xs.any p = true
  | [], k => by simp [idxI]
  | x :: xs, k => by
    unfold idxI
    cases h : p x
    · simp only [Bool.false_eq_true, if_false]
      rw [idxI_nonneg p xs (k + 1)]; simp [h]
    · simp [h]
theorem idxI_any {α : Type} (p : α → Bool) (xs : List α) : decide (0 ≤ idxI p xs 0) = xs.any p := by
  rw [Bool.eq_iff_iff, decide_eq_true_iff, idxI_nonneg]
/-- The neighbors of a node below a bound. -/
def nbrK (ps : List (Int × Int)) (x : Int) (k : Nat) : List Int := ((List.range k).map Int.ofNat).filter fun y => y != x && nearB ps x y
theorem nbrK_zero (ps : List (Int × Int)) (x : Int) : nbrK ps x 0 = [] := rfl
theorem nbrK_yes {ps : List (Int × Int)} {x : Int} {k : Nat} (h1 : ((k : Int) == x) = false) (h2 : nearB ps x k = true) : nbrK ps x (k + 1) = nbrK ps x k ++ [(k : Int)] := by
  have h1' : ((k : Int) != x) = true := by rw [bne, h1]; rfl
  simp [nbrK, List.range_succ, List.filter_append, h1', h2]
theorem nbrK_no {ps : List (Int × Int)} {x : Int} {k : Nat} (h2 : nearB ps x k = false) : nbrK ps x (k + 1) = nbrK ps x k := by
  simp [nbrK, List.range_succ, List.filter_append, h2]
theorem nbrK_self {ps : List (Int × Int)} {x : Int} {k : Nat} (h1 : ((k : Int) == x) = true) : nbrK ps x (k + 1) = nbrK ps x k := by
  have h1' : ((k : Int) != x) = false := by rw [bne, h1]; rfl
  simp [nbrK, List.range_succ, List.filter_append, h1']
theorem nbrK_length (ps : List (Int × Int)) (x : Int) (k : Nat) : (nbrK ps x k).length ≤ k := by
  unfold nbrK
  exact Nat.le_trans (List.length_filter_le _ _) (by simp)

/-! ### All maps, in order; a function that is called for each till it says no -/
def allM (hs : Nat) (ok : List Int → Int → Bool) : Nat → List Int → List (List Int)
  | 0, pre => [pre]
  | m + 1, pre => (List.range hs).flatMap fun (y : Nat) => if ok pre (y : Int) then allM hs ok m (pre ++ [(y : Int)]) else []
def stopFold {σ : Type} (step : σ → List Int → σ × Bool) : σ → List (List Int) → σ × Bool
  | s, [] => (s, true)
  | s, m :: ms => if (step s m).2 then stopFold step (step s m).1 ms else ((step s m).1, false)
theorem stopFold_more {σ : Type} (step : σ → List Int → σ × Bool) (b : List (List Int)) (s1 : σ) : ∀ (a : List (List Int)) (s : σ), stopFold step s a = (s1, true) → stopFold step s (a ++ b) = stopFold step s1 b
  | [], s, h => by
    have : s = s1 := by simpa [stopFold] using h
    subst this; rfl
  | m :: a, s, h => by
    simp only [List.cons_append, stopFold] at h ⊢
    by_cases hs : (step s m).2 = true
    · simp only [hs, if_true] at h ⊢; exact stopFold_more step b s1 a _ h
    · simp [hs] at h
theorem stopFold_stop {σ : Type} (step : σ → List Int → σ × Bool) (b : List (List Int)) (s1 : σ) : ∀ (a : List (List Int)) (s : σ), stopFold step s a = (s1, false) → stopFold step s (a ++ b) = (s1, false)
  | [], s, h => by simp [stopFold] at h
  | m :: a, s, h => by
    simp only [List.cons_append, stopFold] at h ⊢
    by_cases hs : (step s m).2 = true
    · simp only [hs, if_true] at h ⊢; exact stopFold_stop step b s1 a _ h
    · simp only [hs, if_false, Bool.false_eq_true] at h ⊢; exact h
/-- The part of the maps whose next value is below a bound. -/
def someM (hs : Nat) (ok : List Int → Int → Bool) (m : Nat) (pre : List Int) (k : Nat) : List (List Int) :=
  (List.range k).flatMap fun (y : Nat) => if ok pre (y : Int) then allM hs ok m (pre ++ [(y : Int)]) else []
theorem someM_zero (hs : Nat) (ok : List Int → Int → Bool) (m : Nat) (pre : List Int) : someM hs ok m pre 0 = [] := rfl
theorem someM_succ (hs : Nat) (ok : List Int → Int → Bool) (m : Nat) (pre : List Int) (k : Nat) : someM hs ok m pre (k + 1) = someM hs ok m pre k ++ if ok pre (k : Int) then allM hs ok m (pre ++ [(k : Int)]) else [] := by
  simp [someM, List.range_succ]
theorem someM_all (hs : Nat) (ok : List Int → Int → Bool) (m : Nat) (pre : List Int) : allM hs ok (m + 1) pre = someM hs ok m pre hs := rfl
theorem someM_split (hs : Nat) (ok : List Int → Int → Bool) (m : Nat) (pre : List Int) (k : Nat) (hk : k ≤ hs) : ∃ rest, allM hs ok (m + 1) pre = someM hs ok m pre k ++ rest := by
  obtain ⟨d, rfl⟩ : ∃ d, hs = k + d := ⟨hs - k, by omega⟩
  rw [someM_all, someM, List.range_add, List.flatMap_append]
  exact ⟨_, rfl⟩
/-- Does a value suit the neighbors of the next node that have values (as the program asks it)? -/
def okB (gps hps : List (Int × Int)) (n : Nat) (lz : Bool) (pre : List Int) (y : Int) : Bool :=
  !(nbrK gps (pre.length : Int) n).any fun z => decide (z < (pre.length : Int)) && !fitB hps y (gI pre z.toNat) lz

theorem goodG_range {s : Int} {ps : List (Int × Int)} (h : goodG s ps = true) : 0 ≤ s ∧ s ≤ 8 := by
  simp only [goodG, Bool.and_eq_true] at h; exact inB_true.1 h.1
theorem goodM_range {s1 s2 : Int} {ps qs : List (Int × Int)} (h : goodM s1 ps s2 qs = true) : (0 ≤ s1 ∧ s1 ≤ 6) ∧ 0 ≤ s2 ∧ s2 ≤ 8 := by
  simp only [goodM, Bool.and_eq_true, decide_eq_true_eq] at h
  exact ⟨⟨(goodG_range h.1.1).1, h.2⟩, goodG_range h.1.2⟩

theorem stopFold_count (ms : List (List Int)) : ∀ s : Nat, stopFold (fun (s : Nat) _ => (s + 1, true)) s ms = (s + ms.length, true) := by
  induction ms with
  | nil => intro s; rfl
  | cons m ms ih => intro s; simp only [stopFold, if_true, ih, List.length_cons]; congr 1; omega
theorem flat_length {α : Type} (f : Nat → List α) (c : Nat) (h : ∀ k, (f k).length ≤ c) : ∀ n, ((List.range n).flatMap f).length ≤ n * c
  | 0 => by simp
  | n + 1 => by
    rw [List.range_succ, List.flatMap_append, List.length_append, Nat.succ_mul]
    have := flat_length f c h n
    have := h n
    simp only [List.flatMap_cons, List.flatMap_nil, List.append_nil]
    omega
theorem allM_len (hs : Nat) (ok : List Int → Int → Bool) (hh : hs ≤ 8) : ∀ (m : Nat) (pre : List Int), (allM hs ok m pre).length ≤ 8 ^ m
  | 0, pre => by simp [allM]
  | m + 1, pre => by
    have h1 := flat_length (fun y => if ok pre (y : Int) then allM hs ok m (pre ++ [(y : Int)]) else []) (8 ^ m) (fun k => by
      split
      · exact allM_len hs ok hh m _
      · simp) hs
    rw [allM, Nat.pow_succ]
    refine Nat.le_trans h1 ?_
    rw [Nat.mul_comm]
    exact Nat.mul_le_mul_left _ hh
theorem allM_length (hs : Nat) (ok : List Int → Int → Bool) (hh : hs ≤ 8) (m : Nat) (pre : List Int) (hm : m ≤ 8) : (allM hs ok m pre).length ≤ 16777216 :=
  Nat.le_trans (allM_len hs ok hh m pre) (Nat.le_trans (Nat.pow_le_pow_right (by omega) hm) (by decide))
end Go.Proofs.Ytkfbkflneppggaa
