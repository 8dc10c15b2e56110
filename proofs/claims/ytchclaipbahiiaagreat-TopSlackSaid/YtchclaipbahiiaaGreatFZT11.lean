/-
  Plain laws of chains of arbors (no program in sight): where all arbors are before the first move, and after a move.
  Plain laws of pieces: plays that are tried, truths, and what all truths have (no program in sight).
  Base words of these seats' walks: what slices that are only read hold; regions that draw their order; boxes; owned rows.
  What the types of these seats hold; pieces in memory.
  Small functions: ranges, spans, what is as defined; contracts.
  Plain laws of bounds, of lost motion, and of a crank that is turned on and back (no program in sight).
  Plain laws of truths: a reading more, a play that is known, how many are left (no program in sight).
  Plain laws of hands, and of aims (no program in sight).
  Whether a list holds something that is not as defined: contracts, a copy for each closure (printed by slkfunc.py).
  The nearest train, plain: as the program finds it.
  Small functions of the layers that the top statements join: contracts (printed by top.py).
  What is a piece, and plays: contracts (printed by slkc3.py).
  A move, arbor by arbor; no program in sight.
  Which truths the program's search yields, and in which order; no program in sight.
-/
import Derived.Test.YtchclaipbahiiaaGreatProg
import Derived.WalkKit
import Derived.WalkSpells
import Derived.WalkLawsBesides
import Derived.Handy
import Derived.Deep.QuietTactic
import Derived.BigQuiet
import Derived.Outline
import Derived.Below
import Derived.Lib.Hide
import Derived.Maps.RangeWalk
import Derived.StillTailTactics
import Derived.WalkMore
import Derived.Deep.RegionHeld3
import Derived.Deep.Cut
import Derived.RangeFuncBox
section
namespace Go.Proofs.YtchclaipbahiiaaGreat
def gi (xs : List Int) (i : Nat) : Int := xs.getD i 0
theorem gi_range (f : Nat → Int) (n i : Nat) (h : i < n) : gi ((List.range n).map f) i = f i := by
  unfold gi; rw [List.getD_eq_getElem?_getD, List.getElem?_map, List.getElem?_range h]; rfl
theorem gi_get (xs : List Int) (i : Nat) (h : i < xs.length) : gi xs i = xs[i] := by
  unfold gi; rw [List.getD_eq_getElem?_getD, List.getElem?_eq_getElem h]; rfl
theorem gi_ext {a b : List Int} (hl : a.length = b.length) (h : ∀ i, i < a.length → gi a i = gi b i) : a = b := by
  refine List.ext_getElem hl fun i h1 h2 => ?_
  have := h i h1
  rwa [gi_get _ _ h1, gi_get _ _ h2] at this
def sumT (pl : List Int) : Nat → Int
  | 0 => 0
  | k + 1 => sumT pl k + gi pl k
def Pos (pl : List Int) : Prop := ∀ i, i < pl.length → 0 ≤ gi pl i
theorem sumT_mono {pl : List Int} (h : Pos pl) : ∀ j k, j ≤ k → k ≤ pl.length → sumT pl j ≤ sumT pl k := by
  intro j k hjk
  induction k with
  | zero => intro _; obtain rfl : j = 0 := by omega
            exact Int.le_refl _
  | succ k ih =>
    intro hk
    by_cases e : j = k + 1
    · subst e; exact Int.le_refl _
    · have := ih (by omega) (by omega)
      have := h k (by omega); simp only [sumT]; omega
theorem sumT_pos {pl : List Int} (h : Pos pl) (k : Nat) (hk : k ≤ pl.length) : 0 ≤ sumT pl k := sumT_mono h 0 k (Nat.zero_le _) hk
structure Chain (pl pc : List Int) : Prop where
  len : pc.length = pl.length + 1
  le : ∀ i, i < pl.length → gi pc (i + 1) ≤ gi pc i
  ge : ∀ i, i < pl.length → gi pc i - gi pl i ≤ gi pc (i + 1)
theorem Chain.top {pl pc : List Int} (h : Chain pl pc) : ∀ k, k ≤ pl.length → gi pc k ≤ gi pc 0 := by
  intro k
  induction k with
  | zero => intro _; exact Int.le_refl _
  | succ k ih => intro hk; have := ih (by omega); have := h.le k (by omega); omega
theorem Chain.low {pl pc : List Int} (h : Chain pl pc) : ∀ k, k ≤ pl.length → gi pc 0 - sumT pl k ≤ gi pc k := by
  intro k
  induction k with
  | zero => intro _; simp [sumT]
  | succ k ih => intro hk; have := ih (by omega); have := h.ge k (by omega); simp only [sumT]; omega
def begF (pl : List Int) : List Int := (List.range (pl.length + 1)).map fun k => -sumT pl k
theorem begF_len (pl : List Int) : (begF pl).length = pl.length + 1 := by simp [begF]
theorem begF_at (pl : List Int) (k : Nat) (h : k ≤ pl.length) : gi (begF pl) k = -sumT pl k := gi_range _ _ _ (by omega)
theorem begF_chain {pl : List Int} (h : Pos pl) : Chain pl (begF pl) := by
  refine ⟨begF_len pl, fun i hi => ?_, fun i hi => ?_⟩
  · rw [begF_at pl i (by omega), begF_at pl (i + 1) (by omega)]
    have := h i hi; simp only [sumT]; omega
  · rw [begF_at pl i (by omega), begF_at pl (i + 1) (by omega)]
    simp only [sumT]; omega
def mvF (pl pc : List Int) (m : Int) : List Int := (List.range (pl.length + 1)).map fun k => if 0 ≤ m then max (gi pc k) (gi pc 0 + m - sumT pl k) else min (gi pc k) (gi pc 0 + m)
theorem mvF_len (pl pc : List Int) (m : Int) : (mvF pl pc m).length = pl.length + 1 := by simp [mvF]
theorem mvF_on {pl pc : List Int} {m : Int} (hm : 0 ≤ m) (k : Nat) (h : k ≤ pl.length) : gi (mvF pl pc m) k = max (gi pc k) (gi pc 0 + m - sumT pl k) := by
  unfold mvF; rw [gi_range _ _ _ (by omega), if_pos hm]
theorem mvF_back {pl pc : List Int} {m : Int} (hm : ¬ 0 ≤ m) (k : Nat) (h : k ≤ pl.length) : gi (mvF pl pc m) k = min (gi pc k) (gi pc 0 + m) := by
  unfold mvF; rw [gi_range _ _ _ (by omega), if_neg hm]
theorem mvF_zero (pl pc : List Int) (m : Int) : gi (mvF pl pc m) 0 = gi pc 0 + m := by
  by_cases hm : 0 ≤ m
  · rw [mvF_on hm 0 (Nat.zero_le _)]; simp only [sumT]; omega
  · rw [mvF_back hm 0 (Nat.zero_le _)]; omega
theorem mvF_stepOn {pl pc : List Int} {m : Int} (hc : Chain pl pc) (hm : 0 ≤ m) (k : Nat) (h : k < pl.length) : gi (mvF pl pc m) (k + 1) = max (gi pc (k + 1)) (gi (mvF pl pc m) k - gi pl k) := by
  rw [mvF_on hm k (by omega), mvF_on hm (k + 1) (by omega)]; have := hc.ge k h; simp only [sumT]; omega
theorem mvF_chain {pl pc : List Int} (hp : Pos pl) (hc : Chain pl pc) (m : Int) : Chain pl (mvF pl pc m) := by
  refine ⟨mvF_len _ _ _, fun i hi => ?_, fun i hi => ?_⟩
  · have h1 := hc.le i hi
    have h2 := hp i hi
    by_cases hm : 0 ≤ m
    · rw [mvF_on hm i (by omega), mvF_on hm (i + 1) (by omega)]; simp only [sumT]; omega
    · rw [mvF_back hm i (by omega), mvF_back hm (i + 1) (by omega)]; omega
  · have h1 := hc.ge i hi
    have h2 := hp i hi
    by_cases hm : 0 ≤ m
    · rw [mvF_on hm i (by omega), mvF_on hm (i + 1) (by omega)]; simp only [sumT]; omega
    · rw [mvF_back hm i (by omega), mvF_back hm (i + 1) (by omega)]; omega
def runF (pl mv : List Int) : Nat → List Int
  | 0 => begF pl
  | k + 1 => mvF pl (runF pl mv k) (gi mv k)
theorem runF_chain {pl : List Int} (hp : Pos pl) (mv : List Int) : ∀ k, Chain pl (runF pl mv k) := by
  intro k
  induction k with
  | zero => exact begF_chain hp
  | succ k ih => exact mvF_chain hp ih _
theorem runF_zero (pl mv : List Int) : ∀ k, gi (runF pl mv k) 0 = sumT mv k := by
  intro k
  induction k with
  | zero => show gi (begF pl) 0 = _; rw [begF_at pl 0 (Nat.zero_le _)]; simp [sumT]
  | succ k ih => show gi (mvF pl (runF pl mv k) (gi mv k)) 0 = _; rw [mvF_zero, ih]; rfl
def mostF (mv : List Int) : Nat → Int
  | 0 => 0
  | k + 1 => max (mostF mv k) (sumT mv (k + 1))
theorem runF_most {pl : List Int} (mv : List Int) : ∀ i k, k ≤ pl.length → gi (runF pl mv i) k ≤ mostF mv i - sumT pl k := by
  intro i
  induction i with
  | zero => intro k hk; show gi (begF pl) k ≤ _; rw [begF_at pl k hk]; simp [mostF]
  | succ i ih =>
    intro k hk; have h1 := ih k hk; have h0 := runF_zero pl mv i; show gi (mvF pl (runF pl mv i) (gi mv i)) k ≤ _; have hs : sumT mv (i + 1) = sumT mv i + gi mv i := rfl
    by_cases hm : 0 ≤ gi mv i
    · rw [mvF_on hm k hk, h0]; simp only [mostF]; omega
    · rw [mvF_back hm k hk, h0]; simp only [mostF]; omega
theorem runF_full {pl : List Int} (hp : Pos pl) (mv : List Int) {i : Nat} (h : mostF mv i ≤ sumT mv i) (k : Nat) (hk : k ≤ pl.length) : gi (runF pl mv i) k = sumT mv i - sumT pl k := by
  have h1 := runF_most (pl := pl) mv i k hk; have h2 := (runF_chain hp mv i).low k hk; rw [runF_zero] at h2; omega
def rng (lo hi : Int) : List Int := (List.range (hi - lo + 1).toNat).map fun (k : Nat) => lo + (k : Int)
theorem mem_rng {lo hi n : Int} : n ∈ rng lo hi ↔ lo ≤ n ∧ n ≤ hi := by
  unfold rng; simp only [List.mem_map, List.mem_range]
  constructor
  · rintro ⟨k, hk, rfl⟩; omega
  · rintro ⟨h1, h2⟩; exact ⟨(n - lo).toNat, by omega, by omega⟩
theorem rng_len (lo hi : Int) : (rng lo hi).length = (hi - lo + 1).toNat := by simp [rng]
structure Rd where
  aft : Int
  arb : Int
  seen : Int
  off : Int
deriving DecidableEq
structure Pc where
  ms : List (Int × Int)
  mv : List Int
  rs : List Rd
def gm (l : List (Int × Int)) (i : Nat) : Int × Int := l.getD i (0, 0)
def rd0 : Rd := ⟨0, 0, 0, 0⟩
def gr (l : List Rd) (i : Nat) : Rd := l.getD i rd0
theorem gm_get (xs : List (Int × Int)) (i : Nat) (h : i < xs.length) : gm xs i = xs[i] := by
  unfold gm; rw [List.getD_eq_getElem?_getD, List.getElem?_eq_getElem h]; rfl
def inB (n lo hi : Int) : Bool := decide (lo ≤ n) && decide (n ≤ hi)
theorem inB_iff {n lo hi : Int} : inB n lo hi = true ↔ lo ≤ n ∧ n ≤ hi := by unfold inB; simp
def meshB (m : Int × Int) : Bool := decide (0 ≤ m.1) && decide (m.1 ≤ m.2) && decide (m.2 ≤ 100) && decide (m.2 - m.1 ≤ 4)
def readB (n k : Nat) (r : Rd) : Bool := inB r.aft 0 k && inB r.arb 1 n && inB r.seen (-5000) 5000 && inB r.off 0 50
def sizesB (p : Pc) : Bool := decide (1 ≤ p.ms.length) && decide (p.ms.length ≤ 4) && decide (p.mv.length ≤ 8) && decide (p.rs.length ≤ 6)
def pieceB (p : Pc) : Bool := sizesB p && p.ms.all meshB && p.mv.all (fun x => inB x (-300) 300) && p.rs.all (readB p.ms.length p.mv.length)
structure PieceOk (p : Pc) : Prop where
  n1 : 1 ≤ p.ms.length
  n4 : p.ms.length ≤ 4
  m8 : p.mv.length ≤ 8
  r6 : p.rs.length ≤ 6
  mesh : ∀ i, i < p.ms.length → 0 ≤ (gm p.ms i).1 ∧ (gm p.ms i).1 ≤ (gm p.ms i).2 ∧ (gm p.ms i).2 ≤ 100 ∧ (gm p.ms i).2 - (gm p.ms i).1 ≤ 4
  move : ∀ i, i < p.mv.length → -300 ≤ gi p.mv i ∧ gi p.mv i ≤ 300
  read : ∀ i, i < p.rs.length → (0 ≤ (gr p.rs i).aft ∧ (gr p.rs i).aft ≤ p.mv.length) ∧ (1 ≤ (gr p.rs i).arb ∧ (gr p.rs i).arb ≤ p.ms.length) ∧ (-5000 ≤ (gr p.rs i).seen ∧ (gr p.rs i).seen ≤ 5000) ∧ (0 ≤ (gr p.rs i).off ∧ (gr p.rs i).off ≤ 50)
theorem all_at {α : Type} {f : α → Bool} (d : α) (l : List α) : l.all f = true ↔ ∀ i, i < l.length → f (l.getD i d) = true := by
  rw [List.all_eq_true]
  constructor
  · intro h i hi
    rw [List.getD_eq_getElem?_getD, List.getElem?_eq_getElem hi]; exact h _ (List.getElem_mem hi)
  · intro h x hx
    obtain ⟨i, hi, rfl⟩ := List.getElem_of_mem hx; have := h i hi
    rwa [List.getD_eq_getElem?_getD, List.getElem?_eq_getElem hi] at this
theorem pieceB_iff {p : Pc} : pieceB p = true ↔ PieceOk p := by
  unfold pieceB sizesB; simp only [Bool.and_eq_true, decide_eq_true_eq]; rw [all_at (0, 0), all_at 0, all_at rd0]
  constructor
  · rintro ⟨⟨⟨⟨⟨⟨h1, h2⟩, h3⟩, h4⟩, h5⟩, h6⟩, h7⟩
    refine ⟨h1, h2, h3, h4, fun i hi => ?_, fun i hi => inB_iff.1 (h6 i hi), fun i hi => ?_⟩
    · have := h5 i hi
      unfold meshB at this; simp only [Bool.and_eq_true, decide_eq_true_eq] at this; exact ⟨this.1.1.1, this.1.1.2, this.1.2, this.2⟩
    · have := h7 i hi
      unfold readB at this; simp only [Bool.and_eq_true, inB_iff] at this; exact ⟨this.1.1.1, this.1.1.2, this.1.2, this.2⟩
  · intro h
    refine ⟨⟨⟨⟨⟨⟨h.n1, h.n4⟩, h.m8⟩, h.r6⟩, fun i hi => ?_⟩, fun i hi => inB_iff.2 (h.move i hi)⟩, fun i hi => ?_⟩
    · have := h.mesh i hi
      unfold meshB; simp only [Bool.and_eq_true, decide_eq_true_eq]; exact ⟨⟨⟨this.1, this.2.1⟩, this.2.2.1⟩, this.2.2.2⟩
    · have := h.read i hi
      unfold readB; simp only [Bool.and_eq_true, inB_iff]; exact ⟨⟨⟨this.1, this.2.1⟩, this.2.2.1⟩, this.2.2.2⟩
def playsB (p : Pc) (pl : List Int) : Bool := decide (pl.length = p.ms.length) && pl.all (fun n => inB n 0 100)
structure PlaysOk (p : Pc) (pl : List Int) : Prop where
  len : pl.length = p.ms.length
  in' : ∀ i, i < pl.length → 0 ≤ gi pl i ∧ gi pl i ≤ 100
theorem playsB_iff {p : Pc} {pl : List Int} : playsB p pl = true ↔ PlaysOk p pl := by
  unfold playsB; simp only [Bool.and_eq_true, decide_eq_true_eq]; rw [all_at 0]; exact ⟨fun h => ⟨h.1, fun i hi => inB_iff.1 (h.2 i hi)⟩, fun h => ⟨h.len, fun i hi => inB_iff.2 (h.in' i hi)⟩⟩
theorem PlaysOk.pos {p : Pc} {pl : List Int} (h : PlaysOk p pl) : Pos pl := fun i hi => (h.in' i hi).1
def withinB (p : Pc) (pl : List Int) : Bool := (List.range pl.length).all fun i => inB (gi pl i) (gm p.ms i).1 (gm p.ms i).2
theorem withinB_iff {p : Pc} {pl : List Int} : withinB p pl = true ↔ ∀ i, i < pl.length → (gm p.ms i).1 ≤ gi pl i ∧ gi pl i ≤ (gm p.ms i).2 := by
  unfold withinB; rw [List.all_eq_true]; exact ⟨fun h i hi => inB_iff.1 (h i (List.mem_range.2 hi)), fun h i hi => inB_iff.2 (h i (List.mem_range.1 hi))⟩
def agreeB (pl mv : List Int) (r : Rd) : Bool := inB (gi (runF pl mv r.aft.toNat) r.arb.toNat) (r.seen - r.off) (r.seen + r.off)
def fitsB (p : Pc) (pl : List Int) : Bool := withinB p pl && p.rs.all (agreeB pl p.mv)
def prodF : List (Int × Int) → List (List Int)
  | [] => [[]]
  | m :: r => (rng m.1 m.2).flatMap fun n => (prodF r).map (n :: ·)
theorem mem_prodF : ∀ {ms : List (Int × Int)} {pl : List Int}, pl ∈ prodF ms ↔ pl.length = ms.length ∧ ∀ i, i < pl.length → (gm ms i).1 ≤ gi pl i ∧ gi pl i ≤ (gm ms i).2 := by
  intro ms
  induction ms with
  | nil =>
    intro pl; simp only [prodF, List.mem_singleton]
    constructor
    · rintro rfl; exact ⟨rfl, fun i hi => absurd hi (Nat.not_lt_zero _)⟩
    · rintro ⟨h, _⟩; exact List.length_eq_zero_iff.1 h
  | cons m r ih =>
    intro pl; simp only [prodF, List.mem_flatMap, List.mem_map, mem_rng]
    constructor
    · rintro ⟨n, hn, a, ha, rfl⟩
      obtain ⟨h1, h2⟩ := ih.1 ha; refine ⟨by simp [h1], fun i hi => ?_⟩
      cases i with
      | zero => exact hn
      | succ i => exact h2 i (by simpa using hi)
    · rintro ⟨h1, h2⟩
      cases pl with
      | nil => simp at h1
      | cons n a =>
        refine ⟨n, h2 0 (by simp), a, ih.2 ⟨by simpa using h1, fun i hi => ?_⟩, rfl⟩; exact h2 (i + 1) (by simpa using hi)
def subF (p : Pc) (a : List Int) : List (List Int) := (prodF (p.ms.drop a.length)).map (a ++ ·)
theorem subF_nil (p : Pc) : subF p [] = prodF p.ms := by
  unfold subF
  simp
theorem subF_end (p : Pc) (a : List Int) (h : a.length = p.ms.length) : subF p a = [a] := by
  unfold subF; rw [List.drop_eq_nil_of_le (by omega)]; simp [prodF]
theorem subF_step (p : Pc) (a : List Int) (h : a.length < p.ms.length) : subF p a = (rng (gm p.ms a.length).1 (gm p.ms a.length).2).flatMap fun n => subF p (a ++ [n]) := by
  unfold subF; rw [List.drop_eq_getElem_cons h, prodF, gm_get _ _ h, List.map_flatMap]
  congr 1
  funext n
  rw [List.map_map, List.length_append, List.length_singleton]
  congr 1
  funext x
  simp
def truthsF (p : Pc) : List (List Int) := (prodF p.ms).filter (fitsB p)
theorem mem_truthsF {p : Pc} {pl : List Int} : pl ∈ truthsF p ↔ pl.length = p.ms.length ∧ fitsB p pl = true := by
  unfold truthsF; rw [List.mem_filter, mem_prodF]
  constructor
  · rintro ⟨⟨h1, _⟩, h3⟩; exact ⟨h1, h3⟩
  · rintro ⟨h1, h2⟩
    refine ⟨⟨h1, ?_⟩, h2⟩; unfold fitsB at h2; rw [Bool.and_eq_true] at h2; exact withinB_iff.1 h2.1
def endF (p : Pc) (pl : List Int) : List Int := runF pl p.mv p.mv.length
def stepO (s m : Int × Int) : Int × Int := (min s.1 m.1, max s.2 m.2)
def overF : List (Int × Int) → Int × Int
  | [] => (0, 0)
  | x :: r => r.foldl stepO x
theorem overF_snoc (l : List (Int × Int)) (m : Int × Int) : overF (l ++ [m]) = if l = [] then m else (min (overF l).1 m.1, max (overF l).2 m.2) := by
  cases l with
  | nil => rfl
  | cons x r => rw [if_neg (by simp)]; simp only [List.cons_append, overF, List.foldl_append]; rfl
theorem overF_fold : ∀ (r : List (Int × Int)) (x F : Int × Int), r.foldl stepO x = F → F.1 ≤ x.1 ∧ x.2 ≤ F.2 ∧ (∀ m ∈ r, F.1 ≤ m.1 ∧ m.2 ≤ F.2) ∧ (F.1 = x.1 ∨ ∃ m ∈ r, F.1 = m.1) ∧ (F.2 = x.2 ∨ ∃ m ∈ r, F.2 = m.2) := by
  intro r
  induction r with
  | nil => intro x F e; cases e; exact ⟨Int.le_refl _, Int.le_refl _, (fun m h => by cases h), .inl rfl, .inl rfl⟩
  | cons y r ih =>
    intro x F e; obtain ⟨h1, h2, h3, h4, h5⟩ := ih (stepO x y) F e; unfold stepO at h1 h2 h4 h5; simp only at h1 h2 h4 h5; have a1 : F.1 ≤ x.1 ∧ F.1 ≤ y.1 := by clear h4 h5; omega
    have a2 : x.2 ≤ F.2 ∧ y.2 ≤ F.2 := by clear h4 h5; omega
    refine ⟨a1.1, a2.1, fun m hm => ?_, ?_, ?_⟩
    · rcases List.mem_cons.1 hm with rfl | hm
      · exact ⟨a1.2, a2.2⟩
      · exact h3 m hm
    · clear h5
      rcases h4 with h4 | ⟨m, hm, e⟩
      · by_cases hh : x.1 ≤ y.1
        · exact .inl (by omega)
        · exact .inr ⟨y, List.mem_cons_self, by omega⟩
      · exact .inr ⟨m, List.mem_cons_of_mem _ hm, e⟩
    · clear h4
      rcases h5 with h5 | ⟨m, hm, e⟩
      · by_cases hh : y.2 ≤ x.2
        · exact .inl (by omega)
        · exact .inr ⟨y, List.mem_cons_self, by omega⟩
      · exact .inr ⟨m, List.mem_cons_of_mem _ hm, e⟩
theorem overF_mem {l : List (Int × Int)} {m : Int × Int} (h : m ∈ l) : (overF l).1 ≤ m.1 ∧ m.2 ≤ (overF l).2 := by
  cases l with
  | nil => cases h
  | cons x r =>
    have f := overF_fold r x _ rfl
    rcases List.mem_cons.1 h with rfl | h
    · exact ⟨f.1, f.2.1⟩
    · exact f.2.2.1 m h
theorem overF_low {l : List (Int × Int)} (h : l ≠ []) : ∃ m ∈ l, (overF l).1 = m.1 := by
  cases l with
  | nil => exact absurd rfl h
  | cons x r =>
    rcases (overF_fold r x _ rfl).2.2.2.1 with e | ⟨m, hm, e⟩
    · exact ⟨x, List.mem_cons_self, e⟩
    · exact ⟨m, List.mem_cons_of_mem _ hm, e⟩
theorem overF_high {l : List (Int × Int)} (h : l ≠ []) : ∃ m ∈ l, (overF l).2 = m.2 := by
  cases l with
  | nil => exact absurd rfl h
  | cons x r =>
    rcases (overF_fold r x _ rfl).2.2.2.2 with e | ⟨m, hm, e⟩
    · exact ⟨x, List.mem_cons_self, e⟩
    · exact ⟨m, List.mem_cons_of_mem _ hm, e⟩
end Go.Proofs.YtchclaipbahiiaaGreat
end

section
namespace Go.Proofs.YtchclaipbahiiaaGreat
open Go Go.RowKit Go.Proofs
set_option linter.unusedVariables false
def RdI (w : World) (p : Option Addr) (xs : List Int) : Prop :=
  xs = [] ∨ ∃ b off, p = some ⟨b, off, none⟩ ∧ ∀ i, i < xs.length → w.cell? ⟨b, off + i, none⟩ = some (.int .i64 (gi xs i))
theorem lt_of_cellq {w : World} {a : Addr} {v : Value} (h : w.cell? a = some v) : a.block < w.heap.size := World.block_lt_of_cell? _ _ h
theorem RdI.below {w w' : World} {p : Option Addr} {xs : List Int} (h : RdI w p xs) (hb : Below w.heap.size w w') : RdI w' p xs := by
  rcases h with h | ⟨b, off, rfl, hc⟩
  · exact .inl h
  · refine .inr ⟨b, off, rfl, fun i hi => ?_⟩
    have := hc i hi; exact (hb.cell (lt_of_cellq this)).trans this
theorem RdI.at {w : World} {p : Option Addr} {xs : List Int} (h : RdI w p xs) {i : Nat} (hi : i < xs.length) :
    ∃ b off, p = some ⟨b, off, none⟩ ∧ ∀ i, i < xs.length → w.cell? ⟨b, off + i, none⟩ = some (.int .i64 (gi xs i)) := by
  rcases h with h | h
  · subst h; simp at hi
  · exact h
theorem imax2 (m n : Int) [Decidable (m < n)] : (if m < n then n else m) = max m n := by split <;> omega
theorem imin2 (m n : Int) [Decidable (n < m)] : (if n < m then n else m) = min m n := by split <;> omega
theorem w64 (x : Int) (h1 : -9223372036854775808 ≤ x) (h2 : x ≤ 9223372036854775807) : IntKind.i64.wrap x = x := IntWalk.i64_in _ ⟨h1, h2⟩
section
variable {P : Program} {C : World → Prop} {K : Act → Prop} {a : Act} {ops : Array Oper} {Q : Act → Prop} {o : Oper} {rest : List Oper}
theorem wq (hw : Region.wanted o (yielded ops a.tmps) = true) (h : o.quiet P a C (wpQuiet P ops C Q rest)) : wpQuiet P ops C Q (o :: rest) a := by
  unfold wpQuiet; rw [if_pos hw]; exact h
theorem q_val (v : Value) (hrun : ∀ w, C w → (execOp a.eval o).run P w = .ok (.value v) w) (hk : K (a.put o.dst v)) : o.quiet P a C K :=
  ⟨v, fun w hw => by unfold Oper.quietAt; rw [hrun w hw]; exact ⟨rfl, rfl⟩, hk⟩
theorem q_call (v : Value) (f : FuncId) (args : Array Value) (hrun : ∀ w, C w → (execOp a.eval o).run P w = .ok (.enter f args) w)
    (hc : ∀ w, C w → Calls P f args w fun e w' => e = .returned v ∧ C w') (hk : K (a.put o.dst v)) : o.quiet P a C K :=
  ⟨v, fun w hw => by unfold Oper.quietAt; rw [hrun w hw]; exact ⟨rfl, hc w hw⟩, hk⟩
variable {d : Nat} {x y : Operand} {t t' ty : TypeId} {pos : String} {af : Array Edge} {g : Option (Nat × Bool)} {m n : Int}
theorem q_add (hx : a.eval x = .int .i64 m) (hy : a.eval y = .int .i64 n) (h1 : -9223372036854775808 ≤ m + n) (h2 : m + n ≤ 9223372036854775807)
    (hk : K (a.put (some d) (.int .i64 (m + n)))) : Oper.quiet P ⟨some d, .binOp .add t x y t', ty, pos, af, g⟩ a C K :=
  q_val (o := ⟨some d, .binOp .add t x y t', ty, pos, af, g⟩) (.int .i64 (m + n)) (fun w _ => by unfold execOp; dsimp only; rw [hx, hy]; simp [go_sem, w64 _ h1 h2]) hk
theorem q_sub (hx : a.eval x = .int .i64 m) (hy : a.eval y = .int .i64 n) (h1 : -9223372036854775808 ≤ m - n) (h2 : m - n ≤ 9223372036854775807)
    (hk : K (a.put (some d) (.int .i64 (m - n)))) : Oper.quiet P ⟨some d, .binOp .sub t x y t', ty, pos, af, g⟩ a C K :=
  q_val (o := ⟨some d, .binOp .sub t x y t', ty, pos, af, g⟩) (.int .i64 (m - n)) (fun w _ => by unfold execOp; dsimp only; rw [hx, hy]; simp [go_sem, w64 _ h1 h2]) hk
theorem q_mul (hx : a.eval x = .int .i64 m) (hy : a.eval y = .int .i64 n) (h1 : -9223372036854775808 ≤ m * n) (h2 : m * n ≤ 9223372036854775807)
    (hk : K (a.put (some d) (.int .i64 (m * n)))) : Oper.quiet P ⟨some d, .binOp .mul t x y t', ty, pos, af, g⟩ a C K :=
  q_val (o := ⟨some d, .binOp .mul t x y t', ty, pos, af, g⟩) (.int .i64 (m * n)) (fun w _ => by unfold execOp; dsimp only; rw [hx, hy]; simp [go_sem, w64 _ h1 h2]) hk
theorem q_rem (hx : a.eval x = .int .i64 m) (hy : a.eval y = .int .i64 n) (h0 : 0 ≤ m) (h1 : 1 ≤ n)
    (hk : K (a.put (some d) (.int .i64 (m % n)))) : Oper.quiet P ⟨some d, .binOp .rem t x y t', ty, pos, af, g⟩ a C K :=
  q_val (o := ⟨some d, .binOp .rem t x y t', ty, pos, af, g⟩) (.int .i64 (m % n)) (fun w _ => by
    have hn : ¬ n = 0 := by omega
    have e : m.tmod n = m % n := Int.tmod_eq_emod_of_nonneg h0; unfold execOp; dsimp only; rw [hx, hy]; simp [go_sem, hn, e]) hk
theorem wq_add (hw : Region.wanted ⟨some d, .binOp .add t x y t', ty, pos, af, g⟩ (yielded ops a.tmps) = true) (hx : a.eval x = .int .i64 m) (hy : a.eval y = .int .i64 n) (h1 : -9223372036854775808 ≤ m + n) (h2 : m + n ≤ 9223372036854775807)
    (hk : wpQuiet P ops C Q rest (a.put (some d) (.int .i64 (m + n)))) : wpQuiet P ops C Q (⟨some d, .binOp .add t x y t', ty, pos, af, g⟩ :: rest) a := wq hw (q_add hx hy h1 h2 hk)
theorem wq_sub (hw : Region.wanted ⟨some d, .binOp .sub t x y t', ty, pos, af, g⟩ (yielded ops a.tmps) = true) (hx : a.eval x = .int .i64 m) (hy : a.eval y = .int .i64 n) (h1 : -9223372036854775808 ≤ m - n) (h2 : m - n ≤ 9223372036854775807)
    (hk : wpQuiet P ops C Q rest (a.put (some d) (.int .i64 (m - n)))) : wpQuiet P ops C Q (⟨some d, .binOp .sub t x y t', ty, pos, af, g⟩ :: rest) a := wq hw (q_sub hx hy h1 h2 hk)
theorem wq_mul (hw : Region.wanted ⟨some d, .binOp .mul t x y t', ty, pos, af, g⟩ (yielded ops a.tmps) = true) (hx : a.eval x = .int .i64 m) (hy : a.eval y = .int .i64 n) (h1 : -9223372036854775808 ≤ m * n) (h2 : m * n ≤ 9223372036854775807)
    (hk : wpQuiet P ops C Q rest (a.put (some d) (.int .i64 (m * n)))) : wpQuiet P ops C Q (⟨some d, .binOp .mul t x y t', ty, pos, af, g⟩ :: rest) a := wq hw (q_mul hx hy h1 h2 hk)
theorem wq_rem (hw : Region.wanted ⟨some d, .binOp .rem t x y t', ty, pos, af, g⟩ (yielded ops a.tmps) = true) (hx : a.eval x = .int .i64 m) (hy : a.eval y = .int .i64 n) (h0 : 0 ≤ m) (h1 : 1 ≤ n)
    (hk : wpQuiet P ops C Q rest (a.put (some d) (.int .i64 (m % n)))) : wpQuiet P ops C Q (⟨some d, .binOp .rem t x y t', ty, pos, af, g⟩ :: rest) a := wq hw (q_rem hx hy h0 h1 hk)
theorem run_ix {e : TypeId} {sz : Nat} (hu : P.underlying t = some (.slice e)) (hs : ((P.info? e).map fun i => i.size) = some sz) (ad : Addr) (len cap : Nat) (k : IntKind) (n : Int) (h0 : 0 ≤ n) (h1 : n < len) (w : World) :
    (Instr.indexAt t (.slice (some ad) len cap) (.int k n)).run P w = .ok (.pointer (some (ad.add (n.toNat * sz)))) w := by
  cases hi : P.info? e with
  | none => rw [hi] at hs; cases hs
  | some i =>
    rw [hi] at hs; simp only [Option.map_some, Option.some.injEq] at hs; subst hs; have hb : 0 ≤ n ∧ n < len := ⟨h0, h1⟩; simp [Instr.indexAt, go_sem, run_underlying hu, hb, sizeOf, typeInfo, hi]
theorem wq_ix {e : TypeId} {sz : Nat} (hu : P.underlying t = some (.slice e)) (hs : ((P.info? e).map fun i => i.size) = some sz)
    (hw : Region.wanted ⟨some d, .indexAddr t x y, ty, pos, af, g⟩ (yielded ops a.tmps) = true) {b off len cap j : Nat} (hx : a.eval x = .slice (some ⟨b, off, none⟩) len cap) (hy : a.eval y = .int .i64 (j : Int)) (h1 : j < len)
    (hk : wpQuiet P ops C Q rest (a.put (some d) (.pointer (some ⟨b, off + j * sz, none⟩)))) : wpQuiet P ops C Q (⟨some d, .indexAddr t x y, ty, pos, af, g⟩ :: rest) a :=
  wq hw (q_val (o := ⟨some d, .indexAddr t x y, ty, pos, af, g⟩) (.pointer (some ⟨b, off + j * sz, none⟩)) (fun w _ => by
    have h := run_ix (P := P) (t := t) hu hs ⟨b, off, none⟩ len cap .i64 (j : Int) (by omega) (by omega) w; unfold execOp; dsimp only; rw [hx, hy]; simp only [Sem.run_bind, h, Result.andThen]
    have e1 : (Addr.add ⟨b, off, none⟩ ((j : Int).toNat * sz)) = ⟨b, off + j * sz, none⟩ := by
      unfold Addr.add; rw [Int.toNat_natCast]
      split
      · rename_i h0; rw [h0]; rfl
      · rfl
    rw [e1]; rfl) hk)
theorem wq_ld (hag : ∀ w, (isAgg t).run P w = .ok false w) (hw : Region.wanted ⟨some d, .load t x, ty, pos, af, g⟩ (yielded ops a.tmps) = true) {ad : Addr} {v : Value} (hx : a.eval x = .pointer (some ad)) (hc : ∀ w, C w → w.cell? ad = some v)
    (hk : wpQuiet P ops C Q rest (a.put (some d) v)) : wpQuiet P ops C Q (⟨some d, .load t x, ty, pos, af, g⟩ :: rest) a :=
  wq hw (q_val (o := ⟨some d, .load t x, ty, pos, af, g⟩) v (fun w hw => by
    have hc' := hc w hw; unfold execOp; dsimp only; rw [hx]; simp [Instr.loadAt, Instr.sureAddr, loadVar, hag, go_sem, hc']) hk)
theorem wq_lda {sz : Nat} (hag : ∀ w, (isAgg t).run P w = .ok true w) (hs : ((P.info? t).map fun i => i.size) = some sz) (hw : Region.wanted ⟨some d, .load t x, ty, pos, af, g⟩ (yielded ops a.tmps) = true) {ad : Addr} {cs : List Value} (hx : a.eval x = .pointer (some ad))
    (hl : cs.length = sz) (hc : ∀ w, C w → ∀ j v, cs[j]? = some v → w.cell? (ad.add j) = some v)
    (hk : wpQuiet P ops C Q rest (a.put (some d) (.agg cs.toArray))) : wpQuiet P ops C Q (⟨some d, .load t x, ty, pos, af, g⟩ :: rest) a :=
  wq hw (q_val (o := ⟨some d, .load t x, ty, pos, af, g⟩) (.agg cs.toArray) (fun w hw => by
    have hc' := run_loadCells_list (P := P) (w := w) ad cs (hc w hw); rw [hl] at hc'; unfold loadCells at hc'
    cases hi : P.info? t with
    | none => rw [hi] at hs; cases hs
    | some i =>
      rw [hi] at hs; simp only [Option.map_some, Option.some.injEq] at hs; subst hs; unfold execOp; dsimp only; rw [hx]; simp [Instr.loadAt, Instr.sureAddr, loadVar, hag, go_sem, hc', sizeOf, typeInfo, hi]) hk)
theorem wq_eql (hw : Region.wanted ⟨some d, .binOp .eql t x y t', ty, pos, af, g⟩ (yielded ops a.tmps) = true) (hx : a.eval x = .int .i64 m) (hy : a.eval y = .int .i64 n)
    (hk : wpQuiet P ops C Q rest (a.put (some d) (.bool (m == n)))) : wpQuiet P ops C Q (⟨some d, .binOp .eql t x y t', ty, pos, af, g⟩ :: rest) a :=
  wq hw (q_val (o := ⟨some d, .binOp .eql t x y t', ty, pos, af, g⟩) (.bool (m == n)) (fun w _ => by unfold execOp; dsimp only; rw [hx, hy]; simp [go_sem]) hk)
theorem wq_neq (hw : Region.wanted ⟨some d, .binOp .neq t x y t', ty, pos, af, g⟩ (yielded ops a.tmps) = true) (hx : a.eval x = .int .i64 m) (hy : a.eval y = .int .i64 n)
    (hk : wpQuiet P ops C Q rest (a.put (some d) (.bool (m != n)))) : wpQuiet P ops C Q (⟨some d, .binOp .neq t x y t', ty, pos, af, g⟩ :: rest) a :=
  wq hw (q_val (o := ⟨some d, .binOp .neq t x y t', ty, pos, af, g⟩) (.bool (m != n)) (fun w _ => by unfold execOp; dsimp only; rw [hx, hy]; simp [go_sem]) hk)
theorem wq_lss (hw : Region.wanted ⟨some d, .binOp .lss t x y t', ty, pos, af, g⟩ (yielded ops a.tmps) = true) (hx : a.eval x = .int .i64 m) (hy : a.eval y = .int .i64 n)
    (hk : wpQuiet P ops C Q rest (a.put (some d) (.bool (decide (m < n))))) : wpQuiet P ops C Q (⟨some d, .binOp .lss t x y t', ty, pos, af, g⟩ :: rest) a :=
  wq hw (q_val (o := ⟨some d, .binOp .lss t x y t', ty, pos, af, g⟩) (.bool (decide (m < n))) (fun w _ => by unfold execOp; dsimp only; rw [hx, hy]; simp [go_sem]) hk)
theorem wq_leq (hw : Region.wanted ⟨some d, .binOp .leq t x y t', ty, pos, af, g⟩ (yielded ops a.tmps) = true) (hx : a.eval x = .int .i64 m) (hy : a.eval y = .int .i64 n)
    (hk : wpQuiet P ops C Q rest (a.put (some d) (.bool (decide (m ≤ n))))) : wpQuiet P ops C Q (⟨some d, .binOp .leq t x y t', ty, pos, af, g⟩ :: rest) a :=
  wq hw (q_val (o := ⟨some d, .binOp .leq t x y t', ty, pos, af, g⟩) (.bool (decide (m ≤ n))) (fun w _ => by unfold execOp; dsimp only; rw [hx, hy]; simp [go_sem]) hk)
theorem wq_gtr (hw : Region.wanted ⟨some d, .binOp .gtr t x y t', ty, pos, af, g⟩ (yielded ops a.tmps) = true) (hx : a.eval x = .int .i64 m) (hy : a.eval y = .int .i64 n)
    (hk : wpQuiet P ops C Q rest (a.put (some d) (.bool (decide (m > n))))) : wpQuiet P ops C Q (⟨some d, .binOp .gtr t x y t', ty, pos, af, g⟩ :: rest) a :=
  wq hw (q_val (o := ⟨some d, .binOp .gtr t x y t', ty, pos, af, g⟩) (.bool (decide (m > n))) (fun w _ => by unfold execOp; dsimp only; rw [hx, hy]; simp [go_sem]) hk)
theorem wq_geq (hw : Region.wanted ⟨some d, .binOp .geq t x y t', ty, pos, af, g⟩ (yielded ops a.tmps) = true) (hx : a.eval x = .int .i64 m) (hy : a.eval y = .int .i64 n)
    (hk : wpQuiet P ops C Q rest (a.put (some d) (.bool (decide (m ≥ n))))) : wpQuiet P ops C Q (⟨some d, .binOp .geq t x y t', ty, pos, af, g⟩ :: rest) a :=
  wq hw (q_val (o := ⟨some d, .binOp .geq t x y t', ty, pos, af, g⟩) (.bool (decide (m ≥ n))) (fun w _ => by unfold execOp; dsimp only; rw [hx, hy]; simp [go_sem]) hk)
theorem imax (m n : Int) : (if n > m then n else m) = max m n := by split <;> omega
theorem imin (m n : Int) : (if n < m then n else m) = min m n := by split <;> omega
variable {z : Operand} {l : Int} {ats : Array TypeId}
theorem wq_max2 (hw : Region.wanted ⟨some d, .call ⟨.builtin .max, #[x, y], ats⟩, ty, pos, af, g⟩ (yielded ops a.tmps) = true) (hx : a.eval x = .int .i64 m) (hy : a.eval y = .int .i64 n)
    (hk : wpQuiet P ops C Q rest (a.put (some d) (.int .i64 (max m n)))) : wpQuiet P ops C Q (⟨some d, .call ⟨.builtin .max, #[x, y], ats⟩, ty, pos, af, g⟩ :: rest) a :=
  wq hw (q_val (o := ⟨some d, .call ⟨.builtin .max, #[x, y], ats⟩, ty, pos, af, g⟩) (.int .i64 (max m n)) (fun w _ => by
    rw [BigFrame.execOp_builtin]; simp only [List.map_toArray, List.map_cons, List.map_nil, hx, hy]; simp [go_sem, Builtin.max_, Builtin.max2, List.foldlM]; rw [← imax]) hk)
theorem wq_min2 (hw : Region.wanted ⟨some d, .call ⟨.builtin .min, #[x, y], ats⟩, ty, pos, af, g⟩ (yielded ops a.tmps) = true) (hx : a.eval x = .int .i64 m) (hy : a.eval y = .int .i64 n)
    (hk : wpQuiet P ops C Q rest (a.put (some d) (.int .i64 (min m n)))) : wpQuiet P ops C Q (⟨some d, .call ⟨.builtin .min, #[x, y], ats⟩, ty, pos, af, g⟩ :: rest) a :=
  wq hw (q_val (o := ⟨some d, .call ⟨.builtin .min, #[x, y], ats⟩, ty, pos, af, g⟩) (.int .i64 (min m n)) (fun w _ => by
    rw [BigFrame.execOp_builtin]; simp only [List.map_toArray, List.map_cons, List.map_nil, hx, hy]; simp [go_sem, Builtin.min_, Builtin.min2, List.foldlM]; rw [← imin]) hk)
theorem wq_max3 (hw : Region.wanted ⟨some d, .call ⟨.builtin .max, #[x, y, z], ats⟩, ty, pos, af, g⟩ (yielded ops a.tmps) = true) (hx : a.eval x = .int .i64 m) (hy : a.eval y = .int .i64 n) (hz : a.eval z = .int .i64 l)
    (hk : wpQuiet P ops C Q rest (a.put (some d) (.int .i64 (max (max m n) l)))) : wpQuiet P ops C Q (⟨some d, .call ⟨.builtin .max, #[x, y, z], ats⟩, ty, pos, af, g⟩ :: rest) a :=
  wq hw (q_val (o := ⟨some d, .call ⟨.builtin .max, #[x, y, z], ats⟩, ty, pos, af, g⟩) (.int .i64 (max (max m n) l)) (fun w _ => by
    rw [BigFrame.execOp_builtin]; simp only [List.map_toArray, List.map_cons, List.map_nil, hx, hy, hz]; simp [go_sem, Builtin.max_, Builtin.max2, List.foldlM]; (repeat' split) <;> omega) hk)
theorem wq_min3 (hw : Region.wanted ⟨some d, .call ⟨.builtin .min, #[x, y, z], ats⟩, ty, pos, af, g⟩ (yielded ops a.tmps) = true) (hx : a.eval x = .int .i64 m) (hy : a.eval y = .int .i64 n) (hz : a.eval z = .int .i64 l)
    (hk : wpQuiet P ops C Q rest (a.put (some d) (.int .i64 (min (min m n) l)))) : wpQuiet P ops C Q (⟨some d, .call ⟨.builtin .min, #[x, y, z], ats⟩, ty, pos, af, g⟩ :: rest) a :=
  wq hw (q_val (o := ⟨some d, .call ⟨.builtin .min, #[x, y, z], ats⟩, ty, pos, af, g⟩) (.int .i64 (min (min m n) l)) (fun w _ => by
    rw [BigFrame.execOp_builtin]; simp only [List.map_toArray, List.map_cons, List.map_nil, hx, hy, hz]; simp [go_sem, Builtin.min_, Builtin.min2, List.foldlM]; (repeat' split) <;> omega) hk)
end
section
variable {P : Program} {ops : Array Oper} {C : World → Prop} {Q : Act → Prop} {rest : List Oper} {a : Act} {d : Nat} {x y : Operand} {ty t t' : TypeId} {pos : String} {af : Array Edge} {g : Option (Nat × Bool)}
end
theorem below_alloc1 (w : World) (o : Obj) : Below w.heap.size w (w.alloc o) := (Below.refl _ _).alloc (Nat.le_refl _) _
theorem block_lt {w : World} {b : Nat} {o : Obj} (h : w.heap[b]? = some o) : b < w.heap.size := (Array.getElem?_eq_some_iff.1 h).1
theorem alloc_new (w : World) (o : Obj) : (w.alloc o).heap[w.heap.size]? = some o := by show (w.heap.push _)[w.heap.size]? = _; simp
theorem alloc_old (w : World) (o : Obj) {k : Nat} {x : Obj} (h : w.heap[k]? = some x) : (w.alloc o).heap[k]? = some x := by
  show (w.heap.push _)[k]? = _; rw [Array.getElem?_push_lt (block_lt h)]; exact (Array.getElem?_eq_getElem (block_lt h)).symm.trans h
theorem below_drewN {B : Nat} {a w : World} (h : Below B a w) (n : Nat) : Below B a (w.drewN n) := ⟨h.os, h.tape, h.output, h.size, h.block⟩
theorem wp_region_quiet_below {P : Program} {id : Nat} {Q : Exit → Act → World → Prop} {a : Act} {w : World} {l : List Oper} (hm : P.follows .mixedOrders = true) (hB : Region.lexB .any l.toArray = true)
    (h : wpQuiet P l.toArray (fun w' => Below w.heap.size w w') (fun a' => ∀ w', Below w.heap.size w w' → Q .normal a' w') l a) : (Code.region id l.toArray true).wp P Q a w :=
  wp_region_quiet (C := fun w' => Below w.heap.size w w') hm hB ⟨rfl, rfl, rfl, Nat.le_refl _, fun _ _ => rfl⟩ (by simpa using h)
theorem calls_below {P : Program} {f : FuncId} {args : Array Value} {w w' : World} {v : Value} (hb : Below w.heap.size w w')
    (h : Calls P f args w' fun e w'' => e = .returned v ∧ Below w'.heap.size w' w'') : Calls P f args w' fun e w'' => e = .returned v ∧ Below w.heap.size w w'' :=
  h.mono fun e w'' hh => ⟨hh.1, hb.trans (hh.2.mono hb.size)⟩
def inV (xs : List Int) : List Value := xs.map (Value.int .i64)
theorem inV_append (a b : List Int) : inV (a ++ b) = inV a ++ inV b := by simp [inV]
theorem inV_get (xs : List Int) (i : Nat) (h : i < xs.length) : (inV xs)[i]? = some (.int .i64 (gi xs i)) := by
  unfold inV gi; simp [h]
def spV : List (Int × Int) → List Value
  | [] => []
  | s :: r => .int .i64 s.1 :: .int .i64 s.2 :: spV r
theorem spV_append (a b : List (Int × Int)) : spV (a ++ b) = spV a ++ spV b := by
  induction a with
  | nil => rfl
  | cons s r ih => simp [spV, ih]
theorem spV_length (a : List (Int × Int)) : (spV a).length = a.length * 2 := by
  induction a with
  | nil => rfl
  | cons s r ih => simp [spV, ih]; omega
theorem spV_get (ss : List (Int × Int)) : ∀ i, i < ss.length → (spV ss)[i * 2]? = some (.int .i64 (gm ss i).1) ∧ (spV ss)[i * 2 + 1]? = some (.int .i64 (gm ss i).2) := by
  induction ss with
  | nil => intro i h; simp at h
  | cons s r ih =>
    intro i h
    cases i with
    | zero => exact ⟨rfl, rfl⟩
    | succ i =>
      have := ih i (by simpa using h); rw [show (i + 1) * 2 = i * 2 + 2 by omega]; exact this
def RdS (w : World) (p : Option Addr) (ss : List (Int × Int)) : Prop :=
  ss = [] ∨ ∃ b off, p = some ⟨b, off, none⟩ ∧ ∀ i, i < ss.length → w.cell? ⟨b, off + i * 2, none⟩ = some (.int .i64 (gm ss i).1) ∧ w.cell? ⟨b, off + i * 2 + 1, none⟩ = some (.int .i64 (gm ss i).2)
theorem RdS.at {w : World} {p : Option Addr} {ss : List (Int × Int)} (h : RdS w p ss) {i : Nat} (hi : i < ss.length) :
    ∃ b off, p = some ⟨b, off, none⟩ ∧ ∀ i, i < ss.length → w.cell? ⟨b, off + i * 2, none⟩ = some (.int .i64 (gm ss i).1) ∧ w.cell? ⟨b, off + i * 2 + 1, none⟩ = some (.int .i64 (gm ss i).2) := by
  rcases h with h | h
  · subst h; simp at hi
  · exact h
theorem RdS.below {w w' : World} {p : Option Addr} {ss : List (Int × Int)} (h : RdS w p ss) (hb : Below w.heap.size w w') : RdS w' p ss := by
  rcases h with h | ⟨b, off, rfl, hc⟩
  · exact .inl h
  · refine .inr ⟨b, off, rfl, fun i hi => ?_⟩
    obtain ⟨h1, h2⟩ := hc i hi; exact ⟨(hb.cell (lt_of_cellq h1)).trans h1, (hb.cell (lt_of_cellq h2)).trans h2⟩
theorem at_new (w : World) (cs : Array Value) (t : TypeId) (j : Nat) : (w.alloc (.cells cs t)).cell? ⟨w.heap.size, j, none⟩ = cs[j]? := by
  have h : (w.alloc (.cells cs t)).heap[w.heap.size]? = some (.cells cs t) := by show (w.heap.push _)[w.heap.size]? = _; simp
  simp only [World.cell?, h]
  rfl
theorem add_new (n j : Nat) : (⟨n, 0, none⟩ : Addr).add j = ⟨n, j, none⟩ := by unfold Addr.add; split <;> simp_all
theorem news_of (w : World) (cs : List Value) (t : TypeId) : ∀ j u, cs[j]? = some u → (w.alloc (.cells cs.toArray t)).cell? ((⟨w.heap.size, 0, none⟩ : Addr).add j) = some u := by
  intro j u hj; rw [add_new, at_new]
  simpa using hj
theorem box4 (w : World) (a b c d : Value) (t : TypeId) : ∃ w0, w.alloc (.cells #[a, b, c, d] t) = w0 ∧ Hid (w0.heap.size = w.heap.size + 1) ∧
    w0.cell? ⟨w.heap.size, 0, none⟩ = some a ∧ w0.cell? ⟨w.heap.size, 1, none⟩ = some b ∧ w0.cell? ⟨w.heap.size, 2, none⟩ = some c ∧ w0.cell? ⟨w.heap.size, 3, none⟩ = some d ∧ Below w.heap.size w w0 :=
  ⟨_, rfl, Lib.hid (by simp), by rw [at_new]; rfl, by rw [at_new]; rfl, by rw [at_new]; rfl, by rw [at_new]; rfl, below_alloc1 _ _⟩
theorem bcells2 {w w' : World} {b : Nat} {v0 v1 : Value} (h0 : w.cell? ⟨b, 0, none⟩ = some v0) (h1 : w.cell? ⟨b, 1, none⟩ = some v1) (hb : Below w.heap.size w w') :
    ∀ j v, [v0, v1][j]? = some v → w'.cell? ((⟨b, 0, none⟩ : Addr).add j) = some v := by
  intro j v hj; rw [add_new]
  match j, hj with
  | 0, hj => simp at hj; subst hj; exact (hb.cell (lt_of_cellq h0)).trans h0
  | 1, hj => simp at hj; subst hj; exact (hb.cell (lt_of_cellq h1)).trans h1
theorem box2 (w : World) (a b : Value) (t : TypeId) : ∃ w0, w.alloc (.cells #[a, b] t) = w0 ∧ Hid (w0.heap.size = w.heap.size + 1) ∧
    w0.cell? ⟨w.heap.size, 0, none⟩ = some a ∧ w0.cell? ⟨w.heap.size, 1, none⟩ = some b ∧ Below w.heap.size w w0 :=
  ⟨_, rfl, Lib.hid (by simp), by rw [at_new]; rfl, by rw [at_new]; rfl, below_alloc1 _ _⟩
theorem cell_of_list {w : World} {g : Nat} {cur : List Value} {t : TypeId} (hg : w.heap[g]? = some (.cells cur.toArray t (0, 0))) {j : Nat} {v : Value} (h : cur[j]? = some v) : w.cell? ⟨g, j, none⟩ = some v := by
  simp only [World.cell?, hg]
  simpa using h
structure BelX (X : Nat → Prop) (B : Nat) (w w' : World) : Prop where
  os : w'.os = w.os
  tape : w'.tape = w.tape
  output : w'.output = w.output
  size : w.heap.size ≤ w'.heap.size
  block : ∀ k, k < B → ¬ X k → w'.heap[k]? = w.heap[k]?
theorem belX_of {X : Nat → Prop} {B : Nat} {w w' : World} (h : Below B w w') : BelX X B w w' := ⟨h.os, h.tape, h.output, h.size, fun k hk _ => h.block k hk⟩
theorem BelX.refl (X : Nat → Prop) (B : Nat) (w : World) : BelX X B w w := belX_of (Below.refl _ _)
theorem BelX.trans {X : Nat → Prop} {B : Nat} {a b c : World} (h : BelX X B a b) (k : BelX X B b c) : BelX X B a c :=
  ⟨k.os.trans h.os, k.tape.trans h.tape, k.output.trans h.output, Nat.le_trans h.size k.size, fun i hi hx => (k.block i hi hx).trans (h.block i hi hx)⟩
theorem BelX.mono {X : Nat → Prop} {B B' : Nat} {w w' : World} (h : BelX X B w w') (hB : B' ≤ B) : BelX X B' w w' := ⟨h.os, h.tape, h.output, h.size, fun k hk hx => h.block k (Nat.lt_of_lt_of_le hk hB) hx⟩
theorem BelX.weak {X Y : Nat → Prop} {B : Nat} {w w' : World} (h : BelX X B w w') (hXY : ∀ k, k < B → X k → Y k) : BelX Y B w w' := ⟨h.os, h.tape, h.output, h.size, fun k hk hx => h.block k hk (fun hh => hx (hXY k hk hh))⟩
theorem BelX.cell {X : Nat → Prop} {B : Nat} {w w' : World} (h : BelX X B w w') {p : Addr} (hp : p.block < B) (hx : ¬ X p.block) : w'.cell? p = w.cell? p := World.cell?_of_block (w := w) (h.block p.block hp hx)
theorem BelX.frozen {X : Nat → Prop} {B : Nat} {w w' : World} (h : BelX X B w w') {p : Addr} (hp : p.block < B) (hx : ¬ X p.block) : w'.frozen? p = w.frozen? p := World.frozen?_of_block (w := w) (h.block p.block hp hx)
theorem BelX.below {X : Nat → Prop} {B B' : Nat} {w w' : World} (h : BelX X B w w') (hB : B' ≤ B) (hX : ∀ k, X k → B' ≤ k) : Below B' w w' :=
  ⟨h.os, h.tape, h.output, h.size, fun k hk => h.block k (by omega) (fun hx => by have := hX k hx; omega)⟩
theorem BelX.setCell {X : Nat → Prop} {B : Nat} {a w : World} (h : BelX X B a w) {p : Addr} (hl : X p.block ∨ B ≤ p.block) (v : Value) : BelX X B a (w.setCell p v) :=
  ⟨h.os, h.tape, h.output, by have := h.size; simpa using this, fun k hk hx => (Below.heap_setCell w p v k (fun e => by subst e; rcases hl with hl | hl; exact hx hl; omega)).trans (h.block k hk hx)⟩
theorem box1 (w : World) (a : Value) (t : TypeId) : ∃ w0, w.alloc (.cells #[a] t) = w0 ∧ Hid (w0.heap.size = w.heap.size + 1) ∧
    w0.cell? ⟨w.heap.size, 0, none⟩ = some a ∧ Hid (w0.frozen? ⟨w.heap.size, 0, none⟩ = false) ∧ Below w.heap.size w w0 :=
  ⟨_, rfl, Lib.hid (by simp), by rw [at_new]; rfl, Lib.hid (frozen_of_row _ _ 0 _ _ (alloc_new w (.cells #[a] t))), below_alloc1 _ _⟩
theorem own_kept {w w' : World} {B e size n : Nat} {v : Value} {xs : List Value} (h : w.ownsRow B e size v n xs) (hb : Below w.heap.size w w') : w'.ownsRow B e size v n xs :=
  h.kept (row := none) ⟨hb.os, hb.tape, hb.output, hb.size, fun k hk _ => hb.block k hk⟩ (by cases v.ownBlock <;> simp)
section
variable {P : Program} {ops : Array Oper} {md : Region.Mode} {C : World → Prop}
def picks (P : Program) (md : Region.Mode) (ops : Array Oper) (C : World → Prop) (n : Nat) (T : Array Bool → Act → Prop) : Nat → Array Bool → Act → Prop
  | 0, d, a => T d a
  | k + 1, d, a => Region.ready md ops d ≠ [] ∧ ∀ i, i ∈ Region.ready md ops d → i < n ∧ qOp P ops C i (picks P md ops C n T k (d.setIfInBounds i true)) a
theorem any_of_picks {n g : Nat} {T : Array Bool → Act → Prop} {E : Exit → Act → World → Prop} (hT : ∀ d a w, C w → T d a → wpAny P md ops E g d a w) (k : Nat) :
    ∀ d a w, C w → picks P md ops C n T k d a → wpAny P md ops E (k + g) d a w := by
  induction k with
  | zero => intro d a w hw h; rw [Nat.zero_add]; exact hT d a w hw h
  | succ k ih =>
    intro d a w hw h; rw [Nat.succ_add]; refine ⟨fun e => absurd e h.1, fun i hi => ?_⟩; exact wpOp_of_qOp hw (fun a' w' hw' ha => ih _ a' w' hw' ha) (h.2 i hi).2
theorem head_only {n : Nat} (hs : Region.sinkB md ops n = true) (hc : Region.chainB md ops n = true) (hn : n < ops.size) {d : Array Bool} (inv : HeadInv md ops n d) {i : Nat} (hi : i ∈ Region.ready md ops d) (hin : i < n) :
    ∀ j ∈ Region.ready md ops d, j < n := by
  intro j hj
  rcases Nat.lt_or_ge j n with h | h
  · exact h
  · exact absurd hj (tail_waits hs hc hn inv _ i rfl hin (mem_ready.1 hi).1 j h)
theorem picks_first {n i : Nat} {oi : Oper} {v : Value} {T : Array Bool → Act → Prop} (hoi : ops[i]? = some oi) (hsel : ∀ (j : Nat) (o : Oper) cs b, ops[j]? = some o → o.op ≠ .select cs b)
    (hs : Region.sinkB md ops n = true) (hc : Region.chainB md ops n = true) (hn : n < ops.size) (hin : i < n) (hT : ∀ d a, T d a → ∀ j ∈ Region.ready md ops d, n ≤ j) (k : Nat) :
    ∀ (d : Array Bool) (a : Act), HeadInv md ops n d → (∀ j oj, ops[j]? = some oj → j ≠ i → d.getD j true = false → (∀ e ∈ oj.after, Region.binds md e = true → e.on ≠ i) → oi.apart ops oj = true) →
      i ∈ Region.ready md ops d → YieldsIn P ops C oi v a → picks P md ops C n T k (d.setIfInBounds i true) (a.put oi.dst v) → picks P md ops C n T (k + 1) d a := by
  induction k with
  | zero =>
    intro d a inv _ hr hy H; refine ⟨fun e => (by rw [e] at hr; cases hr), fun j hj => ⟨head_only hs hc hn inv hr hin j hj, ?_⟩⟩
    by_cases e : j = i
    · subst e; exact hy.qOp hoi H
    · have h1 := hT _ _ H j (ready_mono hj e)
      have h2 := head_only hs hc hn inv hr hin j hj; omega
  | succ k ih =>
    intro d a inv hfree hr hy H; refine ⟨fun e => (by rw [e] at hr; cases hr), fun j hj => ⟨head_only hs hc hn inv hr hin j hj, ?_⟩⟩
    by_cases e : j = i
    · subst e; exact hy.qOp hoi H
    · obtain ⟨hu, oj, hoj, hall⟩ := mem_ready.1 hj
      have hno : ∀ e ∈ oj.after, Region.binds md e = true → e.on ≠ i := by
        intro e' he hb heq; have h1 := hall e' he hb; rw [heq, getD_both (mem_ready.1 hr).1] at h1
        cases h1
      have h2 := qOp_put hoj (hfree j oj hoj e hu hno) (fun cs b => hsel i oi cs b hoi) (fun cs b => hsel j oj cs b hoj) hy (H.2 j (ready_mono hj e)).2; refine qOp_mono (fun a' h3 => ?_) h2; refine ih _ a' (inv.set hj (head_only hs hc hn inv hr hin j hj)) (fun m om hm hmi hun hno' => ?_) (ready_mono hr (Ne.symm e)) h3.1 ?_
      · refine hfree m om hm hmi ?_ hno'
        by_cases hjm : j = m
        · subst hjm; exact hu
        · rwa [getD_set_ne true hjm] at hun
      · rw [Array.setIfInBounds_comm _ _ e]; exact h3.2
theorem picks_lex {n g : Nat} {Q : Act → Prop} (hsel : Region.noSelect ops = true) (hs : Region.sinkB md ops n = true) (hc : Region.chainB md ops n = true) (hn : n < ops.size) (l : List Oper) :
    ∀ (k : Nat) (d : Array Bool) (a : Act), (∀ j, j < l.length → l[j]? = ops[k + j]?) → k + l.length = n → HeadInv md ops n d → Region.lexHead md ops g l.length k d = true → wpQuiet P ops C Q l a →
    picks P md ops C n (fun d' a' => Region.seqB md ops g n d' = true ∧ Q a') l.length d a := by
  induction l with
  | nil =>
    intro k d a _ hk _ hB h; obtain rfl : k = n := by simpa using hk
    exact ⟨hB, h⟩
  | cons o l ih =>
    intro k d a hl hk inv hB h; have h0 : ops[k]? = some o := (hl 0 (by simp)).symm; rw [List.length_cons] at hk; simp only [List.length_cons, Region.lexHead, Bool.and_eq_true] at hB; have hr : k ∈ Region.ready md ops d := by simpa using hB.1.1
    obtain ⟨v, hy, hK⟩ := yieldsIn_of_qOp (K := wpQuiet P ops C Q l) h0 (by unfold qOp; simp only [h0]; exact h); refine picks_first h0 (Region.noSelect_spec hsel) hs hc hn (by omega) (fun d' a' hL => seqB_ready hL.1) l.length d a inv (Region.free_spec h0 hB.1.2) hr hy ?_; exact ih (k + 1) _ _ (fun j hj => by have := hl (j + 1) (by simp; omega); rw [show k + 1 + j = k + (j + 1) by omega]; simpa using this) (by omega) (inv.set hr (by omega)) hB.2 hK
theorem wp_region_below_tail {id : Nat} {Q : Exit → Act → World → Prop} {a : Act} {w : World} {l : List Oper} (n : Nat) (hm : P.follows .mixedOrders = true) (hB : Region.lexTailB .any l.toArray n = true)
    (h : wpQuiet P l.toArray (fun w' => Below w.heap.size w w') (fun a' => ∀ w', Below w.heap.size w w' → wpList P l.toArray Q (l.drop n) a' w') (l.take n) a) : (Code.region id l.toArray true).wp P Q a w := by
  simp only [Region.lexTailB, Bool.and_eq_true, decide_eq_true_eq] at hB; obtain ⟨⟨⟨⟨hsel, hn⟩, hs⟩, hc⟩, hlex⟩ := hB; have hsz : l.toArray.size = l.length := by simp
  have htl : (l.take n).length = n := by rw [List.length_take]; omega
  have inv0 : HeadInv .any l.toArray n (Array.replicate l.toArray.size false) := by
    refine ⟨by simp, fun j oj _ hl => ?_, fun t _ ht => getD_in (by simpa using ht) (getD_replicate_false _ _)⟩; rw [getD_replicate_false] at hl; cases hl
  have H := picks_lex (md := .any) (g := l.toArray.size - n) hsel hs hc hn (l.take n) 0 _ a (fun j hj => by
    have hj' : j < n := by omega
    simp [hj']) (by omega) inv0 (by rw [htl]; exact hlex) h
  refine wp_region_any hm ?_
  have K := any_of_picks (E := Q) (g := l.toArray.size - n) (fun d a' w' hw' hL => by
    have := wpAny_of_seq (md := .any) (Q' := Q) (l.drop n) n d a' w' (fun j => by simp [List.getElem?_drop]) (by rw [List.length_drop, ← hsz]; exact hL.1) (hL.2 w' hw')
    rwa [List.length_drop, ← hsz] at this) _ _ _ { w with drawn := w.drawn + 1 } ⟨rfl, rfl, rfl, Nat.le_refl _, fun _ _ => rfl⟩ H
  rw [htl, show n + (l.toArray.size - n) = l.toArray.size by omega] at K; exact K
end
theorem own_apart {w : World} {B B' e e' size size' n n' : Nat} {v v' : Value} {xs xs' : List Value} (h : w.ownsRow B e size v n xs) (h' : w.ownsRow B' e' size' v' n' xs') (he : e ≠ e') : v.ownBlock = none ∨ v.ownBlock ≠ v'.ownBlock := by
  rcases h.2 with ⟨rfl, _⟩ | ⟨g, cap, cur, rfl, _, hg, _⟩
  · exact .inl rfl
  · rcases h'.2 with ⟨rfl, _⟩ | ⟨g', cap', cur', rfl, _, hg', _⟩
    · exact .inr (by simp [Value.ownBlock])
    · refine .inr fun hc => ?_
      simp [Value.ownBlock] at hc; subst hc; rw [hg] at hg'; have := Option.some.inj hg'; simp at this; exact he this.2
theorem own_mono {w : World} {B B' e size n : Nat} {v : Value} {xs : List Value} (h : w.ownsRow B e size v n xs) (hB : B' ≤ B) : w.ownsRow B' e size v n xs := by
  refine ⟨h.1, ?_⟩
  rcases h.2 with h1 | ⟨g, cap, cur, h1, h2, h3⟩
  · exact .inl h1
  · exact .inr ⟨g, cap, cur, h1, Nat.le_trans hB h2, h3⟩
theorem set4 (w : World) (B : Nat) (t : TypeId) (v0 v1 v2 v3 a b c d : Value) (h : w.heap[B]? = some (.cells #[v0, v1, v2, v3] t)) :
    ∃ w1 w2 w3 w4, w.setCell ⟨B, 0, none⟩ a = w1 ∧ w1.setCell ⟨B, 1, none⟩ b = w2 ∧ w2.setCell ⟨B, 2, none⟩ c = w3 ∧ w3.setCell ⟨B, 3, none⟩ d = w4 ∧
      (w.cell? ⟨B, 0, none⟩ = some v0 ∧ w.frozen? ⟨B, 0, none⟩ = false) ∧ (w1.cell? ⟨B, 1, none⟩ = some v1 ∧ w1.frozen? ⟨B, 1, none⟩ = false) ∧ (w2.cell? ⟨B, 2, none⟩ = some v2 ∧ w2.frozen? ⟨B, 2, none⟩ = false) ∧ (w3.cell? ⟨B, 3, none⟩ = some v3 ∧ w3.frozen? ⟨B, 3, none⟩ = false) ∧
      w4.heap[B]? = some (.cells #[a, b, c, d] t) ∧ (∀ k, k ≠ B → w4.heap[k]? = w.heap[k]?) ∧ w4.heap.size = w.heap.size ∧ ∀ W n0, n0 ≤ B → Below n0 W w → Below n0 W w4 := by
  have h1 := heap_setCell_same w B 0 _ t a h; have h2 := heap_setCell_same _ B 1 _ t b h1; have h3 := heap_setCell_same _ B 2 _ t c h2; have h4 := heap_setCell_same _ B 3 _ t d h3; refine ⟨_, _, _, _, rfl, rfl, rfl, rfl, ⟨?_, frozen_of_row _ _ _ _ _ h⟩, ⟨?_, frozen_of_row _ _ _ _ _ h1⟩, ⟨?_, frozen_of_row _ _ _ _ _ h2⟩, ⟨?_, frozen_of_row _ _ _ _ _ h3⟩, ?_, ?_, ?_, ?_⟩
  · rw [cell_of_row _ _ _ _ _ _ h]; rfl
  · rw [cell_of_row _ _ _ _ _ _ h1]; rfl
  · rw [cell_of_row _ _ _ _ _ _ h2]; rfl
  · rw [cell_of_row _ _ _ _ _ _ h3]; rfl
  · rw [h4]; rfl
  · intro k hk
    rw [Below.heap_setCell _ _ _ k hk, Below.heap_setCell _ _ _ k hk, Below.heap_setCell _ _ _ k hk, Below.heap_setCell _ _ _ k hk]
  · simp
  · intro W n0 hn hb
    exact (((hb.setCell hn _).setCell hn _).setCell hn _).setCell hn _
theorem cells4 {w : World} {B : Nat} {t : TypeId} {a b c d : Value} (h : w.heap[B]? = some (.cells #[a, b, c, d] t)) : w.cell? ⟨B, 0, none⟩ = some a ∧ w.cell? ⟨B, 1, none⟩ = some b ∧ w.cell? ⟨B, 2, none⟩ = some c ∧ w.cell? ⟨B, 3, none⟩ = some d := by
  refine ⟨?_, ?_, ?_, ?_⟩ <;> (rw [cell_of_row _ _ _ _ _ _ h]; rfl)
end Go.Proofs.YtchclaipbahiiaaGreat
end

section
namespace Go.Proofs.YtchclaipbahiiaaGreat
open Go Go.RowKit Go.Proofs
set_option linter.unusedVariables false
theorem agI (w : World) : (isAgg 3).run Tryz.prog w = .ok false w := by kernel_rfl
theorem agB (w : World) : (isAgg 4).run Tryz.prog w = .ok false w := by kernel_rfl
theorem agLI (w : World) : (isAgg 23).run Tryz.prog w = .ok false w := by kernel_rfl
theorem agLS (w : World) : (isAgg 48).run Tryz.prog w = .ok false w := by kernel_rfl
theorem agLM (w : World) : (isAgg 56).run Tryz.prog w = .ok false w := by kernel_rfl
theorem agLR (w : World) : (isAgg 57).run Tryz.prog w = .ok false w := by kernel_rfl
theorem agLL (w : World) : (isAgg 90).run Tryz.prog w = .ok false w := by kernel_rfl
theorem agLT (w : World) : (isAgg 118).run Tryz.prog w = .ok false w := by kernel_rfl
theorem agSp (w : World) : (isAgg 61).run Tryz.prog w = .ok true w := by kernel_rfl
theorem agT (w : World) : (isAgg 125).run Tryz.prog w = .ok true w := by kernel_rfl
theorem szI : ((Tryz.prog.info? 3).map fun i => i.size) = some 1 := by kernel_rfl
theorem szL : ((Tryz.prog.info? 23).map fun i => i.size) = some 1 := by kernel_rfl
theorem szSp : ((Tryz.prog.info? 61).map fun i => i.size) = some 2 := by kernel_rfl
theorem szM : ((Tryz.prog.info? 63).map fun i => i.size) = some 2 := by kernel_rfl
theorem szR : ((Tryz.prog.info? 116).map fun i => i.size) = some 4 := by kernel_rfl
theorem szT : ((Tryz.prog.info? 125).map fun i => i.size) = some 2 := by kernel_rfl
theorem infI : (Tryz.prog.info? 3).map (fun i => (i.zero, i.size, i.bytes)) = some (some (.int .i64 0), 1, 8) := by kernel_rfl
theorem infM : (Tryz.prog.info? 63).map (fun i => (i.zero, i.size, i.bytes)) = some (some (.agg #[.int .i64 0, .int .i64 0]), 2, 16) := by kernel_rfl
theorem infT : (Tryz.prog.info? 125).map (fun i => (i.zero, i.size, i.bytes)) = some (some (.agg #[.slice none 0 0, .slice none 0 0]), 2, 48) := by kernel_rfl
theorem wq_fg {C : World → Prop} {ops : Array Oper} {Q : Act → Prop} {rest : List Oper} {a : Act} {d : Nat} {x : Operand} {t ty : TypeId} {pos : String} {af : Array Edge} {g : Option (Nat × Bool)} {k off : Nat}
    (hr : ∀ (b o : Nat) (w : World), (Instr.fieldAt t (.pointer (some ⟨b, o, none⟩)) k).run Tryz.prog w = .ok (.pointer (some ⟨b, o + off, none⟩)) w)
    (hw : Region.wanted ⟨some d, .fieldAddr t x k, ty, pos, af, g⟩ (yielded ops a.tmps) = true) {b o : Nat} (hx : a.eval x = .pointer (some ⟨b, o, none⟩))
    (hk : wpQuiet Tryz.prog ops C Q rest (a.put (some d) (.pointer (some ⟨b, o + off, none⟩)))) : wpQuiet Tryz.prog ops C Q (⟨some d, .fieldAddr t x k, ty, pos, af, g⟩ :: rest) a :=
  wq hw (q_val (o := ⟨some d, .fieldAddr t x k, ty, pos, af, g⟩) (.pointer (some ⟨b, o + off, none⟩)) (fun w _ => by
    have h := hr b o w; unfold execOp; dsimp only; rw [hx]; simp only [Sem.run_bind, h, Result.andThen]; rfl) hk)
theorem faP0 (b o : Nat) (w : World) : (Instr.fieldAt 59 (.pointer (some ⟨b, o, none⟩)) 0).run Tryz.prog w = .ok (.pointer (some ⟨b, o + 0, none⟩)) w := by kernel_rfl
theorem faP1 (b o : Nat) (w : World) : (Instr.fieldAt 59 (.pointer (some ⟨b, o, none⟩)) 1).run Tryz.prog w = .ok (.pointer (some ⟨b, o + 1, none⟩)) w := by kernel_rfl
theorem faP2 (b o : Nat) (w : World) : (Instr.fieldAt 59 (.pointer (some ⟨b, o, none⟩)) 2).run Tryz.prog w = .ok (.pointer (some ⟨b, o + 2, none⟩)) w := by kernel_rfl
theorem faM0 (b o : Nat) (w : World) : (Instr.fieldAt 63 (.pointer (some ⟨b, o, none⟩)) 0).run Tryz.prog w = .ok (.pointer (some ⟨b, o + 0, none⟩)) w := by kernel_rfl
theorem faS0 (b o : Nat) (w : World) : (Instr.fieldAt 61 (.pointer (some ⟨b, o, none⟩)) 0).run Tryz.prog w = .ok (.pointer (some ⟨b, o + 0, none⟩)) w := by kernel_rfl
theorem faS1 (b o : Nat) (w : World) : (Instr.fieldAt 61 (.pointer (some ⟨b, o, none⟩)) 1).run Tryz.prog w = .ok (.pointer (some ⟨b, o + 1, none⟩)) w := by kernel_rfl
theorem faR0 (b o : Nat) (w : World) : (Instr.fieldAt 116 (.pointer (some ⟨b, o, none⟩)) 0).run Tryz.prog w = .ok (.pointer (some ⟨b, o + 0, none⟩)) w := by kernel_rfl
theorem faR1 (b o : Nat) (w : World) : (Instr.fieldAt 116 (.pointer (some ⟨b, o, none⟩)) 1).run Tryz.prog w = .ok (.pointer (some ⟨b, o + 1, none⟩)) w := by kernel_rfl
theorem faR2 (b o : Nat) (w : World) : (Instr.fieldAt 116 (.pointer (some ⟨b, o, none⟩)) 2).run Tryz.prog w = .ok (.pointer (some ⟨b, o + 2, none⟩)) w := by kernel_rfl
theorem faR3 (b o : Nat) (w : World) : (Instr.fieldAt 116 (.pointer (some ⟨b, o, none⟩)) 3).run Tryz.prog w = .ok (.pointer (some ⟨b, o + 3, none⟩)) w := by kernel_rfl
theorem faT0 (b o : Nat) (w : World) : (Instr.fieldAt 125 (.pointer (some ⟨b, o, none⟩)) 0).run Tryz.prog w = .ok (.pointer (some ⟨b, o + 0, none⟩)) w := by kernel_rfl
theorem faT1 (b o : Nat) (w : World) : (Instr.fieldAt 125 (.pointer (some ⟨b, o, none⟩)) 1).run Tryz.prog w = .ok (.pointer (some ⟨b, o + 1, none⟩)) w := by kernel_rfl
theorem faQ0 (b o : Nat) (w : World) : (Instr.fieldAt 120 (.pointer (some ⟨b, o, none⟩)) 0).run Tryz.prog w = .ok (.pointer (some ⟨b, o + 0, none⟩)) w := by kernel_rfl
theorem faQ1 (b o : Nat) (w : World) : (Instr.fieldAt 120 (.pointer (some ⟨b, o, none⟩)) 1).run Tryz.prog w = .ok (.pointer (some ⟨b, o + 3, none⟩)) w := by kernel_rfl
theorem faH0 (b o : Nat) (w : World) : (Instr.fieldAt 65 (.pointer (some ⟨b, o, none⟩)) 0).run Tryz.prog w = .ok (.pointer (some ⟨b, o + 0, none⟩)) w := by kernel_rfl
theorem faH1 (b o : Nat) (w : World) : (Instr.fieldAt 65 (.pointer (some ⟨b, o, none⟩)) 1).run Tryz.prog w = .ok (.pointer (some ⟨b, o + 1, none⟩)) w := by kernel_rfl
theorem faH2 (b o : Nat) (w : World) : (Instr.fieldAt 65 (.pointer (some ⟨b, o, none⟩)) 2).run Tryz.prog w = .ok (.pointer (some ⟨b, o + 2, none⟩)) w := by kernel_rfl
theorem faH3 (b o : Nat) (w : World) : (Instr.fieldAt 65 (.pointer (some ⟨b, o, none⟩)) 3).run Tryz.prog w = .ok (.pointer (some ⟨b, o + 3, none⟩)) w := by kernel_rfl
theorem box3 (w : World) (a b c : Value) (t : TypeId) : ∃ w0, w.alloc (.cells #[a, b, c] t) = w0 ∧ Hid (w0.heap.size = w.heap.size + 1) ∧
    w0.cell? ⟨w.heap.size, 0, none⟩ = some a ∧ w0.cell? ⟨w.heap.size, 1, none⟩ = some b ∧ w0.cell? ⟨w.heap.size, 2, none⟩ = some c ∧ Below w.heap.size w w0 :=
  ⟨_, rfl, Lib.hid (by simp), by rw [at_new]; rfl, by rw [at_new]; rfl, by rw [at_new]; rfl, below_alloc1 _ _⟩
def RdR (w : World) (p : Option Addr) (rs : List Rd) : Prop :=
  rs = [] ∨ ∃ b off, p = some ⟨b, off, none⟩ ∧ ∀ i, i < rs.length → w.cell? ⟨b, off + i * 4, none⟩ = some (.int .i64 (gr rs i).aft) ∧ w.cell? ⟨b, off + i * 4 + 1, none⟩ = some (.int .i64 (gr rs i).arb) ∧ w.cell? ⟨b, off + i * 4 + 2, none⟩ = some (.int .i64 (gr rs i).seen) ∧ w.cell? ⟨b, off + i * 4 + 3, none⟩ = some (.int .i64 (gr rs i).off)
theorem RdR.at {w : World} {p : Option Addr} {rs : List Rd} (h : RdR w p rs) {i : Nat} (hi : i < rs.length) :
    ∃ b off, p = some ⟨b, off, none⟩ ∧ ∀ i, i < rs.length → w.cell? ⟨b, off + i * 4, none⟩ = some (.int .i64 (gr rs i).aft) ∧ w.cell? ⟨b, off + i * 4 + 1, none⟩ = some (.int .i64 (gr rs i).arb) ∧ w.cell? ⟨b, off + i * 4 + 2, none⟩ = some (.int .i64 (gr rs i).seen) ∧ w.cell? ⟨b, off + i * 4 + 3, none⟩ = some (.int .i64 (gr rs i).off) := by
  rcases h with h | h
  · subst h; simp at hi
  · exact h
theorem RdR.below {w w' : World} {p : Option Addr} {rs : List Rd} (h : RdR w p rs) (hb : Below w.heap.size w w') : RdR w' p rs := by
  rcases h with h | ⟨b, off, rfl, hc⟩
  · exact .inl h
  · refine .inr ⟨b, off, rfl, fun i hi => ?_⟩
    obtain ⟨h1, h2, h3, h4⟩ := hc i hi; exact ⟨(hb.cell (lt_of_cellq h1)).trans h1, (hb.cell (lt_of_cellq h2)).trans h2, (hb.cell (lt_of_cellq h3)).trans h3, (hb.cell (lt_of_cellq h4)).trans h4⟩
structure RdP (w : World) (pm pv pr : Option Addr) (p : Pc) : Prop where
  ms : RdS w pm p.ms
  mv : RdI w pv p.mv
  rs : RdR w pr p.rs
theorem RdP.below {w w' : World} {pm pv pr : Option Addr} {p : Pc} (h : RdP w pm pv pr p) (hb : Below w.heap.size w w') : RdP w' pm pv pr p := ⟨h.ms.below hb, h.mv.below hb, h.rs.below hb⟩
theorem rd_of_own {w : World} {base : Nat} {v : Value} {xs : List Int} (h : w.ownsRow base 3 1 v xs.length (inV xs)) :
    ∃ p cap, v = .slice p xs.length cap ∧ RdI w p xs := by
  rcases h.2 with ⟨rfl, h0⟩ | ⟨g, cap, cur, rfl, hb, hg, hnc, hcm, hsz, htk⟩
  · have : xs = [] := List.length_eq_zero_iff.1 h0
    subst this; exact ⟨none, 0, rfl, .inl rfl⟩
  · refine ⟨some ⟨g, 0, none⟩, cap, rfl, .inr ⟨g, 0, rfl, fun i hi => ?_⟩⟩
    have := h.cells (g := g) rfl i _ (inV_get xs i hi); have hadd : (⟨g, 0, none⟩ : Addr).add i = ⟨g, 0 + i, none⟩ := by unfold Addr.add; split <;> simp_all
    rwa [hadd] at this
theorem rds_of_own {w : World} {base e : Nat} {v : Value} {ss : List (Int × Int)} (h : w.ownsRow base e 2 v ss.length (spV ss)) :
    ∃ p cap, v = .slice p ss.length cap ∧ RdS w p ss := by
  rcases h.2 with ⟨rfl, h0⟩ | ⟨g, cap, cur, rfl, hb, hg, hnc, hcm, hsz, htk⟩
  · have : ss = [] := List.length_eq_zero_iff.1 h0
    subst this; exact ⟨none, 0, rfl, .inl rfl⟩
  · refine ⟨some ⟨g, 0, none⟩, cap, rfl, .inr ⟨g, 0, rfl, fun i hi => ?_⟩⟩
    obtain ⟨e1, e2⟩ := spV_get ss i hi; have h1 := h.cells (g := g) rfl _ _ e1; have h2 := h.cells (g := g) rfl _ _ e2; have hadd : ∀ j, (⟨g, 0, none⟩ : Addr).add j = ⟨g, 0 + j, none⟩ := fun j => by unfold Addr.add; split <;> simp_all
    rw [hadd] at h1 h2; exact ⟨h1, by rw [show 0 + i * 2 + 1 = 0 + (i * 2 + 1) by omega]; exact h2⟩
theorem inB_true {x lo hi : Int} (h1 : lo ≤ x) (h2 : x ≤ hi) : inB x lo hi = true := by simp [inB, h1, h2]
theorem inB_lo {x lo hi : Int} (h : ¬ lo ≤ x) : inB x lo hi = false := by simp [inB, h]
theorem inB_hi {x lo hi : Int} (h : ¬ x ≤ hi) : inB x lo hi = false := by simp [inB, h]
theorem c_in (x lo hi : Int) (w : World) :
    Calls Tryz.prog 104 #[.int .i64 x, .int .i64 lo, .int .i64 hi] w fun e w' => e = .returned (.bool (inB x lo hi)) ∧ w = w' := by
  by_cases h1 : lo ≤ x
  · by_cases h2 : x ≤ hi
    · have HB := Lib.hid (inB_true h1 h2)
      go_enter Tryz.func104, Tryz.ntmps104
      go_wp2
      go_ret
      exact ⟨by rw [HB.out]; rfl, rfl⟩
    · have HB := Lib.hid (inB_hi (lo := lo) h2)
      go_enter Tryz.func104, Tryz.ntmps104
      go_wp2
      go_ret
      exact ⟨by rw [HB.out]; rfl, rfl⟩
  · have HB := Lib.hid (inB_lo (hi := hi) h1)
    go_enter Tryz.func104, Tryz.ntmps104
    go_wp2
    go_ret
    exact ⟨by rw [HB.out]; rfl, rfl⟩
theorem r_in (x lo hi : Int) (w : World) :
    Calls Tryz.prog 58 #[.int .i64 x, .int .i64 lo, .int .i64 hi] w fun e w' => e = .returned (.bool (inB x lo hi)) ∧ w = w' := by
  by_cases h1 : lo ≤ x
  · by_cases h2 : x ≤ hi
    · have HB := Lib.hid (inB_true h1 h2)
      go_enter Tryz.func58, Tryz.ntmps58
      go_wp2
      go_ret
      exact ⟨by rw [HB.out]; rfl, rfl⟩
    · have HB := Lib.hid (inB_hi (lo := lo) h2)
      go_enter Tryz.func58, Tryz.ntmps58
      go_wp2
      go_ret
      exact ⟨by rw [HB.out]; rfl, rfl⟩
  · have HB := Lib.hid (inB_lo (hi := hi) h1)
    go_enter Tryz.func58, Tryz.ntmps58
    go_wp2
    go_ret
    exact ⟨by rw [HB.out]; rfl, rfl⟩
def spanB (lo hi a b : Int) : Bool := decide (a ≤ lo) && decide (lo ≤ hi) && decide (hi ≤ b)
set_option maxRecDepth 100000 in
theorem c_isSpan (lo hi a b : Int) (w : World) :
    Calls Tryz.prog 107 #[.agg #[.int .i64 lo, .int .i64 hi], .int .i64 a, .int .i64 b] w fun e w' => e = .returned (.bool (spanB lo hi a b)) ∧ Below w.heap.size w w' := by
  by_cases h1 : lo ≥ a
  case neg =>
    have H := Lib.hid (show spanB lo hi a b = false by unfold spanB; simp; omega)
    go_enter Tryz.func107, Tryz.ntmps107
    go_wp2
    go_ret
    exact ⟨by rw [H.out]; rfl, below_alloc1 _ _⟩
  by_cases h2 : lo ≤ hi
  case neg =>
    have H := Lib.hid (show spanB lo hi a b = false by unfold spanB; simp; omega)
    go_enter Tryz.func107, Tryz.ntmps107
    go_wp2
    go_ret
    exact ⟨by rw [H.out]; rfl, below_alloc1 _ _⟩
  by_cases h3 : hi ≤ b
  case neg =>
    have H := Lib.hid (show spanB lo hi a b = false by unfold spanB; simp; omega)
    go_enter Tryz.func107, Tryz.ntmps107
    go_wp2
    go_ret
    exact ⟨by rw [H.out]; rfl, below_alloc1 _ _⟩
  · have H := Lib.hid (show spanB lo hi a b = true by unfold spanB; simp; omega)
    go_enter Tryz.func107, Tryz.ntmps107
    go_wp2
    go_ret
    exact ⟨by rw [H.out]; rfl, below_alloc1 _ _⟩
theorem c_meshNot (lo hi : Int) (w : World) :
    Calls Tryz.prog 140 #[.agg #[.int .i64 lo, .int .i64 hi]] w fun e w' => e = .returned (.bool (!meshB (lo, hi))) ∧ Below w.heap.size w w' := by
  obtain ⟨w0, e0, HS, k0, k1, b0⟩ := box2 w (.int .i64 lo) (.int .i64 hi) 63
  have HB0 := Lib.hid b0
  have h := c_isSpan lo hi 0 100 w0
  rcases h1 : spanB lo hi 0 100 with _ | _
  · rw [h1] at h
    have H := Lib.hid (show meshB (lo, hi) = false by unfold spanB at h1; unfold meshB; simp at h1 ⊢; omega)
    clear h1 b0
    go_enter Tryz.func140, Tryz.ntmps140
    go_wp2_with fail
    refine h.mono ?_
    rintro e w' ⟨rfl, b1⟩
    have HB1 := Lib.hid (HB0.out.trans (b1.mono HB0.out.size))
    clear e0 b1
    go_wp2
    go_ret
    exact ⟨by rw [H.out]; rfl, HB1.out⟩
  · rw [h1] at h
    have hr : 0 ≤ lo ∧ lo ≤ hi ∧ hi ≤ 100 := by unfold spanB at h1; simp at h1; omega
    obtain ⟨hr1, hr2, hr3⟩ := hr
    clear h1
    by_cases h2 : hi - lo > 4
    · have H := Lib.hid (show meshB (lo, hi) = false by unfold meshB; simp; omega)
      go_enter Tryz.func140, Tryz.ntmps140
      go_wp2_with fail
      refine h.mono ?_
      rintro e w' ⟨rfl, b1⟩
      have HB1 := Lib.hid (HB0.out.trans (b1.mono HB0.out.size))
      have q0 := (b1.cell (lt_of_cellq k0)).trans k0
      have q1 := (b1.cell (lt_of_cellq k1)).trans k1
      clear e0 b1 b0 k0 k1
      go_wp2
      go_ret
      exact ⟨by rw [H.out]; simp, HB1.out⟩
    · have H := Lib.hid (show meshB (lo, hi) = true by unfold meshB; simp; omega)
      go_enter Tryz.func140, Tryz.ntmps140
      go_wp2_with fail
      refine h.mono ?_
      rintro e w' ⟨rfl, b1⟩
      have HB1 := Lib.hid (HB0.out.trans (b1.mono HB0.out.size))
      have q0 := (b1.cell (lt_of_cellq k0)).trans k0
      have q1 := (b1.cell (lt_of_cellq k1)).trans k1
      clear e0 b1 b0 k0 k1
      go_wp2
      go_ret
      exact ⟨by rw [H.out]; simp; omega, HB1.out⟩
theorem c_moveNot (x : Int) (w : World) : Calls Tryz.prog 141 #[.int .i64 x] w fun e w' => e = .returned (.bool (!inB x (-300) 300)) ∧ Below w.heap.size w w' := by
  go_enter Tryz.func141, Tryz.ntmps141
  go_wp2_with (go_at_call 104; refine (c_in _ _ _ _).mono ?_; rintro e w' ⟨rfl, rfl⟩)
  go_ret
  exact ⟨rfl, Below.refl _ _⟩
theorem c_errNot (lo hi : Int) (w : World) :
    Calls Tryz.prog 106 #[.agg #[.int .i64 lo, .int .i64 hi]] w fun e w' => e = .returned (.bool (!spanB lo hi (-30) 30)) ∧ Below w.heap.size w w' := by
  go_enter Tryz.func106, Tryz.ntmps106
  go_wp2_with (go_at_call 107; refine (c_isSpan _ _ _ _ _).mono ?_; rintro e w' ⟨rfl, hb⟩)
  go_ret
  exact ⟨rfl, (below_alloc1 _ _).trans (hb.mono (by simp))⟩
end Go.Proofs.YtchclaipbahiiaaGreat
end

section
namespace Go.Proofs.YtchclaipbahiiaaGreat
set_option linter.unusedVariables false
def ovF (p : Pc) (of : List Int → Int × Int) : Int × Int := overF ((truthsF p).map of)
theorem ovF_mem {p : Pc} {pl : List Int} (of : List Int → Int × Int) (h : pl ∈ truthsF p) : (ovF p of).1 ≤ (of pl).1 ∧ (of pl).2 ≤ (ovF p of).2 := overF_mem (List.mem_map.2 ⟨pl, h, rfl⟩)
theorem ovF_low {p : Pc} (of : List Int → Int × Int) (h : truthsF p ≠ []) : ∃ pl ∈ truthsF p, (ovF p of).1 = (of pl).1 := by
  obtain ⟨m, hm, e⟩ := overF_low (l := (truthsF p).map of) (by simpa using h); obtain ⟨pl, hpl, rfl⟩ := List.mem_map.1 hm; exact ⟨pl, hpl, e⟩
theorem ovF_high {p : Pc} (of : List Int → Int × Int) (h : truthsF p ≠ []) : ∃ pl ∈ truthsF p, (ovF p of).2 = (of pl).2 := by
  obtain ⟨m, hm, e⟩ := overF_high (l := (truthsF p).map of) (by simpa using h); obtain ⟨pl, hpl, rfl⟩ := List.mem_map.1 hm; exact ⟨pl, hpl, e⟩
theorem ne_of_mem {α : Type} {l : List α} {x : α} (h : x ∈ l) : l ≠ [] := by rintro rfl; cases h
theorem truth_plays {p : Pc} (hp : PieceOk p) {pl : List Int} (h : pl ∈ truthsF p) : PlaysOk p pl := by
  obtain ⟨h1, h2⟩ := mem_truthsF.1 h; unfold fitsB at h2; rw [Bool.and_eq_true] at h2; have h3 := withinB_iff.1 h2.1; exact ⟨h1, fun i hi => by have := h3 i hi; have := hp.mesh i (by omega); omega⟩
theorem end_chain {p : Pc} {pl : List Int} (h : Pos pl) : Chain pl (endF p pl) := runF_chain h _ _
theorem end_len {p : Pc} {pl : List Int} (h : Pos pl) : (endF p pl).length = pl.length + 1 := (end_chain h).len
theorem sumT_le {l : List Int} {c : Nat} (h : ∀ i, i < l.length → -(c : Int) ≤ gi l i ∧ gi l i ≤ c) : ∀ k, k ≤ l.length → -((c * k : Nat) : Int) ≤ sumT l k ∧ sumT l k ≤ ((c * k : Nat) : Int) := by
  intro k
  induction k with
  | zero => intro _; simp [sumT]
  | succ k ih =>
    intro hk; have h1 := ih (by omega); have h2 := h k (by omega); simp only [sumT]; rw [Nat.mul_succ]; omega
theorem crank_range {p : Pc} (hp : PieceOk p) (k : Nat) (hk : k ≤ p.mv.length) : -2400 ≤ sumT p.mv k ∧ sumT p.mv k ≤ 2400 := by
  have h := sumT_le (l := p.mv) (c := 300) (fun i hi => by have := hp.move i hi; omega) k hk; have := hp.m8; omega
theorem plays_range {p : Pc} (hp : PieceOk p) {pl : List Int} (h : PlaysOk p pl) (k : Nat) (hk : k ≤ pl.length) : 0 ≤ sumT pl k ∧ sumT pl k ≤ 400 := by
  have h1 := sumT_le (l := pl) (c := 100) (fun i hi => by have := h.in' i hi; omega) k hk; have h2 := sumT_pos h.pos k hk; have := hp.n4; have := h.len; omega
theorem place_range {p : Pc} (hp : PieceOk p) {pl : List Int} (h : PlaysOk p pl) (i k : Nat) (hi : i ≤ p.mv.length) (hk : k ≤ pl.length) : -2800 ≤ gi (runF pl p.mv i) k ∧ gi (runF pl p.mv i) k ≤ 2400 := by
  have hc := runF_chain h.pos p.mv i; have h1 := hc.top k hk; have h2 := hc.low k hk; rw [runF_zero] at h1 h2; have := crank_range hp i hi; have := plays_range hp h k hk; omega
theorem sub_flatMap {α β : Type} {a b : List α} (h : a.Sublist b) (f : α → List β) : (a.flatMap f).Sublist (b.flatMap f) := by
  induction h with
  | slnil => exact List.Sublist.refl _
  | cons x _ ih => rw [List.flatMap_cons]; exact List.Sublist.trans ih (List.sublist_append_right _ _)
  | cons_cons x _ ih => rw [List.flatMap_cons, List.flatMap_cons]; exact List.Sublist.append (List.Sublist.refl _) ih
structure Hd where
  arb : Int
  num : Int
  den : Int
  er : List (Int × Int)
def errB (s : Int × Int) : Bool := decide (-30 ≤ s.1) && decide (s.1 ≤ s.2) && decide (s.2 ≤ 30)
def handB (n : Nat) (h : Hd) : Bool := inB h.arb 0 n && inB h.num 1 100 && inB h.den 1 100 && decide (1 ≤ h.er.length) && decide (h.er.length ≤ 8) && h.er.all errB
structure HandOk (n : Nat) (h : Hd) : Prop where
  arb : 0 ≤ h.arb ∧ h.arb ≤ n
  num : 1 ≤ h.num ∧ h.num ≤ 100
  den : 1 ≤ h.den ∧ h.den ≤ 100
  len : 1 ≤ h.er.length ∧ h.er.length ≤ 8
  err : ∀ i, i < h.er.length → -30 ≤ (gm h.er i).1 ∧ (gm h.er i).1 ≤ (gm h.er i).2 ∧ (gm h.er i).2 ≤ 30
theorem handB_iff {n : Nat} {h : Hd} : handB n h = true ↔ HandOk n h := by
  unfold handB; simp only [Bool.and_eq_true, decide_eq_true_eq, inB_iff]; rw [all_at (0, 0)]
  constructor
  · rintro ⟨⟨⟨⟨⟨h1, h2⟩, h3⟩, h4⟩, h5⟩, h6⟩
    refine ⟨h1, h2, h3, ⟨h4, h5⟩, fun i hi => ?_⟩; have := h6 i hi; unfold errB at this; simp only [Bool.and_eq_true, decide_eq_true_eq] at this; exact ⟨this.1.1, this.1.2, this.2⟩
  · intro h
    refine ⟨⟨⟨⟨⟨h.arb, h.num⟩, h.den⟩, h.len.1⟩, h.len.2⟩, fun i hi => ?_⟩; have := h.err i hi; unfold errB; simp only [Bool.and_eq_true, decide_eq_true_eq]; exact ⟨⟨this.1, this.2.1⟩, this.2.2⟩
def atF (h : Hd) (pc : Int) : Int := pc * h.num / h.den
def stepF (h : Hd) (pc : Int) : Nat := (atF h pc % 21600 * h.er.length / 21600).toNat
def shownF (h : Hd) (pc : Int) : Int × Int := (atF h pc + (gm h.er (stepF h pc)).1, atF h pc + (gm h.er (stepF h pc)).2)
theorem stepF_lt {n : Nat} {h : Hd} (hh : HandOk n h) (pc : Int) : stepF h pc < h.er.length := by
  unfold stepF; have h1 : 0 ≤ atF h pc % 21600 := Int.emod_nonneg _ (by omega); have h2 : atF h pc % 21600 < 21600 := Int.emod_lt_of_pos _ (by omega); obtain ⟨l, hl⟩ : ∃ l, h.er.length = l := ⟨_, rfl⟩; have h3 := hh.len; rw [hl] at h3 ⊢; have h4 : atF h pc % 21600 * (l : Int) ≤ 21599 * (l : Int) := Int.mul_le_mul_of_nonneg_right (by omega) (by omega); have h5 : 0 ≤ atF h pc % 21600 * (l : Int) := Int.mul_nonneg h1 (by omega); omega
theorem atF_range {n : Nat} {h : Hd} (hh : HandOk n h) {pc : Int} (hp : -2800 ≤ pc ∧ pc ≤ 2400) : -280000 ≤ atF h pc ∧ atF h pc ≤ 240000 := by
  unfold atF
  have h1 : -280000 ≤ pc * h.num := by
    have := Int.mul_le_mul_of_nonneg_right (a := -2800) (b := pc) (c := h.num) hp.1 (by have := hh.num; omega); have := hh.num; omega
  have h2 : pc * h.num ≤ 240000 := by
    have := Int.mul_le_mul_of_nonneg_right (a := pc) (b := 2400) (c := h.num) hp.2 (by have := hh.num; omega); have := hh.num; omega
  have h3 := hh.den
  constructor
  · refine (Int.le_ediv_iff_mul_le (by omega)).2 ?_
    have : -280000 * h.den ≤ -280000 := by omega
    omega
  · have h4 := Int.ediv_mul_le (pc * h.num) (show h.den ≠ 0 by omega)
    rcases Int.lt_or_le 0 (pc * h.num / h.den) with h5 | h5
    · have := Int.mul_le_mul_of_nonneg_left (a := 1) (b := h.den) (c := pc * h.num / h.den) (by omega) (by omega)
      omega
    · omega
def shF (p : Pc) (h : Hd) (pl : List Int) : Int × Int := shownF h (gi (endF p pl) h.arb.toNat)
def showsF (p : Pc) (h : Hd) : Int × Int := ovF p (shF p h)
end Go.Proofs.YtchclaipbahiiaaGreat
end

section
namespace Go.Proofs.YtchclaipbahiiaaGreat
open Go Go.RowKit Go.Proofs
set_option linter.unusedVariables false
attribute [local go_sem] imax2 imin2
set_option maxRecDepth 100000 in
theorem c_readNot (pb nb : Nat) (pv : Option Addr) (cv kk nn : Nat) (a b s o : Int) (w : World) (hk : w.cell? ⟨pb, 1, none⟩ = some (.slice pv kk cv)) (hm : w.cell? ⟨nb, 0, none⟩ = some (.int .i64 (nn : Int))) :
    Calls Tryz.prog 143 #[.agg #[.int .i64 a, .int .i64 b, .int .i64 s, .int .i64 o], .pointer (some ⟨pb, 0, none⟩), .pointer (some ⟨nb, 0, none⟩)] w fun e w' => e = .returned (.bool (!readB nn kk ⟨a, b, s, o⟩)) ∧ Below w.heap.size w w' := by
  obtain ⟨w0, e0, HS, k0, k1, k2, k3, b0⟩ := box4 w (.int .i64 a) (.int .i64 b) (.int .i64 s) (.int .i64 o) 116
  have hk := (b0.cell (lt_of_cellq hk)).trans hk
  have hm := (b0.cell (lt_of_cellq hm)).trans hm
  have HB0 := Lib.hid b0
  clear b0
  rcases h1 : inB a 0 kk with _ | _
  · have H := Lib.hid (show readB nn kk ⟨a, b, s, o⟩ = false by unfold readB; rw [h1]; rfl)
    go_enter Tryz.func143, Tryz.ntmps143
    go_wp2_with (go_at_call 104; refine (c_in _ _ _ _).mono ?_; rintro e w' ⟨rfl, rfl⟩)
    go_ret
    exact ⟨by rw [H.out]; rfl, HB0.out⟩
  rcases h2 : inB b 1 nn with _ | _
  · have H := Lib.hid (show readB nn kk ⟨a, b, s, o⟩ = false by unfold readB; simp [h1, h2])
    go_enter Tryz.func143, Tryz.ntmps143
    go_wp2_with (go_at_call 104; refine (c_in _ _ _ _).mono ?_; rintro e w' ⟨rfl, rfl⟩)
    go_ret
    exact ⟨by rw [H.out]; rfl, HB0.out⟩
  rcases h3 : inB s (-5000) 5000 with _ | _
  · have H := Lib.hid (show readB nn kk ⟨a, b, s, o⟩ = false by unfold readB; simp [h1, h2, h3])
    go_enter Tryz.func143, Tryz.ntmps143
    go_wp2_with (go_at_call 104; refine (c_in _ _ _ _).mono ?_; rintro e w' ⟨rfl, rfl⟩)
    go_ret
    exact ⟨by rw [H.out]; rfl, HB0.out⟩
  · have H := Lib.hid (show readB nn kk ⟨a, b, s, o⟩ = inB o 0 50 by unfold readB; simp [h1, h2, h3])
    go_enter Tryz.func143, Tryz.ntmps143
    go_wp2_with (go_at_call 104; refine (c_in _ _ _ _).mono ?_; rintro e w' ⟨rfl, rfl⟩)
    go_ret
    exact ⟨by rw [H.out]; rfl, HB0.out⟩
def BadAt (n : Nat) (ok : Nat → Bool) (r : Int) : Prop := (r = -1 ∧ ∀ j, j < n → ok j = true) ∨ (0 ≤ r ∧ ∃ j, j < n ∧ ok j = false)
def BadPost (n : Nat) (ok : Nat → Bool) (w : World) (e : Ending) (w' : World) : Prop := ∃ r : Int, BadAt n ok r ∧ e = .returned (.int .i64 r) ∧ Below w.heap.size w w'
theorem all_ok {α : Type} {f : α → Bool} {d : α} {l : List α} (h : ∀ j, j < l.length → f (l.getD j d) = true) : l.all f = true := (all_at d l).2 h
theorem all_bad {α : Type} {f : α → Bool} {d : α} {l : List α} {j : Nat} (hj : j < l.length) (h : f (l.getD j d) = false) : l.all f = false := by
  cases hh : l.all f with
  | false => rfl
  | true => rw [(all_at d l).1 hh j hj] at h; cases h
set_option maxHeartbeats 400000 in
set_option maxRecDepth 100000 in
theorem ix_mesh (p : Option Addr) (cap : Nat) (xs : List (Int × Int)) (w : World) (hx : RdS w p xs) (hl : xs.length ≤ 1000000) :
    Calls Tryz.prog 159 #[.slice p xs.length cap, .func (.func 140) #[] #[]] w (BadPost xs.length (fun j => meshB (gm xs j)) w) := by
  have HX := Lib.hid hx
  clear hx 
  go_enter Tryz.func159, Tryz.ntmps159
  go_wp2
  go_loopw [8] (fun i wr => ∃ k : Nat, k ≤ xs.length ∧ i = .int .i64 k ∧ Hid (∀ j, j < k → meshB (gm xs j) = true) ∧ Below w.heap.size w wr) (fun i _ => xs.length - (intOf i).toNat)
  case atStart => exact ⟨0, by omega, rfl, Lib.hid (by intro j hj; omega), Below.refl _ _⟩
  case round =>
    obtain ⟨k, hk, rfl, HH, hnx⟩ := hrel
    have HN := Lib.hid hnx
    by_cases hlt : k < xs.length
    · obtain ⟨b, off, rfl, hc⟩ := (HX.out.below hnx).at hlt
      obtain ⟨e1, e2⟩ := hc k hlt
      have hcl : Calls Tryz.prog 140 #[.agg #[.int .i64 (gm xs k).1, .int .i64 (gm xs k).2]] wr fun e w' => e = .returned (.bool (!meshB (gm xs k))) ∧ Below wr.heap.size wr w' := c_meshNot (gm xs k).1 (gm xs k).2 wr
      clear hc hnx
      rcases hb : meshB (gm xs k) with _ | _
      · have HB := Lib.hid hb
        rw [hb] at hcl
        clear hb
        go_wp2_with fail
        refine hcl.mono ?_
        rintro e w4 ⟨rfl, b4⟩
        have HN2 := Lib.hid (HN.out.trans (b4.mono HN.out.size))
        clear hcl b4
        go_wp2
        go_ret
        exact ⟨k, .inr ⟨by omega, k, hlt, HB.out⟩, rfl, HN2.out⟩
      · have HB := Lib.hid hb
        rw [hb] at hcl
        clear hb
        go_wp2_with fail
        refine hcl.mono ?_
        rintro e w4 ⟨rfl, b4⟩
        have HN2 := Lib.hid (HN.out.trans (b4.mono HN.out.size))
        clear hcl b4
        go_wp2
        go_roundw
        case rel =>
          refine ⟨k + 1, by omega, by go_num, Lib.hid fun j hj => ?_, HN2.out⟩
          rcases Nat.lt_or_ge j k with h | h
          · exact HH.out j h
          · obtain rfl : j = k := by omega
            exact HB.out
        case measure => simp [intOf]; omega
    · obtain rfl : k = xs.length := by omega
      go_wp2
      go_ret
      exact ⟨-1, .inl ⟨rfl, HH.out⟩, rfl, HN.out⟩
theorem cf_mesh (p : Option Addr) (cap : Nat) (xs : List (Int × Int)) (w : World) (hx : RdS w p xs) (hl : xs.length ≤ 1000000) :
    Calls Tryz.prog 139 #[.slice p xs.length cap, .func (.func 140) #[] #[]] w fun e w' => e = .returned (.bool (!xs.all meshB)) ∧ Below w.heap.size w w' := by
  have h := ix_mesh p cap xs w hx hl 
  clear hx 
  go_enter Tryz.func139, Tryz.ntmps139
  go_wp2_with fail
  refine h.mono ?_
  rintro e w' ⟨r, hr, rfl, hb⟩
  have HB := Lib.hid hb
  clear h hb
  rcases hr with ⟨rfl, hh⟩ | ⟨h0, j, hj, hb⟩
  · have HG := Lib.hid (all_ok (f := meshB) (d := (0, 0)) (l := xs) hh)
    clear hh
    go_wp2
    go_ret
    exact ⟨by rw [HG.out]; rfl, HB.out⟩
  · have HG := Lib.hid (all_bad (f := meshB) (d := (0, 0)) (l := xs) hj hb)
    clear hb
    go_wp2
    go_ret
    exact ⟨by rw [HG.out]; simp, HB.out⟩
set_option maxHeartbeats 400000 in
set_option maxRecDepth 100000 in
theorem ix_move (p : Option Addr) (cap : Nat) (xs : List Int) (w : World) (hx : RdI w p xs) (hl : xs.length ≤ 1000000) :
    Calls Tryz.prog 89 #[.slice p xs.length cap, .func (.func 141) #[] #[]] w (BadPost xs.length (fun j => (fun x => inB x (-300) 300) (gi xs j)) w) := by
  have HX := Lib.hid hx
  clear hx 
  go_enter Tryz.func89, Tryz.ntmps89
  go_wp2
  go_loopw [8] (fun i wr => ∃ k : Nat, k ≤ xs.length ∧ i = .int .i64 k ∧ Hid (∀ j, j < k → (fun x => inB x (-300) 300) (gi xs j) = true) ∧ Below w.heap.size w wr) (fun i _ => xs.length - (intOf i).toNat)
  case atStart => exact ⟨0, by omega, rfl, Lib.hid (by intro j hj; omega), Below.refl _ _⟩
  case round =>
    obtain ⟨k, hk, rfl, HH, hnx⟩ := hrel
    have HN := Lib.hid hnx
    by_cases hlt : k < xs.length
    · obtain ⟨b, off, rfl, hc⟩ := (HX.out.below hnx).at hlt
      obtain e1 := hc k hlt
      have hcl : Calls Tryz.prog 141 #[.int .i64 (gi xs k)] wr fun e w' => e = .returned (.bool (!(fun x => inB x (-300) 300) (gi xs k))) ∧ Below wr.heap.size wr w' := c_moveNot (gi xs k) wr
      clear hc hnx
      rcases hb : (fun x => inB x (-300) 300) (gi xs k) with _ | _
      · have HB := Lib.hid hb
        rw [hb] at hcl
        clear hb
        go_wp2_with fail
        refine hcl.mono ?_
        rintro e w4 ⟨rfl, b4⟩
        have HN2 := Lib.hid (HN.out.trans (b4.mono HN.out.size))
        clear hcl b4
        go_wp2
        go_ret
        exact ⟨k, .inr ⟨by omega, k, hlt, HB.out⟩, rfl, HN2.out⟩
      · have HB := Lib.hid hb
        rw [hb] at hcl
        clear hb
        go_wp2_with fail
        refine hcl.mono ?_
        rintro e w4 ⟨rfl, b4⟩
        have HN2 := Lib.hid (HN.out.trans (b4.mono HN.out.size))
        clear hcl b4
        go_wp2
        go_roundw
        case rel =>
          refine ⟨k + 1, by omega, by go_num, Lib.hid fun j hj => ?_, HN2.out⟩
          rcases Nat.lt_or_ge j k with h | h
          · exact HH.out j h
          · obtain rfl : j = k := by omega
            exact HB.out
        case measure => simp [intOf]; omega
    · obtain rfl : k = xs.length := by omega
      go_wp2
      go_ret
      exact ⟨-1, .inl ⟨rfl, HH.out⟩, rfl, HN.out⟩
theorem cf_move (p : Option Addr) (cap : Nat) (xs : List Int) (w : World) (hx : RdI w p xs) (hl : xs.length ≤ 1000000) :
    Calls Tryz.prog 42 #[.slice p xs.length cap, .func (.func 141) #[] #[]] w fun e w' => e = .returned (.bool (!xs.all (fun x => inB x (-300) 300))) ∧ Below w.heap.size w w' := by
  have h := ix_move p cap xs w hx hl 
  clear hx 
  go_enter Tryz.func42, Tryz.ntmps42
  go_wp2_with fail
  refine h.mono ?_
  rintro e w' ⟨r, hr, rfl, hb⟩
  have HB := Lib.hid hb
  clear h hb
  rcases hr with ⟨rfl, hh⟩ | ⟨h0, j, hj, hb⟩
  · have HG := Lib.hid (all_ok (f := (fun x => inB x (-300) 300)) (d := 0) (l := xs) hh)
    clear hh
    go_wp2
    go_ret
    exact ⟨by rw [HG.out]; rfl, HB.out⟩
  · have HG := Lib.hid (all_bad (f := (fun x => inB x (-300) 300)) (d := 0) (l := xs) hj hb)
    clear hb
    go_wp2
    go_ret
    exact ⟨by rw [HG.out]; simp, HB.out⟩
set_option maxHeartbeats 400000 in
set_option maxRecDepth 100000 in
theorem ix_read (p : Option Addr) (cap : Nat) (xs : List Rd) (pb nb : Nat) (pv : Option Addr) (cv kk nn : Nat) (w : World) (hx : RdR w p xs) (hl : xs.length ≤ 1000000) (hk : w.cell? ⟨pb, 1, none⟩ = some (.slice pv kk cv)) (hm : w.cell? ⟨nb, 0, none⟩ = some (.int .i64 (nn : Int))) :
    Calls Tryz.prog 160 #[.slice p xs.length cap, .func (.func 143) #[] #[.pointer (some ⟨pb, 0, none⟩), .pointer (some ⟨nb, 0, none⟩)]] w (BadPost xs.length (fun j => (readB nn kk) (gr xs j)) w) := by
  have HX := Lib.hid hx
  have HK := Lib.hid hk
  have HM := Lib.hid hm
  clear hx hk hm
  go_enter Tryz.func160, Tryz.ntmps160
  go_wp2
  go_loopw [8] (fun i wr => ∃ k : Nat, k ≤ xs.length ∧ i = .int .i64 k ∧ Hid (∀ j, j < k → (readB nn kk) (gr xs j) = true) ∧ Below w.heap.size w wr) (fun i _ => xs.length - (intOf i).toNat)
  case atStart => exact ⟨0, by omega, rfl, Lib.hid (by intro j hj; omega), Below.refl _ _⟩
  case round =>
    obtain ⟨k, hk, rfl, HH, hnx⟩ := hrel
    have HN := Lib.hid hnx
    by_cases hlt : k < xs.length
    · obtain ⟨b, off, rfl, hc⟩ := (HX.out.below hnx).at hlt
      obtain ⟨e1, e2, e3, e4⟩ := hc k hlt
      have hcl : Calls Tryz.prog 143 #[.agg #[.int .i64 (gr xs k).aft, .int .i64 (gr xs k).arb, .int .i64 (gr xs k).seen, .int .i64 (gr xs k).off], .pointer (some ⟨pb, 0, none⟩), .pointer (some ⟨nb, 0, none⟩)] wr fun e w' => e = .returned (.bool (!(readB nn kk) (gr xs k))) ∧ Below wr.heap.size wr w' := c_readNot pb nb pv cv kk nn (gr xs k).aft (gr xs k).arb (gr xs k).seen (gr xs k).off wr ((hnx.cell (lt_of_cellq HK.out)).trans HK.out) ((hnx.cell (lt_of_cellq HM.out)).trans HM.out)
      clear hc hnx
      rcases hb : (readB nn kk) (gr xs k) with _ | _
      · have HB := Lib.hid hb
        rw [hb] at hcl
        clear hb
        go_wp2_with fail
        refine hcl.mono ?_
        rintro e w4 ⟨rfl, b4⟩
        have HN2 := Lib.hid (HN.out.trans (b4.mono HN.out.size))
        clear hcl b4
        go_wp2
        go_ret
        exact ⟨k, .inr ⟨by omega, k, hlt, HB.out⟩, rfl, HN2.out⟩
      · have HB := Lib.hid hb
        rw [hb] at hcl
        clear hb
        go_wp2_with fail
        refine hcl.mono ?_
        rintro e w4 ⟨rfl, b4⟩
        have HN2 := Lib.hid (HN.out.trans (b4.mono HN.out.size))
        clear hcl b4
        go_wp2
        go_roundw
        case rel =>
          refine ⟨k + 1, by omega, by go_num, Lib.hid fun j hj => ?_, HN2.out⟩
          rcases Nat.lt_or_ge j k with h | h
          · exact HH.out j h
          · obtain rfl : j = k := by omega
            exact HB.out
        case measure => simp [intOf]; omega
    · obtain rfl : k = xs.length := by omega
      go_wp2
      go_ret
      exact ⟨-1, .inl ⟨rfl, HH.out⟩, rfl, HN.out⟩
theorem cf_read (p : Option Addr) (cap : Nat) (xs : List Rd) (pb nb : Nat) (pv : Option Addr) (cv kk nn : Nat) (w : World) (hx : RdR w p xs) (hl : xs.length ≤ 1000000) (hk : w.cell? ⟨pb, 1, none⟩ = some (.slice pv kk cv)) (hm : w.cell? ⟨nb, 0, none⟩ = some (.int .i64 (nn : Int))) :
    Calls Tryz.prog 142 #[.slice p xs.length cap, .func (.func 143) #[] #[.pointer (some ⟨pb, 0, none⟩), .pointer (some ⟨nb, 0, none⟩)]] w fun e w' => e = .returned (.bool (!xs.all (readB nn kk))) ∧ Below w.heap.size w w' := by
  have h := ix_read p cap xs pb nb pv cv kk nn w hx hl hk hm
  clear hx hk hm
  go_enter Tryz.func142, Tryz.ntmps142
  go_wp2_with fail
  refine h.mono ?_
  rintro e w' ⟨r, hr, rfl, hb⟩
  have HB := Lib.hid hb
  clear h hb
  rcases hr with ⟨rfl, hh⟩ | ⟨h0, j, hj, hb⟩
  · have HG := Lib.hid (all_ok (f := (readB nn kk)) (d := rd0) (l := xs) hh)
    clear hh
    go_wp2
    go_ret
    exact ⟨by rw [HG.out]; rfl, HB.out⟩
  · have HG := Lib.hid (all_bad (f := (readB nn kk)) (d := rd0) (l := xs) hj hb)
    clear hb
    go_wp2
    go_ret
    exact ⟨by rw [HG.out]; simp, HB.out⟩
set_option maxHeartbeats 400000 in
set_option maxRecDepth 100000 in
theorem ix_err (p : Option Addr) (cap : Nat) (xs : List (Int × Int)) (w : World) (hx : RdS w p xs) (hl : xs.length ≤ 1000000) :
    Calls Tryz.prog 147 #[.slice p xs.length cap, .func (.func 106) #[] #[]] w (BadPost xs.length (fun j => errB (gm xs j)) w) := by
  have HX := Lib.hid hx
  clear hx 
  go_enter Tryz.func147, Tryz.ntmps147
  go_wp2
  go_loopw [8] (fun i wr => ∃ k : Nat, k ≤ xs.length ∧ i = .int .i64 k ∧ Hid (∀ j, j < k → errB (gm xs j) = true) ∧ Below w.heap.size w wr) (fun i _ => xs.length - (intOf i).toNat)
  case atStart => exact ⟨0, by omega, rfl, Lib.hid (by intro j hj; omega), Below.refl _ _⟩
  case round =>
    obtain ⟨k, hk, rfl, HH, hnx⟩ := hrel
    have HN := Lib.hid hnx
    by_cases hlt : k < xs.length
    · obtain ⟨b, off, rfl, hc⟩ := (HX.out.below hnx).at hlt
      obtain ⟨e1, e2⟩ := hc k hlt
      have hcl : Calls Tryz.prog 106 #[.agg #[.int .i64 (gm xs k).1, .int .i64 (gm xs k).2]] wr fun e w' => e = .returned (.bool (!errB (gm xs k))) ∧ Below wr.heap.size wr w' := c_errNot (gm xs k).1 (gm xs k).2 wr
      clear hc hnx
      rcases hb : errB (gm xs k) with _ | _
      · have HB := Lib.hid hb
        rw [hb] at hcl
        clear hb
        go_wp2_with fail
        refine hcl.mono ?_
        rintro e w4 ⟨rfl, b4⟩
        have HN2 := Lib.hid (HN.out.trans (b4.mono HN.out.size))
        clear hcl b4
        go_wp2
        go_ret
        exact ⟨k, .inr ⟨by omega, k, hlt, HB.out⟩, rfl, HN2.out⟩
      · have HB := Lib.hid hb
        rw [hb] at hcl
        clear hb
        go_wp2_with fail
        refine hcl.mono ?_
        rintro e w4 ⟨rfl, b4⟩
        have HN2 := Lib.hid (HN.out.trans (b4.mono HN.out.size))
        clear hcl b4
        go_wp2
        go_roundw
        case rel =>
          refine ⟨k + 1, by omega, by go_num, Lib.hid fun j hj => ?_, HN2.out⟩
          rcases Nat.lt_or_ge j k with h | h
          · exact HH.out j h
          · obtain rfl : j = k := by omega
            exact HB.out
        case measure => simp [intOf]; omega
    · obtain rfl : k = xs.length := by omega
      go_wp2
      go_ret
      exact ⟨-1, .inl ⟨rfl, HH.out⟩, rfl, HN.out⟩
theorem cf_err (p : Option Addr) (cap : Nat) (xs : List (Int × Int)) (w : World) (hx : RdS w p xs) (hl : xs.length ≤ 1000000) :
    Calls Tryz.prog 105 #[.slice p xs.length cap, .func (.func 106) #[] #[]] w fun e w' => e = .returned (.bool (!xs.all errB)) ∧ Below w.heap.size w w' := by
  have h := ix_err p cap xs w hx hl 
  clear hx 
  go_enter Tryz.func105, Tryz.ntmps105
  go_wp2_with fail
  refine h.mono ?_
  rintro e w' ⟨r, hr, rfl, hb⟩
  have HB := Lib.hid hb
  clear h hb
  rcases hr with ⟨rfl, hh⟩ | ⟨h0, j, hj, hb⟩
  · have HG := Lib.hid (all_ok (f := errB) (d := (0, 0)) (l := xs) hh)
    clear hh
    go_wp2
    go_ret
    exact ⟨by rw [HG.out]; rfl, HB.out⟩
  · have HG := Lib.hid (all_bad (f := errB) (d := (0, 0)) (l := xs) hj hb)
    clear hb
    go_wp2
    go_ret
    exact ⟨by rw [HG.out]; simp, HB.out⟩
end Go.Proofs.YtchclaipbahiiaaGreat
end

section
namespace Go.Proofs.YtchclaipbahiiaaGreat
set_option linter.unusedVariables false
def redF (n d : Int) : Int × Int := (n / (Int.gcd n d : Int), d / (Int.gcd n d : Int))
def cmpF (a b : Int × Int) : Int := a.1 * b.2 - b.1 * a.2
def dstF (x f : Int × Int) : Int × Int := (max (cmpF x f) (-(cmpF x f)), x.2)
def tthF (lo hi : Int) (nv : List Int) : List Int := (rng lo hi).filter fun n => !nv.contains n
def prdF (t : List Int) : Nat → Nat → Int → List Int
  | 0, _, now => [now]
  | n + 1, k, now => (List.range' k (t.length - k)).flatMap fun i => prdF t n i (now * gi t i)
def prodsL (t : List Int) (n : Nat) : List Int := prdF t n 0 1
def topN (n : Nat) : Nat := 60 ^ n
def srtF (t : List Int) (n : Nat) : List Int := ((List.range (topN n + 1)).filter fun (x : Nat) => (prodsL t n).contains (x : Int)).map fun (x : Nat) => (x : Int)
def atN (all : List Int) (num v : Int) : Nat := (all.takeWhile fun y => decide (y * num < v)).length
def nearS (f : Int × Int) (dr : Int) (all : List Int) (st : List (Int × Int) × (Int × Int)) (i : Int) : List (Int × Int) × (Int × Int) :=
  if inB i 0 ((all.length : Int) - 1) = false then st else
    let x := redF dr (gi all i.toNat)
    let d := dstF x f
    let s1 := if st.1 = [] ∨ cmpF d st.2 < 0 then ([], d) else st
    if cmpF d s1.2 = 0 ∧ s1.1.contains x = false then (s1.1 ++ [x], s1.2) else s1
def nearD (f : Int × Int) (all : List Int) (st : List (Int × Int) × (Int × Int)) (dr : Int) : List (Int × Int) × (Int × Int) :=
  let at' : Int := (atN all f.1 (dr * f.2) : Int)
  nearS f dr all (nearS f dr all st (at' - 1)) at'
def nearFr (all : List Int) (f : Int × Int) : List (Int × Int) × (Int × Int) := all.foldl (nearD f all) ([], (0, 0))
def canF (t : List Int) (k : Nat) (x : Int × Int) : Bool := (List.range (topN k + 1)).any fun n => decide (1 ≤ n) && (decide ((n : Int) * max x.1 x.2 ≤ topN k) && ((prodsL t k).contains ((n : Int) * x.1) && (prodsL t k).contains ((n : Int) * x.2)))
def ordB (a b : Int × Int) : Bool := decide (a.1 < b.1) || (decide (a.1 = b.1) && decide (a.2 < b.2))
def fstF (t : List Int) : Nat → List (Int × Int) → Int × Int → Option (List (Int × Int))
  | 0, now, _ => some now
  | k + 1, now, left => t.findSome? fun a => t.findSome? fun b =>
      if now.getLast?.any (fun l => ordB (a, b) l) then none else
        let rest := redF (left.1 * b) (left.2 * a)
        if canF t k rest then fstF t k (now ++ [(a, b)]) rest else none
def bestO {α : Type} (lt : α → α → Bool) (l : List α) : Option α := l.foldl (fun (o : Option α) x => match o with | none => some x | some y => if lt x y then some x else o) none
def trL : List (Int × Int) → List (Int × Int) → Bool
  | [], [] => false
  | [], _ :: _ => true
  | _ :: _, [] => false
  | a :: r, b :: s => ordB a b || (!ordB b a && trL r s)
def letsB (sense : Int) (n : Nat) : Bool := if sense = 2 then n % 2 == 0 else if sense = 3 then n % 2 == 1 else true
def foundL (t : List Int) (sense : Int) (pairs : Nat) (f : Int × Int) : List (Nat × (Int × Int) × List (Int × Int)) :=
  ((List.range pairs).map fun i => (i + 1, (nearFr (srtF t (i + 1)) f).2, (nearFr (srtF t (i + 1)) f).1)).filter fun y => !y.2.2.isEmpty && letsB sense y.1
def nrstF (t : List Int) (sense : Int) (pairs : Nat) (f : Int × Int) : Option (List (Int × Int)) :=
  (bestO (fun a b => decide (cmpF a.2.1 b.2.1 < 0)) (foundL t sense pairs f)).bind fun x => bestO trL (x.2.2.map fun y => (fstF t x.1 [] y).getD [])
set_option maxRecDepth 100000 in
theorem ex_nearest : nrstF (tthF 6 12 [7]) 1 2 (43, 30) = some [(12, 10), (12, 10)] := by decide +kernel
end Go.Proofs.YtchclaipbahiiaaGreat
end

section
namespace Go.Proofs.YtchclaipbahiiaaGreat
open Go Go.RowKit Go.Proofs
set_option linter.unusedVariables false
theorem t_in (x lo hi : Int) (w : World) :
    Calls Tryz.prog 72 #[.int .i64 x, .int .i64 lo, .int .i64 hi] w fun e w' => e = .returned (.bool (inB x lo hi)) ∧ w = w' := by
  by_cases h1 : lo ≤ x
  · by_cases h2 : x ≤ hi
    · have HB := Lib.hid (inB_true h1 h2)
      go_enter Tryz.func72, Tryz.ntmps72
      go_wp2; go_ret; exact ⟨by rw [HB.out]; rfl, rfl⟩
    · have HB := Lib.hid (inB_hi (lo := lo) h2)
      go_enter Tryz.func72, Tryz.ntmps72
      go_wp2; go_ret; exact ⟨by rw [HB.out]; rfl, rfl⟩
  · have HB := Lib.hid (inB_lo (hi := hi) h1)
    go_enter Tryz.func72, Tryz.ntmps72
    go_wp2; go_ret; exact ⟨by rw [HB.out]; rfl, rfl⟩
theorem h_in (x lo hi : Int) (w : World) :
    Calls Tryz.prog 55 #[.int .i64 x, .int .i64 lo, .int .i64 hi] w fun e w' => e = .returned (.bool (inB x lo hi)) ∧ w = w' := by
  by_cases h1 : lo ≤ x
  · by_cases h2 : x ≤ hi
    · have HB := Lib.hid (inB_true h1 h2)
      go_enter Tryz.func55, Tryz.ntmps55
      go_wp2; go_ret; exact ⟨by rw [HB.out]; rfl, rfl⟩
    · have HB := Lib.hid (inB_hi (lo := lo) h2)
      go_enter Tryz.func55, Tryz.ntmps55
      go_wp2; go_ret; exact ⟨by rw [HB.out]; rfl, rfl⟩
  · have HB := Lib.hid (inB_lo (hi := hi) h1)
    go_enter Tryz.func55, Tryz.ntmps55
    go_wp2; go_ret; exact ⟨by rw [HB.out]; rfl, rfl⟩
theorem y_in (x lo hi : Int) (w : World) :
    Calls Tryz.prog 110 #[.int .i64 x, .int .i64 lo, .int .i64 hi] w fun e w' => e = .returned (.bool (inB x lo hi)) ∧ w = w' := by
  by_cases h1 : lo ≤ x
  · by_cases h2 : x ≤ hi
    · have HB := Lib.hid (inB_true h1 h2)
      go_enter Tryz.func110, Tryz.ntmps110
      go_wp2; go_ret; exact ⟨by rw [HB.out]; rfl, rfl⟩
    · have HB := Lib.hid (inB_hi (lo := lo) h2)
      go_enter Tryz.func110, Tryz.ntmps110
      go_wp2; go_ret; exact ⟨by rw [HB.out]; rfl, rfl⟩
  · have HB := Lib.hid (inB_lo (hi := hi) h1)
    go_enter Tryz.func110, Tryz.ntmps110
    go_wp2; go_ret; exact ⟨by rw [HB.out]; rfl, rfl⟩
theorem a_in (x lo hi : Int) (w : World) :
    Calls Tryz.prog 24 #[.int .i64 x, .int .i64 lo, .int .i64 hi] w fun e w' => e = .returned (.bool (inB x lo hi)) ∧ w = w' := by
  by_cases h1 : lo ≤ x
  · by_cases h2 : x ≤ hi
    · have HB := Lib.hid (inB_true h1 h2)
      go_enter Tryz.func24, Tryz.ntmps24
      go_wp2; go_ret; exact ⟨by rw [HB.out]; rfl, rfl⟩
    · have HB := Lib.hid (inB_hi (lo := lo) h2)
      go_enter Tryz.func24, Tryz.ntmps24
      go_wp2; go_ret; exact ⟨by rw [HB.out]; rfl, rfl⟩
  · have HB := Lib.hid (inB_lo (hi := hi) h1)
    go_enter Tryz.func24, Tryz.ntmps24
    go_wp2; go_ret; exact ⟨by rw [HB.out]; rfl, rfl⟩
theorem i_in (x lo hi : Int) (w : World) :
    Calls Tryz.prog 53 #[.int .i64 x, .int .i64 lo, .int .i64 hi] w fun e w' => e = .returned (.bool (inB x lo hi)) ∧ w = w' := by
  by_cases h1 : lo ≤ x
  · by_cases h2 : x ≤ hi
    · have HB := Lib.hid (inB_true h1 h2)
      go_enter Tryz.func53, Tryz.ntmps53
      go_wp2; go_ret; exact ⟨by rw [HB.out]; rfl, rfl⟩
    · have HB := Lib.hid (inB_hi (lo := lo) h2)
      go_enter Tryz.func53, Tryz.ntmps53
      go_wp2; go_ret; exact ⟨by rw [HB.out]; rfl, rfl⟩
  · have HB := Lib.hid (inB_lo (hi := hi) h1)
    go_enter Tryz.func53, Tryz.ntmps53
    go_wp2; go_ret; exact ⟨by rw [HB.out]; rfl, rfl⟩
theorem t_teeth (x : Int) (w : World) : Calls Tryz.prog 71 #[.int .i64 x] w fun e w' => e = .returned (.bool (inB x 4 60)) ∧ w = w' := by
  go_enter Tryz.func71, Tryz.ntmps71
  go_wp2_with fail; refine (t_in _ _ _ _).mono ?_; rintro e w' ⟨rfl, rfl⟩; go_wp2; go_ret; exact ⟨rfl, rfl⟩
theorem h_teeth (x : Int) (w : World) : Calls Tryz.prog 134 #[.int .i64 x] w fun e w' => e = .returned (.bool (inB x 4 60)) ∧ w = w' := by
  go_enter Tryz.func134, Tryz.ntmps134
  go_wp2_with fail; refine (h_in _ _ _ _).mono ?_; rintro e w' ⟨rfl, rfl⟩; go_wp2; go_ret; exact ⟨rfl, rfl⟩
theorem a_teeth (x : Int) (w : World) : Calls Tryz.prog 38 #[.int .i64 x] w fun e w' => e = .returned (.bool (inB x 4 60)) ∧ w = w' := by
  go_enter Tryz.func38, Tryz.ntmps38
  go_wp2_with fail; refine (a_in _ _ _ _).mono ?_; rintro e w' ⟨rfl, rfl⟩; go_wp2; go_ret; exact ⟨rfl, rfl⟩
end Go.Proofs.YtchclaipbahiiaaGreat
end

section
namespace Go.Proofs.YtchclaipbahiiaaGreat
open Go Go.RowKit Go.Proofs
set_option linter.unusedVariables false
attribute [local go_sem] imax2 imin2
structure LenOk (p : Pc) : Prop where
  ms : p.ms.length ≤ 1000000
  mv : p.mv.length ≤ 1000000
  rs : p.rs.length ≤ 1000000
theorem pieceB_parts (p : Pc) : pieceB p = (inB (p.ms.length : Int) 1 4 && decide ((p.mv.length : Int) ≤ 8) && decide ((p.rs.length : Int) ≤ 6) && p.ms.all meshB && p.mv.all (fun x => inB x (-300) 300) && p.rs.all (readB p.ms.length p.mv.length)) := by
  have e : sizesB p = (inB (p.ms.length : Int) 1 4 && decide ((p.mv.length : Int) ≤ 8) && decide ((p.rs.length : Int) ≤ 6)) := by
    unfold sizesB inB; rw [Bool.eq_iff_iff]; simp only [Bool.and_eq_true, decide_eq_true_eq]; omega
  unfold pieceB; rw [e]
set_option maxHeartbeats 800000 in
set_option maxRecDepth 100000 in
theorem c_isPiece (pm pv pr : Option Addr) (cm cv cr : Nat) (p : Pc) (w : World) (hp : RdP w pm pv pr p) (hl : LenOk p) :
    Calls Tryz.prog 101 #[.agg #[.slice pm p.ms.length cm, .slice pv p.mv.length cv, .slice pr p.rs.length cr]] w fun e w' => e = .returned (.bool (pieceB p)) ∧ Below w.heap.size w w' := by
  obtain ⟨hl1, hl2, hl3⟩ := hl; obtain ⟨w0, e0, HS0, k0, k1, k2, b0⟩ := box3 w (.slice pm p.ms.length cm) (.slice pv p.mv.length cv) (.slice pr p.rs.length cr) 59; obtain ⟨w1, e1, HS1, n0, _, b1⟩ := box1 w0 (.int .i64 p.ms.length) 3; have HP := Lib.hid ((hp.below b0).below b1); have HB := Lib.hid (b0.trans (b1.mono b0.size)); have k0 := (b1.cell (lt_of_cellq k0)).trans k0; have k1 := (b1.cell (lt_of_cellq k1)).trans k1; have k2 := (b1.cell (lt_of_cellq k2)).trans k2; have HQ := Lib.hid (pieceB_parts p); clear b0 b1 hp
  rcases h1 : inB (p.ms.length : Int) 1 4 with _ | _
  · have H := Lib.hid (show pieceB p = false by rw [HQ.out]; simp [h1])
    go_enter Tryz.func101, Tryz.ntmps101
    go_wp2_with fail; refine (c_in _ _ _ _).mono ?_; rw [h1]; rintro e wn ⟨rfl, rfl⟩; clear e0 e1; go_wp2; go_ret; exact ⟨by rw [H.out]; rfl, HB.out⟩
  by_cases h2 : (p.mv.length : Int) ≤ 8
  case neg =>
    have H := Lib.hid (show pieceB p = false by rw [HQ.out]; simp [h1, h2])
    go_enter Tryz.func101, Tryz.ntmps101
    go_wp2_with fail; refine (c_in _ _ _ _).mono ?_; rw [h1]; rintro e wn ⟨rfl, rfl⟩; clear e0 e1; go_wp2; go_ret; exact ⟨by rw [H.out]; rfl, HB.out⟩
  by_cases h3 : (p.rs.length : Int) ≤ 6
  case neg =>
    have H := Lib.hid (show pieceB p = false by rw [HQ.out]; simp [h1, h2, h3])
    go_enter Tryz.func101, Tryz.ntmps101
    go_wp2_with fail; refine (c_in _ _ _ _).mono ?_; rw [h1]; rintro e wn ⟨rfl, rfl⟩; clear e0 e1; go_wp2; go_ret; exact ⟨by rw [H.out]; rfl, HB.out⟩
  rcases h4 : p.ms.all meshB with _ | _
  · have H := Lib.hid (show pieceB p = false by rw [HQ.out]; simp [h1, h2, h3, h4])
    go_enter Tryz.func101, Tryz.ntmps101
    go_wp2_with fail; refine (c_in _ _ _ _).mono ?_; rw [h1]; rintro e wn ⟨rfl, rfl⟩; clear e0 e1; go_wp2_with fail; refine (cf_mesh pm cm p.ms _ HP.out.ms hl1).mono ?_; rw [h4]; rintro e wn ⟨rfl, bq⟩; replace HB := Lib.hid (HB.out.trans (bq.mono HB.out.size)); replace HP := Lib.hid (HP.out.below bq); have k0 := (bq.cell (lt_of_cellq k0)).trans k0; have k1 := (bq.cell (lt_of_cellq k1)).trans k1; have k2 := (bq.cell (lt_of_cellq k2)).trans k2; have n0 := (bq.cell (lt_of_cellq n0)).trans n0; clear bq; go_wp2; go_ret; exact ⟨by rw [H.out]; rfl, HB.out⟩
  rcases h5 : p.mv.all (fun x => inB x (-300) 300) with _ | _
  · have H := Lib.hid (show pieceB p = false by rw [HQ.out]; simp [h1, h2, h3, h4, h5])
    go_enter Tryz.func101, Tryz.ntmps101
    go_wp2_with fail; refine (c_in _ _ _ _).mono ?_; rw [h1]; rintro e wn ⟨rfl, rfl⟩; clear e0 e1; go_wp2_with fail; refine (cf_mesh pm cm p.ms _ HP.out.ms hl1).mono ?_; rw [h4]; rintro e wn ⟨rfl, bq⟩; replace HB := Lib.hid (HB.out.trans (bq.mono HB.out.size)); replace HP := Lib.hid (HP.out.below bq); have k0 := (bq.cell (lt_of_cellq k0)).trans k0; have k1 := (bq.cell (lt_of_cellq k1)).trans k1; have k2 := (bq.cell (lt_of_cellq k2)).trans k2; have n0 := (bq.cell (lt_of_cellq n0)).trans n0; clear bq; go_wp2_with fail; refine (cf_move pv cv p.mv _ HP.out.mv hl2).mono ?_; rw [h5]; rintro e wn ⟨rfl, bq⟩; replace HB := Lib.hid (HB.out.trans (bq.mono HB.out.size)); replace HP := Lib.hid (HP.out.below bq); have k0 := (bq.cell (lt_of_cellq k0)).trans k0; have k1 := (bq.cell (lt_of_cellq k1)).trans k1; have k2 := (bq.cell (lt_of_cellq k2)).trans k2; have n0 := (bq.cell (lt_of_cellq n0)).trans n0; clear bq
    go_wp2; go_ret; exact ⟨by rw [H.out]; rfl, HB.out⟩
  · have H := Lib.hid (show pieceB p = (p.rs.all (readB p.ms.length p.mv.length)) by rw [HQ.out]; simp [h1, h2, h3, h4, h5])
    go_enter Tryz.func101, Tryz.ntmps101
    go_wp2_with fail; refine (c_in _ _ _ _).mono ?_; rw [h1]; rintro e wn ⟨rfl, rfl⟩; clear e0 e1; go_wp2_with fail; refine (cf_mesh pm cm p.ms _ HP.out.ms hl1).mono ?_; rw [h4]; rintro e wn ⟨rfl, bq⟩; replace HB := Lib.hid (HB.out.trans (bq.mono HB.out.size)); replace HP := Lib.hid (HP.out.below bq); have k0 := (bq.cell (lt_of_cellq k0)).trans k0; have k1 := (bq.cell (lt_of_cellq k1)).trans k1; have k2 := (bq.cell (lt_of_cellq k2)).trans k2; have n0 := (bq.cell (lt_of_cellq n0)).trans n0; clear bq; go_wp2_with fail; refine (cf_move pv cv p.mv _ HP.out.mv hl2).mono ?_; rw [h5]; rintro e wn ⟨rfl, bq⟩; replace HB := Lib.hid (HB.out.trans (bq.mono HB.out.size)); replace HP := Lib.hid (HP.out.below bq); have k0 := (bq.cell (lt_of_cellq k0)).trans k0; have k1 := (bq.cell (lt_of_cellq k1)).trans k1; have k2 := (bq.cell (lt_of_cellq k2)).trans k2; have n0 := (bq.cell (lt_of_cellq n0)).trans n0; clear bq
    go_wp2_with fail; refine (cf_read pr cr p.rs _ _ pv cv p.mv.length p.ms.length _ HP.out.rs hl3 k1 n0).mono ?_; rintro e wn ⟨rfl, bq⟩; replace HB := Lib.hid (HB.out.trans (bq.mono HB.out.size)); replace HP := Lib.hid (HP.out.below bq); have k0 := (bq.cell (lt_of_cellq k0)).trans k0; have k1 := (bq.cell (lt_of_cellq k1)).trans k1; have k2 := (bq.cell (lt_of_cellq k2)).trans k2; have n0 := (bq.cell (lt_of_cellq n0)).trans n0; clear bq; go_wp2; go_ret; exact ⟨by rw [H.out]; simp, HB.out⟩
end Go.Proofs.YtchclaipbahiiaaGreat
end

section
namespace Go.Proofs.YtchclaipbahiiaaGreat
set_option linter.unusedVariables false
theorem gi_set (xs : List Int) (j : Nat) (z : Int) (i : Nat) : gi (xs.set j z) i = if i = j ∧ j < xs.length then z else gi xs i := by
  unfold gi; rw [List.getD_eq_getElem?_getD, List.getD_eq_getElem?_getD, List.getElem?_set]
  by_cases h : j = i
  · subst h
    by_cases h2 : j < xs.length
    · simp [h2]
    · simp [h2]
  · rw [if_neg h, if_neg (fun hh => h hh.1.symm)]
def mvTo (pl pc : List Int) (m : Int) (k : Nat) : List Int := (List.range (pl.length + 1)).map fun i => if i ≤ k then gi (mvF pl pc m) i else gi pc i
theorem mvTo_len (pl pc : List Int) (m : Int) (k : Nat) : (mvTo pl pc m k).length = pl.length + 1 := by simp [mvTo]
theorem mvTo_at (pl pc : List Int) (m : Int) (k i : Nat) (h : i ≤ pl.length) : gi (mvTo pl pc m k) i = if i ≤ k then gi (mvF pl pc m) i else gi pc i := gi_range _ _ _ (by omega)
theorem mvTo_zero {pl pc : List Int} (m : Int) (hl : pc.length = pl.length + 1) : pc.set 0 (gi pc 0 + m) = mvTo pl pc m 0 := by
  refine gi_ext (by rw [List.length_set, mvTo_len, hl]) fun i hi => ?_
  rw [List.length_set] at hi; rw [gi_set, mvTo_at _ _ _ _ _ (by omega)]
  by_cases h : i = 0
  · subst h
    rw [if_pos ⟨rfl, by omega⟩, if_pos (Nat.le_refl _), mvF_zero]
  · rw [if_neg (fun hh => h hh.1), if_neg (by omega)]
theorem mvTo_succ (pl pc : List Int) (m : Int) (k : Nat) (hk : k < pl.length) : (mvTo pl pc m k).set (k + 1) (gi (mvF pl pc m) (k + 1)) = mvTo pl pc m (k + 1) := by
  refine gi_ext (by rw [List.length_set, mvTo_len, mvTo_len]) fun i hi => ?_
  rw [List.length_set, mvTo_len] at hi; rw [gi_set, mvTo_at _ _ _ _ _ (by omega), mvTo_at _ _ _ _ _ (by omega), mvTo_len]
  by_cases h : i = k + 1
  · subst h
    rw [if_pos ⟨rfl, by omega⟩, if_pos (Nat.le_refl _)]
  · rw [if_neg (fun hh => h hh.1)]
    by_cases h2 : i ≤ k
    · rw [if_pos h2, if_pos (by omega)]
    · rw [if_neg h2, if_neg (by omega)]
theorem mvTo_all (pl pc : List Int) (m : Int) : mvTo pl pc m pl.length = mvF pl pc m := by
  refine gi_ext (by rw [mvTo_len, mvF_len]) fun i hi => ?_
  rw [mvTo_len] at hi; rw [mvTo_at _ _ _ _ _ (by omega), if_pos (by omega)]
theorem mvTo_done (pl pc : List Int) (m : Int) (k : Nat) (hk : k ≤ pl.length) : gi (mvTo pl pc m k) k = gi (mvF pl pc m) k := by
  rw [mvTo_at _ _ _ _ _ hk, if_pos (Nat.le_refl _)]
theorem mvTo_next (pl pc : List Int) (m : Int) (k : Nat) (hk : k < pl.length) : gi (mvTo pl pc m k) (k + 1) = gi pc (k + 1) := by
  rw [mvTo_at _ _ _ _ _ (by omega), if_neg (by omega)]
def begTo (pl : List Int) (k : Nat) : List Int := (List.range (k + 1)).map fun i => -sumT pl i
theorem begTo_len (pl : List Int) (k : Nat) : (begTo pl k).length = k + 1 := by simp [begTo]
theorem begTo_at (pl : List Int) (k i : Nat) (h : i ≤ k) : gi (begTo pl k) i = -sumT pl i := gi_range _ _ _ (by omega)
theorem begTo_zero (pl : List Int) : begTo pl 0 = [0] := by simp [begTo, sumT]
theorem begTo_succ (pl : List Int) (k : Nat) : begTo pl (k + 1) = begTo pl k ++ [gi (begTo pl k) k - gi pl k] := by
  rw [begTo_at _ _ _ (Nat.le_refl _)]; unfold begTo; rw [List.range_succ (n := k + 1), List.map_append]
  congr 1
  simp [sumT]; omega
theorem begTo_all (pl : List Int) : begTo pl pl.length = begF pl := rfl
def allF (pl mv : List Int) (k : Nat) : List (List Int) := (List.range (k + 1)).map (runF pl mv)
theorem allF_len (pl mv : List Int) (k : Nat) : (allF pl mv k).length = k + 1 := by simp [allF]
theorem allF_zero (pl mv : List Int) : allF pl mv 0 = [begF pl] := rfl
theorem allF_succ (pl mv : List Int) (k : Nat) : allF pl mv (k + 1) = allF pl mv k ++ [runF pl mv (k + 1)] := by
  unfold allF; rw [List.range_succ (n := k + 1), List.map_append]
  rfl
def gl (css : List (List Int)) (i : Nat) : List Int := css.getD i []
theorem allF_at (pl mv : List Int) (k i : Nat) (h : i ≤ k) : gl (allF pl mv k) i = runF pl mv i := by
  unfold gl allF; have h' : i < k + 1 := by omega
  simp [h']
def agreeAt (p : Pc) (pl : List Int) (i : Nat) : Bool := p.rs.all fun r => !decide (r.aft = (i : Int)) || inB (gi (runF pl p.mv i) r.arb.toNat - r.seen) (-r.off) r.off
def livedB (p : Pc) (pl : List Int) : Bool := p.rs.all (agreeB pl p.mv)
theorem fits_lived (p : Pc) (pl : List Int) : fitsB p pl = (withinB p pl && livedB p pl) := rfl
theorem agree_all {p : Pc} (hp : PieceOk p) (pl : List Int) : (∀ i, i ≤ p.mv.length → agreeAt p pl i = true) ↔ livedB p pl = true := by
  unfold livedB
  constructor
  · intro h
    rw [all_at rd0]; intro j hj; obtain ⟨⟨h1, h2⟩, _⟩ := hp.read j hj; have ha := h (gr p.rs j).aft.toNat (by omega); unfold agreeAt at ha; rw [all_at rd0] at ha; have := ha j hj; simp only [Bool.or_eq_true, Bool.not_eq_true', decide_eq_false_iff_not] at this; have e : ((gr p.rs j).aft.toNat : Int) = (gr p.rs j).aft := by omega
    rcases this with h3 | h3
    · exact absurd e.symm h3
    · unfold agreeB
      rw [inB_iff] at h3 ⊢; show (gr p.rs j).seen - (gr p.rs j).off ≤ gi (runF pl p.mv (gr p.rs j).aft.toNat) (gr p.rs j).arb.toNat ∧ gi (runF pl p.mv (gr p.rs j).aft.toNat) (gr p.rs j).arb.toNat ≤ (gr p.rs j).seen + (gr p.rs j).off; have h4 : -(gr p.rs j).off ≤ gi (runF pl p.mv (gr p.rs j).aft.toNat) (gr p.rs j).arb.toNat - (gr p.rs j).seen ∧ gi (runF pl p.mv (gr p.rs j).aft.toNat) (gr p.rs j).arb.toNat - (gr p.rs j).seen ≤ (gr p.rs j).off := h3; omega
  · intro h i hi
    rw [all_at rd0] at h; unfold agreeAt; rw [all_at rd0]; intro j hj; have := h j hj; unfold agreeB at this; rw [inB_iff] at this; simp only [Bool.or_eq_true, Bool.not_eq_true', decide_eq_false_iff_not]
    by_cases he : (p.rs.getD j rd0).aft = (i : Int)
    · right
      rw [inB_iff]; rw [he] at this; simp only [Int.toNat_natCast] at this; omega
    · exact .inl he
def yF (p : Pc) (a : List Int) : List (List Int) := (subF p a).filter (livedB p)
theorem prod_within {p : Pc} {pl : List Int} (h : pl ∈ prodF p.ms) : withinB p pl = true := withinB_iff.2 (mem_prodF.1 h).2
theorem yF_nil (p : Pc) : yF p [] = truthsF p := by
  unfold yF truthsF; rw [subF_nil]; refine List.filter_congr fun pl h => ?_
  rw [fits_lived, prod_within h, Bool.true_and]
theorem yF_end (p : Pc) (a : List Int) (h : a.length = p.ms.length) : yF p a = if livedB p a = true then [a] else [] := by
  unfold yF; rw [subF_end p a h]
  by_cases hl : livedB p a = true
  · rw [if_pos hl]; simp [hl]
  · rw [if_neg hl]; simp [hl]
theorem filter_flatMap' {α β : Type} (l : List α) (f : α → List β) (q : β → Bool) : (l.flatMap f).filter q = l.flatMap fun x => (f x).filter q := by
  induction l with
  | nil => rfl
  | cons x l ih => rw [List.flatMap_cons, List.flatMap_cons, List.filter_append, ih]
theorem yF_step (p : Pc) (a : List Int) (h : a.length < p.ms.length) : yF p a = (rng (gm p.ms a.length).1 (gm p.ms a.length).2).flatMap fun n => yF p (a ++ [n]) := by
  unfold yF; rw [subF_step p a h, filter_flatMap']
def yTo (p : Pc) (a : List Int) (k : Nat) : List (List Int) := ((rng (gm p.ms a.length).1 (gm p.ms a.length).2).take k).flatMap fun n => yF p (a ++ [n])
theorem yTo_zero (p : Pc) (a : List Int) : yTo p a 0 = [] := by simp [yTo]
theorem rng_take (a b : Int) (k : Nat) (h : k < (b - a + 1).toNat) : (rng a b).take (k + 1) = (rng a b).take k ++ [a + (k : Int)] := by
  rw [List.take_succ_eq_append_getElem (by rw [rng_len]; exact h)]
  congr 1
  simp [rng]
theorem yTo_succ (p : Pc) (a : List Int) (k : Nat) (h : k < ((gm p.ms a.length).2 - (gm p.ms a.length).1 + 1).toNat) : yTo p a (k + 1) = yTo p a k ++ yF p (a ++ [(gm p.ms a.length).1 + (k : Int)]) := by
  unfold yTo; rw [rng_take _ _ _ h, List.flatMap_append]
  simp
theorem yTo_all (p : Pc) (a : List Int) (h : a.length < p.ms.length) (k : Nat) (hk : ((gm p.ms a.length).2 - (gm p.ms a.length).1 + 1).toNat ≤ k) : yTo p a k = yF p a := by
  unfold yTo; rw [List.take_of_length_le (by rw [rng_len]; exact hk), yF_step p a h]
def Tried (p : Pc) (a : List Int) : Prop := a.length ≤ p.ms.length ∧ ∀ i, i < a.length → (gm p.ms i).1 ≤ gi a i ∧ gi a i ≤ (gm p.ms i).2
theorem tried_nil (p : Pc) : Tried p [] := ⟨Nat.zero_le _, fun i h => absurd h (Nat.not_lt_zero _)⟩
theorem Tried.snoc {p : Pc} {a : List Int} (h : Tried p a) (hl : a.length < p.ms.length) {n : Int} (h1 : (gm p.ms a.length).1 ≤ n) (h2 : n ≤ (gm p.ms a.length).2) : Tried p (a ++ [n]) := by
  refine ⟨by rw [List.length_append, List.length_singleton]; omega, fun i hi => ?_⟩; rw [List.length_append, List.length_singleton] at hi
  by_cases hk : i < a.length
  · have e : gi (a ++ [n]) i = gi a i := by unfold gi; rw [List.getD_eq_getElem?_getD, List.getD_eq_getElem?_getD, List.getElem?_append_left hk]
    rw [e]; exact h.2 i hk
  · obtain rfl : i = a.length := by omega
    have e : gi (a ++ [n]) a.length = n := by unfold gi; simp
    rw [e]; exact ⟨h1, h2⟩
theorem Tried.plays {p : Pc} (hp : PieceOk p) {a : List Int} (h : Tried p a) (hl : a.length = p.ms.length) : PlaysOk p a := by
  rw [← playsB_iff]; unfold playsB; rw [Bool.and_eq_true]; refine ⟨by simp [hl], ?_⟩; rw [all_at (0 : Int)]; intro i hi; have h1 := h.2 i hi; have h2 := hp.mesh i (by omega); rw [inB_iff]; show 0 ≤ gi a i ∧ gi a i ≤ 100; omega
end Go.Proofs.YtchclaipbahiiaaGreat
end
