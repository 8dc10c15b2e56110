/-
  Plain laws of chains of arbors (no program in sight): where all arbors are before the first move, and after a move.
  Plain laws of pieces: plays that are tried, truths, and what all truths have (no program in sight).
  Base words of these seats' walks: what slices that are only read hold; regions that draw their order; boxes; owned rows.
  Plain laws of hands, and of aims (no program in sight).
  What the references do, step by step: hulls, all plays mesh by mesh, lists of meshes; no program in sight.
  What a hand reads as.
  What is a hand, in the document's words; a number rounded down: contracts.
  A move made in two parts: what the moves are then, and where the arbors are (no program in sight).
  A negation in a quiet walk.
  A drawn region whose cells are known: its beginning, in short words.
  The document's move of all arbors, and where all arbors are: contracts.
  The document's places before the first move and after each one: contract.
  Whether plays are a truth, in the document's words: contract.
  All truths, in the document's words: contract.
  Where all arbors are after all moves, in each of some truths: contract.
  How many truths are left, and which arbor should be read, in the document's words: contracts.
  The least and the greatest number at each place of some lists: contracts.
  What a hand shows, in the document's words: contracts (printed by ref.py).
  What is known of whether a hand shows a place, in the document's words: contract (printed by ref.py).
  Whether a hand has a short list, in the law's words: contract.
  What the laws ask: a piece's truths, or its error; contracts.
  The stage's theorem: what is known of a piece (the walk).
  A piece with some moves more, or with one reading more, in the document's words: contracts.
  By how much the crank can be turned before an arbor moves (the walk).
  The theorem of lost motion (the walk).
  The laws' word on plain spans: contract.
  What is a place, and a limit, in the document's words; whether an arbor surely is near to a place after a move more, in the law's words: contracts.
  Hand: contract (seat sB alone; printed by slkhand.py).
  The word of what is known: contract (seat sB alone).
  A goal that is met on many ways, proved once.
  Sure: contract, all arguments (printed by slkask.py)
  Which hands are as defined, and what a hand shows (the walk; printed by ref.py, shows.py).
  The law SlackShows: its card. Conditions: none of the input; the tables of the library that the row lists are as the program lays them (the tie is given).
-/
import Derived.Test.YtbknfddaoolagaaGreatDoorGA
import Derived.Test.YtbknfddaoolagaaGreatDoorProg
import Derived.WalkKit
import Derived.WalkSpells
import Derived.WalkLawsBesides
import Derived.Handy
import Derived.Deep.QuietTactic
import Derived.BigQuiet
import Derived.Outline
import Derived.Below
import Derived.Lib.Hide
import Derived.Maps.RangeWalk
import Derived.StillTailTactics
import Derived.WalkMore
import Derived.Deep.RegionHeld3
import Derived.Deep.Cut
import Derived.RangeFuncBox
import Derived.Test.YtbknfddaoolagaaGreatDoorGC
import Derived.Test.YtbknfddaoolagaaGreatDoorGZ
import Derived.Test.YtbknfddaoolagaaGreatDoorGO
import Derived.Test.YtbknfddaoolagaaGreatDoorGG
import Derived.Test.YtbknfddaoolagaaGreatDoorGH
import Derived.Test.YtbknfddaoolagaaGreatDoorGL
import Derived.Test.YtbknfddaoolagaaGreatDoorGD
import Derived.Deep.Upon
import Derived.Deep.AppendLies
import Derived.Deep.RegionLaw
import Derived.OwnWalk
import Derived.Maps.AppendAt
import Derived.Test.YtbknfddaoolagaaGreatDoorGJ
import Derived.Test.YtbknfddaoolagaaGreatDoorGM
import Derived.Test.YtbknfddaoolagaaGreatDoorGN
import Derived.Test.YtbknfddaoolagaaGreatDoorGP
import Derived.Test.YtbknfddaoolagaaGreatDoorGQ
import Derived.Test.YtbknfddaoolagaaGreatDoorGU
import Derived.Test.YtbknfddaoolagaaGreatDoorGY
import Derived.Test.YtbknfddaoolagaaGreatDoorCards
section
namespace Go.Proofs.YtbknfddaoolagaaGreatDoor

theorem mvF_stepBack {pl pc : List Int} {m : Int} (hc : Chain pl pc) (hm : ¬ 0 ≤ m) (k : Nat) (h : k < pl.length) : gi (mvF pl pc m) (k + 1) = min (gi pc (k + 1)) (gi (mvF pl pc m) k) := by
  rw [mvF_back hm k (by omega), mvF_back hm (k + 1) (by omega)]; have := hc.le k h; omega
theorem mvF_stepRef {pl pc : List Int} {m : Int} (hp : Pos pl) (hc : Chain pl pc) (k : Nat) (h : k < pl.length) : gi (mvF pl pc m) (k + 1) = min (gi (mvF pl pc m) k) (max (gi (mvF pl pc m) k - gi pl k) (gi pc (k + 1))) := by
  have h3 := (mvF_chain hp hc m).le k h; have h4 := hp k h
  by_cases hm : 0 ≤ m
  · rw [mvF_stepOn hc hm k h] at h3 ⊢; omega
  · have h5 := hc.ge k h
    have h6 := mvF_back hm k (pc := pc) (pl := pl) (by omega); rw [mvF_stepBack hc hm k h] at h3 ⊢; omega
end Go.Proofs.YtbknfddaoolagaaGreatDoor
end

section
namespace Go.Proofs.YtbknfddaoolagaaGreatDoor

theorem prodF_snoc (ms : List (Int × Int)) (m : Int × Int) : prodF (ms ++ [m]) = (prodF ms).flatMap fun a => (rng m.1 m.2).map fun n => a ++ [n] := by
  induction ms with
  | nil =>
    simp only [List.nil_append, prodF, List.flatMap_cons, List.flatMap_nil, List.append_nil, List.map_cons, List.map_nil]
    induction rng m.1 m.2 with
    | nil => rfl
    | cons x r ih => simp only [List.flatMap_cons, List.map_cons, ih]; rfl
  | cons m0 r ih =>
    simp only [List.cons_append, prodF, ih, List.flatMap_assoc]
    congr 1
    funext n
    simp only [List.map_flatMap, List.flatMap_map, List.map_map]
    rfl
end Go.Proofs.YtbknfddaoolagaaGreatDoor
end

section
namespace Go.Proofs.YtbknfddaoolagaaGreatDoor
open Go Go.RowKit Go.Proofs
set_option linter.unusedVariables false

section
variable {P : Program} {C : World → Prop} {K : Act → Prop} {a : Act} {ops : Array Oper} {Q : Act → Prop} {o : Oper} {rest : List Oper}

variable {d : Nat} {x y : Operand} {t t' ty : TypeId} {pos : String} {af : Array Edge} {g : Option (Nat × Bool)} {m n : Int}

variable {z : Operand} {l : Int} {ats : Array TypeId}
end


section
variable {P : Program} {ops : Array Oper} {C : World → Prop} {Q : Act → Prop} {rest : List Oper} {a : Act} {d : Nat} {x y : Operand} {ty t t' : TypeId} {pos : String} {af : Array Edge} {g : Option (Nat × Bool)}
end
theorem inV_length (a : List Int) : (inV a).length = a.length := by simp [inV]
section
variable {P : Program} {ops : Array Oper} {md : Region.Mode} {C : World → Prop}

end
end Go.Proofs.YtbknfddaoolagaaGreatDoor
end

section
namespace Go.Proofs.YtbknfddaoolagaaGreatDoor
set_option linter.unusedVariables false

theorem sh_plain {p : Pc} (hp : PieceOk p) {h : Hd} (hh : HandOk p.ms.length h) {pl : List Int} (hpl : pl ∈ truthsF p) : -280030 ≤ (shF p h pl).1 ∧ (shF p h pl).1 ≤ (shF p h pl).2 ∧ (shF p h pl).2 ≤ 240030 := by
  have hk := truth_plays hp hpl; refine shown_plain hh (place_range hp hk p.mv.length h.arb.toNat (Nat.le_refl _) ?_); have := hh.arb; have := hk.len; omega
def someB (p : Pc) (h : Hd) (want lim : Int) : Bool := (truthsF p).any fun pl => decide ((shF p h pl).1 ≤ want + lim) && decide (want - lim ≤ (shF p h pl).2)
def notB (p : Pc) (h : Hd) (want lim : Int) : Bool := (truthsF p).any fun pl => decide ((shF p h pl).1 < want - lim) || decide (want + lim < (shF p h pl).2)
def sureF (p : Pc) (h : Hd) (want lim : Int) : Int := if someB p h want lim = false then 1 else if notB p h want lim = true then 2 else 3
theorem someB_iff {p : Pc} {h : Hd} {want lim : Int} : someB p h want lim = true ↔ ∃ pl ∈ truthsF p, (shF p h pl).1 ≤ want + lim ∧ want - lim ≤ (shF p h pl).2 := by
  unfold someB; simp [List.any_eq_true]
theorem notB_iff {p : Pc} {h : Hd} {want lim : Int} : notB p h want lim = true ↔ ∃ pl ∈ truthsF p, (shF p h pl).1 < want - lim ∨ want + lim < (shF p h pl).2 := by
  unfold notB; simp [List.any_eq_true]
theorem not_both {p : Pc} (hp : PieceOk p) {h : Hd} (hh : HandOk p.ms.length h) (ht : truthsF p ≠ []) {want lim : Int} (hl : 0 ≤ lim) (h1 : notB p h want lim = false) : someB p h want lim = true := by
  obtain ⟨x, hx, e⟩ := ovF_low (shF p h) ht; have hpl := sh_plain hp hh hx; rw [someB_iff]; refine ⟨x, hx, ?_⟩
  have : ¬ ((shF p h x).1 < want - lim ∨ want + lim < (shF p h x).2) := fun hc => by
    have := notB_iff.2 ⟨x, hx, hc⟩; rw [h1] at this; cases this
  omega
end Go.Proofs.YtbknfddaoolagaaGreatDoor
end

section
namespace Go.Proofs.YtbknfddaoolagaaGreatDoor
set_option linter.unusedVariables false

theorem gl_get (xs : List (List Int)) (i : Nat) (h : i < xs.length) : gl xs i = xs[i] := by
  unfold gl; simp [h]
theorem take_step {α : Type} (l : List α) (k : Nat) (h : k < l.length) : l.take (k + 1) = l.take k ++ [l[k]] := List.take_succ_eq_append_getElem h
theorem take_gl (ls : List (List Int)) (k : Nat) (h : k < ls.length) : ls.take (k + 1) = ls.take k ++ [gl ls k] := by rw [gl_get ls k h]; exact take_step ls k h
theorem ne_take {α : Type} {l : List α} {k : Nat} (h0 : 0 < k) (hk : k ≤ l.length) : l.take k ≠ [] := by
  intro h; have := congrArg List.length h; rw [List.length_take, List.length_nil] at this; omega

def ovK (p : Pc) (of : List Int → Int × Int) (k : Nat) : Int × Int := overF (((truthsF p).take k).map of)
theorem ovK_one (p : Pc) (of : List Int → Int × Int) (h : 0 < (truthsF p).length) : ovK p of 1 = of (gl (truthsF p) 0) := by
  unfold ovK; rw [take_gl _ 0 h]
  rfl
theorem ovK_succ (p : Pc) (of : List Int → Int × Int) (k : Nat) (h0 : 0 < k) (h : k < (truthsF p).length) : ovK p of (k + 1) = (min (ovK p of k).1 (of (gl (truthsF p) k)).1, max (ovK p of k).2 (of (gl (truthsF p) k)).2) := by
  unfold ovK; rw [take_gl _ k h, List.map_append]; show overF (_ ++ [of (gl (truthsF p) k)]) = _; rw [overF_snoc, if_neg (fun hc => ne_take h0 (Nat.le_of_lt h) (List.map_eq_nil_iff.1 hc))]
theorem ovK_full (p : Pc) (of : List Int → Int × Int) : ovK p of (truthsF p).length = ovF p of := by unfold ovK ovF; rw [List.take_length]

theorem gm_take (ms : List (Int × Int)) (k : Nat) (h : k < ms.length) : ms.take (k + 1) = ms.take k ++ [gm ms k] := by rw [gm_get ms k h]; exact take_step ms k h
def nextTo (m : Int × Int) (all : List (List Int)) (k : Nat) : List (List Int) := (all.take k).flatMap fun a => (rng m.1 m.2).map fun n => a ++ [n]
theorem nextTo_zero (m : Int × Int) (all : List (List Int)) : nextTo m all 0 = [] := by simp [nextTo]
theorem nextTo_succ (m : Int × Int) (all : List (List Int)) (k : Nat) (h : k < all.length) : nextTo m all (k + 1) = nextTo m all k ++ (rng m.1 m.2).map fun n => gl all k ++ [n] := by
  unfold nextTo; rw [take_gl all k h, List.flatMap_append]
  simp
theorem nextTo_prod (ms : List (Int × Int)) (k : Nat) (h : k < ms.length) : nextTo (gm ms k) (prodF (ms.take k)) (prodF (ms.take k)).length = prodF (ms.take (k + 1)) := by
  unfold nextTo; rw [List.take_length, gm_take ms k h, prodF_snoc]
def rowTo (a : List Int) (lo : Int) (j : Nat) : List (List Int) := (List.range j).map fun (i : Nat) => a ++ [lo + (i : Int)]
theorem rowTo_zero (a : List Int) (lo : Int) : rowTo a lo 0 = [] := rfl
theorem rowTo_succ (a : List Int) (lo : Int) (j : Nat) : rowTo a lo (j + 1) = rowTo a lo j ++ [a ++ [lo + (j : Int)]] := by
  unfold rowTo; rw [List.range_succ, List.map_append]; rfl
theorem rowTo_all (a : List Int) (lo hi : Int) (j : Nat) (h : (j : Int) = hi - lo + 1) : rowTo a lo j = (rng lo hi).map fun n => a ++ [n] := by
  unfold rowTo rng; rw [List.map_map, show (hi - lo + 1).toNat = j by omega]; rfl
theorem prodF_lens (ms : List (Int × Int)) : ∀ k, k ≤ ms.length → ∀ i, i < (prodF (ms.take k)).length → (gl (prodF (ms.take k)) i).length = k := by
  intro k hk i hi; rw [gl_get _ i hi]; have := (mem_prodF.1 (List.getElem_mem hi)).1; rw [this, List.length_take]; omega
theorem prodF_count (ms : List (Int × Int)) (h : ∀ i, i < ms.length → (gm ms i).2 - (gm ms i).1 ≤ 4) : (prodF ms).length ≤ 5 ^ ms.length := by
  induction ms with
  | nil => simp [prodF]
  | cons m r ih =>
    have h0 := h 0 (by simp); have e0 : gm (m :: r) 0 = m := rfl; rw [e0] at h0
    have ih' := ih fun i hi => by
      have := h (i + 1) (by simp; omega); exact this
    have : (prodF (m :: r)).length = (rng m.1 m.2).length * (prodF r).length := by
      show ((rng m.1 m.2).flatMap fun n => (prodF r).map (n :: ·)).length = _; rw [List.length_flatMap]; simp [List.map_const']
    rw [this, rng_len, List.length_cons, Nat.pow_succ, Nat.mul_comm (5 ^ r.length) 5]; exact Nat.mul_le_mul (by omega) ih'
theorem filter_take (f : List Int → Bool) (ls : List (List Int)) (k : Nat) (h : k < ls.length) : (ls.take (k + 1)).filter f = (ls.take k).filter f ++ (if f (gl ls k) = true then [gl ls k] else []) := by
  rw [take_gl ls k h, List.filter_append]
  cases hf : f (gl ls k) <;> simp [hf]

def someTo (s : Int × Int) (want lim : Int) (j : Nat) : Bool := (List.range j).any fun i => inB (s.1 + (i : Int)) (want - lim) (want + lim)
def notTo (s : Int × Int) (want lim : Int) (j : Nat) : Bool := (List.range j).any fun i => !inB (s.1 + (i : Int)) (want - lim) (want + lim)
theorem someTo_succ (s : Int × Int) (want lim : Int) (j : Nat) : someTo s want lim (j + 1) = (someTo s want lim j || inB (s.1 + (j : Int)) (want - lim) (want + lim)) := by
  unfold someTo; rw [List.range_succ, List.any_append]; simp
theorem notTo_succ (s : Int × Int) (want lim : Int) (j : Nat) : notTo s want lim (j + 1) = (notTo s want lim j || !inB (s.1 + (j : Int)) (want - lim) (want + lim)) := by
  unfold notTo; rw [List.range_succ, List.any_append]; simp
theorem someTo_all {s : Int × Int} {want lim : Int} (hl : 0 ≤ lim) {j : Nat} (hj : (j : Int) = s.2 - s.1 + 1) (hs : s.1 ≤ s.2) : someTo s want lim j = (decide (s.1 ≤ want + lim) && decide (want - lim ≤ s.2)) := by
  rw [Bool.eq_iff_iff, Bool.and_eq_true, decide_eq_true_eq, decide_eq_true_eq]; unfold someTo; rw [List.any_eq_true]
  constructor
  · rintro ⟨i, hi, h⟩
    have := inB_iff.1 h; have := List.mem_range.1 hi; omega
  · rintro ⟨h1, h2⟩
    rcases Int.lt_or_le s.1 (want - lim) with h | h
    · refine ⟨(want - lim - s.1).toNat, List.mem_range.2 (by omega), inB_iff.2 (by omega)⟩
    · exact ⟨0, List.mem_range.2 (by omega), inB_iff.2 (by omega)⟩
theorem notTo_all {s : Int × Int} {want lim : Int} {j : Nat} (hj : (j : Int) = s.2 - s.1 + 1) (hs : s.1 ≤ s.2) : notTo s want lim j = (decide (s.1 < want - lim) || decide (want + lim < s.2)) := by
  rw [Bool.eq_iff_iff, Bool.or_eq_true, decide_eq_true_eq, decide_eq_true_eq]; unfold notTo; rw [List.any_eq_true]
  constructor
  · rintro ⟨i, hi, h⟩
    have h' : ¬ inB (s.1 + (i : Int)) (want - lim) (want + lim) = true := by simpa using h
    rw [inB_iff] at h'; have := List.mem_range.1 hi; omega
  · have neg : ∀ n : Int, ¬ (want - lim ≤ n ∧ n ≤ want + lim) → (!inB n (want - lim) (want + lim)) = true := fun n hn => by
      rw [Bool.not_eq_true']
      cases h : inB n (want - lim) (want + lim) with
      | false => rfl
      | true => exact absurd (inB_iff.1 h) hn
    rintro (h | h)
    · exact ⟨0, List.mem_range.2 (by omega), neg _ (by omega)⟩
    · exact ⟨(s.2 - s.1).toNat, List.mem_range.2 (by omega), neg _ (by omega)⟩
def someT (p : Pc) (h : Hd) (want lim : Int) (k : Nat) : Bool := ((truthsF p).take k).any fun pl => decide ((shF p h pl).1 ≤ want + lim) && decide (want - lim ≤ (shF p h pl).2)
def notT (p : Pc) (h : Hd) (want lim : Int) (k : Nat) : Bool := ((truthsF p).take k).any fun pl => decide ((shF p h pl).1 < want - lim) || decide (want + lim < (shF p h pl).2)
theorem someT_succ (p : Pc) (h : Hd) (want lim : Int) (k : Nat) (hk : k < (truthsF p).length) : someT p h want lim (k + 1) = (someT p h want lim k || (decide ((shF p h (gl (truthsF p) k)).1 ≤ want + lim) && decide (want - lim ≤ (shF p h (gl (truthsF p) k)).2))) := by
  unfold someT; rw [take_gl _ k hk, List.any_append]; simp
theorem notT_succ (p : Pc) (h : Hd) (want lim : Int) (k : Nat) (hk : k < (truthsF p).length) : notT p h want lim (k + 1) = (notT p h want lim k || (decide ((shF p h (gl (truthsF p) k)).1 < want - lim) || decide (want + lim < (shF p h (gl (truthsF p) k)).2))) := by
  unfold notT; rw [take_gl _ k hk, List.any_append]; simp
theorem someT_all (p : Pc) (h : Hd) (want lim : Int) : someT p h want lim (truthsF p).length = someB p h want lim := by unfold someT someB; rw [List.take_length]
theorem notT_all (p : Pc) (h : Hd) (want lim : Int) : notT p h want lim (truthsF p).length = notB p h want lim := by unfold notT notB; rw [List.take_length]
def wordR (s n : Bool) : Int := if n = false then 3 else if s = false then 1 else 2
theorem word_sure {p : Pc} (hp : PieceOk p) {h : Hd} (hh : HandOk p.ms.length h) (ht : truthsF p ≠ []) {want lim : Int} (hl : 0 ≤ lim) : wordR (someB p h want lim) (notB p h want lim) = sureF p h want lim := by
  unfold wordR sureF
  cases hn : notB p h want lim with
  | false => rw [not_both hp hh ht hl hn]; simp
  | true => cases someB p h want lim <;> simp
theorem down_ediv (n b : Int) (hb : 0 < b) : (if n.tdiv b * b > n then n.tdiv b - 1 else n.tdiv b) = n / b := by
  have e2 : (n / b) * b + n % b = n := by have := Int.emod_add_mul_ediv n b; rw [Int.mul_comm (n / b) b]; omega
  have h1 := Int.emod_nonneg n (show b ≠ 0 by omega); have h2 := Int.emod_lt_of_pos n hb
  rcases Int.le_total 0 n with h | h
  · rw [Int.tdiv_eq_ediv_of_nonneg h, if_neg (by omega)]
  · rw [Int.tdiv_eq_ediv]
    by_cases hd : 0 ≤ n ∨ b ∣ n
    · rw [if_pos hd, Int.add_zero, if_neg (by omega)]
    · rw [if_neg hd, Int.sign_eq_one_of_pos hb]
      have hne : n % b ≠ 0 := fun hc => hd (.inr (Int.dvd_of_emod_eq_zero hc))
      rw [if_pos (by rw [Int.add_mul, Int.one_mul]; omega)]; omega

end Go.Proofs.YtbknfddaoolagaaGreatDoor
end

section
namespace Go.Proofs.YtbknfddaoolagaaGreatDoor
open Go Go.ChangeShapes Go.WideShapes Go.ChangeAt Go.RowKit Go.Proofs
set_option linter.unusedVariables false
theorem tc_span : Tryz.prog.cellsOf 44 = 2 := by kernel_rfl
theorem tc_hand : Tryz.prog.cellsOf 40 = 4 := by kernel_rfl
section
variable {H : Type} {enc : TypeId × Value → H} {W : World}
set_option maxRecDepth 100000 in
theorem rd_spansT {fuel : Nat} {v : Value} {x : DataW H × List MemPlace} (h : DataW.trod enc Tryz.prog W 0 (fun _ => true) true fuel 38 [v] = some x) :
    ∃ p cap, ∃ xs : List (Int × Int), v = .slice p xs.length cap ∧ RdS W p xs ∧ xs.length ≤ maxLen := by
  rcases Deep.open_slice Tryz.underlying38 h with ⟨hcs, _⟩ | ⟨a, l, c, m, n, D, Pl, hcs, _, hl, hm, hmm, _, hx⟩
  · exact ⟨none, 0, [], by simpa using hcs, .inl rfl, by simp⟩
  · obtain rfl : v = .slice (some a) l c := by simpa using hcs
    simp only [if_true] at hmm; subst hmm; rw [tc_span] at hx
    have each : ∀ i, i < l → ∃ g : Int × Int, W.cell? (a.add (i * 2)) = some (.int .i64 g.1) ∧ W.cell? ((a.add (i * 2)).add 1) = some (.int .i64 g.2) := by
      intro i hi; obtain ⟨cs', h1, h2⟩ := hx i (by omega); obtain ⟨_, hlen, hcell⟩ := World.cells?_some h1; obtain ⟨y0, y1, k, _, _, t0, t1⟩ := trod_struct2 Tryz.underlying44 h2
      match cs', hlen with
      | [c0, c1], _ =>
        simp only [tc_int] at t0 t1; obtain ⟨x0, rfl, _⟩ := int_ofT (v := c0) t0; obtain ⟨x1, rfl, _⟩ := int_ofT (v := c1) t1; refine ⟨(x0, x1), ?_, ?_⟩
        · have := hcell 0 (by omega)
          simpa [Addr.add] using this
        · exact hcell 1 (by omega)
    obtain ⟨gs, h1, h2⟩ := list_of (0, 0) (fun i g => W.cell? (a.add (i * 2)) = some (.int .i64 g.1) ∧ W.cell? ((a.add (i * 2)).add 1) = some (.int .i64 g.2)) l each; refine ⟨some a, _, gs, by rw [h1], ?_, by omega⟩
    rcases Nat.eq_zero_or_pos l with h0 | h0
    · left; exact List.length_eq_zero_iff.1 (by omega)
    · obtain ⟨b, off, spot⟩ := a
      have hc := (h2 0 h0).1; have hspot : spot = none := by simpa [Addr.add] using World.cell?_spot hc
      subst hspot; refine .inr ⟨b, off, rfl, fun i hi => ?_⟩; have := h2 i (by omega); rw [add_plainT, add_plainT] at this; exact this
set_option maxRecDepth 100000 in
theorem op_hand {base : Nat} {v : Value} {d : DataW H} {ps : List MemPlace} (hv : Value.okWide Tryz.prog W .any base 40 v) (h : DataW.Trod enc Tryz.prog W 0 (fun _ => true) true 40 v d ps) :
    ∃ (g : Hd) (pe : Option Addr) (ce : Nat), v = hdV g pe ce ∧ RdS W pe g.er := by
  obtain ⟨v0, v1, v2, v3, y0, y1, y2, y3, n, rfl, _, _, h0, h1, h2, h3⟩ := Joins.open_agg4 Tryz.underlying40 (by kernel_rfl) tc_hand hv h; obtain ⟨a, rfl, _⟩ := int_ofT h0; obtain ⟨b, rfl, _⟩ := int_ofT h1; obtain ⟨c, rfl, _⟩ := int_ofT h2; obtain ⟨pe, ce, er, rfl, r3, _⟩ := rd_spansT h3; exact ⟨⟨a, b, c, er⟩, pe, ce, rfl, r3⟩
end
end Go.Proofs.YtbknfddaoolagaaGreatDoor
end

section
namespace Go.Proofs.YtbknfddaoolagaaGreatDoor
open Go Go.RowKit Go.Proofs
set_option linter.unusedVariables false
set_option linter.unusedSimpArgs false
attribute [local go_sem] imax2 imin2

set_option maxHeartbeats 1600000 in
set_option maxRecDepth 100000 in
theorem r_Hand (pm pv pr : Option Addr) (cm cv cr : Nat) (p : Pc) (h : Hd) (pe : Option Addr) (ce : Nat) (w : World) (hh : RdS w pe h.er) (hl : h.er.length ≤ 1000000) :
    Calls Tryz.prog 16 #[.agg #[.slice pm p.ms.length cm, .slice pv p.mv.length cv, .slice pr p.rs.length cr], hdV h pe ce] w fun e w' => e = .returned (.bool (handB p.ms.length h)) ∧ Below w.heap.size w w' := by
  unfold hdV; obtain ⟨w0, e0, HS0, k0, k1, k2, b0⟩ := box3 w (.slice pm p.ms.length cm) (.slice pv p.mv.length cv) (.slice pr p.rs.length cr) 27; obtain ⟨w1, e1, HS1, q0, q1, q2, q3, b1⟩ := box4 w0 (.int .i64 h.arb) (.int .i64 h.num) (.int .i64 h.den) (.slice pe h.er.length ce) 40; have HE := Lib.hid ((hh.below b0).below b1); have HB := Lib.hid (b0.trans (b1.mono b0.size)); have k0 := (b1.cell (lt_of_cellq k0)).trans k0; have HQ := Lib.hid (handB_parts p.ms.length h); have HKK := Lib.hid (And.intro k0 (And.intro q0 (And.intro q1 (And.intro q2 q3)))); clear b0 b1 hh k0 k1 k2 q0 q1 q2
  go_enter Tryz.func16, Tryz.ntmps16
  go_wp2; clear e0 e1 q3
  go_loopw [5] (fun i wr => ∃ k : Nat, k ≤ h.er.length ∧ i = .int .i64 k ∧ Hid (∀ j, j < k → errB (gm h.er j) = true) ∧ Hid (Below w1.heap.size w1 wr)) (fun i _ => h.er.length - (intOf i).toNat)
  case atStart => exact ⟨0, Nat.zero_le _, rfl, Lib.hid (fun j hj => by omega), Lib.hid (Below.refl _ _)⟩
  case round =>
    obtain ⟨k, hk, rfl, HK, HY⟩ := hrel; have HBB := Lib.hid (HB.out.trans (HY.out.mono HB.out.size)); have q3 := (HY.out.cell (lt_of_cellq HKK.out.2.2.2.2)).trans HKK.out.2.2.2.2
    by_cases hlt : k < h.er.length
    · have hki : (k : Int) < (h.er.length : Int) := by omega
      obtain ⟨b, off, rfl, hc⟩ := (HE.out.below HY.out).at hlt; obtain ⟨d0, d1⟩ := hc k hlt; have HBAD := Lib.hid (show errB (gm h.er k) = false → handB p.ms.length h = false from fun g => by rw [HQ.out, all_badP (0, 0) hlt (show errB (h.er.getD k (0, 0)) = false from g)]; simp); have HNX := Lib.hid (show errB (gm h.er k) = true → ∀ j, j < k + 1 → errB (gm h.er j) = true from upto_succ HK.out); obtain ⟨M, hM⟩ : ∃ M, gm h.er k = M := ⟨_, rfl⟩; rw [hM] at d0 d1 HBAD HNX; obtain ⟨lo, hi⟩ := M; obtain ⟨w4, e4, HS4, y0, y1, b4⟩ := box2 wr (.int .i64 lo) (.int .i64 hi) 44; have HB4 := Lib.hid (HBB.out.trans (b4.mono HBB.out.size)); have HY4 := Lib.hid (HY.out.trans (b4.mono HY.out.size)); clear hc hM b4
      by_cases g1 : lo < -30
      · have H := Lib.hid (HBAD.out (by unfold errB; simp; omega))
        go_wp2; go_ret; exact ⟨by rw [H.out]; rfl, HB4.out⟩
      by_cases g2 : lo > hi
      · have H := Lib.hid (HBAD.out (by unfold errB; simp; omega))
        go_wp2; go_ret; exact ⟨by rw [H.out]; rfl, HB4.out⟩
      by_cases g3 : hi > 30
      · have H := Lib.hid (HBAD.out (by unfold errB; simp; omega))
        go_wp2; go_ret; exact ⟨by rw [H.out]; rfl, HB4.out⟩
      · have H := Lib.hid (HNX.out (by unfold errB; simp; omega))
        go_wp2; go_roundw
        case rel => exact ⟨k + 1, by omega, by go_num, H, HY4⟩
        case measure => simp [intOf]; omega
    · obtain rfl : k = h.er.length := by omega
      have hki : ¬ (h.er.length : Int) < (h.er.length : Int) := by omega
      have HMS := Lib.hid (show h.er.all errB = true from (all_at (0, 0) h.er).2 HK.out); have k0 := (HY.out.cell (lt_of_cellq HKK.out.1)).trans HKK.out.1; have q0 := (HY.out.cell (lt_of_cellq HKK.out.2.1)).trans HKK.out.2.1; have q1 := (HY.out.cell (lt_of_cellq HKK.out.2.2.1)).trans HKK.out.2.2.1; have q2 := (HY.out.cell (lt_of_cellq HKK.out.2.2.2.1)).trans HKK.out.2.2.2.1; clear HK
      rcases h1 : inB h.arb 0 p.ms.length with _ | _
      · have H := Lib.hid (show handB p.ms.length h = false by rw [HQ.out]; simp [h1])
        go_wp2_with fail; refine (r_in _ _ _ _).mono ?_; rw [h1]; rintro e wn ⟨rfl, rfl⟩; go_wp2; go_ret; exact ⟨by rw [H.out]; rfl, HBB.out⟩
      rcases h2 : inB h.num 1 100 with _ | _
      · have H := Lib.hid (show handB p.ms.length h = false by rw [HQ.out]; simp [h1, h2])
        go_wp2_with fail; refine (r_in _ _ _ _).mono ?_; rw [h1]; rintro e wn ⟨rfl, rfl⟩; go_wp2_with fail; refine (r_in _ _ _ _).mono ?_; rw [h2]; rintro e wn ⟨rfl, rfl⟩; go_wp2; go_ret; exact ⟨by rw [H.out]; rfl, HBB.out⟩
      rcases h3 : inB h.den 1 100 with _ | _
      · have H := Lib.hid (show handB p.ms.length h = false by rw [HQ.out]; simp [h1, h2, h3])
        go_wp2_with fail; refine (r_in _ _ _ _).mono ?_; rw [h1]; rintro e wn ⟨rfl, rfl⟩; go_wp2_with fail; refine (r_in _ _ _ _).mono ?_; rw [h2]; rintro e wn ⟨rfl, rfl⟩; go_wp2_with fail; refine (r_in _ _ _ _).mono ?_; rw [h3]; rintro e wn ⟨rfl, rfl⟩; go_wp2; go_ret; exact ⟨by rw [H.out]; rfl, HBB.out⟩
      have H := Lib.hid (show handB p.ms.length h = inB (h.er.length : Int) 1 8 by rw [HQ.out, HMS.out, h1, h2, h3]; simp); go_wp2_with fail; refine (r_in _ _ _ _).mono ?_; rw [h1]; rintro e wn ⟨rfl, rfl⟩; go_wp2_with fail; refine (r_in _ _ _ _).mono ?_; rw [h2]; rintro e wn ⟨rfl, rfl⟩; go_wp2_with fail; refine (r_in _ _ _ _).mono ?_; rw [h3]; rintro e wn ⟨rfl, rfl⟩; go_wp2_with fail; refine (r_in _ _ _ _).mono ?_; rintro e wn ⟨rfl, rfl⟩; go_wp2; go_ret; exact ⟨by rw [H.out]; rfl, HBB.out⟩

set_option maxRecDepth 100000 in
theorem r_down (a b : Int) (w : World) (hb : 0 < b) (hb2 : b ≤ 100000) (ha : -1000000000 ≤ a ∧ a ≤ 1000000000) :
    Calls Tryz.prog 105 #[.int .i64 a, .int .i64 b] w fun e w' => e = .returned (.int .i64 (a / b)) ∧ w = w' := by
  obtain ⟨ha1, ha2⟩ := ha; have hb0 : ¬ b = 0 := by omega
  have HD := Lib.hid (down_ediv a b hb); have h2 := Int.tmod_lt_of_pos a hb; have h2b := Int.lt_tmod_of_pos a hb; have h5 := Int.mul_tdiv_add_tmod a b; have h6 : a.tdiv b * b = b * a.tdiv b := Int.mul_comm _ _
  have h3 : -1000000000 ≤ a.tdiv b ∧ a.tdiv b ≤ 1000000000 := by
    have h7 : (a.tdiv b).natAbs ≤ a.natAbs := by rw [Int.natAbs_tdiv]; exact Nat.div_le_self _ _
    omega
  obtain ⟨h31, h32⟩ := h3; obtain ⟨D, hD⟩ : ∃ D, a.tdiv b = D := ⟨_, rfl⟩; obtain ⟨E, hE⟩ : ∃ E, D * b = E := ⟨_, rfl⟩; rw [hD] at HD h5 h6 h31 h32; rw [hE] at HD h6; have w1 : IntKind.i64.wrap D = D := w64 _ (by omega) (by omega); have w2 : IntKind.i64.wrap E = E := w64 _ (by omega) (by omega); have w3 : IntKind.i64.wrap (D - 1) = D - 1 := w64 _ (by omega) (by omega); clear h5 h6 h31 h32 h2 h2b
  by_cases h : E > a
  · have H := Lib.hid (show a / b = D - 1 by rw [← HD.out, if_pos h])
    go_enter Tryz.func105, Tryz.ntmps105
    go_wp2; go_ret; exact ⟨by rw [H.out]; rfl, rfl⟩
  · have H := Lib.hid (show a / b = D by rw [← HD.out, if_neg h])
    go_enter Tryz.func105, Tryz.ntmps105
    go_wp2; go_ret; exact ⟨by rw [H.out]; rfl, rfl⟩
end Go.Proofs.YtbknfddaoolagaaGreatDoor
end

section
namespace Go.Proofs.YtbknfddaoolagaaGreatDoor
set_option linter.unusedVariables false

theorem gi_take (a : List Int) (k i : Nat) (h : i < k) : gi (a.take k) i = gi a i := by
  unfold gi; rw [List.getD_eq_getElem?_getD, List.getElem?_take, if_pos h, ← List.getD_eq_getElem?_getD]
end Go.Proofs.YtbknfddaoolagaaGreatDoor
end

section
namespace Go.Proofs.YtbknfddaoolagaaGreatDoor
open Go Go.RowKit
set_option linter.unusedVariables false
theorem wq_not {P : Program} {C : World → Prop} {ops : Array Oper} {Q : Act → Prop} {rest : List Oper} {a : Act} {d : Nat} {t ty : TypeId} {x : Operand} {pos : String} {af : Array Edge} {g : Option (Nat × Bool)} {b : Bool}
    (hw : Region.wanted ⟨some d, .unOp .not t x, ty, pos, af, g⟩ (yielded ops a.tmps) = true) (hx : a.eval x = .bool b)
    (hk : wpQuiet P ops C Q rest (a.put (some d) (.bool (!b)))) : wpQuiet P ops C Q (⟨some d, .unOp .not t x, ty, pos, af, g⟩ :: rest) a :=
  wq hw (q_val (o := ⟨some d, .unOp .not t x, ty, pos, af, g⟩) (.bool (!b)) (fun w _ => by unfold execOp; dsimp only; rw [hx]; simp [go_sem]) hk)
end Go.Proofs.YtbknfddaoolagaaGreatDoor
end

section
namespace Go.Proofs.YtbknfddaoolagaaGreatDoor
open Go Go.RowKit
set_option linter.unusedVariables false
section
variable {P : Program} {ops : Array Oper} {Q : Exit → Act → World → Prop} {id : Nat} {a : Act} {w : World}
theorem cl1 {a0 : Addr} {v0 : Value} (h0 : w.cell? a0 = some v0) : ∀ w', Below w.heap.size w w' → w'.cell? a0 = some v0 := fun w' hb => (hb.cell (lt_of_cellq h0)).trans h0
theorem held1 {a0 : Addr} {v0 : Value} (h0 : w.cell? a0 = some v0)
    (k : ∀ W0, Below w.heap.size w W0 → wpAnyH P .any ops Q (fun w' => w'.cell? a0 = some v0) ops.size (Array.replicate ops.size false) a W0)
    (hm : P.follows .mixedOrders = true := by kernel_rfl) : (Code.region id ops true).wp P Q a w :=
  wp_region_held_drew (S := fun w' => w'.cell? a0 = some v0) hm (cl1 h0 _ (Below.refl _ _).drew) (fun _ => k _ (Below.refl _ _).drew)
theorem cl2 {a0 a1 : Addr} {v0 v1 : Value} (h0 : w.cell? a0 = some v0) (h1 : w.cell? a1 = some v1) : ∀ w', Below w.heap.size w w' → w'.cell? a0 = some v0 ∧ w'.cell? a1 = some v1 := fun w' hb => ⟨(hb.cell (lt_of_cellq h0)).trans h0, (hb.cell (lt_of_cellq h1)).trans h1⟩
theorem held2 {a0 a1 : Addr} {v0 v1 : Value} (h0 : w.cell? a0 = some v0) (h1 : w.cell? a1 = some v1)
    (k : ∀ W0, Below w.heap.size w W0 → wpAnyH P .any ops Q (fun w' => w'.cell? a0 = some v0 ∧ w'.cell? a1 = some v1) ops.size (Array.replicate ops.size false) a W0)
    (hm : P.follows .mixedOrders = true := by kernel_rfl) : (Code.region id ops true).wp P Q a w :=
  wp_region_held_drew (S := fun w' => w'.cell? a0 = some v0 ∧ w'.cell? a1 = some v1) hm (cl2 h0 h1 _ (Below.refl _ _).drew) (fun _ => k _ (Below.refl _ _).drew)
theorem cl3 {a0 a1 a2 : Addr} {v0 v1 v2 : Value} (h0 : w.cell? a0 = some v0) (h1 : w.cell? a1 = some v1) (h2 : w.cell? a2 = some v2) : ∀ w', Below w.heap.size w w' → w'.cell? a0 = some v0 ∧ w'.cell? a1 = some v1 ∧ w'.cell? a2 = some v2 := fun w' hb => ⟨(hb.cell (lt_of_cellq h0)).trans h0, (hb.cell (lt_of_cellq h1)).trans h1, (hb.cell (lt_of_cellq h2)).trans h2⟩
theorem held3 {a0 a1 a2 : Addr} {v0 v1 v2 : Value} (h0 : w.cell? a0 = some v0) (h1 : w.cell? a1 = some v1) (h2 : w.cell? a2 = some v2)
    (k : ∀ W0, Below w.heap.size w W0 → wpAnyH P .any ops Q (fun w' => w'.cell? a0 = some v0 ∧ w'.cell? a1 = some v1 ∧ w'.cell? a2 = some v2) ops.size (Array.replicate ops.size false) a W0)
    (hm : P.follows .mixedOrders = true := by kernel_rfl) : (Code.region id ops true).wp P Q a w :=
  wp_region_held_drew (S := fun w' => w'.cell? a0 = some v0 ∧ w'.cell? a1 = some v1 ∧ w'.cell? a2 = some v2) hm (cl3 h0 h1 h2 _ (Below.refl _ _).drew) (fun _ => k _ (Below.refl _ _).drew)
theorem cl4 {a0 a1 a2 a3 : Addr} {v0 v1 v2 v3 : Value} (h0 : w.cell? a0 = some v0) (h1 : w.cell? a1 = some v1) (h2 : w.cell? a2 = some v2) (h3 : w.cell? a3 = some v3) : ∀ w', Below w.heap.size w w' → w'.cell? a0 = some v0 ∧ w'.cell? a1 = some v1 ∧ w'.cell? a2 = some v2 ∧ w'.cell? a3 = some v3 := fun w' hb => ⟨(hb.cell (lt_of_cellq h0)).trans h0, (hb.cell (lt_of_cellq h1)).trans h1, (hb.cell (lt_of_cellq h2)).trans h2, (hb.cell (lt_of_cellq h3)).trans h3⟩
theorem held4 {a0 a1 a2 a3 : Addr} {v0 v1 v2 v3 : Value} (h0 : w.cell? a0 = some v0) (h1 : w.cell? a1 = some v1) (h2 : w.cell? a2 = some v2) (h3 : w.cell? a3 = some v3)
    (k : ∀ W0, Below w.heap.size w W0 → wpAnyH P .any ops Q (fun w' => w'.cell? a0 = some v0 ∧ w'.cell? a1 = some v1 ∧ w'.cell? a2 = some v2 ∧ w'.cell? a3 = some v3) ops.size (Array.replicate ops.size false) a W0)
    (hm : P.follows .mixedOrders = true := by kernel_rfl) : (Code.region id ops true).wp P Q a w :=
  wp_region_held_drew (S := fun w' => w'.cell? a0 = some v0 ∧ w'.cell? a1 = some v1 ∧ w'.cell? a2 = some v2 ∧ w'.cell? a3 = some v3) hm (cl4 h0 h1 h2 h3 _ (Below.refl _ _).drew) (fun _ => k _ (Below.refl _ _).drew)
theorem cl6 {a0 a1 a2 a3 a4 a5 : Addr} {v0 v1 v2 v3 v4 v5 : Value} (h0 : w.cell? a0 = some v0) (h1 : w.cell? a1 = some v1) (h2 : w.cell? a2 = some v2) (h3 : w.cell? a3 = some v3) (h4 : w.cell? a4 = some v4) (h5 : w.cell? a5 = some v5) : ∀ w', Below w.heap.size w w' → w'.cell? a0 = some v0 ∧ w'.cell? a1 = some v1 ∧ w'.cell? a2 = some v2 ∧ w'.cell? a3 = some v3 ∧ w'.cell? a4 = some v4 ∧ w'.cell? a5 = some v5 := fun w' hb => ⟨(hb.cell (lt_of_cellq h0)).trans h0, (hb.cell (lt_of_cellq h1)).trans h1, (hb.cell (lt_of_cellq h2)).trans h2, (hb.cell (lt_of_cellq h3)).trans h3, (hb.cell (lt_of_cellq h4)).trans h4, (hb.cell (lt_of_cellq h5)).trans h5⟩
theorem held6 {a0 a1 a2 a3 a4 a5 : Addr} {v0 v1 v2 v3 v4 v5 : Value} (h0 : w.cell? a0 = some v0) (h1 : w.cell? a1 = some v1) (h2 : w.cell? a2 = some v2) (h3 : w.cell? a3 = some v3) (h4 : w.cell? a4 = some v4) (h5 : w.cell? a5 = some v5)
    (k : ∀ W0, Below w.heap.size w W0 → wpAnyH P .any ops Q (fun w' => w'.cell? a0 = some v0 ∧ w'.cell? a1 = some v1 ∧ w'.cell? a2 = some v2 ∧ w'.cell? a3 = some v3 ∧ w'.cell? a4 = some v4 ∧ w'.cell? a5 = some v5) ops.size (Array.replicate ops.size false) a W0)
    (hm : P.follows .mixedOrders = true := by kernel_rfl) : (Code.region id ops true).wp P Q a w :=
  wp_region_held_drew (S := fun w' => w'.cell? a0 = some v0 ∧ w'.cell? a1 = some v1 ∧ w'.cell? a2 = some v2 ∧ w'.cell? a3 = some v3 ∧ w'.cell? a4 = some v4 ∧ w'.cell? a5 = some v5) hm (cl6 h0 h1 h2 h3 h4 h5 _ (Below.refl _ _).drew) (fun _ => k _ (Below.refl _ _).drew)
theorem cl7 {a0 a1 a2 a3 a4 a5 a6 : Addr} {v0 v1 v2 v3 v4 v5 v6 : Value} (h0 : w.cell? a0 = some v0) (h1 : w.cell? a1 = some v1) (h2 : w.cell? a2 = some v2) (h3 : w.cell? a3 = some v3) (h4 : w.cell? a4 = some v4) (h5 : w.cell? a5 = some v5) (h6 : w.cell? a6 = some v6) : ∀ w', Below w.heap.size w w' → w'.cell? a0 = some v0 ∧ w'.cell? a1 = some v1 ∧ w'.cell? a2 = some v2 ∧ w'.cell? a3 = some v3 ∧ w'.cell? a4 = some v4 ∧ w'.cell? a5 = some v5 ∧ w'.cell? a6 = some v6 := fun w' hb => ⟨(hb.cell (lt_of_cellq h0)).trans h0, (hb.cell (lt_of_cellq h1)).trans h1, (hb.cell (lt_of_cellq h2)).trans h2, (hb.cell (lt_of_cellq h3)).trans h3, (hb.cell (lt_of_cellq h4)).trans h4, (hb.cell (lt_of_cellq h5)).trans h5, (hb.cell (lt_of_cellq h6)).trans h6⟩
theorem held7 {a0 a1 a2 a3 a4 a5 a6 : Addr} {v0 v1 v2 v3 v4 v5 v6 : Value} (h0 : w.cell? a0 = some v0) (h1 : w.cell? a1 = some v1) (h2 : w.cell? a2 = some v2) (h3 : w.cell? a3 = some v3) (h4 : w.cell? a4 = some v4) (h5 : w.cell? a5 = some v5) (h6 : w.cell? a6 = some v6)
    (k : ∀ W0, Below w.heap.size w W0 → wpAnyH P .any ops Q (fun w' => w'.cell? a0 = some v0 ∧ w'.cell? a1 = some v1 ∧ w'.cell? a2 = some v2 ∧ w'.cell? a3 = some v3 ∧ w'.cell? a4 = some v4 ∧ w'.cell? a5 = some v5 ∧ w'.cell? a6 = some v6) ops.size (Array.replicate ops.size false) a W0)
    (hm : P.follows .mixedOrders = true := by kernel_rfl) : (Code.region id ops true).wp P Q a w :=
  wp_region_held_drew (S := fun w' => w'.cell? a0 = some v0 ∧ w'.cell? a1 = some v1 ∧ w'.cell? a2 = some v2 ∧ w'.cell? a3 = some v3 ∧ w'.cell? a4 = some v4 ∧ w'.cell? a5 = some v5 ∧ w'.cell? a6 = some v6) hm (cl7 h0 h1 h2 h3 h4 h5 h6 _ (Below.refl _ _).drew) (fun _ => k _ (Below.refl _ _).drew)
theorem cl9 {a0 a1 a2 a3 a4 a5 a6 a7 a8 : Addr} {v0 v1 v2 v3 v4 v5 v6 v7 v8 : Value} (h0 : w.cell? a0 = some v0) (h1 : w.cell? a1 = some v1) (h2 : w.cell? a2 = some v2) (h3 : w.cell? a3 = some v3) (h4 : w.cell? a4 = some v4) (h5 : w.cell? a5 = some v5) (h6 : w.cell? a6 = some v6) (h7 : w.cell? a7 = some v7) (h8 : w.cell? a8 = some v8) : ∀ w', Below w.heap.size w w' → w'.cell? a0 = some v0 ∧ w'.cell? a1 = some v1 ∧ w'.cell? a2 = some v2 ∧ w'.cell? a3 = some v3 ∧ w'.cell? a4 = some v4 ∧ w'.cell? a5 = some v5 ∧ w'.cell? a6 = some v6 ∧ w'.cell? a7 = some v7 ∧ w'.cell? a8 = some v8 := fun w' hb => ⟨(hb.cell (lt_of_cellq h0)).trans h0, (hb.cell (lt_of_cellq h1)).trans h1, (hb.cell (lt_of_cellq h2)).trans h2, (hb.cell (lt_of_cellq h3)).trans h3, (hb.cell (lt_of_cellq h4)).trans h4, (hb.cell (lt_of_cellq h5)).trans h5, (hb.cell (lt_of_cellq h6)).trans h6, (hb.cell (lt_of_cellq h7)).trans h7, (hb.cell (lt_of_cellq h8)).trans h8⟩
theorem held9 {a0 a1 a2 a3 a4 a5 a6 a7 a8 : Addr} {v0 v1 v2 v3 v4 v5 v6 v7 v8 : Value} (h0 : w.cell? a0 = some v0) (h1 : w.cell? a1 = some v1) (h2 : w.cell? a2 = some v2) (h3 : w.cell? a3 = some v3) (h4 : w.cell? a4 = some v4) (h5 : w.cell? a5 = some v5) (h6 : w.cell? a6 = some v6) (h7 : w.cell? a7 = some v7) (h8 : w.cell? a8 = some v8)
    (k : ∀ W0, Below w.heap.size w W0 → wpAnyH P .any ops Q (fun w' => w'.cell? a0 = some v0 ∧ w'.cell? a1 = some v1 ∧ w'.cell? a2 = some v2 ∧ w'.cell? a3 = some v3 ∧ w'.cell? a4 = some v4 ∧ w'.cell? a5 = some v5 ∧ w'.cell? a6 = some v6 ∧ w'.cell? a7 = some v7 ∧ w'.cell? a8 = some v8) ops.size (Array.replicate ops.size false) a W0)
    (hm : P.follows .mixedOrders = true := by kernel_rfl) : (Code.region id ops true).wp P Q a w :=
  wp_region_held_drew (S := fun w' => w'.cell? a0 = some v0 ∧ w'.cell? a1 = some v1 ∧ w'.cell? a2 = some v2 ∧ w'.cell? a3 = some v3 ∧ w'.cell? a4 = some v4 ∧ w'.cell? a5 = some v5 ∧ w'.cell? a6 = some v6 ∧ w'.cell? a7 = some v7 ∧ w'.cell? a8 = some v8) hm (cl9 h0 h1 h2 h3 h4 h5 h6 h7 h8 _ (Below.refl _ _).drew) (fun _ => k _ (Below.refl _ _).drew)
theorem tu {md : Region.Mode} {S : World → Prop} (i : Nat) {oi : Oper} {d : Nat} {fuel : Nat} {listed : Array Bool} {a : Act} {w : World} (hi : ops[i]? = some oi) (hS : S w)
    (h : wpAnyH P md ops Q S fuel (listed.setIfInBounds i true) { a with tmps := a.tmps.setIfInBounds d undef } w)
    (hs : Region.noSelect ops = true := by kernel_rfl) (hf : Region.free md ops listed i = true := by kernel_rfl) (hr : (Region.ready md ops listed).contains i = true := by kernel_rfl)
    (hd : oi.dst = some d := by rfl)
    (hQ : ∀ c a w, Q (.panic c) (a.put oi.dst undef) w → Q (.panic c) a w := by intro _ _ _ h; first | exact h | (exact absurd h.1 (by intro hh; cases hh)))
    (hw : Region.wanted oi (yielded ops a.tmps) = false := by kernel_rfl) : wpAnyH P md ops Q S (fuel + 1) listed a w :=
  wpAnyH_take hi hs hf hr hQ (Or.inr ⟨hw, rfl⟩) hS (by rw [hd]; exact h)
end
end Go.Proofs.YtbknfddaoolagaaGreatDoor
end

section
namespace Go.Proofs.YtbknfddaoolagaaGreatDoor
open Go Go.RowKit Go.Proofs
set_option linter.unusedVariables false
set_option linter.unusedSimpArgs false
attribute [local go_sem] imax2 imin2

theorem run_append_src {P : Program} (w : World) (base : Nat) (t ty e : TypeId) (i : TypeInfo) (z : Value) (size bytes : Nat) (ht : P.underlying t = some (.slice e)) (hi : P.info? e = some i) (hz : i.zero = some z)
    (hsize : i.size = size) (hby : i.bytes = bytes) (hzs : z.cells.size = size) (hsz : 0 < size)
    (v : Value) (n : Nat) (xs : List Value) (hown : w.ownsRow base e size v n xs)
    (po : Option Addr) (m c : Nat) (news : List Value) (hl : news.length = m * size) (hnews : m = 0 ∨ ∃ ad, po = some ad ∧ ∀ j u, news[j]? = some u → w.cell? (ad.add j) = some u) (h1 : ∀ u ∈ news, u.oneCell' = true)
    (h63 : n + m ≤ maxLen) (hbytes : (n + m) * bytes ≤ 140737488355328) (hbase : base ≤ w.heap.size) :
    ∃ v' w', (Builtin.append_ #[t, t] ty #[v, .slice po m c]).run P w = .ok v' w' ∧ w'.ownsRow base e size v' (n + m) (xs ++ news) ∧ w.grownBy w' v.ownBlock ∧ (v'.ownBlock = v.ownBlock ∨ v'.ownBlock = some w.heap.size) := by
  by_cases hm : m = 0
  · subst hm
    have hn : news = [] := List.length_eq_zero_iff.1 (by rw [hl, Nat.zero_mul]); subst hn
    have hs : Src P i.size t (.slice po 0 c) 0 [] w := by
      cases po with
      | none => exact Src.ofNil w ht c
      | some a => exact Src.ofSlice w ht a 0 c [] (by simp) (by intro j u hu; simp at hu) (by intro u hu; cases hu)
    rcases hown.2 with ⟨rfl, rfl⟩ | ⟨g, cap, cur, rfl, hb, hg, hnc, hrest⟩
    · exact ⟨_, w, run_append_nothing w t t ty e i ht hi none 0 0 (Nat.le_refl _) _ hs, by simpa using hown, World.grownBy.refl _ _, .inl rfl⟩
    · exact ⟨_, w, run_append_nothing w t t ty e i ht hi (some ⟨g, 0, none⟩) n cap hnc _ hs, by simpa using hown, World.grownBy.refl _ _, .inl rfl⟩
  · obtain ⟨ad, rfl, hc⟩ := hnews.resolve_left hm
    obtain ⟨v', w', hr, h2, h3, _, h5⟩ := run_append_own_at (P := P) w base t ty e i z size bytes ht hi hz hsize hby hzs hsz v n xs hown ad m c news hl hc h1 h63 hbytes hbase; exact ⟨v', w', hr, h2, h3, h5⟩
theorem step_append_src {P : Program} (w : World) {ops : Array Oper} {o : Oper} {a : Act} {K : Act → World → Prop} {Q : Exit → Act → World → Prop} {E : Prop} (hgd : o.guard = none) (s x : Operand) (t : TypeId)
    (ho : o.op = .call { callee := .builtin .append, args := #[s, x], argTypes := #[t, t] })
    (base : Nat) (e : TypeId) (i : TypeInfo) (z : Value) (size bytes : Nat) (ht : P.underlying t = some (.slice e)) (hi : P.info? e = some i) (hz : i.zero = some z)
    (hsize : i.size = size) (hby : i.bytes = bytes) (hzs : z.cells.size = size) (hsz : 0 < size)
    (v : Value) (n : Nat) (xs : List Value) (hs : a.eval s = v) (hown : w.ownsRow base e size v n xs)
    (po : Option Addr) (m c : Nat) (news : List Value) (hx : a.eval x = .slice po m c) (hl : news.length = m * size) (hnews : m = 0 ∨ ∃ ad, po = some ad ∧ ∀ j u, news[j]? = some u → w.cell? (ad.add j) = some u) (h1 : ∀ u ∈ news, u.oneCell' = true)
    (h63 : n + m ≤ maxLen) (hbytes : (n + m) * bytes ≤ 140737488355328) (hbase : base ≤ w.heap.size)
    (h : ∀ v' w', w'.ownsRow base e size v' (n + m) (xs ++ news) → w.grownBy w' v.ownBlock → (v'.ownBlock = v.ownBlock ∨ v'.ownBlock = some w.heap.size) → K (a.put o.dst v') w') :
    if Region.wanted o (yielded ops a.tmps) = true then Oper.wp P o a w K Q else E := by
  have hw : Region.wanted o (yielded ops a.tmps) = true := by simp [Region.wanted, hgd]
  rw [if_pos hw]; obtain ⟨v', w', hr, h2, h3, h5⟩ := run_append_src (P := P) w base t o.type e i z size bytes ht hi hz hsize hby hzs hsz v n xs hown po m c news hl hnews h1 h63 hbytes hbase; unfold Oper.wp execOp; simp only [ho, resolve, invoke, builtin, Sem.run_bind, Sem.run_pure, Result.andThen_ok, List.map_toArray, List.map_cons, List.map_nil, hs, hx, hr]; exact h v' w' h2 h3 h5
theorem wpList_append_src {P : Program} (w : World) {ops : Array Oper} {rest : List Oper} {o : Oper} {a : Act} {Q : Exit → Act → World → Prop} (hgd : o.guard = none) (s x : Operand) (t : TypeId)
    (ho : o.op = .call { callee := .builtin .append, args := #[s, x], argTypes := #[t, t] })
    (base : Nat) (e : TypeId) (i : TypeInfo) (z : Value) (size bytes : Nat) (ht : P.underlying t = some (.slice e)) (hi : P.info? e = some i) (hz : i.zero = some z)
    (hsize : i.size = size) (hby : i.bytes = bytes) (hzs : z.cells.size = size) (hsz : 0 < size)
    (v : Value) (n : Nat) (xs : List Value) (hs : a.eval s = v) (hown : w.ownsRow base e size v n xs)
    (po : Option Addr) (m c : Nat) (news : List Value) (hx : a.eval x = .slice po m c) (hl : news.length = m * size) (hnews : m = 0 ∨ ∃ ad, po = some ad ∧ ∀ j u, news[j]? = some u → w.cell? (ad.add j) = some u) (h1 : ∀ u ∈ news, u.oneCell' = true)
    (h63 : n + m ≤ maxLen) (hbytes : (n + m) * bytes ≤ 140737488355328) (hbase : base ≤ w.heap.size)
    (h : ∀ v' w', w'.ownsRow base e size v' (n + m) (xs ++ news) → w.grownBy w' v.ownBlock → (v'.ownBlock = v.ownBlock ∨ v'.ownBlock = some w.heap.size) → wpList P ops Q rest (a.put o.dst v') w') : wpList P ops Q (o :: rest) a w :=
  wpList_plain hgd fun K hK => by
    obtain ⟨v', w', hr, h2, h3, h5⟩ := run_append_src (P := P) w base t o.type e i z size bytes ht hi hz hsize hby hzs hsz v n xs hown po m c news hl hnews h1 h63 hbytes hbase; unfold Oper.wp execOp; simp only [ho, resolve, invoke, builtin, Sem.run_bind, Sem.run_pure, Result.andThen_ok, List.map_toArray, List.map_cons, List.map_nil, hs, hx, hr]; exact hK _ _ (h v' w' h2 h3 h5)

theorem append_keeps {P : Program} (w : World) (t ty e : TypeId) (i : TypeInfo) (z : Value) (base size bytes : Nat) (ht : P.underlying t = some (.slice e)) (hi : P.info? e = some i) (hz : i.zero = some z) (hsize : i.size = size) (hby : i.bytes = bytes)
    (g n cap : Nat) (xs : List Value) (hown : w.ownsRow base e size (.slice (some ⟨g, 0, none⟩) n cap) n xs)
    (ad : Addr) (m c : Nat) (news : List Value) (hl : news.length = m * size) (hnews : ∀ j u, news[j]? = some u → w.cell? (ad.add j) = some u) (h1 : ∀ u ∈ news, u.oneCell' = true)
    (h63 : n + m ≤ maxLen) (hbytes : (n + m) * bytes ≤ 140737488355328) {v' : Value} {w' : World}
    (hr : (Builtin.append_ #[t, t] ty #[.slice (some ⟨g, 0, none⟩) n cap, .slice (some ad) m c]).run P w = .ok v' w') : ∀ j u, xs[j]? = some u → w'.cell? ⟨g, j, none⟩ = some u := by
  subst hsize; subst hby
  have holds := hown.cells (g := g) rfl
  have hlt : g < w.heap.size := by
    obtain ⟨g', _, h, _, h2⟩ := (show ∃ g' cap', (Value.slice (some ⟨g, 0, none⟩) n cap) = .slice (some ⟨g', 0, none⟩) n cap' ∧ base ≤ g' ∧ g' < w.heap.size from by
      rcases hown.2 with ⟨h, _⟩ | ⟨g', cap', cur, h, hbg, hg, _⟩
      · cases h
      · refine ⟨g', cap', h, hbg, ?_⟩
        rcases Nat.lt_or_ge g' w.heap.size with h1 | h1
        · exact h1
        · rw [Array.getElem?_eq_none h1] at hg; cases hg)
    cases h; exact h2
  rcases hown.2 with ⟨h, _⟩ | ⟨g', cap', cur, h, hbg, hg, hnc, hcm, hcs, htake⟩
  · cases h
  · cases h
    by_cases hroom : n + m ≤ cap
    · have hfit : n * i.size + news.length ≤ cur.size := by rw [hl, hcs, ← Nat.add_mul]; exact Nat.mul_le_mul_right _ hroom
      rw [run_append_room (P := P) w t ty e i ht hi g n cap cur hg ad m c news hl hnews h1 hroom hfit] at hr
      cases hr
      intro j u hj; rw [cell_of_row _ g j _ e (0, 0) (setRow_heap w g cur _ e _ hg), htake]; have hj' : j < xs.length := (List.getElem?_eq_some_iff.1 hj).1; simp only [List.getElem?_toArray]; rw [List.append_assoc, List.getElem?_append_left hj']; exact hj
    · have hsmall : n + m ≤ 9223372036854775807 := by simp only [maxLen] at h63; omega
      rw [run_append_grow (P := P) w t ty e i z ht hi hz ⟨g, 0, none⟩ n cap xs hown.1 holds ad m c news hl hnews (by omega) (by omega) (growslice_fits (by omega) hbytes)] at hr
      cases hr
      intro j u hj; have h := holds j u hj; rw [add_new] at h; rw [World.cell?_alloc_lt _ _ _ (by simpa using hlt)]; exact h
theorem step_append_keep {P : Program} (w : World) {ops : Array Oper} {o : Oper} {a : Act} {K : Act → World → Prop} {Q : Exit → Act → World → Prop} {E : Prop} (hgd : o.guard = none) (s x : Operand) (t : TypeId)
    (ho : o.op = .call { callee := .builtin .append, args := #[s, x], argTypes := #[t, t] })
    (base : Nat) (e : TypeId) (i : TypeInfo) (z : Value) (size bytes : Nat) (ht : P.underlying t = some (.slice e)) (hi : P.info? e = some i) (hz : i.zero = some z)
    (hsize : i.size = size) (hby : i.bytes = bytes) (hzs : z.cells.size = size) (hsz : 0 < size)
    (g n cap : Nat) (xs : List Value) (hs : a.eval s = .slice (some ⟨g, 0, none⟩) n cap) (hown : w.ownsRow base e size (.slice (some ⟨g, 0, none⟩) n cap) n xs)
    (ad : Addr) (m c : Nat) (news : List Value) (hx : a.eval x = .slice (some ad) m c) (hl : news.length = m * size) (hnews : ∀ j u, news[j]? = some u → w.cell? (ad.add j) = some u) (h1 : ∀ u ∈ news, u.oneCell' = true)
    (h63 : n + m ≤ maxLen) (hbytes : (n + m) * bytes ≤ 140737488355328) (hbase : base ≤ w.heap.size)
    (h : ∀ v' w', w'.ownsRow base e size v' (n + m) (xs ++ news) → w.grownBy w' (some g) → (∀ j u, xs[j]? = some u → w'.cell? ⟨g, j, none⟩ = some u) → K (a.put o.dst v') w') :
    if Region.wanted o (yielded ops a.tmps) = true then Oper.wp P o a w K Q else E := by
  have hw : Region.wanted o (yielded ops a.tmps) = true := by simp [Region.wanted, hgd]
  rw [if_pos hw]; obtain ⟨v', w', hr, h2, h3, _, h5⟩ := run_append_own_at (P := P) w base t o.type e i z size bytes ht hi hz hsize hby hzs hsz _ n xs hown ad m c news hl hnews h1 h63 hbytes hbase; have hk := append_keeps w t o.type e i z base size bytes ht hi hz hsize hby g n cap xs hown ad m c news hl hnews h1 h63 hbytes hr; unfold Oper.wp execOp; simp only [ho, resolve, invoke, builtin, Sem.run_bind, Sem.run_pure, Result.andThen_ok, List.map_toArray, List.map_cons, List.map_nil, hs, hx, hr]; exact h v' w' h2 h3 hk

def IntsPost (xs : List Int) (w : World) (e : Ending) (w' : World) : Prop :=
  ∃ g cap, e = .returned (.slice (some ⟨g, 0, none⟩) xs.length cap) ∧ w'.ownsRow w.heap.size 3 1 (.slice (some ⟨g, 0, none⟩) xs.length cap) xs.length (inV xs) ∧ Below w.heap.size w w'
theorem mv_range {pl pc : List Int} (hp : PlOk pl) (hch : Chain pl pc) (hr : ∀ i, i < pc.length → -100000 ≤ gi pc i ∧ gi pc i ≤ 100000) {m : Int} (hm : -100000 ≤ m ∧ m ≤ 100000) : ∀ k, k ≤ pl.length → -300000 ≤ gi (mvF pl pc m) k ∧ gi (mvF pl pc m) k ≤ 300000 := by
  intro k hk; have hpos : Pos pl := fun i hi => (hp.in' i hi).1
  have h1 := (mvF_chain hpos hch m).top k hk; have h2 := (mvF_chain hpos hch m).low k hk; have h3 := hp.sum k hk; rw [mvF_zero] at h1 h2; have h4 := hr 0 (by rw [hch.len]; omega); omega
set_option maxHeartbeats 800000 in
set_option maxRecDepth 100000 in
theorem r_Moved (pp : Option Addr) (cp n : Nat) (pc : List Int) (q : Option Addr) (cq : Nat) (pl : List Int) (m : Int) (w : World) (hpc : RdI w pp pc) (hn : pc.length = n) (hq : RdI w q pl) (hp : PlOk pl) (hch : Chain pl pc) (hr : ∀ i, i < pc.length → -100000 ≤ gi pc i ∧ gi pc i ≤ 100000) (hm : -100000 ≤ m ∧ m ≤ 100000) :
    Calls Tryz.prog 132 #[.slice pp n cp, .slice q pl.length cq, .int .i64 m] w (IntsPost (mvF pl pc m) w) := by
  obtain ⟨i0, hi0, hz0, hz1, hz2⟩ := info_parts infI; have hpos : Pos pl := fun i hi => (hp.in' i hi).1
  have hlen := hch.len; obtain ⟨b, off, rfl, hc⟩ := hpc.at (i := 0) (by rw [hlen]; omega); have d0 := hc 0 (by rw [hlen]; omega); rw [Nat.add_zero] at d0; have h0 := hr 0 (by rw [hlen]; omega); have hz := mvF_zero pl pc m; have HM := Lib.hid (show (mvF pl pc m).length = pl.length + 1 from mvF_len pl pc m); have HST := Lib.hid (fun (k : Nat) (hk : k < pl.length) => (mvF_stepRef (m := m) hpos hch k hk)); have HRM := Lib.hid (mv_range hp hch hr hm); have HC := Lib.hid (show ∀ i, i < pl.length + 1 → w.cell? ⟨b, off + i, none⟩ = some (.int .i64 (gi pc i)) from fun i hi => hc i (by rw [hlen]; exact hi)); have HR := Lib.hid (show ∀ i, i < pl.length + 1 → -100000 ≤ gi pc i ∧ gi pc i ≤ 100000 from fun i hi => hr i (by rw [hlen]; exact hi)); have HP := Lib.hid hp; have HQ := Lib.hid hq; obtain rfl : n = pl.length + 1 := by rw [← hn, hlen]
  obtain ⟨M, hMe⟩ : ∃ M, mvF pl pc m = M := ⟨_, rfl⟩; rw [hMe] at HM HST HRM hz ⊢; obtain ⟨X0, hX0⟩ : ∃ x, gi pc 0 = x := ⟨_, rfl⟩; rw [hX0] at d0 h0 hz; have hw0 : IntKind.i64.wrap (X0 + m) = X0 + m := w64 _ (by omega) (by omega); have hrow := World.ownsRow_lit (base := w.heap.size) (e := 3) (size := 1) w #[.int .i64 (X0 + m)] 1 (Nat.le_refl _) (by unfold maxLen; omega) (by simp); obtain ⟨w2, e2, HS2, _, _, b2⟩ := box1 w (.int .i64 (X0 + m)) 3; rw [e2] at hrow
  have HO0 := Lib.hid (show w2.ownsRow w.heap.size 3 1 (.slice (some ⟨w.heap.size, 0, none⟩) 1 1) 1 (inV (M.take 1)) by
    have : M.take 1 = [X0 + m] := by
      rw [show (1 : Nat) = 0 + 1 by rfl, List.take_succ_eq_append_getElem (by rw [HM.out]; omega), ← gi_get M 0 (by rw [HM.out]; omega), hz]; rfl
    rw [this]; exact hrow)
  have HB2 := Lib.hid b2; have hlP := hp.len; clear hpc hq hp hc hr hn hch hpos hMe hX0 hrow b2 hz hlen
  go_enter Tryz.func132, Tryz.ntmps132
  go_wp2; clear e2
  go_loopw [7, 8] (fun v i wr => ∃ k : Nat, k ≤ pl.length ∧ i = .int .i64 k ∧ (∃ g cap, v = .slice (some ⟨g, 0, none⟩) (k + 1) cap ∧ Hid (wr.ownsRow w.heap.size 3 1 (.slice (some ⟨g, 0, none⟩) (k + 1) cap) (k + 1) (inV (M.take (k + 1))))) ∧ Hid (Below w.heap.size w wr)) (fun _ i _ => pl.length - (intOf i).toNat)
  case atStart => exact ⟨0, Nat.zero_le _, rfl, ⟨_, _, rfl, HO0⟩, HB2⟩
  case round =>
    obtain ⟨k, hk, rfl, ⟨g, cap, rfl, HO⟩, HN⟩ := hrel
    by_cases hlt : k < pl.length
    · have hki : (k : Int) < (pl.length : Int) := by omega
      obtain ⟨bq, oq, rfl, hcq⟩ := HQ.out.at hlt; have HQB := Lib.hid (show bq < w.heap.size from lt_of_cellq (hcq k hlt)); have HPB := Lib.hid (show b < w.heap.size from lt_of_cellq (HC.out (k + 1) (by omega))); have HGB := Lib.hid (show w.heap.size ≤ g from (HO.out.lt g rfl).1); have e1 := (HN.out.cell (lt_of_cellq (hcq k hlt))).trans (hcq k hlt)
      have e2 : wr.cell? ⟨g, k, none⟩ = some (.int .i64 (gi M k)) := by
        have h := own_cell HO.out (j := k) (by rw [List.length_take, HM.out]; omega); rw [gi_take _ _ _ (by omega)] at h; exact h
      have h0k : (0 : Int) ≤ (k : Int) := by omega
      have hkk : (k : Int) < (k : Int) + 1 := by omega
      have hkk1 : (0 : Int) ≤ (k : Int) + 1 := by omega
      have hkk2 : (k : Int) + 1 < (pl.length : Int) + 1 := by omega
      have e3 := (HN.out.cell (lt_of_cellq (HC.out (k + 1) (by omega)))).trans (HC.out (k + 1) (by omega)); have hst := HST.out k hlt; have hr1 := HRM.out k hk; have hr2 := HR.out (k + 1) (by omega); have hr3 := HP.out.in' k hlt
      have HT := Lib.hid (show inV (M.take (k + 1 + 1)) = inV (M.take (k + 1)) ++ [.int .i64 (gi M (k + 1))] by
        rw [List.take_succ_eq_append_getElem (by rw [HM.out]; omega), inV_append, gi_get M (k + 1) (by rw [HM.out]; omega)]; rfl)
      obtain ⟨A, hA⟩ : ∃ A, gi M k = A := ⟨_, rfl⟩; obtain ⟨X, hX⟩ : ∃ X, gi pc (k + 1) = X := ⟨_, rfl⟩; obtain ⟨Y, hY⟩ : ∃ Y, gi M (k + 1) = Y := ⟨_, rfl⟩; obtain ⟨P, hP⟩ : ∃ P, gi pl k = P := ⟨_, rfl⟩; have HMA := Lib.hid hA; rw [hA] at e2 hst hr1; rw [hX] at e3 hst hr2; rw [hY] at hst HT; rw [hP] at e1 hst hr3; have HSQ := Lib.hid hst; have hw1 : IntKind.i64.wrap (A - P) = A - P := w64 _ (by omega) (by omega); have hw2 : IntKind.i64.wrap ((k : Int) + 1) = (k : Int) + 1 := w64 _ (by omega) (by omega); have HKS := Lib.hid (show (k : Int) + 1 = ((k + 1 : Nat) : Int) by omega); clear hcq hA hX hY hP hst; go_wp2; have HSB := Lib.hid (cl3 e1 e2 e3); refine held3 e1 e2 e3 (fun W0 HB0 => ?_); refine tk 0 rfl (by exact HSB.out _ HB0) ?_; (try simp only [Act.put, ptL]); refine tk 1 rfl (by exact HSB.out _ HB0) ?_; (try simp only [Act.put, ptL]); refine tk 2 rfl (by exact HSB.out _ HB0) ?_; (try simp only [Act.put, ptL]); refine tk 3 rfl (by exact HSB.out _ HB0) ?_; (try simp only [Act.put, ptL]); refine tk 4 rfl (by exact HSB.out _ HB0) ?_; (try simp only [Act.put, ptL]); refine tk 5 rfl (by exact HSB.out _ HB0) ?_; (try simp only [Act.put, ptL]); refine tk 6 rfl (by exact HSB.out _ HB0) ?_; (try simp only [Act.put, ptL]); refine tk 7 rfl (by exact HSB.out _ HB0) ?_; (try simp only [Act.put, ptL]); refine tk 8 rfl (by exact HSB.out _ HB0) ?_; (try simp only [Act.put, ptL]); refine tk 9 rfl (by exact HSB.out _ HB0) ?_; (try simp only [Act.put, ptL]); refine tk 10 rfl (by exact HSB.out _ HB0) ?_; (try simp only [Act.put, ptL]); refine tk 11 rfl (by exact HSB.out _ HB0) ?_; (try simp only [Act.put, ptL]); refine tk 12 rfl (by exact HSB.out _ HB0) ?_; (try simp only [Act.put, ptL]); refine tk 13 rfl (by exact HSB.out _ HB0) ?_; (try simp only [Act.put, ptL]); refine tk 14 rfl (by exact HSB.out _ HB0) ?_; (try simp only [Act.put, ptL]); refine tk 15 rfl (by exact HSB.out _ HB0) ?_; (try simp only [Act.put, ptL]); refine tk 16 rfl (by exact HSB.out _ HB0) ?_; (try simp only [Act.put, ptL]); refine tk 17 rfl (by exact HSB.out _ HB0) ?_; (try simp only [Act.put, ptL]); refine tk 18 rfl (by exact HSB.out _ HB0) ?_; (try simp only [Act.put, ptL]); refine tk 19 rfl (by exact HSB.out _ HB0) ?_; (try simp only [Act.put, ptL]); refine tk 20 rfl (by exact HSB.out _ HB0) ?_; (try simp only [Act.put, ptL])
      refine rz1 21 rfl ?_; intro K hK; go_simp; refine kz hK (by exact HSB.out _ (HB0.alloc HB0.size _)) ?_; clear hK K; (try simp only [Act.put, ptL]); have hO1 := (own_kept HO.out HB0).alloc (.cells #[.int .i64 (min A (max (A - P) X))] 3); have hB1 := HB0.alloc HB0.size (.cells #[.int .i64 (min A (max (A - P) X))] 3); refine rz1 22 rfl ?_; intro K hK; refine step_append_keep _ rfl _ _ 24 rfl w.heap.size 3 i0 _ 1 8 Tryz.underlying24 hi0 hz0 hz1 hz2 rfl (by decide) g (k + 1) cap _ rfl hO1 ⟨W0.heap.size, 0, none⟩ 1 1 [.int .i64 (min A (max (A - P) X))] rfl rfl (news_of W0 _ _) (by intro u hu; simp at hu; subst hu; rfl) (by unfold maxLen; omega) (by omega) (by have := HN.out.size; have := hB1.size; omega) ?_; intro v' w3 hown' hgrow hkeep; have hB3 := (HN.out.trans (hB1.mono HN.out.size)).grown hgrow (by have := HN.out.size; have := hB1.size; omega) (fun j hj => (hO1.lt j hj).1); have f2 := hkeep k (.int .i64 A) (by rw [inV_get _ _ (by rw [List.length_take, HM.out]; omega), gi_take _ _ _ (by omega), HMA.out])
      have f1 := (hgrow.cell_far ⟨bq, oq + k, none⟩ (lt_of_cellq ((hB1.cell (lt_of_cellq e1)).trans e1)) (by have := HQB.out; have := HGB.out; simp; omega)).trans ((hB1.cell (lt_of_cellq e1)).trans e1); have f3 := (hgrow.cell_far ⟨b, off + (k + 1), none⟩ (lt_of_cellq ((hB1.cell (lt_of_cellq e3)).trans e3)) (by have := HPB.out; have := HGB.out; simp; omega)).trans ((hB1.cell (lt_of_cellq e3)).trans e3); refine kz hK (by exact ⟨f1, f2, f3⟩) ?_; clear hK K; (try simp only [Act.put, ptL]); obtain ⟨g', cap', rfl⟩ := own_form hown'; refine tk 23 rfl (by exact ⟨f1, f2, f3⟩) ?_; (try simp only [Act.put, ptL]); refine wpAnyH_done (by kernel_rfl) ?_ _; have HO' := Lib.hid hown'; have HN' := Lib.hid hB3; clear hown' hgrow hkeep f1 f2 f3 hO1 hB1 hB3 HB0 HSB e1 e2 e3; go_wp2; go_roundw
      case rel =>
        refine ⟨k + 1, by omega, by go_num, ⟨g', cap', rfl, Lib.hid ?_⟩, HN'⟩; rw [HT.out, HSQ.out]; exact HO'.out
      case measure => simp [intOf]; omega
    · obtain rfl : k = pl.length := by omega
      have hki : ¬ (pl.length : Int) < (pl.length : Int) := by omega
      go_wp2; go_ret; refine ⟨g, cap, by rw [HM.out]; rfl, ?_, HN.out⟩; have h := HO.out; rw [List.take_of_length_le (by rw [HM.out]; exact Nat.le_refl _)] at h; rw [HM.out]; exact h
def ElV (w : World) (B : Nat) (css : List (List Int)) (hs : List Value) : Prop := hs.length = css.length ∧ ∀ i, i < css.length → ∃ v, hs[i]? = some v ∧ w.ownsRow B 3 1 v (gl css i).length (inV (gl css i))
theorem ElV.below {w w' : World} {B : Nat} {css : List (List Int)} {hs : List Value} (h : ElV w B css hs) (hb : Below w.heap.size w w') : ElV w' B css hs := by
  refine ⟨h.1, fun i hi => ?_⟩; obtain ⟨v, e1, e2⟩ := h.2 i hi; exact ⟨v, e1, own_kept e2 hb⟩
theorem ElV.mono {w : World} {B B' : Nat} {css : List (List Int)} {hs : List Value} (h : ElV w B css hs) (hB : B' ≤ B) : ElV w B' css hs := by
  refine ⟨h.1, fun i hi => ?_⟩; obtain ⟨v, e1, e2⟩ := h.2 i hi; exact ⟨v, e1, own_mono e2 hB⟩
theorem ElV.grown {w w' : World} {B B' n size e : Nat} {css : List (List Int)} {hs xs : List Value} {v : Value} (h : ElV w B css hs) (ho : w.ownsRow B' e size v n xs) (he : e ≠ 3) (hg : w.grownBy w' v.ownBlock) : ElV w' B css hs := by
  refine ⟨h.1, fun i hi => ?_⟩; obtain ⟨u, e1, e2⟩ := h.2 i hi; exact ⟨u, e1, e2.kept hg (own_apart e2 ho (Ne.symm he))⟩
theorem ElV.snoc {w : World} {B : Nat} {css : List (List Int)} {hs : List Value} {x : List Int} {v : Value} (h : ElV w B css hs) (hx : w.ownsRow B 3 1 v x.length (inV x)) : ElV w B (css ++ [x]) (hs ++ [v]) := by
  refine ⟨by simp [h.1], fun i hi => ?_⟩; rw [List.length_append, List.length_singleton] at hi; rw [gl_snoc]
  by_cases h1 : i < css.length
  · obtain ⟨u, e1, e2⟩ := h.2 i h1
    rw [if_pos h1]; exact ⟨u, by rw [List.getElem?_append_left (by rw [h.1]; omega)]; exact e1, e2⟩
  · obtain rfl : i = css.length := by omega
    rw [if_neg h1, if_pos rfl]; exact ⟨v, by rw [← h.1]; simp, hx⟩
def OwLs (w : World) (B : Nat) (v : Value) (ls : List (List Int)) : Prop := ∃ hs, w.ownsRow B 24 1 v ls.length hs ∧ ElV w B ls hs
theorem OwLs.nil (w : World) (B : Nat) : OwLs w B (.slice none 0 0) [] := ⟨[], World.ownsRow_nil _ _ _ _, rfl, fun i hi => by simp at hi⟩
theorem OwLs.below {w w' : World} {B : Nat} {v : Value} {ls : List (List Int)} (h : OwLs w B v ls) (hb : Below w.heap.size w w') : OwLs w' B v ls := by
  obtain ⟨hs, h1, h2⟩ := h; exact ⟨hs, own_kept h1 hb, h2.below hb⟩
theorem OwLs.mono {w : World} {B B' : Nat} {v : Value} {ls : List (List Int)} (h : OwLs w B v ls) (hB : B' ≤ B) : OwLs w B' v ls := by
  obtain ⟨hs, h1, h2⟩ := h; exact ⟨hs, own_mono h1 hB, h2.mono hB⟩
theorem OwLs.read {w : World} {B : Nat} {v : Value} {ls : List (List Int)} (h : OwLs w B v ls) : ∃ q c, v = .slice q ls.length c ∧ RdLs w q ls := by
  obtain ⟨hs, h1, h2⟩ := h
  rcases h1.2 with ⟨rfl, h0⟩ | ⟨g, cap, cur, rfl, hrest⟩
  · have : ls = [] := List.length_eq_zero_iff.1 h0
    subst this; exact ⟨none, 0, rfl, .inl rfl⟩
  · refine ⟨some ⟨g, 0, none⟩, cap, rfl, .inr ⟨g, 0, rfl, fun i hi => ?_⟩⟩
    obtain ⟨u, e1, e2⟩ := h2.2 i hi; obtain ⟨q, c, hu, hr⟩ := rd_of_own e2; subst hu; have h3 := h1.cells (g := g) rfl i _ e1; rw [add_new] at h3; exact ⟨q, c, by rw [Nat.zero_add]; exact h3, hr⟩
def LsPost (ls : List (List Int)) (w : World) (e : Ending) (w' : World) : Prop := (∃ v, e = .returned v ∧ OwLs w' w.heap.size v ls) ∧ Below w.heap.size w w'
theorem OwLs.app {w w' : World} {B : Nat} {v v' u : Value} {ls : List (List Int)} {x : List Int} {hs : List Value} (h1 : w.ownsRow B 24 1 v ls.length hs) (h2 : ElV w B ls hs) (hu : w.ownsRow B 3 1 u x.length (inV x)) (hg : w.grownBy w' v.ownBlock) (ho : w'.ownsRow B 24 1 v' (ls.length + 1) (hs ++ [u])) : OwLs w' B v' (ls ++ [x]) := by
  refine ⟨hs ++ [u], by rw [List.length_append]; exact ho, ?_⟩; exact (h2.grown h1 (by decide) hg).snoc (hu.kept hg (own_apart hu h1 (by decide)))
end Go.Proofs.YtbknfddaoolagaaGreatDoor
end

section
namespace Go.Proofs.YtbknfddaoolagaaGreatDoor
open Go Go.RowKit Go.Proofs
set_option linter.unusedVariables false
set_option linter.unusedSimpArgs false
attribute [local go_sem] imax2 imin2

set_option maxHeartbeats 1600000 in
set_option maxRecDepth 100000 in
theorem r_Run (pm pv pr : Option Addr) (cm cv cr : Nat) (p : Pc) (q : Option Addr) (cq : Nat) (pl : List Int) (w : World) (hp : RdP w pm pv pr p) (hq : RdI w q pl) (hpo : PieceOk p) (hpl : PlaysOk p pl) :
    Calls Tryz.prog 104 #[.agg #[.slice pm p.ms.length cm, .slice pv p.mv.length cv, .slice pr p.rs.length cr], .slice q pl.length cq] w (LsPost (allF pl p.mv p.mv.length) w) := by
  obtain ⟨i0, hi0, hz0, hz1, hz2⟩ := info_parts infI; obtain ⟨j0, hj0, hy0, hy1, hy2⟩ := info_parts infL; obtain ⟨w1, e1, HS1, k0, k1, k2, b1⟩ := box3 w (.slice pm p.ms.length cm) (.slice pv p.mv.length cv) (.slice pr p.rs.length cr) 27; have hpk := hpl.plok hpo
  have hrow : (w1.alloc (.cells #[.int .i64 0] 3)).ownsRow w1.heap.size 3 1 (.slice (some ⟨w1.heap.size, 0, none⟩) 1 1) 1 (inV (begTo pl 0)) := by
    rw [begTo_zero]; exact World.ownsRow_lit w1 #[.int .i64 0] 1 (Nat.le_refl _) (by unfold maxLen; omega) (by simp)
  obtain ⟨w2, e2, HS2, _, _, b2⟩ := box1 w1 (.int .i64 0) 3; rw [e2] at hrow; have HO0 := Lib.hid hrow; have HB2 := Lib.hid b2; have HB1 := Lib.hid b1; have HV := Lib.hid (hp.mv.below b1); have HQ := Lib.hid (hq.below b1); have HP := Lib.hid hpk; have HPO := Lib.hid hpo; have HPL := Lib.hid hpl; have K1 := Lib.hid k1; have hl := hpk.len; clear hp hq hpo hpl hpk hrow b1 b2 k0 k1 k2
  go_enter Tryz.func104, Tryz.ntmps104
  go_wp2; clear e1 e2
  go_loopw [5, 6] (fun v i wr => ∃ k : Nat, k ≤ pl.length ∧ i = .int .i64 k ∧ (∃ g cap, v = .slice (some ⟨g, 0, none⟩) (k + 1) cap ∧ Hid (wr.ownsRow w1.heap.size 3 1 (.slice (some ⟨g, 0, none⟩) (k + 1) cap) (k + 1) (inV (begTo pl k)))) ∧ Below w1.heap.size w1 wr) (fun _ i _ => pl.length - (intOf i).toNat)
  case atStart => exact ⟨0, by omega, rfl, ⟨w1.heap.size, 1, rfl, HO0⟩, HB2.out⟩
  case round =>
    obtain ⟨k, hk, rfl, ⟨g, cap, rfl, HO⟩, hnx⟩ := hrel; have HN := Lib.hid hnx
    by_cases hlt : k < pl.length
    · have hki : (k : Int) < (pl.length : Int) := by omega
      have h0k : (0 : Int) ≤ (k : Int) := by omega
      have hkk : (k : Int) < (k : Int) + 1 := by omega
      obtain ⟨b, off, rfl, hc⟩ := HQ.out.at hlt; have HQB := Lib.hid (show b < w1.heap.size from lt_of_cellq (hc k hlt)); have HGB := Lib.hid (show w1.heap.size ≤ g from (HO.out.lt g rfl).1); have e1 := (HN.out.cell (lt_of_cellq (hc k hlt))).trans (hc k hlt); have e2 := own_cell HO.out (j := k) (by rw [begTo_len]; omega); have hsk := HP.out.sum k (by omega); have hsp := HP.out.in' k hlt; have HE := Lib.hid (begTo_at pl k k (Nat.le_refl _)); have hw : IntKind.i64.wrap (gi (begTo pl k) k - gi pl k) = gi (begTo pl k) k - gi pl k := by rw [HE.out]; exact w64 _ (by omega) (by omega)
      have HT := Lib.hid (begTo_succ pl k); have HBL := Lib.hid (begTo_len pl k); obtain ⟨A, hA⟩ : ∃ A, gi (begTo pl k) k = A := ⟨_, rfl⟩; obtain ⟨P, hP⟩ : ∃ P, gi pl k = P := ⟨_, rfl⟩; have HMA := Lib.hid hA; rw [hA] at e2 hw HT; rw [hP] at e1 hw HT; clear hc hnx hsk hsp hA hP HE; go_wp2; have HSB := Lib.hid (cl2 e1 e2); refine held2 e1 e2 (fun W0 HB0 => ?_); refine tk 0 rfl (by exact HSB.out _ HB0) ?_; (try simp only [Act.put, ptL]); refine tk 1 rfl (by exact HSB.out _ HB0) ?_; (try simp only [Act.put, ptL]); refine tk 2 rfl (by exact HSB.out _ HB0) ?_; (try simp only [Act.put, ptL]); refine tk 3 rfl (by exact HSB.out _ HB0) ?_; (try simp only [Act.put, ptL]); refine tk 4 rfl (by exact HSB.out _ HB0) ?_; (try simp only [Act.put, ptL]); refine tk 5 rfl (by exact HSB.out _ HB0) ?_; (try simp only [Act.put, ptL]); refine tk 6 rfl (by exact HSB.out _ HB0) ?_; (try simp only [Act.put, ptL]); refine tk 7 rfl (by exact HSB.out _ HB0) ?_; (try simp only [Act.put, ptL]); refine tk 8 rfl (by exact HSB.out _ HB0) ?_; (try simp only [Act.put, ptL]); refine tk 9 rfl (by exact HSB.out _ HB0) ?_; (try simp only [Act.put, ptL])
      refine rz1 10 rfl ?_; intro K hK; go_simp; refine kz hK (by exact HSB.out _ (HB0.alloc HB0.size _)) ?_; clear hK K; (try simp only [Act.put, ptL]); have hO1 := (own_kept HO.out HB0).alloc (.cells #[.int .i64 (A - P)] 3); have hB1 := HB0.alloc HB0.size (.cells #[.int .i64 (A - P)] 3); refine rz1 11 rfl ?_; intro K hK; refine step_append_keep _ rfl _ _ 24 rfl w1.heap.size 3 i0 _ 1 8 Tryz.underlying24 hi0 hz0 hz1 hz2 rfl (by decide) g (k + 1) cap _ rfl hO1 ⟨W0.heap.size, 0, none⟩ 1 1 [.int .i64 (A - P)] rfl rfl (news_of W0 _ _) (by intro u hu; simp at hu; subst hu; rfl) (by unfold maxLen; omega) (by omega) (by have := HN.out.size; have := hB1.size; omega) ?_; intro v' w3 hown' hgrow hkeep; have hB3 := (HN.out.trans (hB1.mono HN.out.size)).grown hgrow (by have := HN.out.size; have := hB1.size; omega) (fun j hj => (hO1.lt j hj).1); have f2 := hkeep k (.int .i64 A) (by rw [inV_get _ _ (by rw [HBL.out]; omega), HMA.out])
      have f1 := (hgrow.cell_far ⟨b, off + k, none⟩ (lt_of_cellq ((hB1.cell (lt_of_cellq e1)).trans e1)) (by have := HQB.out; have := HGB.out; simp; omega)).trans ((hB1.cell (lt_of_cellq e1)).trans e1); refine kz hK (by exact ⟨f1, f2⟩) ?_; clear hK K; (try simp only [Act.put, ptL]); obtain ⟨g', cap', rfl⟩ := own_form hown'; refine tk 12 rfl (by exact ⟨f1, f2⟩) ?_; (try simp only [Act.put, ptL]); refine wpAnyH_done (by kernel_rfl) ?_ _; have HO' := Lib.hid hown'; have HN' := Lib.hid hB3; clear hown' hgrow hkeep f1 f2 hO1 hB1 hB3 HB0 HSB e1 e2; go_wp2; go_roundw
      case rel =>
        refine ⟨k + 1, by omega, by go_num, ⟨g', cap', rfl, Lib.hid ?_⟩, HN'.out⟩; rw [HT.out, inV_append]; exact HO'.out
      case measure => simp [intOf]; omega
    · obtain rfl : k = pl.length := by omega
      obtain ⟨wn, rfl⟩ : ∃ wn : World, wn = wr := ⟨_, rfl⟩; obtain ⟨w3, e3, HS3, _, _, b3⟩ := box1 wn (.slice (some ⟨g, 0, none⟩) (pl.length + 1) cap) 24; have hrow3 := World.ownsRow_lit (base := w1.heap.size) (e := 24) (size := 1) wn #[.slice (some ⟨g, 0, none⟩) (pl.length + 1) cap] 1 hnx.size (by unfold maxLen; omega) (by simp); rw [e3] at hrow3; have ho3 := own_kept HO.out b3; rw [begTo_all] at ho3; have HOW := Lib.hid (show w3.ownsRow w1.heap.size 24 1 (.slice (some ⟨wn.heap.size, 0, none⟩) (0 + 1) 1) (0 + 1) [.slice (some ⟨g, 0, none⟩) (pl.length + 1) cap] from hrow3)
      have HEL := Lib.hid (show ElC w3 w1.heap.size (allF pl p.mv 0) [.slice (some ⟨g, 0, none⟩) (pl.length + 1) cap] by
        rw [allF_zero]; refine ⟨rfl, fun i hi => ?_⟩; obtain rfl : i = 0 := by simp at hi; exact hi
        have e : (gl [begF pl] 0).length = pl.length + 1 := begF_len pl; rw [e]; exact ⟨g, cap, rfl, ho3⟩)
      have HR0 := Lib.hid (show RdI w3 (some ⟨g, 0, none⟩) (runF pl p.mv 0) from rd_of_own0 ho3); have HB3 := Lib.hid (show Below w1.heap.size w1 w3 from hnx.trans (b3.mono hnx.size)); clear hnx hlt b3 hrow3 ho3 HO HO0; go_wp2; clear e3
      go_loopw [5, 7, 8] (fun v o i wr => ∃ (k g1 c1 g cap : Nat) (hs : List Value), k ≤ p.mv.length ∧ i = .int .i64 k ∧ v = .slice (some ⟨g1, 0, none⟩) (pl.length + 1) c1 ∧ Hid (RdI wr (some ⟨g1, 0, none⟩) (runF pl p.mv k)) ∧ o = .slice (some ⟨g, 0, none⟩) (k + 1) cap ∧ Hid (wr.ownsRow w1.heap.size 24 1 (.slice (some ⟨g, 0, none⟩) (k + 1) cap) (k + 1) hs) ∧ Hid (ElC wr w1.heap.size (allF pl p.mv k) hs) ∧ Hid (Below w1.heap.size w1 wr)) (fun _ _ i _ => p.mv.length - (intOf i).toNat)
      case atStart => exact ⟨0, g, cap, wn.heap.size, 1, [.slice (some ⟨g, 0, none⟩) (pl.length + 1) cap], by omega, rfl, rfl, HR0, rfl, HOW, HEL, HB3⟩
      case round =>
        obtain ⟨k, g1, c1, g, cap, hs, hk, rfl, rfl, HRN, rfl, HO, HE, HN⟩ := hrel; have k1 := (HN.out.cell (lt_of_cellq K1.out)).trans K1.out
        by_cases hlt : k < p.mv.length
        · have hki : (k : Int) < (p.mv.length : Int) := by omega
          obtain ⟨b, off, rfl, hc⟩ := (HV.out.below HN.out).at hlt; have e1 := hc k hlt; have hm := HPO.out.move k hlt; have hch := runF_chain HPL.out.pos p.mv k
          have HCL := Lib.hid (r_Moved (some ⟨g1, 0, none⟩) c1 (pl.length + 1) (runF pl p.mv k) q cq pl (gi p.mv k) wr HRN.out hch.len (HQ.out.below HN.out) HP.out hch (fun i hi => by
            have := place_range HPO.out HPL.out k i (by omega) (by have := hch.len; omega); omega) (by omega))
          have hm8 := (piece_len HPO.out).2.1; clear hc hm hch; go_wp2_with fail; refine HCL.out.mono ?_; rintro e w4 ⟨g2, c2, he, ho4, b4⟩; rw [mvF_len] at he ho4; subst he; have HO4 := Lib.hid (own_kept HO.out b4); have HE4 := Lib.hid (HE.out.below b4); have HX4 := Lib.hid (own_mono ho4 HN.out.size); have HN4 := Lib.hid (HN.out.trans (b4.mono HN.out.size)); clear ho4 b4; go_wp2_with (at_builtin; refine wpList_append_own _ rfl _ _ 51 rfl w1.heap.size 24 j0 _ 1 24 Tryz.underlying51 hj0 hy0 hy1 hy2 rfl (by decide) _ _ _ rfl (HO4.out.alloc _) ⟨w4.heap.size, 0, none⟩ 1 1 [.slice (some ⟨g2, 0, none⟩) (pl.length + 1) c2] rfl rfl ?c1 ?c2 ?c3 ?c4 ?c5 ?_)
          case c1 => exact news_of _ _ _
          case c2 => intro u hu; simp at hu; subst hu; rfl
          case c3 => unfold maxLen; omega
          case c4 => omega
          case c5 => have := HN4.out.size; simp; omega
          intro v' w7 hown' hgrow _; obtain ⟨g', cap', rfl⟩ := own_form hown'; have HO7 := Lib.hid hown'; have HN7 := Lib.hid ((HN4.out.alloc HN4.out.size _).grown hgrow (by have := HN4.out.size; simp; omega) (fun j hj => (HO4.out.lt j hj).1)); have h3 := own_kept HX4.out (below_alloc1 w4 (.cells #[.slice (some ⟨g2, 0, none⟩) (pl.length + 1) c2] 24)); have h2 := h3.kept hgrow (own_apart h3 (HO4.out.alloc _) (by decide)); have HR7 := Lib.hid (show RdI w7 (some ⟨g2, 0, none⟩) (runF pl p.mv (k + 1)) from rd_of_own0 h2)
          have HE7 := Lib.hid (show ElC w7 w1.heap.size (allF pl p.mv (k + 1)) (hs ++ [.slice (some ⟨g2, 0, none⟩) (pl.length + 1) c2]) by
            have h1 := (HE4.out.below (below_alloc1 w4 (.cells #[.slice (some ⟨g2, 0, none⟩) (pl.length + 1) c2] 24))).grown (HO4.out.alloc _) (by decide) hgrow; have hl : (runF pl p.mv (k + 1)).length = pl.length + 1 := mvF_len _ _ _; rw [allF_succ, ← hl]; refine h1.snoc ?_; rw [hl]; exact h2)
          clear hown' hgrow h2 h3; go_wp2; go_roundw
          case rel => exact ⟨k + 1, g2, c2, g', cap', _, by omega, by go_num, rfl, HR7, rfl, HO7, HE7, HN7⟩
          case measure => simp [intOf]; omega
        · obtain rfl : k = p.mv.length := by omega
          have hki : ¬ (p.mv.length : Int) < (p.mv.length : Int) := by omega
          go_wp2; go_ret; refine ⟨⟨_, rfl, hs, ?_, ?_⟩, HB1.out.trans (HN.out.mono HB1.out.size)⟩
          · rw [allF_len]; exact own_mono HO.out HB1.out.size
          · refine ⟨HE.out.1, fun i hi => ?_⟩
            obtain ⟨u, c, h1, h2⟩ := HE.out.2 i hi; exact ⟨_, h1, own_mono h2 HB1.out.size⟩
end Go.Proofs.YtbknfddaoolagaaGreatDoor
end

section
namespace Go.Proofs.YtbknfddaoolagaaGreatDoor
open Go Go.RowKit Go.Proofs
set_option linter.unusedVariables false
set_option linter.unusedSimpArgs false
attribute [local go_sem] imax2 imin2

theorem fits_no {p : Pc} {pl : List Int} (h : withinB p pl = false) : fitsB p pl = false := by unfold fitsB; rw [h]; rfl
set_option maxHeartbeats 1600000 in
set_option maxRecDepth 100000 in
theorem r_Fits (pm pv pr : Option Addr) (cm cv cr : Nat) (p : Pc) (q : Option Addr) (cq : Nat) (pl : List Int) (w : World) (hp : RdP w pm pv pr p) (hq : RdI w q pl) (hpo : PieceOk p) (hpl : PlaysOk p pl) :
    Calls Tryz.prog 103 #[.agg #[.slice pm p.ms.length cm, .slice pv p.mv.length cv, .slice pr p.rs.length cr], .slice q pl.length cq] w fun e w' => e = .returned (.bool (fitsB p pl)) ∧ Below w.heap.size w w' := by
  obtain ⟨w1, e1, HS1, k0, k1, k2, b1⟩ := box3 w (.slice pm p.ms.length cm) (.slice pv p.mv.length cv) (.slice pr p.rs.length cr) 27; have HP := Lib.hid (hp.below b1); have HQ := Lib.hid (hq.below b1); have HB := Lib.hid b1; have HPO := Lib.hid hpo; have HPL := Lib.hid hpl; have HLN := Lib.hid (piece_len hpo); have HPN := Lib.hid hpl.len; have hrl6 : p.rs.length ≤ 1000 := by have := (piece_len hpo).2.2; omega
  clear hp hq b1 hpo hpl
  go_enter Tryz.func103, Tryz.ntmps103
  go_wp2_with fail; refine (r_Within pm pv pr cm cv cr p q cq pl _ HP.out.ms HQ.out (by rw [HPN.out]; exact Nat.le_refl _) (by have := HLN.out.1; omega)).mono ?_; clear e1
  rcases hw : withinB p pl with _ | _
  · have H := Lib.hid (fits_no hw)
    clear hw; rintro e wn ⟨rfl, bq⟩; have HBB := Lib.hid (HB.out.trans (bq.mono HB.out.size)); clear bq; go_wp2; go_ret; exact ⟨by rw [H.out]; rfl, HBB.out⟩
  have HW := Lib.hid hw; clear hw; rintro e wn ⟨rfl, bq⟩; replace HB := Lib.hid (HB.out.trans (bq.mono HB.out.size)); replace HP := Lib.hid (HP.out.below bq); replace HQ := Lib.hid (HQ.out.below bq); have k0 := (bq.cell (lt_of_cellq k0)).trans k0; have k1 := (bq.cell (lt_of_cellq k1)).trans k1; have k2 := (bq.cell (lt_of_cellq k2)).trans k2; clear bq; go_wp2_with fail; refine (r_Run pm pv pr cm cv cr p q cq pl _ HP.out HQ.out HPO.out HPL.out).mono ?_; rintro e w2 ⟨⟨v, rfl, ho⟩, bq⟩; obtain ⟨lq, lc, rfl, hls⟩ := ho.read; have HL := Lib.hid hls; rw [allF_len]; have k2 := (bq.cell (lt_of_cellq k2)).trans k2; have HR := Lib.hid (HP.out.rs.below bq); have HB2 := Lib.hid (HB.out.trans (bq.mono HB.out.size)); clear ho hls bq HP HQ k0 k1; go_wp2
  go_loopw [6] (fun v wr => ∃ k : Nat, k ≤ p.rs.length ∧ v = .int .i64 k ∧ Hid (∀ j, j < k → agreeB pl p.mv (gr p.rs j) = true) ∧ Hid (Below w2.heap.size w2 wr)) (fun v _ => p.rs.length - (intOf v).toNat)
  case atStart => exact ⟨0, Nat.zero_le _, rfl, Lib.hid (by intro j hj; omega), Lib.hid (Below.refl _ _)⟩
  case round =>
    obtain ⟨k, hk, rfl, HH, HN⟩ := hrel; have k2 := (HN.out.cell (lt_of_cellq k2)).trans k2
    by_cases hlt : k < p.rs.length
    · have hki : (k : Int) < (p.rs.length : Int) := by omega
      obtain ⟨b, off, rfl, hc⟩ := (HR.out.below HN.out).at hlt; obtain ⟨a0, a1, a2, a3⟩ := hc k hlt; obtain ⟨⟨ha1, ha2⟩, ⟨hb1, hb2⟩, ⟨hs1, hs2⟩, ho1, ho2⟩ := HPO.out.read k hlt; have HAG := Lib.hid (show agreeB pl p.mv (gr p.rs k) = inB (gi (runF pl p.mv (gr p.rs k).aft.toNat) (gr p.rs k).arb.toNat) ((gr p.rs k).seen - (gr p.rs k).off) ((gr p.rs k).seen + (gr p.rs k).off) from rfl)
      have HNO := Lib.hid (show agreeB pl p.mv (gr p.rs k) = false → fitsB p pl = false from fun h => by
        unfold fitsB; rw [HW.out, all_bad (f := agreeB pl p.mv) (d := rd0) (l := p.rs) hlt h]; rfl)
      obtain ⟨a, ha⟩ : ∃ a : Nat, (gr p.rs k).aft = (a : Int) := ⟨(gr p.rs k).aft.toNat, by omega⟩; obtain ⟨c, hcc⟩ : ∃ c : Nat, (gr p.rs k).arb = (c : Int) := ⟨(gr p.rs k).arb.toNat, by omega⟩; have HG := Lib.hid (show agreeB pl p.mv (gr p.rs k) = agreeB pl p.mv (gr p.rs k) from rfl); obtain ⟨S, hS⟩ : ∃ S, (gr p.rs k).seen = S := ⟨_, rfl⟩; obtain ⟨O, hO⟩ : ∃ O, (gr p.rs k).off = O := ⟨_, rfl⟩; obtain ⟨A, hA⟩ : ∃ A, agreeB pl p.mv (gr p.rs k) = A := ⟨_, rfl⟩; rw [hA] at HNO HAG HG; rw [hS] at a2 hs1 hs2 HAG; rw [hO] at a3 ho1 ho2 HAG; rw [ha] at a0 ha2 HAG; rw [hcc] at a1 hb2 HAG; rw [Int.toNat_natCast, Int.toNat_natCast] at HAG; have hpn := HPN.out; obtain ⟨bl, ol, rfl, hcl⟩ := (HL.out.below HN.out).at (i := a) (by rw [allF_len]; omega); obtain ⟨qa, ca, r0, hra⟩ := hcl a (by rw [allF_len]; omega); rw [allF_at _ _ _ _ (by omega)] at r0 hra; have hrl := (runF_chain HPL.out.pos p.mv a).len
      rw [hrl] at r0; obtain ⟨b1, o1, rfl, hc1⟩ := hra.at (i := c) (by rw [hrl]; omega); have r1 := hc1 c (by rw [hrl]; omega); obtain ⟨w4, e4, HS4, y0, y1, y2, y3, b4⟩ := box4 wr (.int .i64 (a : Int)) (.int .i64 (c : Int)) (.int .i64 S) (.int .i64 O) 87; have r0 := (b4.cell (lt_of_cellq r0)).trans r0; have r1 := (b4.cell (lt_of_cellq r1)).trans r1; have HN4 := Lib.hid (HN.out.trans (b4.mono HN.out.size)); have hw1 : IntKind.i64.wrap (S - O) = S - O := w64 _ (by omega) (by omega); have hw2 : IntKind.i64.wrap (S + O) = S + O := w64 _ (by omega) (by omega); have hai : (a : Int) < (p.mv.length : Int) + 1 := by omega
      have hci : (c : Int) < (pl.length : Int) + 1 := by omega
      clear hpn
      have HC := Lib.hid (fun W => show Calls Tryz.prog 45 #[.int .i64 (gi (runF pl p.mv a) c), .int .i64 (S - O), .int .i64 (S + O)] W fun e w' => e = .returned (.bool A) ∧ Below W.heap.size W w' by
        rw [HAG.out]; exact (r_in _ _ _ W).mono fun e w' h => ⟨h.1, h.2 ▸ Below.refl _ _⟩)
      have HST := Lib.hid (show A = true → ∀ j, j < k + 1 → agreeB pl p.mv (gr p.rs j) = true from fun h j hj => by
        rcases Nat.lt_or_ge j k with h' | h'
        · exact HH.out j h'
        · obtain rfl : j = k := by omega
          rw [hA]; exact h)
      clear hc hcl hra hc1 hrl b4 ha hcc hS hO hA; go_upto_region 8 with (fail); clear e4 a0 a1 a2 a3
      cases A with
      | false =>
        refine wp_region_quiet_below (by kernel_rfl) (by kernel_rfl) ?_; (repeat (first | ((with_reducible first | apply wq_fg faP0 | apply wq_fg faP1 | apply wq_fg faP2 | apply wq_fg faM0 | apply wq_fg faS0 | apply wq_fg faS1 | apply wq_fg faR0 | apply wq_fg faR1 | apply wq_fg faR2 | apply wq_fg faR3 | apply wq_fg faT0 | apply wq_fg faT1 | apply wq_fg faQ0 | apply wq_fg faQ1 | apply wq_fg faH0 | apply wq_fg faH1 | apply wq_fg faH2 | apply wq_fg faH3); (focus rfl); (focus rfl); go_frame) | ((with_reducible apply wq_not); (focus rfl); (focus rfl); go_frame) | ((with_reducible first | apply wq_ix Tryz.underlying24 szI | apply wq_ix Tryz.underlying38 szSp | apply wq_ix Tryz.underlying23 szM | apply wq_ix Tryz.underlying25 szR | apply wq_ix Tryz.underlying51 szL | apply wq_ix Tryz.underlying91 szT); (focus rfl); (focus rfl); (focus rfl); (focus omega); (try simp only [Nat.mul_one]); go_frame) | ((with_reducible first | apply wq_ld agI | apply wq_ld agB | apply wq_ld agLI | apply wq_ld agLS | apply wq_ld agLM | apply wq_ld agLR | apply wq_ld agLL | apply wq_ld agLT); (focus rfl); (focus rfl); (focus (intro _ hbq; first | exact (hbq.cell (lt_of_cellq y0)).trans y0 | exact (hbq.cell (lt_of_cellq y1)).trans y1 | exact (hbq.cell (lt_of_cellq y2)).trans y2 | exact (hbq.cell (lt_of_cellq y3)).trans y3 | exact (hbq.cell (lt_of_cellq r0)).trans r0 | exact (hbq.cell (lt_of_cellq r1)).trans r1)); go_frame) | ((with_reducible first | apply wq_add | apply wq_sub | apply wq_mul | apply wq_rem); (focus rfl); (focus rfl); (focus rfl); (focus omega); (focus omega); go_frame) | ((with_reducible first | apply wq_eql | apply wq_neq | apply wq_lss | apply wq_leq | apply wq_gtr | apply wq_geq | apply wq_max2 | apply wq_min2); (focus rfl); (focus rfl); (focus rfl); go_frame) | ((with_reducible first | apply wq_max3 | apply wq_min3); (focus rfl); (focus rfl); (focus rfl); (focus rfl); go_frame) | go_big_quiet_step ((intro hbq; exact calls_below hbq (HC.out _))))); refine wpQuiet_nil ?_; intro wq hbq
        have HN5 := Lib.hid (HN4.out.trans (hbq.mono HN4.out.size)); clear hbq y0 y1 y2 y3 r0 r1; go_wp2; go_ret; exact ⟨by rw [HNO.out trivial]; rfl, HB2.out.trans (HN5.out.mono HB2.out.size)⟩
      | true =>
        refine wp_region_quiet_below (by kernel_rfl) (by kernel_rfl) ?_; (repeat (first | ((with_reducible first | apply wq_fg faP0 | apply wq_fg faP1 | apply wq_fg faP2 | apply wq_fg faM0 | apply wq_fg faS0 | apply wq_fg faS1 | apply wq_fg faR0 | apply wq_fg faR1 | apply wq_fg faR2 | apply wq_fg faR3 | apply wq_fg faT0 | apply wq_fg faT1 | apply wq_fg faQ0 | apply wq_fg faQ1 | apply wq_fg faH0 | apply wq_fg faH1 | apply wq_fg faH2 | apply wq_fg faH3); (focus rfl); (focus rfl); go_frame) | ((with_reducible apply wq_not); (focus rfl); (focus rfl); go_frame) | ((with_reducible first | apply wq_ix Tryz.underlying24 szI | apply wq_ix Tryz.underlying38 szSp | apply wq_ix Tryz.underlying23 szM | apply wq_ix Tryz.underlying25 szR | apply wq_ix Tryz.underlying51 szL | apply wq_ix Tryz.underlying91 szT); (focus rfl); (focus rfl); (focus rfl); (focus omega); (try simp only [Nat.mul_one]); go_frame) | ((with_reducible first | apply wq_ld agI | apply wq_ld agB | apply wq_ld agLI | apply wq_ld agLS | apply wq_ld agLM | apply wq_ld agLR | apply wq_ld agLL | apply wq_ld agLT); (focus rfl); (focus rfl); (focus (intro _ hbq; first | exact (hbq.cell (lt_of_cellq y0)).trans y0 | exact (hbq.cell (lt_of_cellq y1)).trans y1 | exact (hbq.cell (lt_of_cellq y2)).trans y2 | exact (hbq.cell (lt_of_cellq y3)).trans y3 | exact (hbq.cell (lt_of_cellq r0)).trans r0 | exact (hbq.cell (lt_of_cellq r1)).trans r1)); go_frame) | ((with_reducible first | apply wq_add | apply wq_sub | apply wq_mul | apply wq_rem); (focus rfl); (focus rfl); (focus rfl); (focus omega); (focus omega); go_frame) | ((with_reducible first | apply wq_eql | apply wq_neq | apply wq_lss | apply wq_leq | apply wq_gtr | apply wq_geq | apply wq_max2 | apply wq_min2); (focus rfl); (focus rfl); (focus rfl); go_frame) | ((with_reducible first | apply wq_max3 | apply wq_min3); (focus rfl); (focus rfl); (focus rfl); (focus rfl); go_frame) | go_big_quiet_step ((intro hbq; exact calls_below hbq (HC.out _))))); refine wpQuiet_nil ?_; intro wq hbq
        have HN5 := Lib.hid (HN4.out.trans (hbq.mono HN4.out.size)); clear hbq y0 y1 y2 y3 r0 r1; go_wp2; go_roundw
        case rel => exact ⟨k + 1, by omega, by go_num, Lib.hid (HST.out rfl), HN5⟩
        case measure => simp [intOf]; omega
    · obtain rfl : k = p.rs.length := by omega
      have hki : ¬ (p.rs.length : Int) < (p.rs.length : Int) := by omega
      have H := Lib.hid (show fitsB p pl = true by
        unfold fitsB; rw [HW.out, all_ok (f := agreeB pl p.mv) (d := rd0) (l := p.rs) HH.out]; rfl)
      go_wp2; go_ret; exact ⟨by rw [H.out]; rfl, HB2.out.trans (HN.out.mono HB2.out.size)⟩
end Go.Proofs.YtbknfddaoolagaaGreatDoor
end

section
namespace Go.Proofs.YtbknfddaoolagaaGreatDoor
open Go Go.RowKit Go.Proofs
set_option linter.unusedVariables false
set_option linter.unusedSimpArgs false
attribute [local go_sem] imax2 imin2

def RdlPost (ls : List (List Int)) (w : World) (e : Ending) (w' : World) : Prop := ∃ q c, e = .returned (.slice q ls.length c) ∧ RdLs w' q ls ∧ Below w.heap.size w w'
def ElR (w : World) (css : List (List Int)) (hs : List Value) : Prop := hs.length = css.length ∧ ∀ i, i < css.length → ∃ q c, hs[i]? = some (.slice q (gl css i).length c) ∧ RdI w q (gl css i)
theorem ElR.snoc {w : World} {css : List (List Int)} {hs : List Value} {x : List Int} {q : Option Addr} {c : Nat} (h : ElR w css hs) (hx : RdI w q x) : ElR w (css ++ [x]) (hs ++ [.slice q x.length c]) := by
  refine ⟨by simp [h.1], fun i hi => ?_⟩; rw [List.length_append, List.length_singleton] at hi; rw [gl_snoc]
  by_cases h1 : i < css.length
  · obtain ⟨q', c', e1, e2⟩ := h.2 i h1
    rw [if_pos h1]; exact ⟨q', c', by rw [List.getElem?_append_left (by rw [h.1]; omega)]; exact e1, e2⟩
  · obtain rfl : i = css.length := by omega
    rw [if_neg h1, if_pos rfl]; exact ⟨q, c, by rw [← h.1]; simp, hx⟩
theorem ElR.read {w w' : World} {B : Nat} {v : Value} {css : List (List Int)} {hs : List Value} (h : ElR w css hs) (ho : w'.ownsRow B 24 1 v css.length hs) (hb : Below w.heap.size w w') : ∃ q c, v = .slice q css.length c ∧ RdLs w' q css := by
  rcases ho.2 with ⟨rfl, h0⟩ | ⟨g, cap, cur, rfl, hrest⟩
  · have : css = [] := List.length_eq_zero_iff.1 h0
    subst this; exact ⟨none, 0, rfl, .inl rfl⟩
  · refine ⟨some ⟨g, 0, none⟩, cap, rfl, .inr ⟨g, 0, rfl, fun i hi => ?_⟩⟩
    obtain ⟨q, c, e1, e2⟩ := h.2 i hi; have h3 := ho.cells (g := g) rfl i _ e1; rw [add_new] at h3; exact ⟨q, c, by rw [Nat.zero_add]; exact h3, e2.below hb⟩
theorem bcells3 {w w' : World} {b : Nat} {v0 v1 v2 : Value} (h0 : w.cell? ⟨b, 0, none⟩ = some v0) (h1 : w.cell? ⟨b, 1, none⟩ = some v1) (h2 : w.cell? ⟨b, 2, none⟩ = some v2) (hb : Below w.heap.size w w') :
    ∀ j v, [v0, v1, v2][j]? = some v → w'.cell? ((⟨b, 0, none⟩ : Addr).add j) = some v := by
  intro j v hj; rw [add_new]
  match j, hj with
  | 0, hj => simp at hj; subst hj; exact (hb.cell (lt_of_cellq h0)).trans h0
  | 1, hj => simp at hj; subst hj; exact (hb.cell (lt_of_cellq h1)).trans h1
  | 2, hj => simp at hj; subst hj; exact (hb.cell (lt_of_cellq h2)).trans h2
theorem inV_cell1 (xs : List Int) : ∀ u ∈ inV xs, u.oneCell' = true := by intro u hu; simp [inV] at hu; obtain ⟨x, _, rfl⟩ := hu; rfl
theorem news_rd {w : World} {q : Option Addr} {xs : List Int} (h : RdI w q xs) : xs.length = 0 ∨ ∃ ad, q = some ad ∧ ∀ i u, (inV xs)[i]? = some u → w.cell? (ad.add i) = some u := by
  rcases h with rfl | ⟨b, off, rfl, hc⟩
  · exact .inl rfl
  · refine .inr ⟨_, rfl, fun i u hu => ?_⟩
    have hi : i < xs.length := by have := (List.getElem?_eq_some_iff.1 hu).1; rw [inV_length] at this; exact this
    rw [inV_get _ i hi] at hu
    cases hu
    have : (⟨b, off, none⟩ : Addr).add i = ⟨b, off + i, none⟩ := by unfold Addr.add; split <;> simp_all
    rw [this]; exact hc i hi
theorem take_len_le (ms : List (Int × Int)) (k : Nat) (h4 : ms.length ≤ 4) (h : ∀ i, i < ms.length → (gm ms i).2 - (gm ms i).1 ≤ 4) : (prodF (ms.take k)).length ≤ 625 := by
  have h1 := prodF_count (ms.take k) (fun i hi => by
    rw [List.length_take] at hi; have e : gm (ms.take k) i = gm ms i := by unfold gm; rw [List.getD_eq_getElem?_getD, List.getD_eq_getElem?_getD, List.getElem?_take, if_pos (by omega)]
    rw [e]; exact h i (by omega))
  have h2 : (5 : Nat) ^ (ms.take k).length ≤ 5 ^ 4 := Nat.pow_le_pow_right (by omega) (by rw [List.length_take]; omega); omega
theorem next_len (m : Int × Int) (hm : m.2 - m.1 ≤ 4) (A : List (List Int)) : ∀ k, k ≤ A.length → (nextTo m A k).length ≤ 5 * k := by
  intro k
  induction k with
  | zero => intro _; simp [nextTo]
  | succ k ih =>
    intro hk; rw [nextTo_succ _ _ _ (by omega), List.length_append, List.length_map, rng_len]; have := ih (by omega); omega
theorem rowTo_len (a : List Int) (lo : Int) (j : Nat) : (rowTo a lo j).length = j := by simp [rowTo]
set_option maxHeartbeats 3200000 in
set_option maxRecDepth 100000 in
theorem r_Truths (pm pv pr : Option Addr) (cm cv cr : Nat) (p : Pc) (w : World) (hp : RdP w pm pv pr p) (hpo : PieceOk p) :
    Calls Tryz.prog 56 #[.agg #[.slice pm p.ms.length cm, .slice pv p.mv.length cv, .slice pr p.rs.length cr]] w (RdlPost (truthsF p) w) := by
  obtain ⟨i0, hi0, hz0, hz1, hz2⟩ := info_parts infI; obtain ⟨j0, hj0, hy0, hy1, hy2⟩ := info_parts infL; obtain ⟨w1, e1, HS1, k0, k1, k2, b1⟩ := box3 w (.slice pm p.ms.length cm) (.slice pv p.mv.length cv) (.slice pr p.rs.length cr) 27; obtain ⟨w2, e2, HS2, c0, _, b2⟩ := box1 w1 (.slice none 0 0) 24; have HB := Lib.hid b1; have HP := Lib.hid (hp.below b1); have HPO := Lib.hid hpo; have HK := Lib.hid (And.intro k0 (And.intro k1 k2)); have HB2 := Lib.hid b2
  have HR0 := Lib.hid (show RdLs w2 (some ⟨w1.heap.size, 0, none⟩) [[]] from .inr ⟨w1.heap.size, 0, rfl, fun i hi => by
    obtain rfl : i = 0 := by simp at hi; exact hi
    exact ⟨none, 0, c0, .inl rfl⟩⟩)
  have hn4 := hpo.n4; clear hp hpo b1 b2 c0 k0 k1 k2
  go_enter Tryz.func56, Tryz.ntmps56
  go_wp2; clear e1 e2
  go_loopw [3, 4] (fun v i wr => ∃ (k : Nat) (q : Option Addr) (c : Nat), k ≤ p.ms.length ∧ i = .int .i64 k ∧ v = .slice q (prodF (p.ms.take k)).length c ∧ Hid (RdLs wr q (prodF (p.ms.take k))) ∧ Hid (Below w1.heap.size w1 wr)) (fun _ i _ => p.ms.length - (intOf i).toNat)
  case atStart => exact ⟨0, some ⟨w1.heap.size, 0, none⟩, 1, Nat.zero_le _, rfl, by rw [List.take_zero]; rfl, by rw [List.take_zero]; exact HR0, HB2⟩
  case round =>
    obtain ⟨k, q, c, hk, rfl, rfl, HR, HN⟩ := hrel; have q0 := (HN.out.cell (lt_of_cellq HK.out.1)).trans HK.out.1
    by_cases hlt : k < p.ms.length
    · have hki : (k : Int) < (p.ms.length : Int) := by omega
      obtain ⟨b, off, rfl, hc⟩ := (HP.out.ms.below HN.out).at hlt; obtain ⟨m0, m1⟩ := hc k hlt; obtain ⟨hm1, hm2, hm3, hm4⟩ := HPO.out.mesh k hlt; have HAL := Lib.hid (take_len_le p.ms k hn4 (fun i hi => (HPO.out.mesh i hi).2.2.2)); have HAK := Lib.hid (prodF_lens p.ms k (by omega)); have HNX := Lib.hid (nextTo_prod p.ms k hlt); have HNL := Lib.hid (next_len (gm p.ms k) hm4 (prodF (p.ms.take k))); obtain ⟨A, hA⟩ : ∃ A, prodF (p.ms.take k) = A := ⟨_, rfl⟩; obtain ⟨M, hM⟩ : ∃ M, gm p.ms k = M := ⟨_, rfl⟩; rw [hA] at HAL HAK HNX HNL HR ⊢; rw [hM] at HNX HNL m0 m1 hm1 hm2 hm3 hm4; have hal := HAL.out; clear hA hM hc; obtain ⟨wn, rfl⟩ : ∃ wn : World, wn = wr := ⟨_, rfl⟩; go_wp2
      go_loopw [5, 6] (fun v i wr => ∃ j : Nat, j ≤ A.length ∧ i = .int .i64 j ∧ Hid (OwLs wr wn.heap.size v (nextTo M A j)) ∧ Hid (Below wn.heap.size wn wr)) (fun _ i _ => A.length - (intOf i).toNat)
      case atStart => exact ⟨0, Nat.zero_le _, rfl, Lib.hid (by rw [nextTo_zero]; exact OwLs.nil _ _), Lib.hid (Below.refl _ _)⟩
      case round =>
        obtain ⟨j, hj, rfl, HO, HM⟩ := hrel
        by_cases hlt2 : j < A.length
        · have hji : (j : Int) < (A.length : Int) := by omega
          obtain ⟨bA, oA, rfl, hcA⟩ := HR.out.at hlt2; obtain ⟨qj, cj, s0, sr⟩ := hcA j hlt2; rw [HAK.out j hlt2] at s0; have q1 := (HM.out.cell (lt_of_cellq q0)).trans q0; have m2 := (HM.out.cell (lt_of_cellq m0)).trans m0; have m3 := (HM.out.cell (lt_of_cellq m1)).trans m1; have HSR := Lib.hid sr; have hnl := HNL.out j hj; obtain ⟨N, hN⟩ : ∃ N, nextTo M A j = N := ⟨_, rfl⟩; have HNS := Lib.hid (show nextTo M A (j + 1) = N ++ (rng M.1 M.2).map fun n => gl A j ++ [n] by rw [nextTo_succ _ _ _ hlt2, hN]); rw [hN] at HO hnl; have HKK := Lib.hid (HAK.out j hlt2); obtain ⟨a, ha⟩ : ∃ a, gl A j = a := ⟨_, rfl⟩; obtain ⟨lo, hlo⟩ : ∃ lo, M.1 = lo := ⟨_, rfl⟩; obtain ⟨hi, hhi⟩ : ∃ hi, M.2 = hi := ⟨_, rfl⟩; rw [ha] at HNS HKK HSR; rw [hlo] at HNS m0 m2 hm1 hm2 hm4; rw [hhi] at HNS m1 m3 hm2 hm3 hm4; clear hN ha hlo hhi hcA sr; obtain ⟨wm, rfl⟩ : ∃ wm : World, wm = wr := ⟨_, rfl⟩; go_wp2
          go_loopw [5, 7] (fun v i wr => ∃ x : Nat, (x : Int) ≤ hi - lo + 1 ∧ i = .int .i64 (lo + (x : Int)) ∧ Hid (OwLs wr wn.heap.size v (N ++ rowTo a lo x)) ∧ Hid (Below wn.heap.size wn wr)) (fun _ i _ => (hi + 1 - intOf i).toNat)
          case atStart => exact ⟨0, by omega, by simp, by rw [rowTo_zero, List.append_nil]; exact HO, HM⟩
          case round =>
            obtain ⟨x, hx, rfl, HOX, HX⟩ := hrel; have s1 := (HX.out.cell (lt_of_cellq s0)).trans s0; have q2 := (HX.out.cell (lt_of_cellq q0)).trans q0; have m4 := (HX.out.cell (lt_of_cellq m0)).trans m0; have m5 := (HX.out.cell (lt_of_cellq m1)).trans m1
            by_cases hlt3 : lo + (x : Int) ≤ hi
            · obtain ⟨hs, ho, he⟩ := HOX.out
              have HO1 := Lib.hid ho; have HE1 := Lib.hid he
              have HNW := Lib.hid (show k = 0 ∨ ∃ ad, qj = some ad ∧ ∀ i u, (inV a)[i]? = some u → wr.cell? (ad.add i) = some u by
                have h := news_rd (HSR.out.below HX.out); rw [HKK.out] at h; exact h)
              have hL : (N ++ rowTo a lo x).length ≤ 4000 := by rw [List.length_append, rowTo_len]; omega
              have hwx : IntKind.i64.wrap (lo + (x : Int) + 1) = lo + ((x + 1 : Nat) : Int) := by rw [w64 _ (by omega) (by omega)]; omega
              clear ho he; go_wp2_with (at_builtin; refine wpList_append_src _ rfl _ _ 24 rfl wr.heap.size 3 i0 _ 1 8 Tryz.underlying24 hi0 hz0 hz1 hz2 rfl (by decide) (.slice none 0 0) 0 [] rfl (World.ownsRow_nil _ _ _ _) qj k cj (inV a) rfl ?a1 ?a2 ?a3 ?a4 ?a5 ?a6 ?_)
              case a1 => rw [inV_length, HKK.out, Nat.mul_one]
              case a2 => exact HNW.out
              case a3 => exact inV_cell1 _
              case a4 => unfold maxLen; omega
              case a5 => omega
              case a6 => exact Nat.le_refl _
              intro v1 wa hown1 hgrow1 hat1; have HBA := Lib.hid (show Below wr.heap.size wr wa from (Below.refl _ _).grown hgrow1 (Nat.le_refl _) (fun j hj => by simp [Value.ownBlock] at hj)); have HW1 := Lib.hid hown1; clear hown1 hgrow1 hat1; go_wp2_with (at_builtin; refine wpList_append_own _ rfl _ _ 24 rfl wr.heap.size 3 i0 _ 1 8 Tryz.underlying24 hi0 hz0 hz1 hz2 rfl (by decide) _ _ _ rfl (HW1.out.alloc _) ⟨wa.heap.size, 0, none⟩ 1 1 [.int .i64 (lo + (x : Int))] rfl rfl ?b1 ?b2 ?b3 ?b4 ?b5 ?_)
              case b1 => exact news_of _ _ _
              case b2 => intro u hu; simp at hu; subst hu; rfl
              case b3 => unfold maxLen; omega
              case b4 => omega
              case b5 => have := HBA.out.size; simp; omega
              intro v2 wb hown2 hgrow2 _; obtain ⟨g2, c2, rfl⟩ := own_form hown2; have HBB := Lib.hid (show Below wr.heap.size wr wb from (HBA.out.alloc HBA.out.size _).grown hgrow2 (by have := HBA.out.size; simp; omega) (fun j hj => (HW1.out.lt j hj).1)); have HW2 := Lib.hid hown2; have HO2 := Lib.hid (own_kept HO1.out HBB.out); have HE2 := Lib.hid (HE1.out.below HBB.out); clear hown2 hgrow2; go_wp2_with (at_builtin; refine wpList_append_own _ rfl _ _ 51 rfl wn.heap.size 24 j0 _ 1 24 Tryz.underlying51 hj0 hy0 hy1 hy2 rfl (by decide) _ _ _ rfl (HO2.out.alloc _) ⟨wb.heap.size, 0, none⟩ 1 1 [.slice (some ⟨g2, 0, none⟩) (k + 1) c2] rfl rfl ?d1 ?d2 ?d3 ?d4 ?d5 ?_)
              case d1 => exact news_of _ _ _
              case d2 => intro u hu; simp at hu; subst hu; rfl
              case d3 => unfold maxLen; omega
              case d4 => omega
              case d5 => have := HX.out.size; have := HBB.out.size; simp; omega
              intro v3 w5 hown3 hgrow3 _; have hbw := HX.out.trans (HBB.out.mono HX.out.size); have HB5 := Lib.hid ((hbw.alloc hbw.size (.cells #[.slice (some ⟨g2, 0, none⟩) (k + 1) c2] 24)).grown hgrow3 (by have := hbw.size; simp; omega) (fun j hj => (HO2.out.lt j hj).1)); have ba := below_alloc1 wb (.cells #[.slice (some ⟨g2, 0, none⟩) (k + 1) c2] 24)
              have HOX' := Lib.hid (show OwLs w5 wn.heap.size v3 (N ++ rowTo a lo (x + 1)) by
                rw [rowTo_succ, ← List.append_assoc]; refine OwLs.app (own_kept HO2.out ba) (HE2.out.below ba) ?_ hgrow3 (by rw [List.length_append]; exact hown3); have h := own_mono (own_kept HW2.out ba) (B' := wn.heap.size) HX.out.size; have e : (a ++ [lo + (x : Int)]).length = k + 1 := by rw [List.length_append, HKK.out]; rfl
                rw [e, inV_append]; exact h)
              clear hown3 hgrow3 hbw ba; go_wp2; go_roundw
              case rel => exact ⟨x + 1, by omega, by go_num, HOX', HB5⟩
              case measure => simp [intOf]; omega
            · have HOX' := Lib.hid (show OwLs wr wn.heap.size _ ((N ++ (rng lo hi).map fun n => a ++ [n])) by
                rw [← rowTo_all a lo hi x (by omega)]; exact HOX.out)
              have hlt3' : decide (lo + (x : Int) ≤ hi) = false := decide_eq_false hlt3; have hwj : IntKind.i64.wrap ((j : Int) + 1) = (j : Int) + 1 := w64 _ (by omega) (by omega); clear hlt3; go_wp2; go_roundw
              case rel => exact ⟨j + 1, by omega, by go_num, by rw [HNS.out]; exact HOX', HX⟩
              case measure => simp [intOf]; omega
        · obtain rfl : j = A.length := by omega
          have hji : ¬ (A.length : Int) < (A.length : Int) := by omega
          obtain ⟨q', c', rfl, hr'⟩ := HO.out.read; have HR' := Lib.hid hr'; rw [HNX.out] at HR' ⊢; clear hr'; go_wp2; go_roundw
          case rel => exact ⟨k + 1, q', c', by omega, by go_num, rfl, HR', Lib.hid (HN.out.trans (HM.out.mono HN.out.size))⟩
          case measure => simp [intOf]; omega
    · obtain rfl : k = p.ms.length := by omega
      have hki : ¬ (p.ms.length : Int) < (p.ms.length : Int) := by omega
      rw [List.take_length] at HR ⊢
      have HAL := Lib.hid (show (prodF p.ms).length ≤ 625 by
        have h := take_len_le p.ms p.ms.length hn4 (fun i hi => (HPO.out.mesh i hi).2.2.2); rw [List.take_length] at h; exact h)
      have HPW := Lib.hid (show ∀ j, j < (prodF p.ms).length → PlaysOk p (gl (prodF p.ms) j) from fun j hj => by
        have hmem : gl (prodF p.ms) j ∈ prodF p.ms := by rw [gl_get _ _ hj]; exact List.getElem_mem hj
        obtain ⟨h1, h2⟩ := mem_prodF.1 hmem
        exact ⟨h1, fun i hi => by
          have := HPO.out.mesh i (by omega); have := h2 i hi; omega⟩)
      have HTF := Lib.hid (show truthsF p = (prodF p.ms).filter (fitsB p) from rfl); obtain ⟨A, hA⟩ : ∃ A, prodF p.ms = A := ⟨_, rfl⟩; rw [hA] at HAL HPW HTF HR ⊢; have hal := HAL.out; clear hA; have k1 := (HN.out.cell (lt_of_cellq HK.out.2.1)).trans HK.out.2.1; have k2 := (HN.out.cell (lt_of_cellq HK.out.2.2)).trans HK.out.2.2; obtain ⟨wn, rfl⟩ : ∃ wn : World, wn = wr := ⟨_, rfl⟩; go_wp2; clear hki
      go_loopw [8, 9] (fun v i wr => ∃ (j : Nat) (hs : List Value), j ≤ A.length ∧ i = .int .i64 j ∧ Hid (wr.ownsRow wn.heap.size 24 1 v ((A.take j).filter (fitsB p)).length hs) ∧ Hid (ElR wn ((A.take j).filter (fitsB p)) hs) ∧ Hid (Below wn.heap.size wn wr)) (fun _ i _ => A.length - (intOf i).toNat)
      case atStart => exact ⟨0, [], Nat.zero_le _, rfl, Lib.hid (by rw [List.take_zero]; exact World.ownsRow_nil _ _ _ _), Lib.hid ⟨by rw [List.take_zero]; rfl, fun i hi => by simp at hi⟩, Lib.hid (Below.refl _ _)⟩
      case round =>
        obtain ⟨j, hs, hj, rfl, HO, HE, HX⟩ := hrel
        by_cases hlt2 : j < A.length
        · have hji : (j : Int) < (A.length : Int) := by omega
          obtain ⟨bA, oA, rfl, hcA⟩ := HR.out.at hlt2; obtain ⟨qj, cj, s0, sr⟩ := hcA j hlt2; have HSR := Lib.hid sr; have s1 := (HX.out.cell (lt_of_cellq s0)).trans s0; have z0 := (HX.out.cell (lt_of_cellq q0)).trans q0; have z1 := (HX.out.cell (lt_of_cellq k1)).trans k1; have z2 := (HX.out.cell (lt_of_cellq k2)).trans k2; have HC := Lib.hid (fun W (hb : Below wr.heap.size wr W) => r_Fits pm pv pr cm cv cr p qj cj (gl A j) W (((HP.out.below HN.out).below HX.out).below hb) ((HSR.out.below HX.out).below hb) HPO.out (HPW.out j hlt2)); have HFT := Lib.hid (filter_take (fitsB p) A j hlt2)
          have hfl : ((A.take j).filter (fitsB p)).length ≤ 1000 := by
            have h1 := List.length_filter_le (fitsB p) (A.take j); rw [List.length_take] at h1; omega
          have hwj : IntKind.i64.wrap ((j : Int) + 1) = (j : Int) + 1 := w64 _ (by omega) (by omega); clear hcA sr
          rcases hf : fitsB p (gl A j) with _ | _
          · rw [hf] at HC
            have HFT' := Lib.hid (show (A.take (j + 1)).filter (fitsB p) = (A.take j).filter (fitsB p) by rw [HFT.out, hf]; simp); clear hf; go_wp2; refine wp_region_quiet_below (by kernel_rfl) (by kernel_rfl) ?_; (repeat (first | ((with_reducible first | apply wq_fg faP0 | apply wq_fg faP1 | apply wq_fg faP2 | apply wq_fg faM0 | apply wq_fg faS0 | apply wq_fg faS1 | apply wq_fg faR0 | apply wq_fg faR1 | apply wq_fg faR2 | apply wq_fg faR3 | apply wq_fg faT0 | apply wq_fg faT1 | apply wq_fg faQ0 | apply wq_fg faQ1 | apply wq_fg faH0 | apply wq_fg faH1 | apply wq_fg faH2 | apply wq_fg faH3); (focus rfl); (focus rfl); go_frame) | ((with_reducible refine wq_lda agP szP ?_ ?_ ?_ (fun _ hbq => bcells3 z0 z1 z2 hbq) ?_); (focus rfl); (focus rfl); (focus rfl); go_frame) | ((with_reducible first | apply wq_ix Tryz.underlying24 szI | apply wq_ix Tryz.underlying38 szSp | apply wq_ix Tryz.underlying23 szM | apply wq_ix Tryz.underlying25 szR | apply wq_ix Tryz.underlying51 szL | apply wq_ix Tryz.underlying91 szT); (focus rfl); (focus rfl); (focus rfl); (focus omega); (try simp only [Nat.mul_one]); go_frame) | ((with_reducible first | apply wq_ld agI | apply wq_ld agB | apply wq_ld agLI | apply wq_ld agLS | apply wq_ld agLM | apply wq_ld agLR | apply wq_ld agLL | apply wq_ld agLT); (focus rfl); (focus rfl); (focus (intro _ hbq; first | exact (hbq.cell (lt_of_cellq s1)).trans s1)); go_frame) | ((with_reducible first | apply wq_add | apply wq_sub | apply wq_mul | apply wq_rem); (focus rfl); (focus rfl); (focus rfl); (focus omega); (focus omega); go_frame) | ((with_reducible first | apply wq_eql | apply wq_neq | apply wq_lss | apply wq_leq | apply wq_gtr | apply wq_geq | apply wq_max2 | apply wq_min2); (focus rfl); (focus rfl); (focus rfl); go_frame) | ((with_reducible first | apply wq_max3 | apply wq_min3); (focus rfl); (focus rfl); (focus rfl); (focus rfl); go_frame) | go_big_quiet_step ((intro hbq; exact calls_below hbq (HC.out _ hbq))))); refine wpQuiet_nil ?_; intro wq hbq
            have HO' := Lib.hid (own_kept HO.out hbq); have HX' := Lib.hid (HX.out.trans (hbq.mono HX.out.size)); clear hbq s1 z0 z1 z2; go_wp2; go_roundw
            case rel => exact ⟨j + 1, hs, by omega, by go_num, by rw [HFT'.out]; exact HO', by rw [HFT'.out]; exact HE, HX'⟩
            case measure => simp [intOf]; omega
          · rw [hf] at HC
            have HFT' := Lib.hid (show (A.take (j + 1)).filter (fitsB p) = (A.take j).filter (fitsB p) ++ [gl A j] by rw [HFT.out, hf]; simp); clear hf; go_wp2; refine wp_region_quiet_below (by kernel_rfl) (by kernel_rfl) ?_; (repeat (first | ((with_reducible first | apply wq_fg faP0 | apply wq_fg faP1 | apply wq_fg faP2 | apply wq_fg faM0 | apply wq_fg faS0 | apply wq_fg faS1 | apply wq_fg faR0 | apply wq_fg faR1 | apply wq_fg faR2 | apply wq_fg faR3 | apply wq_fg faT0 | apply wq_fg faT1 | apply wq_fg faQ0 | apply wq_fg faQ1 | apply wq_fg faH0 | apply wq_fg faH1 | apply wq_fg faH2 | apply wq_fg faH3); (focus rfl); (focus rfl); go_frame) | ((with_reducible refine wq_lda agP szP ?_ ?_ ?_ (fun _ hbq => bcells3 z0 z1 z2 hbq) ?_); (focus rfl); (focus rfl); (focus rfl); go_frame) | ((with_reducible first | apply wq_ix Tryz.underlying24 szI | apply wq_ix Tryz.underlying38 szSp | apply wq_ix Tryz.underlying23 szM | apply wq_ix Tryz.underlying25 szR | apply wq_ix Tryz.underlying51 szL | apply wq_ix Tryz.underlying91 szT); (focus rfl); (focus rfl); (focus rfl); (focus omega); (try simp only [Nat.mul_one]); go_frame) | ((with_reducible first | apply wq_ld agI | apply wq_ld agB | apply wq_ld agLI | apply wq_ld agLS | apply wq_ld agLM | apply wq_ld agLR | apply wq_ld agLL | apply wq_ld agLT); (focus rfl); (focus rfl); (focus (intro _ hbq; first | exact (hbq.cell (lt_of_cellq s1)).trans s1)); go_frame) | ((with_reducible first | apply wq_add | apply wq_sub | apply wq_mul | apply wq_rem); (focus rfl); (focus rfl); (focus rfl); (focus omega); (focus omega); go_frame) | ((with_reducible first | apply wq_eql | apply wq_neq | apply wq_lss | apply wq_leq | apply wq_gtr | apply wq_geq | apply wq_max2 | apply wq_min2); (focus rfl); (focus rfl); (focus rfl); go_frame) | ((with_reducible first | apply wq_max3 | apply wq_min3); (focus rfl); (focus rfl); (focus rfl); (focus rfl); go_frame) | go_big_quiet_step ((intro hbq; exact calls_below hbq (HC.out _ hbq))))); refine wpQuiet_nil ?_; intro wq hbq
            have HO' := Lib.hid (own_kept HO.out hbq); have HX' := Lib.hid (HX.out.trans (hbq.mono HX.out.size)); have s2 := (hbq.cell (lt_of_cellq s1)).trans s1; clear hbq s1 z0 z1 z2; go_wp2_with (at_builtin; refine wpList_append_own _ rfl _ _ 51 rfl wn.heap.size 24 j0 _ 1 24 Tryz.underlying51 hj0 hy0 hy1 hy2 rfl (by decide) _ _ _ rfl (HO'.out.alloc _) ⟨wq.heap.size, 0, none⟩ 1 1 [.slice qj (gl A j).length cj] rfl rfl ?d1 ?d2 ?d3 ?d4 ?d5 ?_)
            case d1 => exact news_of _ _ _
            case d2 => intro u hu; simp at hu; subst hu; rfl
            case d3 => unfold maxLen; omega
            case d4 => omega
            case d5 => have := HX'.out.size; simp; omega
            intro v3 w5 hown3 hgrow3 _; have HB5 := Lib.hid ((HX'.out.alloc HX'.out.size (.cells #[.slice qj (gl A j).length cj] 24)).grown hgrow3 (by have := HX'.out.size; simp; omega) (fun j hj => (HO'.out.lt j hj).1)); have HO5 := Lib.hid hown3; have HE5 := Lib.hid (HE.out.snoc (c := cj) HSR.out); clear hown3 hgrow3; go_wp2; go_roundw
            case rel => exact ⟨j + 1, _, by omega, by go_num, by rw [HFT'.out, List.length_append]; exact HO5, by rw [HFT'.out]; exact HE5, HB5⟩
            case measure => simp [intOf]; omega
        · obtain rfl : j = A.length := by omega
          have hji : ¬ (A.length : Int) < (A.length : Int) := by omega
          rw [List.take_length] at HO HE; obtain ⟨qz, cz, rfl, hrz⟩ := HE.out.read HO.out HX.out; have HZ := Lib.hid hrz; clear hrz; go_wp2; go_ret; rw [HTF.out]; exact ⟨qz, cz, rfl, HZ.out, HB.out.trans ((HN.out.trans (HX.out.mono HN.out.size)).mono HB.out.size)⟩
end Go.Proofs.YtbknfddaoolagaaGreatDoor
end

section
namespace Go.Proofs.YtbknfddaoolagaaGreatDoor
open Go Go.RowKit Go.Proofs
set_option linter.unusedVariables false
set_option linter.unusedSimpArgs false
attribute [local go_sem] imax2 imin2

set_option maxHeartbeats 1600000 in
set_option maxRecDepth 100000 in
theorem r_Ends (pm pv pr : Option Addr) (cm cv cr : Nat) (p : Pc) (q : Option Addr) (cq : Nat) (ts : List (List Int)) (w : World) (hp : RdP w pm pv pr p) (hq : RdLs w q ts) (hpo : PieceOk p) (hts : ∀ i, i < ts.length → PlaysOk p (gl ts i)) (hl : ts.length ≤ 1000) :
    Calls Tryz.prog 57 #[.agg #[.slice pm p.ms.length cm, .slice pv p.mv.length cv, .slice pr p.rs.length cr], .slice q ts.length cq] w (RdlPost (ts.map (endF p)) w) := by
  obtain ⟨j0, hj0, hy0, hy1, hy2⟩ := info_parts infL; obtain ⟨w1, e1, HS1, k0, k1, k2, b1⟩ := box3 w (.slice pm p.ms.length cm) (.slice pv p.mv.length cv) (.slice pr p.rs.length cr) 27; have HB := Lib.hid b1; have HP := Lib.hid (hp.below b1); have HQ := Lib.hid (hq.below b1); have HPO := Lib.hid hpo; have HT := Lib.hid hts; have HK := Lib.hid (And.intro k0 (And.intro k1 k2)); have hmv : p.mv.length ≤ 8 := hpo.m8; clear hp hq hpo hts b1 k0 k1 k2
  go_enter Tryz.func57, Tryz.ntmps57
  go_wp2; clear e1
  go_loopw [5, 6] (fun v i wr => ∃ k : Nat, k ≤ ts.length ∧ i = .int .i64 k ∧ Hid (OwLs wr w1.heap.size v ((ts.take k).map (endF p))) ∧ Hid (Below w1.heap.size w1 wr)) (fun _ i _ => ts.length - (intOf i).toNat)
  case atStart => exact ⟨0, Nat.zero_le _, rfl, Lib.hid (OwLs.nil _ _), Lib.hid (Below.refl _ _)⟩
  case round =>
    obtain ⟨k, hk, rfl, HO, HN⟩ := hrel
    by_cases hlt : k < ts.length
    · have hki : (k : Int) < (ts.length : Int) := by omega
      obtain ⟨b, off, rfl, hc⟩ := HQ.out.at hlt; obtain ⟨qk, ck, s0, sr⟩ := hc k hlt; have HSR := Lib.hid sr; have HSB := Lib.hid (cl4 HK.out.1 HK.out.2.1 HK.out.2.2 s0); obtain ⟨z0, z1, z2, s1⟩ := HSB.out wr HN.out; have HTK := Lib.hid (take_step ts k hlt); have HGK := Lib.hid (gl_get ts k hlt); have HPK := Lib.hid (HT.out k hlt); have hnn : (p.mv.length : Int) < (p.mv.length : Int) + 1 := by omega
      have hn0 : (0 : Int) ≤ (p.mv.length : Int) := by omega
      have hwk : IntKind.i64.wrap ((k : Int) + 1) = (k : Int) + 1 := w64 _ (by omega) (by omega); have hlk : ((ts.take k).map (endF p)).length = k := by rw [List.length_map, List.length_take]; omega
      obtain ⟨hs, ho, he⟩ := HO.out; rw [hlk] at ho; have HO1 := Lib.hid ho; have HE1 := Lib.hid he; have HLK := Lib.hid hlk; clear hc sr s0 ho he hlk; go_wp2; refine held4 z0 z1 z2 s1 (fun W0 HBW => ?_); have HB0 := HN.out.trans (HBW.mono HN.out.size); refine tk 0 rfl (by exact HSB.out _ HB0) ?_; (try simp only [Act.put, ptL]); refine tk 1 rfl (by exact HSB.out _ HB0) ?_; (try simp only [Act.put, ptL]); refine tk 2 rfl (by exact HSB.out _ HB0) ?_; (try simp only [Act.put, ptL]); refine tk 3 rfl (by exact HSB.out _ HB0) ?_; (try simp only [Act.put, ptL]); refine tk 4 rfl (by exact HSB.out _ HB0) ?_; (try simp only [Act.put, ptL]); refine tk 5 rfl (by exact HSB.out _ HB0) ?_; (try simp only [Act.put, ptL]); refine tk 7 rfl (by exact HSB.out _ HB0) ?_; (try simp only [Act.put, ptL]); refine tk 8 rfl (by exact HSB.out _ HB0) ?_; (try simp only [Act.put, ptL]); refine tk 9 rfl (by exact HSB.out _ HB0) ?_; (try simp only [Act.put, ptL])
      have HR := Lib.hid (r_Run pm pv pr cm cv cr p qk ck (gl ts k) W0 (HP.out.below HB0) (HSR.out.below HB0) HPO.out HPK.out); refine rz1 6 rfl ?_; intro K hK; go_simp; refine HR.out.mono ?_; rintro e W1 ⟨⟨v1, rfl, hs1, ho1, he1⟩, bq⟩; have HB1 := HB0.trans (bq.mono HB0.size); obtain ⟨v2, hv2, ho2⟩ := he1.2 p.mv.length (by rw [allF_len]; omega); have hgl : gl (allF (gl ts k) p.mv p.mv.length) p.mv.length = endF p (gl ts k) := allF_at _ _ _ _ (Nat.le_refl _); rw [hgl] at ho2; rw [allF_len] at ho1; obtain ⟨g1, c1, rfl⟩ := own_form ho1; have hcell := ho1.cells (g := g1) rfl _ _ hv2; rw [add_new] at hcell; have hel : (endF p (gl ts k)).length = (gl ts k).length + 1 := end_len HPK.out.pos; rw [hel] at ho2; obtain ⟨g2, c2, rfl⟩ := own_form ho2; refine kz hK (by exact HSB.out _ HB1) ?_; clear hK K; (try simp only [Act.put, ptL]); refine tk 10 rfl (by exact HSB.out _ HB1) ?_; (try simp only [Act.put, ptL])
      refine rz1 11 rfl ?_; intro K hK; go_simp; refine kz hK (by exact HSB.out _ HB1) ?_; clear hK K; (try simp only [Act.put, ptL]); refine rz1 12 rfl ?_; intro K hK; go_simp; refine kz hK (by exact HSB.out _ (HB1.alloc HB1.size _)) ?_; clear hK K; (try simp only [Act.put, ptL]); have ba : Below wr.heap.size wr W1 := HBW.trans (bq.mono HBW.size); have hO2 := (own_kept HO1.out ba).alloc (.cells #[.slice (some ⟨g2, 0, none⟩) ((gl ts k).length + 1) c2] 24); have hE2 := (HE1.out.below ba).below (below_alloc1 W1 (.cells #[.slice (some ⟨g2, 0, none⟩) ((gl ts k).length + 1) c2] 24)); have hX2 := own_kept ho2 (below_alloc1 W1 (.cells #[.slice (some ⟨g2, 0, none⟩) ((gl ts k).length + 1) c2] 24)); have hB2 := HB1.alloc HB1.size (.cells #[.slice (some ⟨g2, 0, none⟩) ((gl ts k).length + 1) c2] 24); refine rz1 13 rfl ?_; intro K hK; refine step_append_src _ rfl _ _ 51 rfl w1.heap.size 24 j0 _ 1 24 Tryz.underlying51 hj0 hy0 hy1 hy2 rfl (by decide) _ _ _ rfl hO2 (some ⟨W1.heap.size, 0, none⟩) 1 1 [.slice (some ⟨g2, 0, none⟩) ((gl ts k).length + 1) c2] rfl rfl (.inr ⟨_, rfl, news_of W1 _ _⟩) (by intro u hu; simp at hu; subst hu; rfl) (by unfold maxLen; omega) (by omega) hB2.size ?_
      intro v' w3 hown' hgrow _; have hB3 := hB2.grown hgrow hB2.size (fun j hj => (hO2.lt j hj).1); refine kz hK (by exact HSB.out _ hB3) ?_; clear hK K; (try simp only [Act.put, ptL]); refine tk 14 rfl (by exact HSB.out _ hB3) ?_; (try simp only [Act.put, ptL]); refine wpAnyH_done (by kernel_rfl) ?_ _; have HN' := Lib.hid hB3
      have HO' := Lib.hid (show OwLs w3 w1.heap.size v' ((ts.take (k + 1)).map (endF p)) by
        rw [HTK.out, List.map_append, ← HGK.out]; show OwLs w3 w1.heap.size v' ((ts.take k).map (endF p) ++ [endF p (gl ts k)]); refine OwLs.app (hs := hs) (by rw [HLK.out]; exact hO2) hE2 ?_ hgrow (by rw [HLK.out]; exact hown'); rw [hel]; exact own_mono hX2 HB0.size)
      clear hown' hgrow hB3 hB2 hX2 hE2 hO2 ba hel hgl ho2 ho1 he1 hv2 hcell HB1 HB0 HBW bq HR HSB z0 z1 z2 s1; go_wp2; go_roundw
      case rel => exact ⟨k + 1, by omega, by go_num, HO', HN'⟩
      case measure => simp [intOf]; omega
    · obtain rfl : k = ts.length := by omega
      have hki : ¬ (ts.length : Int) < (ts.length : Int) := by omega
      rw [List.take_length] at HO; obtain ⟨q', c', rfl, hr'⟩ := HO.out.read; have HR' := Lib.hid hr'; clear hr'; go_wp2; go_ret; exact ⟨q', c', by rw [List.length_map]; rfl, HR'.out, HB.out.trans (HN.out.mono HB.out.size)⟩
end Go.Proofs.YtbknfddaoolagaaGreatDoor
end

section
namespace Go.Proofs.YtbknfddaoolagaaGreatDoor
open Go Go.RowKit Go.Proofs
set_option linter.unusedVariables false
set_option linter.unusedSimpArgs false
attribute [local go_sem] imax2 imin2

theorem truthOk {p : Pc} (hpo : PieceOk p) : ∀ i, i < (truthsF p).length → PlaysOk p (gl (truthsF p) i) := fun i hi => truth_plays hpo (by rw [gl_get _ _ hi]; exact List.getElem_mem hi)
theorem truthsFew {p : Pc} (hpo : PieceOk p) : (truthsF p).length ≤ 625 := by
  have h1 := List.length_filter_le (fitsB p) (prodF p.ms); have h2 := take_len_le p.ms p.ms.length hpo.n4 (fun i hi => (hpo.mesh i hi).2.2.2); rw [List.take_length] at h2; exact Nat.le_trans h1 h2
theorem ends_cell {w : World} {q : Option Addr} {p : Pc} (h : RdLs w q ((truthsF p).map (endF p))) (hpo : PieceOk p) (ht : 0 < (truthsF p).length) (a : Nat) (ha : a ≤ p.ms.length) :
    ∃ b off, q = some ⟨b, off, none⟩ ∧ ∀ i, i < (truthsF p).length → ∃ b1 o1 c1, w.cell? ⟨b, off + i, none⟩ = some (.slice (some ⟨b1, o1, none⟩) (p.ms.length + 1) c1) ∧ w.cell? ⟨b1, o1 + a, none⟩ = some (.int .i64 (gi (endF p (gl (truthsF p) i)) a)) ∧ RdI w (some ⟨b1, o1, none⟩) (endF p (gl (truthsF p) i)) := by
  obtain ⟨b, off, rfl, hc⟩ := h.at (i := 0) (by rw [List.length_map]; exact ht); refine ⟨b, off, rfl, fun i hi => ?_⟩; obtain ⟨qk, ck, s0, sr⟩ := hc i (by rw [List.length_map]; exact hi); have hgl : gl ((truthsF p).map (endF p)) i = endF p (gl (truthsF p) i) := by rw [gl_get _ _ (by rw [List.length_map]; exact hi), List.getElem_map, ← gl_get _ _ hi]
  have hel : (endF p (gl (truthsF p) i)).length = p.ms.length + 1 := by rw [end_len (truthOk hpo i hi).pos, (truthOk hpo i hi).len]
  rw [hgl] at s0 sr; rw [hel] at s0; obtain ⟨b1, o1, rfl, hc1⟩ := sr.at (i := a) (by rw [hel]; omega); exact ⟨b1, o1, ck, s0, hc1 a (by rw [hel]; omega), sr⟩
end Go.Proofs.YtbknfddaoolagaaGreatDoor
end

section
namespace Go.Proofs.YtbknfddaoolagaaGreatDoor
open Go Go.RowKit Go.Proofs
set_option linter.unusedVariables false
set_option linter.unusedSimpArgs false
attribute [local go_sem] imax2 imin2

end Go.Proofs.YtbknfddaoolagaaGreatDoor
end

section
namespace Go.Proofs.YtbknfddaoolagaaGreatDoor
open Go Go.RowKit Go.Proofs
set_option linter.unusedVariables false
set_option linter.unusedSimpArgs false
attribute [local go_sem] imax2 imin2

def ShPost (s : Int × Int) (w : World) (e : Ending) (w' : World) : Prop := e = .returned (.agg #[.int .i64 s.1, .int .i64 s.2]) ∧ Below w.heap.size w w'
set_option maxHeartbeats 1600000 in
set_option maxRecDepth 100000 in
theorem r_Shown (h : Hd) (pe : Option Addr) (ce nn : Nat) (pc : Int) (w : World) (hE : RdS w pe h.er) (hh : HandOk nn h) (hr : -2800 ≤ pc ∧ pc ≤ 2400) :
    Calls Tryz.prog 58 #[hdV h pe ce, .int .i64 pc] w (ShPost (shownF h pc) w) := by
  unfold hdV; obtain ⟨w1, e1, HS1, q0, q1, q2, q3, b1⟩ := box4 w (.int .i64 h.arb) (.int .i64 h.num) (.int .i64 h.den) (.slice pe h.er.length ce) 40; have kb := alloc_new w1 (.cells #[.int .i64 0, .int .i64 0] 44); obtain ⟨w2, e2, HS2, _, _, b2⟩ := box2 w1 (.int .i64 0) (.int .i64 0) 44; rw [e2] at kb; have b12 := b1.trans (b2.mono b1.size); have q1 := (b2.cell (lt_of_cellq q1)).trans q1; have q2 := (b2.cell (lt_of_cellq q2)).trans q2; have q3 := (b2.cell (lt_of_cellq q3)).trans q3; obtain ⟨hr1, hr2⟩ := hr; obtain ⟨num, hnum⟩ : ∃ x : Int, h.num = x := ⟨_, rfl⟩; obtain ⟨den, hden⟩ : ∃ x : Int, h.den = x := ⟨_, rfl⟩; have hnu := hh.num; have hde := hh.den; have hle := hh.len; have har := atF_range hh (pc := pc) ⟨hr1, hr2⟩; have hsl := stepF_lt hh pc; have her := hh.err _ hsl
  have hst : (stepF h pc : Int) = (atF h pc % 21600 * h.er.length) / 21600 := by
    unfold stepF; refine Int.toNat_of_nonneg (Int.ediv_nonneg (Int.mul_nonneg (Int.emod_nonneg _ (by omega)) (by omega)) (by omega))
  have hatd : atF h pc = pc * num / den := by unfold atF; rw [hnum, hden]
  rw [hnum] at hnu q1; rw [hden] at hde q2
  have hp1 : -280000 ≤ pc * num := by
    have := Int.mul_le_mul_of_nonneg_right (a := -2800) (b := pc) (c := num) hr1 (by omega); omega
  have hp2 : pc * num ≤ 240000 := by
    have := Int.mul_le_mul_of_nonneg_right (a := pc) (b := 2400) (c := num) hr2 (by omega); omega
  obtain ⟨at_, hA⟩ : ∃ x : Int, atF h pc = x := ⟨_, rfl⟩; obtain ⟨s, hs⟩ : ∃ x : Nat, stepF h pc = x := ⟨_, rfl⟩; have HS := Lib.hid (show shownF h pc = (at_ + (gm h.er s).1, at_ + (gm h.er s).2) by unfold shownF; rw [hA, hs]); rw [hA] at har hst hatd; rw [hs] at hsl her hst; obtain ⟨bE, oE, rfl, hcE⟩ := (hE.below b12).at (i := s) hsl; obtain ⟨x0, x1⟩ := hcE s hsl; obtain ⟨L, hL⟩ : ∃ L : Nat, h.er.length = L := ⟨_, rfl⟩; rw [hL] at hsl hle hst q3 ⊢
  have HD1 := Lib.hid (fun W => show Calls Tryz.prog 105 #[.int .i64 (pc * num), .int .i64 den] W fun e w' => e = .returned (.int .i64 at_) ∧ W = w' by
    have h := r_down (pc * num) den W (by omega) (by omega) (by omega); rw [← hatd] at h; exact h)
  have hdm := Int.emod_add_mul_ediv at_ 21600; obtain ⟨D, hD⟩ : ∃ D : Int, at_ / 21600 = D := ⟨_, rfl⟩; obtain ⟨R, hR⟩ : ∃ R : Int, at_ % 21600 = R := ⟨_, rfl⟩; have hR0 : 0 ≤ R := by rw [← hR]; exact Int.emod_nonneg _ (by omega)
  have hR1 : R < 21600 := by rw [← hR]; exact Int.emod_lt_of_pos _ (by omega)
  have HD2 := Lib.hid (fun W => show Calls Tryz.prog 105 #[.int .i64 at_, .int .i64 21600] W fun e w' => e = .returned (.int .i64 D) ∧ W = w' by
    have h := r_down at_ 21600 W (by omega) (by omega) (by omega); rw [hD] at h; exact h)
  rw [hR] at hst hdm; rw [hD] at hdm; obtain ⟨E, hE2⟩ : ∃ E : Int, D * 21600 = E := ⟨_, rfl⟩; have hwE : IntKind.i64.wrap (D * 21600) = E := by rw [w64 _ (by omega) (by omega)]; exact hE2
  have hwR : IntKind.i64.wrap (at_ - E) = R := by rw [w64 _ (by omega) (by omega)]; omega
  have hRL0 : 0 ≤ R * (L : Int) := Int.mul_nonneg hR0 (by omega); have hRL1 : R * (L : Int) ≤ 21600 * (L : Int) := Int.mul_le_mul_of_nonneg_right (by omega) (by omega); have hwm : IntKind.i64.wrap (R * (L : Int)) = R * (L : Int) := w64 _ (by omega) (by omega); have hqd : (R * (L : Int)).tdiv 21600 = (s : Int) := by rw [Int.tdiv_eq_ediv_of_nonneg hRL0, hst]
  obtain ⟨lo, hlo⟩ : ∃ x : Int, (gm h.er s).1 = x := ⟨_, rfl⟩; obtain ⟨hi, hhi⟩ : ∃ x : Int, (gm h.er s).2 = x := ⟨_, rfl⟩; rw [hlo, hhi] at HS; rw [hlo] at x0 her; rw [hhi] at x1 her; have hw1 : IntKind.i64.wrap (at_ + lo) = at_ + lo := w64 _ (by omega) (by omega); have hw2 : IntKind.i64.wrap (at_ + hi) = at_ + hi := w64 _ (by omega) (by omega); have hsI : (s : Int) < (L : Int) := by omega
  have hws : IntKind.i64.wrap (s : Int) = (s : Int) := w64 _ (by omega) (by omega); have hs0 : (0 : Int) ≤ (s : Int) := by omega
  have hwp : IntKind.i64.wrap (pc * num) = pc * num := w64 _ (by omega) (by omega); have HRG := Lib.hid (show -280000 ≤ at_ ∧ at_ ≤ 240000 ∧ -30 ≤ lo ∧ lo ≤ hi ∧ hi ≤ 30 by omega); have HB := Lib.hid b12; have HKB := Lib.hid kb; have HZ := Lib.hid (show w.heap.size ≤ w1.heap.size ∧ w1.heap.size < w2.heap.size from ⟨b1.size, by have := HS2.out; omega⟩); rw [HS.out]; rw [hL] at e1; clear hatd hR kb b1 b2 b12 hcE hE hh hnum hden hA hs hL hlo hhi her hst har hde hle HS hr1 hr2 hR0 hR1 hRL0 hRL1 hnu hD hE2 hdm hp1 hp2 q0
  go_enter Tryz.func58, Tryz.ntmps58
  (go_wp2_with fail); refine (HD1.out _).mono ?_
  rintro e wn ⟨rfl, rfl⟩; clear e1 e2 q1 q2; go_wp2; have HSB := Lib.hid (cl1 q3); refine held1 q3 (fun W0 HB0 => ?_); refine tk 0 rfl (by exact HSB.out _ HB0) ?_; (try simp only [Act.put, ptL]); refine tk 1 rfl (by exact HSB.out _ HB0) ?_; (try simp only [Act.put, ptL]); refine tk 5 rfl (by exact HSB.out _ HB0) ?_; (try simp only [Act.put, ptL]); refine tk 6 rfl (by exact HSB.out _ HB0) ?_; (try simp only [Act.put, ptL]); refine tk 7 rfl (by exact HSB.out _ HB0) ?_; (try simp only [Act.put, ptL]); refine rz1 2 rfl ?_; intro K hK; go_simp; refine (HD2.out _).mono ?_; rintro e W1 ⟨rfl, rfl⟩; have HB1 := HB0; refine kz hK (by exact HSB.out _ HB1) ?_; clear hK K; (try simp only [Act.put, ptL]); refine tk 3 rfl (by exact HSB.out _ HB1) ?_; (try simp only [Act.put, ptL]); refine tk 4 rfl (by exact HSB.out _ HB1) ?_; (try simp only [Act.put, ptL]); refine tk 8 rfl (by exact HSB.out _ HB1) ?_; (try simp only [Act.put, ptL]); refine tk 9 rfl (by exact HSB.out _ HB1) ?_; (try simp only [Act.put, ptL]); refine tk 10 rfl (by exact HSB.out _ HB1) ?_; (try simp only [Act.put, ptL])
  refine wpAnyH_done (by kernel_rfl) ?_ _
  skip
  have q3 := (HB0.cell (lt_of_cellq q3)).trans q3; have x0 := (HB0.cell (lt_of_cellq x0)).trans x0; have x1 := (HB0.cell (lt_of_cellq x1)).trans x1; have HB02 := Lib.hid HB0; clear HSB HB0 HB1 hwE hwR hwm hqd hws hwp HD1 HD2; go_wp2; obtain ⟨g1, g2, g3, g4, g5⟩ := HRG.out; refine wp_region_below_tail 16 (by kernel_rfl) (by kernel_rfl) ?_; simp only [List.take_succ_cons, List.take_zero, List.drop_succ_cons, List.drop_zero]; (repeat (first | ((with_reducible first | apply wq_fg faP0 | apply wq_fg faP1 | apply wq_fg faP2 | apply wq_fg faM0 | apply wq_fg faS0 | apply wq_fg faS1 | apply wq_fg faR0 | apply wq_fg faR1 | apply wq_fg faR2 | apply wq_fg faR3 | apply wq_fg faT0 | apply wq_fg faT1 | apply wq_fg faQ0 | apply wq_fg faQ1 | apply wq_fg faH0 | apply wq_fg faH1 | apply wq_fg faH2 | apply wq_fg faH3); (focus rfl); (focus rfl); go_frame) | ((with_reducible first | apply wq_ix Tryz.underlying24 szI | apply wq_ix Tryz.underlying38 szSp | apply wq_ix Tryz.underlying23 szM | apply wq_ix Tryz.underlying25 szR | apply wq_ix Tryz.underlying51 szL | apply wq_ix Tryz.underlying91 szT); (focus rfl); (focus rfl); (focus rfl); (focus omega); (try simp only [Nat.mul_one]); go_frame) | ((with_reducible first | apply wq_ld agI | apply wq_ld agB | apply wq_ld agLI | apply wq_ld agLS | apply wq_ld agLM | apply wq_ld agLR | apply wq_ld agLL | apply wq_ld agLT); (focus rfl); (focus rfl); (focus (intro _ hbq; first | exact (hbq.cell (lt_of_cellq q3)).trans q3 | exact (hbq.cell (lt_of_cellq x0)).trans x0 | exact (hbq.cell (lt_of_cellq x1)).trans x1)); go_frame) | ((with_reducible first | apply wq_add | apply wq_sub | apply wq_mul | apply wq_rem); (focus rfl); (focus rfl); (focus rfl); (focus omega); (focus omega); go_frame) | ((with_reducible first | apply wq_eql | apply wq_neq | apply wq_lss | apply wq_leq | apply wq_gtr | apply wq_geq | apply wq_max2 | apply wq_min2); (focus rfl); (focus rfl); (focus rfl); go_frame) | ((with_reducible first | apply wq_max3 | apply wq_min3); (focus rfl); (focus rfl); (focus rfl); (focus rfl); go_frame) | go_big_quiet_step (fail))); refine wpQuiet_nil ?_; intro wq hbq
  have hb2 := HB02.out.trans (hbq.mono HB02.out.size); obtain ⟨w6, w7, s1, s2, ⟨c0', f0⟩, ⟨c1', f1⟩, hx4, hxk, HZ5, hxb⟩ := set2 wq w1.heap.size 44 _ _ (.int .i64 (at_ + lo)) (.int .i64 (at_ + hi)) ((hb2.block _ (block_lt HKB.out)).trans HKB.out); obtain ⟨r0, r1⟩ := cells2 hx4; have HBB := Lib.hid (hxb w w.heap.size HZ.out.1 (HB.out.trans (hb2.mono HB.out.size))); clear hx4 hxk hxb hb2 hbq; go_wp2; refine bodyPost_ret (v := .agg #[.int .i64 (at_ + lo), .int .i64 (at_ + hi)]) ?_ rfl ⟨rfl, HBB.out⟩; simp [results, Tryz.results58, go_sem, r0, r1]
theorem shown_at {p : Pc} (hpo : PieceOk p) {h : Hd} (hh : HandOk p.ms.length h) {pe : Option Addr} {ce : Nat} {w : World} (hE : RdS w pe h.er) {a : Nat} (ha : h.arb.toNat = a) (i : Nat) (hi : i < (truthsF p).length) :
    ∀ W, Below w.heap.size w W → Calls Tryz.prog 58 #[.agg #[.int .i64 h.arb, .int .i64 h.num, .int .i64 h.den, .slice pe h.er.length ce], .int .i64 (gi (endF p (gl (truthsF p) i)) a)] W (ShPost (shF p h (gl (truthsF p) i)) W) := fun W hb => by
  have h1 := hand_place hpo (truthOk hpo i hi) hh; have e : shF p h (gl (truthsF p) i) = shownF h (gi (endF p (gl (truthsF p) i)) a) := by unfold shF; rw [ha]
  rw [ha] at h1; rw [e]; exact r_Shown h pe ce _ _ W (hE.below hb) hh h1
set_option maxHeartbeats 3200000 in
set_option maxRecDepth 100000 in
theorem r_Shows (pm pv pr : Option Addr) (cm cv cr : Nat) (p : Pc) (q : Option Addr) (cq : Nat) (h : Hd) (pe : Option Addr) (ce : Nat) (w : World) (hp : RdP w pm pv pr p) (hq : RdLs w q (truthsF p)) (hpo : PieceOk p) (ht : truthsF p ≠ []) (hE : RdS w pe h.er) (hh : HandOk p.ms.length h) :
    Calls Tryz.prog 18 #[.agg #[.slice pm p.ms.length cm, .slice pv p.mv.length cv, .slice pr p.rs.length cr], .slice q (truthsF p).length cq, hdV h pe ce] w (ShPost (showsF p h) w) := by
  unfold hdV; obtain ⟨w1, e1, HS1, k0, k1, k2, b1⟩ := box3 w (.slice pm p.ms.length cm) (.slice pv p.mv.length cv) (.slice pr p.rs.length cr) 27; obtain ⟨w2, e2, HS2, q0, q1, q2, q3, b2⟩ := box4 w1 (.int .i64 h.arb) (.int .i64 h.num) (.int .i64 h.den) (.slice pe h.er.length ce) 40; have kb := alloc_new w2 (.cells #[.int .i64 0, .int .i64 0] 44); obtain ⟨w3, e3, HS3, _, _, b3⟩ := box2 w2 (.int .i64 0) (.int .i64 0) 44; rw [e3] at kb; have b23 := b2.trans (b3.mono b2.size); have b13 := b1.trans (b23.mono b1.size); have k0 := (b23.cell (lt_of_cellq k0)).trans k0; have k1 := (b23.cell (lt_of_cellq k1)).trans k1; have k2 := (b23.cell (lt_of_cellq k2)).trans k2; have q0 := (b3.cell (lt_of_cellq q0)).trans q0; have q1 := (b3.cell (lt_of_cellq q1)).trans q1; have q2 := (b3.cell (lt_of_cellq q2)).trans q2; have q3 := (b3.cell (lt_of_cellq q3)).trans q3; have HB := Lib.hid b13; have HKB := Lib.hid kb
  have HZ := Lib.hid (show w.heap.size ≤ w2.heap.size ∧ w2.heap.size < w3.heap.size from ⟨Nat.le_trans b1.size b2.size, by have := HS3.out; omega⟩); have hEn := r_Ends pm pv pr cm cv cr p q cq (truthsF p) w3 (hp.below b13) (hq.below b13) hpo (truthOk hpo) (by have := truthsFew hpo; omega); have HE := Lib.hid (hE.below b13); have HPO := Lib.hid hpo; have HH := Lib.hid hh; have HT := Lib.hid (List.length_pos_iff.2 ht); have htl := truthsFew hpo; have hn4 := hpo.n4; obtain ⟨a, hab⟩ : ∃ a : Nat, h.arb = (a : Int) := ⟨h.arb.toNat, by have := hh.arb; omega⟩; have hat : h.arb.toNat = a := by rw [hab]; rfl
  have HAT := Lib.hid hat; have hlt : a ≤ p.ms.length := by have := hh.arb; omega
  have HAB := Lib.hid hab; rw [hab] at q0 e2; have HO1 := Lib.hid (ovK_one p (shF p h) HT.out); have HOS := Lib.hid (fun k h0 hk => ovK_succ p (shF p h) k h0 hk); have HOF : Hid (ovK p (shF p h) (truthsF p).length = showsF p h) := Lib.hid (ovK_full p (shF p h)); clear hp hq hpo ht hE hh b1 b2 b3 b23 b13 kb hat; rw [hab]; clear hab
  go_enter Tryz.func18, Tryz.ntmps18
  (go_wp2_with fail); refine hEn.mono ?_
  rintro e w4 ⟨q2', c2, rfl, hr, bq⟩; rw [List.length_map]; have HB4 := Lib.hid bq; have q0 := (bq.cell (lt_of_cellq q0)).trans q0; have q1 := (bq.cell (lt_of_cellq q1)).trans q1; have q2 := (bq.cell (lt_of_cellq q2)).trans q2; have q3 := (bq.cell (lt_of_cellq q3)).trans q3; have HE4 := Lib.hid (HE.out.below bq); obtain ⟨bl, ol, rfl, hc⟩ := ends_cell hr HPO.out HT.out a hlt; have HC := Lib.hid hc; have HQ4 := Lib.hid (And.intro q0 (And.intro q1 (And.intro q2 q3))); obtain ⟨b0, o0, c0, s0, d0, _⟩ := hc 0 HT.out; rw [Nat.add_zero] at s0
  have HSH := Lib.hid (show ∀ W, Below w4.heap.size w4 W → Calls Tryz.prog 58 #[.agg #[.int .i64 (a : Int), .int .i64 h.num, .int .i64 h.den, .slice pe h.er.length ce], .int .i64 (gi (endF p (gl (truthsF p) 0)) a)] W (ShPost (ovK p (shF p h) 1) W) by
    have h1 := shown_at (ce := ce) HPO.out HH.out HE4.out HAT.out 0 HT.out; rw [HAB.out] at h1; rw [HO1.out]; exact h1)
  have hai : (a : Int) < (p.ms.length : Int) + 1 := by omega
  have ha0 : (0 : Int) ≤ (a : Int) := by omega
  have hT0 : (0 : Int) < ((truthsF p).length : Int) := by have := HT.out; omega
  have hT1 := HT.out; obtain ⟨G0, hG0⟩ : ∃ x, gi (endF p (gl (truthsF p) 0)) a = x := ⟨_, rfl⟩; obtain ⟨L0, hL0⟩ : ∃ x, (ovK p (shF p h) 1).1 = x := ⟨_, rfl⟩; obtain ⟨U0, hU0⟩ : ∃ x, (ovK p (shF p h) 1).2 = x := ⟨_, rfl⟩; unfold ShPost at HSH; rw [hG0] at d0 HSH; rw [hL0, hU0] at HSH; have HL0 := Lib.hid hL0; have HU0 := Lib.hid hU0; clear hr hc bq e1 e2 e3 hEn k0 k1 k2 hG0 hL0 hU0; go_wp2; have HSB := Lib.hid (cl6 q0 q1 q2 q3 s0 d0); refine held6 q0 q1 q2 q3 s0 d0 (fun W0 HB0 => ?_); refine tk 0 rfl (by exact HSB.out _ HB0) ?_; (try simp only [Act.put, ptL]); refine tk 1 rfl (by exact HSB.out _ HB0) ?_; (try simp only [Act.put, ptL]); refine tk 2 rfl (by exact HSB.out _ HB0) ?_; (try simp only [Act.put, ptL]); refine tk 3 rfl (by exact HSB.out _ HB0) ?_; (try simp only [Act.put, ptL]); refine tk 4 rfl (by exact HSB.out _ HB0) ?_; (try simp only [Act.put, ptL]); refine tk 5 rfl (by exact HSB.out _ HB0) ?_; (try simp only [Act.put, ptL]); refine tk 6 rfl (by exact HSB.out _ HB0) ?_; (try simp only [Act.put, ptL]); refine tk 7 rfl (by exact HSB.out _ HB0) ?_; (try simp only [Act.put, ptL])
  refine rz2 8 9 rfl rfl ?_ ?_
  focus
    intro K hK; go_simp; refine (HSH.out _ HB0).mono ?_; rintro e W9 ⟨rfl, hbn⟩; have HB9 : Below w4.heap.size w4 W9 := HB0.trans (hbn.mono HB0.size); clear hbn; go_simp; refine kz hK (by exact HSB.out _ HB9) ?_; clear hK K; (try simp only [Act.put, ptL]); clear HB0; refine rz1 9 rfl ?_; intro K hK; go_simp; refine kz hK (by exact HSB.out _ (HB9.alloc HB9.size _)) ?_; clear hK K; (try simp only [Act.put, ptL]); refine wpAnyH_gen (fun W10 hWn => ?_); have HB10 : Below w4.heap.size w4 W10 := by rw [hWn]; exact HB9.alloc HB9.size _
    have hx_o : W10.heap[W9.heap.size]? = some (.cells #[.int .i64 0, .int .i64 0] 44) := by rw [hWn]; exact alloc_new _ _
    have hl_o : w4.heap.size ≤ W9.heap.size := HB9.size; clear hWn; obtain ⟨b_o, hb_o⟩ : ∃ b, W9.heap.size = b := ⟨_, rfl⟩; rw [hb_o] at hx_o hl_o ⊢; clear HB9 hb_o; refine rz1 10 rfl ?_; intro K hK; refine set2K W10 b_o 44 _ _ (.int .i64 L0) (.int .i64 U0) hx_o (fun wa11 W11 sa sb ca0 fa0 ca1 fa1 hx4 hxk HZs hxb => ?_); have HB11 : Below w4.heap.size w4 W11 := hxb w4 w4.heap.size hl_o HB10; have hx_o := hx4; clear hx4 hxk hxb HZs; go_simp; refine kz hK (by exact HSB.out _ HB11) ?_; clear hK K; (try simp only [Act.put, ptL]); clear ca0 fa0 ca1 fa1 sa sb HB10; refine wpAnyH_done (by kernel_rfl) ?_ _; obtain ⟨wz, hwz⟩ : ∃ wz, wz = W11 := ⟨_, rfl⟩; subst hwz; have HBZ := HB11; clear HB11
    
  rotate_left 1
  focus
    intro K hK; go_simp; refine kz hK (by exact HSB.out _ (HB0.alloc HB0.size _)) ?_; clear hK K; (try simp only [Act.put, ptL]); refine wpAnyH_gen (fun W12 hWn => ?_); have HB12 : Below w4.heap.size w4 W12 := by rw [hWn]; exact HB0.alloc HB0.size _
    have hx_o : W12.heap[W0.heap.size]? = some (.cells #[.int .i64 0, .int .i64 0] 44) := by rw [hWn]; exact alloc_new _ _
    have hl_o : w4.heap.size ≤ W0.heap.size := HB0.size; clear hWn; obtain ⟨b_o, hb_o⟩ : ∃ b, W0.heap.size = b := ⟨_, rfl⟩; rw [hb_o] at hx_o hl_o ⊢; clear HB0 hb_o; refine rz1 8 rfl ?_; intro K hK; go_simp; refine (HSH.out _ HB12).mono ?_; rintro e W13 ⟨rfl, hbn⟩; have HB13 : Below w4.heap.size w4 W13 := HB12.trans (hbn.mono HB12.size); have hx_o : W13.heap[b_o]? = some (.cells #[.int .i64 0, .int .i64 0] 44) := (hbn.block _ (block_lt hx_o)).trans hx_o; clear hbn; go_simp; refine kz hK (by exact HSB.out _ HB13) ?_; clear hK K; (try simp only [Act.put, ptL]); clear HB12; refine rz1 10 rfl ?_; intro K hK; refine set2K W13 b_o 44 _ _ (.int .i64 L0) (.int .i64 U0) hx_o (fun wa14 W14 sa sb ca0 fa0 ca1 fa1 hx4 hxk HZs hxb => ?_); have HB14 : Below w4.heap.size w4 W14 := hxb w4 w4.heap.size hl_o HB13; have hx_o := hx4; clear hx4 hxk hxb HZs; go_simp; refine kz hK (by exact HSB.out _ HB14) ?_; clear hK K; (try simp only [Act.put, ptL])
    clear ca0 fa0 ca1 fa1 sa sb HB13; refine wpAnyH_done (by kernel_rfl) ?_ _; obtain ⟨wz, hwz⟩ : ∃ wz, wz = W14 := ⟨_, rfl⟩; subst hwz; have HBZ := HB14; clear HB14
    
  rotate_left 1
  all_goals
    have HO0 := Lib.hid (show wz.heap[b_o]? = some (.cells #[.int .i64 (ovK p (shF p h) 1).1, .int .i64 (ovK p (shF p h) 1).2] 44 (0, 0)) by rw [HL0.out, HU0.out]; exact hx_o); have HBW := Lib.hid HBZ; have HLO := Lib.hid hl_o; clear hx_o HBZ HSB HSH s0 d0 q0 q1 q2 q3; go_wp2
    go_loopw [9] (fun i wr => ∃ k : Nat, 1 ≤ k ∧ k ≤ (truthsF p).length ∧ i = .int .i64 k ∧ Hid (wr.heap[b_o]? = some (.cells #[.int .i64 (ovK p (shF p h) k).1, .int .i64 (ovK p (shF p h) k).2] 44 (0, 0))) ∧ Hid (Below w4.heap.size w4 wr)) (fun i _ => (truthsF p).length - (intOf i).toNat)
    case atStart => exact ⟨1, Nat.le_refl _, HT.out, rfl, HO0, HBW⟩
    case round =>
      obtain ⟨k, hk1, hk, rfl, HO, HN⟩ := hrel
      by_cases hltk : k < (truthsF p).length
      · have hki : (k : Int) < ((truthsF p).length : Int) := by omega
        have q0 := (HN.out.cell (lt_of_cellq HQ4.out.1)).trans HQ4.out.1; have q1 := (HN.out.cell (lt_of_cellq HQ4.out.2.1)).trans HQ4.out.2.1; have q2 := (HN.out.cell (lt_of_cellq HQ4.out.2.2.1)).trans HQ4.out.2.2.1; have q3 := (HN.out.cell (lt_of_cellq HQ4.out.2.2.2)).trans HQ4.out.2.2.2; obtain ⟨b1, o1, c1, s0, d0, _⟩ := HC.out k hltk; have s0 := (HN.out.cell (lt_of_cellq s0)).trans s0; have d0 := (HN.out.cell (lt_of_cellq d0)).trans d0
        have HSK := Lib.hid (show ∀ W, Below wr.heap.size wr W → Calls Tryz.prog 58 #[.agg #[.int .i64 (a : Int), .int .i64 h.num, .int .i64 h.den, .slice pe h.er.length ce], .int .i64 (gi (endF p (gl (truthsF p) k)) a)] W (ShPost (shF p h (gl (truthsF p) k)) W) by
          have h1 := shown_at (ce := ce) HPO.out HH.out (HE4.out.below HN.out) HAT.out k hltk; rw [HAB.out] at h1; exact h1)
        have HST := Lib.hid (HOS.out k (by omega) hltk); obtain ⟨G1, hG1⟩ : ∃ x, gi (endF p (gl (truthsF p) k)) a = x := ⟨_, rfl⟩; obtain ⟨L1, hL1⟩ : ∃ x, (shF p h (gl (truthsF p) k)).1 = x := ⟨_, rfl⟩; obtain ⟨U1, hU1⟩ : ∃ x, (shF p h (gl (truthsF p) k)).2 = x := ⟨_, rfl⟩; obtain ⟨L, hL⟩ : ∃ x, (ovK p (shF p h) k).1 = x := ⟨_, rfl⟩; obtain ⟨U, hU⟩ : ∃ x, (ovK p (shF p h) k).2 = x := ⟨_, rfl⟩; unfold ShPost at HSK; rw [hG1] at d0 HSK; rw [hL1, hU1] at HSK HST; rw [hL, hU] at HST HO; have hwk : IntKind.i64.wrap ((k : Int) + 1) = (k : Int) + 1 := w64 _ (by omega) (by omega); clear hG1 hL1 hU1 hL hU; go_wp2; have HSB := Lib.hid (cl6 q0 q1 q2 q3 s0 d0); refine held6 q0 q1 q2 q3 s0 d0 (fun W0 HB0 => ?_); refine tk 0 rfl (by exact HSB.out _ HB0) ?_; (try simp only [Act.put, ptL]); refine tk 1 rfl (by exact HSB.out _ HB0) ?_; (try simp only [Act.put, ptL]); refine tk 2 rfl (by exact HSB.out _ HB0) ?_; (try simp only [Act.put, ptL]); refine tk 3 rfl (by exact HSB.out _ HB0) ?_; (try simp only [Act.put, ptL]); refine tk 4 rfl (by exact HSB.out _ HB0) ?_; (try simp only [Act.put, ptL]); refine tk 5 rfl (by exact HSB.out _ HB0) ?_; (try simp only [Act.put, ptL]); refine tk 6 rfl (by exact HSB.out _ HB0) ?_; (try simp only [Act.put, ptL]); refine tk 7 rfl (by exact HSB.out _ HB0) ?_; (try simp only [Act.put, ptL]); refine tk 8 rfl (by exact HSB.out _ HB0) ?_; (try simp only [Act.put, ptL])
        refine rz2 9 10 rfl rfl ?_ ?_
        focus
          intro K hK; go_simp; refine (HSK.out _ HB0).mono ?_; rintro e W24 ⟨rfl, hbn⟩; have HB24 : Below wr.heap.size wr W24 := HB0.trans (hbn.mono HB0.size); clear hbn; go_simp; refine kz hK (by exact HSB.out _ HB24) ?_; clear hK K; (try simp only [Act.put, ptL]); clear HB0; refine rz1 10 rfl ?_; intro K hK; go_simp; refine kz hK (by exact HSB.out _ (HB24.alloc HB24.size _)) ?_; clear hK K; (try simp only [Act.put, ptL]); refine wpAnyH_gen (fun W25 hWn => ?_); have HB25 : Below wr.heap.size wr W25 := by rw [hWn]; exact HB24.alloc HB24.size _
          have hx_s : W25.heap[W24.heap.size]? = some (.cells #[.int .i64 0, .int .i64 0] 44) := by rw [hWn]; exact alloc_new _ _
          have hl_s : wr.heap.size ≤ W24.heap.size := HB24.size; clear hWn; obtain ⟨b_s, hb_s⟩ : ∃ b, W24.heap.size = b := ⟨_, rfl⟩; rw [hb_s] at hx_s hl_s ⊢; clear HB24 hb_s; refine rz1 11 rfl ?_; intro K hK; refine set2K W25 b_s 44 _ _ (.int .i64 L1) (.int .i64 U1) hx_s (fun wa26 W26 sa sb ca0 fa0 ca1 fa1 hx4 hxk HZs hxb => ?_); have HB26 : Below wr.heap.size wr W26 := hxb wr wr.heap.size hl_s HB25; have hx_s := hx4; clear hx4 hxk hxb HZs; go_simp; refine kz hK (by exact HSB.out _ HB26) ?_; clear hK K; (try simp only [Act.put, ptL]); clear ca0 fa0 ca1 fa1 sa sb HB25; refine wpAnyH_done (by kernel_rfl) ?_ _; obtain ⟨wz, hwz⟩ : ∃ wz, wz = W26 := ⟨_, rfl⟩; subst hwz; have HBZ := HB26; clear HB26
          
        rotate_left 1
        focus
          intro K hK; go_simp; refine kz hK (by exact HSB.out _ (HB0.alloc HB0.size _)) ?_; clear hK K; (try simp only [Act.put, ptL]); refine wpAnyH_gen (fun W27 hWn => ?_); have HB27 : Below wr.heap.size wr W27 := by rw [hWn]; exact HB0.alloc HB0.size _
          have hx_s : W27.heap[W0.heap.size]? = some (.cells #[.int .i64 0, .int .i64 0] 44) := by rw [hWn]; exact alloc_new _ _
          have hl_s : wr.heap.size ≤ W0.heap.size := HB0.size; clear hWn; obtain ⟨b_s, hb_s⟩ : ∃ b, W0.heap.size = b := ⟨_, rfl⟩; rw [hb_s] at hx_s hl_s ⊢; clear HB0 hb_s; refine rz1 9 rfl ?_; intro K hK; go_simp; refine (HSK.out _ HB27).mono ?_; rintro e W28 ⟨rfl, hbn⟩; have HB28 : Below wr.heap.size wr W28 := HB27.trans (hbn.mono HB27.size); have hx_s : W28.heap[b_s]? = some (.cells #[.int .i64 0, .int .i64 0] 44) := (hbn.block _ (block_lt hx_s)).trans hx_s; clear hbn; go_simp; refine kz hK (by exact HSB.out _ HB28) ?_; clear hK K; (try simp only [Act.put, ptL]); clear HB27; refine rz1 11 rfl ?_; intro K hK; refine set2K W28 b_s 44 _ _ (.int .i64 L1) (.int .i64 U1) hx_s (fun wa29 W29 sa sb ca0 fa0 ca1 fa1 hx4 hxk HZs hxb => ?_); have HB29 : Below wr.heap.size wr W29 := hxb wr wr.heap.size hl_s HB28; have hx_s := hx4; clear hx4 hxk hxb HZs; go_simp; refine kz hK (by exact HSB.out _ HB29) ?_; clear hK K; (try simp only [Act.put, ptL])
          clear ca0 fa0 ca1 fa1 sa sb HB28; refine wpAnyH_done (by kernel_rfl) ?_ _; obtain ⟨wz, hwz⟩ : ∃ wz, wz = W29 := ⟨_, rfl⟩; subst hwz; have HBZ := HB29; clear HB29
          
        rotate_left 1
        all_goals
          have hox := (HBZ.block _ (block_lt HO.out)).trans HO.out; obtain ⟨y0, y1⟩ := cells2 hox; obtain ⟨z0, z1⟩ := cells2 hx_s; obtain ⟨w5, w6, t1, t2, ⟨x0, f0⟩, ⟨x1, f1⟩, hx4, hxk, HZ6, hxb⟩ := set2 wz b_o 44 _ _ (.int .i64 (min L L1)) (.int .i64 (max U U1)) hox; have HX7 := Lib.hid (hxb w4 w4.heap.size HLO.out (HN.out.trans (HBZ.mono HN.out.size))); have HO7 := Lib.hid (show w6.heap[b_o]? = some (.cells #[.int .i64 (ovK p (shF p h) (k + 1)).1, .int .i64 (ovK p (shF p h) (k + 1)).2] 44 (0, 0)) by rw [HST.out]; exact hx4); clear hx4 hxk hxb hox HBZ hx_s HSB q0 q1 q2 q3 s0 d0; go_wp2; go_roundw
          case rel => exact ⟨k + 1, by omega, by omega, by go_num, HO7, HX7⟩
          case measure => simp [intOf]; omega
      · obtain rfl : k = (truthsF p).length := by omega
        have hki : ¬ ((truthsF p).length : Int) < ((truthsF p).length : Int) := by omega
        rw [HOF.out] at HO; obtain ⟨y0, y1⟩ := cells2 HO.out; obtain ⟨L, hL⟩ : ∃ x, (showsF p h).1 = x := ⟨_, rfl⟩; obtain ⟨U, hU⟩ : ∃ x, (showsF p h).2 = x := ⟨_, rfl⟩; rw [hL] at y0; rw [hU] at y1; have HL := Lib.hid hL; have HU := Lib.hid hU; have hb := HB4.out.trans (HN.out.mono HB4.out.size); obtain ⟨w5, w6, t1, t2, ⟨x0, f0⟩, ⟨x1, f1⟩, hx4, hxk, HZ6, hxb⟩ := set2 wr w2.heap.size 44 _ _ (.int .i64 L) (.int .i64 U) ((hb.block _ (block_lt HKB.out)).trans HKB.out); obtain ⟨r0, r1⟩ := cells2 hx4; have HBB := Lib.hid (hxb w w.heap.size HZ.out.1 (HB.out.trans (hb.mono HB.out.size))); clear hx4 hxk hxb hb hL hU; go_wp2; refine bodyPost_ret (v := .agg #[.int .i64 L, .int .i64 U]) ?_ rfl ⟨by rw [HL.out, HU.out], HBB.out⟩; simp [results, Tryz.results18, go_sem, r0, r1]
end Go.Proofs.YtbknfddaoolagaaGreatDoor
end

section
namespace Go.Proofs.YtbknfddaoolagaaGreatDoor
open Go Go.RowKit Go.Proofs
set_option linter.unusedVariables false
set_option linter.unusedSimpArgs false
attribute [local go_sem] imax2 imin2

set_option maxHeartbeats 3200000 in
set_option maxRecDepth 100000 in
theorem r_Sure (pm pv pr : Option Addr) (cm cv cr : Nat) (p : Pc) (q : Option Addr) (cq : Nat) (h : Hd) (pe : Option Addr) (ce : Nat) (want lim : Int) (w : World) (hp : RdP w pm pv pr p) (hq : RdLs w q (truthsF p)) (hpo : PieceOk p) (ht : truthsF p ≠ []) (hE : RdS w pe h.er) (hh : HandOk p.ms.length h) (hwl : -5000 ≤ want ∧ want ≤ 5000 ∧ 0 ≤ lim ∧ lim ≤ 5000) :
    Calls Tryz.prog 21 #[.agg #[.slice pm p.ms.length cm, .slice pv p.mv.length cv, .slice pr p.rs.length cr], .slice q (truthsF p).length cq, hdV h pe ce, .int .i64 want, .int .i64 lim] w fun e w' => e = .returned (.int .i64 (sureF p h want lim)) ∧ Below w.heap.size w w' := by
  unfold hdV; obtain ⟨w1, e1, HS1, k0, k1, k2, b1⟩ := box3 w (.slice pm p.ms.length cm) (.slice pv p.mv.length cv) (.slice pr p.rs.length cr) 27; obtain ⟨w2, e2, HS2, q0, q1, q2, q3, b2⟩ := box4 w1 (.int .i64 h.arb) (.int .i64 h.num) (.int .i64 h.den) (.slice pe h.er.length ce) 40; have b13 := b1.trans (b2.mono b1.size); have k0 := (b2.cell (lt_of_cellq k0)).trans k0; have k1 := (b2.cell (lt_of_cellq k1)).trans k1; have k2 := (b2.cell (lt_of_cellq k2)).trans k2; have HB := Lib.hid b13; have hEn := r_Ends pm pv pr cm cv cr p q cq (truthsF p) w2 (hp.below b13) (hq.below b13) hpo (truthOk hpo) (by have := truthsFew hpo; omega); have HE := Lib.hid (hE.below b13); have HPO := Lib.hid hpo; have HH := Lib.hid hh; have HT := Lib.hid (List.length_pos_iff.2 ht); have HT2 := Lib.hid ht; have HWS := Lib.hid (word_sure (want := want) hpo hh ht hwl.2.2.1); have htl := truthsFew hpo; have hn4 := hpo.n4
  obtain ⟨a, hab⟩ : ∃ a : Nat, h.arb = (a : Int) := ⟨h.arb.toNat, by have := hh.arb; omega⟩; have hat : h.arb.toNat = a := by rw [hab]; rfl
  have HAT := Lib.hid hat; have hlt : a ≤ p.ms.length := by have := hh.arb; omega
  have HAB := Lib.hid hab; rw [hab] at q0 e2; have HSS := Lib.hid (fun k hk => someT_succ p h want lim k hk); have HNS := Lib.hid (fun k hk => notT_succ p h want lim k hk); have HSA := Lib.hid (someT_all p h want lim); have HNA := Lib.hid (notT_all p h want lim); have HS0 := Lib.hid (show someT p h want lim 0 = false from rfl); have HN0 := Lib.hid (show notT p h want lim 0 = false from rfl); have HLIM := Lib.hid hwl.2.2.1; have hw1 : IntKind.i64.wrap (want - lim) = want - lim := w64 _ (by omega) (by omega); have hw2 : IntKind.i64.wrap (want + lim) = want + lim := w64 _ (by omega) (by omega); clear hp hq hpo ht hE hh b1 b2 b13 hat; rw [hab]; clear hab
  go_enter Tryz.func21, Tryz.ntmps21
  (go_wp2_with fail); refine hEn.mono ?_
  rintro e w4 ⟨q2', c2, rfl, hr, bq⟩; rw [List.length_map]; have HB4 := Lib.hid bq; have q0 := (bq.cell (lt_of_cellq q0)).trans q0; have q1 := (bq.cell (lt_of_cellq q1)).trans q1; have q2 := (bq.cell (lt_of_cellq q2)).trans q2; have q3 := (bq.cell (lt_of_cellq q3)).trans q3; have HE4 := Lib.hid (HE.out.below bq); obtain ⟨bl, ol, rfl, hc⟩ := ends_cell hr HPO.out HT.out a hlt; have HC := Lib.hid hc; have HQ4 := Lib.hid (And.intro q0 (And.intro q1 (And.intro q2 q3))); have hai : (a : Int) < (p.ms.length : Int) + 1 := by omega
  have ha0 : (0 : Int) ≤ (a : Int) := by omega
  clear hr hc bq e1 e2 hEn k0 k1 k2 q0 q1 q2 q3; go_wp2
  go_loopw [12, 13, 14] (fun s n i wr => ∃ k : Nat, k ≤ (truthsF p).length ∧ i = .int .i64 k ∧ s = .bool (someT p h want lim k) ∧ n = .bool (notT p h want lim k) ∧ Hid (Below w4.heap.size w4 wr)) (fun _ _ i _ => (truthsF p).length - (intOf i).toNat)
  case atStart => exact ⟨0, Nat.zero_le _, rfl, by rw [HS0.out], by rw [HN0.out], Lib.hid (Below.refl _ _)⟩
  case round =>
    obtain ⟨k, hk, rfl, rfl, rfl, HN⟩ := hrel
    by_cases hltk : k < (truthsF p).length
    · have hki : (k : Int) < ((truthsF p).length : Int) := by omega
      have q0 := (HN.out.cell (lt_of_cellq HQ4.out.1)).trans HQ4.out.1; have q1 := (HN.out.cell (lt_of_cellq HQ4.out.2.1)).trans HQ4.out.2.1; have q2 := (HN.out.cell (lt_of_cellq HQ4.out.2.2.1)).trans HQ4.out.2.2.1; have q3 := (HN.out.cell (lt_of_cellq HQ4.out.2.2.2)).trans HQ4.out.2.2.2; obtain ⟨b1, o1, c1, s0, d0, _⟩ := HC.out k hltk; have s0 := (HN.out.cell (lt_of_cellq s0)).trans s0; have d0 := (HN.out.cell (lt_of_cellq d0)).trans d0
      have HSK := Lib.hid (show ∀ W, Below wr.heap.size wr W → Calls Tryz.prog 58 #[.agg #[.int .i64 (a : Int), .int .i64 h.num, .int .i64 h.den, .slice pe h.er.length ce], .int .i64 (gi (endF p (gl (truthsF p) k)) a)] W (ShPost (shF p h (gl (truthsF p) k)) W) by
        have h1 := shown_at (ce := ce) HPO.out HH.out (HE4.out.below HN.out) HAT.out k hltk; rw [HAB.out] at h1; exact h1)
      have hpl := sh_plain HPO.out HH.out (pl := gl (truthsF p) k) (by rw [gl_get _ _ hltk]; exact List.getElem_mem hltk); have HST := Lib.hid (HSS.out k hltk); have HNT := Lib.hid (HNS.out k hltk); obtain ⟨G1, hG1⟩ : ∃ x, gi (endF p (gl (truthsF p) k)) a = x := ⟨_, rfl⟩; obtain ⟨X, hX⟩ : ∃ x, shF p h (gl (truthsF p) k) = x := ⟨_, rfl⟩; rw [hX] at HSK HST HNT hpl; obtain ⟨L1, U1⟩ := X; obtain ⟨S, hS⟩ : ∃ x, someT p h want lim k = x := ⟨_, rfl⟩; obtain ⟨N, hN⟩ : ∃ x, notT p h want lim k = x := ⟨_, rfl⟩; unfold ShPost at HSK; rw [hG1] at d0 HSK; rw [hS] at HST ⊢; rw [hN] at HNT ⊢; have HPL := Lib.hid hpl; obtain ⟨hl1, hl2, hl3⟩ := hpl; have HTS := Lib.hid (fun j => someTo_succ (L1, U1) want lim j); have HTN := Lib.hid (fun j => notTo_succ (L1, U1) want lim j); have HT0 := Lib.hid (show someTo (L1, U1) want lim 0 = false from rfl); have HTN0 := Lib.hid (show notTo (L1, U1) want lim 0 = false from rfl)
      have HTA := Lib.hid (fun (j : Nat) (hj : (j : Int) = U1 - L1 + 1) => someTo_all (s := (L1, U1)) (want := want) HLIM.out hj hl2); have HTNA := Lib.hid (fun (j : Nat) (hj : (j : Int) = U1 - L1 + 1) => notTo_all (s := (L1, U1)) (want := want) (lim := lim) hj hl2); simp only at hl1 hl2 hl3; have hwk : IntKind.i64.wrap ((k : Int) + 1) = (k : Int) + 1 := w64 _ (by omega) (by omega); clear hG1 hX hS hN; go_wp2; have HSB := Lib.hid (cl6 q0 q1 q2 q3 s0 d0); refine held6 q0 q1 q2 q3 s0 d0 (fun W0 HB0 => ?_); refine tk 0 rfl (by exact HSB.out _ HB0) ?_; (try simp only [Act.put, ptL]); refine tk 1 rfl (by exact HSB.out _ HB0) ?_; (try simp only [Act.put, ptL]); refine tk 2 rfl (by exact HSB.out _ HB0) ?_; (try simp only [Act.put, ptL]); refine tk 3 rfl (by exact HSB.out _ HB0) ?_; (try simp only [Act.put, ptL]); refine tk 4 rfl (by exact HSB.out _ HB0) ?_; (try simp only [Act.put, ptL]); refine tk 5 rfl (by exact HSB.out _ HB0) ?_; (try simp only [Act.put, ptL]); refine tk 6 rfl (by exact HSB.out _ HB0) ?_; (try simp only [Act.put, ptL]); refine tk 7 rfl (by exact HSB.out _ HB0) ?_; (try simp only [Act.put, ptL]); refine tk 8 rfl (by exact HSB.out _ HB0) ?_; (try simp only [Act.put, ptL])
      refine rz2 9 10 rfl rfl ?_ ?_
      focus
        intro K hK; go_simp; refine (HSK.out _ HB0).mono ?_; rintro e W10 ⟨rfl, hbn⟩; have HB10 : Below wr.heap.size wr W10 := HB0.trans (hbn.mono HB0.size); clear hbn; go_simp; refine kz hK (by exact HSB.out _ HB10) ?_; clear hK K; (try simp only [Act.put, ptL]); clear HB0; refine rz1 10 rfl ?_; intro K hK; go_simp; refine kz hK (by exact HSB.out _ (HB10.alloc HB10.size _)) ?_; clear hK K; (try simp only [Act.put, ptL]); refine wpAnyH_gen (fun W11 hWn => ?_); have HB11 : Below wr.heap.size wr W11 := by rw [hWn]; exact HB10.alloc HB10.size _
        have hx_s : W11.heap[W10.heap.size]? = some (.cells #[.int .i64 0, .int .i64 0] 44) := by rw [hWn]; exact alloc_new _ _
        have hl_s : wr.heap.size ≤ W10.heap.size := HB10.size; clear hWn; obtain ⟨b_s, hb_s⟩ : ∃ b, W10.heap.size = b := ⟨_, rfl⟩; rw [hb_s] at hx_s hl_s ⊢; clear HB10 hb_s; refine rz1 11 rfl ?_; intro K hK; refine set2K W11 b_s 44 _ _ (.int .i64 L1) (.int .i64 U1) hx_s (fun wa12 W12 sa sb ca0 fa0 ca1 fa1 hx4 hxk HZs hxb => ?_); have HB12 : Below wr.heap.size wr W12 := hxb wr wr.heap.size hl_s HB11; have hx_s := hx4; clear hx4 hxk hxb HZs; go_simp; refine kz hK (by exact HSB.out _ HB12) ?_; clear hK K; (try simp only [Act.put, ptL]); clear ca0 fa0 ca1 fa1 sa sb HB11; refine wpAnyH_done (by kernel_rfl) ?_ _; obtain ⟨wz, hwz⟩ : ∃ wz, wz = W12 := ⟨_, rfl⟩; subst hwz; have HBZ := HB12; clear HB12
        
      rotate_left 1
      focus
        intro K hK; go_simp; refine kz hK (by exact HSB.out _ (HB0.alloc HB0.size _)) ?_; clear hK K; (try simp only [Act.put, ptL]); refine wpAnyH_gen (fun W13 hWn => ?_); have HB13 : Below wr.heap.size wr W13 := by rw [hWn]; exact HB0.alloc HB0.size _
        have hx_s : W13.heap[W0.heap.size]? = some (.cells #[.int .i64 0, .int .i64 0] 44) := by rw [hWn]; exact alloc_new _ _
        have hl_s : wr.heap.size ≤ W0.heap.size := HB0.size; clear hWn; obtain ⟨b_s, hb_s⟩ : ∃ b, W0.heap.size = b := ⟨_, rfl⟩; rw [hb_s] at hx_s hl_s ⊢; clear HB0 hb_s; refine rz1 9 rfl ?_; intro K hK; go_simp; refine (HSK.out _ HB13).mono ?_; rintro e W14 ⟨rfl, hbn⟩; have HB14 : Below wr.heap.size wr W14 := HB13.trans (hbn.mono HB13.size); have hx_s : W14.heap[b_s]? = some (.cells #[.int .i64 0, .int .i64 0] 44) := (hbn.block _ (block_lt hx_s)).trans hx_s; clear hbn; go_simp; refine kz hK (by exact HSB.out _ HB14) ?_; clear hK K; (try simp only [Act.put, ptL]); clear HB13; refine rz1 11 rfl ?_; intro K hK; refine set2K W14 b_s 44 _ _ (.int .i64 L1) (.int .i64 U1) hx_s (fun wa15 W15 sa sb ca0 fa0 ca1 fa1 hx4 hxk HZs hxb => ?_); have HB15 : Below wr.heap.size wr W15 := hxb wr wr.heap.size hl_s HB14; have hx_s := hx4; clear hx4 hxk hxb HZs; go_simp; refine kz hK (by exact HSB.out _ HB15) ?_; clear hK K; (try simp only [Act.put, ptL])
        clear ca0 fa0 ca1 fa1 sa sb HB14; refine wpAnyH_done (by kernel_rfl) ?_ _; obtain ⟨wz, hwz⟩ : ∃ wz, wz = W15 := ⟨_, rfl⟩; subst hwz; have HBZ := HB15; clear HB15
        
      rotate_left 1
      all_goals
        obtain ⟨z0, z1⟩ := cells2 hx_s; have HBW := Lib.hid (HN.out.trans (HBZ.mono HN.out.size)); clear HBZ hx_s HSB q0 q1 q2 q3 s0 d0 HSK; go_wp2
        go_loopw [12, 13, 16] (fun s n i wr => ∃ j : Nat, (j : Int) ≤ U1 - L1 + 1 ∧ i = .int .i64 (L1 + (j : Int)) ∧ s = .bool (S || someTo (L1, U1) want lim j) ∧ n = .bool (N || notTo (L1, U1) want lim j) ∧ wr = wz) (fun _ _ i _ => (U1 + 1 - intOf i).toNat)
        case atStart => exact ⟨0, by omega, by simp, by rw [HT0.out, Bool.or_false], by rw [HTN0.out, Bool.or_false], rfl⟩
        case round =>
          obtain ⟨j, hj, rfl, rfl, rfl, rfl⟩ := hrel; obtain ⟨A, hA⟩ : ∃ x, (S || someTo (L1, U1) want lim j) = x := ⟨_, rfl⟩; obtain ⟨B, hB⟩ : ∃ x, (N || notTo (L1, U1) want lim j) = x := ⟨_, rfl⟩; rw [hA, hB]; have HA := Lib.hid hA; have HBX := Lib.hid hB; clear hA hB
          by_cases hltj : L1 + (j : Int) ≤ U1
          · have hwj : IntKind.i64.wrap (L1 + (j : Int) + 1) = L1 + ((j + 1 : Nat) : Int) := by rw [w64 _ (by omega) (by omega)]; omega
            rcases hb : inB (L1 + (j : Int)) (want - lim) (want + lim) with _ | _
            · have H1 := Lib.hid (show (S || someTo (L1, U1) want lim (j + 1)) = A by rw [HTS.out, ← HA.out]; show (S || (someTo (L1, U1) want lim j || inB (L1 + (j : Int)) (want - lim) (want + lim))) = _; rw [hb, Bool.or_false])
              have H2 := Lib.hid (show (N || notTo (L1, U1) want lim (j + 1)) = true by rw [HTN.out]; show (N || (notTo (L1, U1) want lim j || !inB (L1 + (j : Int)) (want - lim) (want + lim))) = _; rw [hb]; simp)
              (go_wp2_with fail); refine (r_in _ _ _ _).mono ?_
              rw [hb]; rintro e wx ⟨rfl, rfl⟩; clear hb; go_wp2; go_roundw
              case rel => exact ⟨j + 1, by omega, by go_num, by rw [H1.out], by rw [H2.out], by first | rfl | trivial⟩
              case measure => simp [intOf]; omega
            · have H1 := Lib.hid (show (S || someTo (L1, U1) want lim (j + 1)) = true by rw [HTS.out]; show (S || (someTo (L1, U1) want lim j || inB (L1 + (j : Int)) (want - lim) (want + lim))) = _; rw [hb]; simp)
              have H2 := Lib.hid (show (N || notTo (L1, U1) want lim (j + 1)) = B by rw [HTN.out, ← HBX.out]; show (N || (notTo (L1, U1) want lim j || !inB (L1 + (j : Int)) (want - lim) (want + lim))) = _; rw [hb]; simp)
              (go_wp2_with fail); refine (r_in _ _ _ _).mono ?_
              rw [hb]; rintro e wx ⟨rfl, rfl⟩; clear hb; go_wp2; go_roundw
              case rel => exact ⟨j + 1, by omega, by go_num, by rw [H1.out], by rw [H2.out], by first | rfl | trivial⟩
              case measure => simp [intOf]; omega
          · have hje : (j : Int) = U1 - L1 + 1 := by omega
            have H1 := Lib.hid (show someT p h want lim (k + 1) = A by rw [HST.out, ← HA.out, HTA.out j hje]); have H2 := Lib.hid (show notT p h want lim (k + 1) = B by rw [HNT.out, ← HBX.out, HTNA.out j hje]); have hltj' : decide (L1 + (j : Int) ≤ U1) = false := decide_eq_false hltj; clear hltj hje hj; go_wp2; go_roundw
            case rel => exact ⟨k + 1, by omega, by go_num, by rw [H1.out], by rw [H2.out], HBW⟩
            case measure => simp [intOf]; omega
    · obtain rfl : k = (truthsF p).length := by omega
      have hki : ¬ ((truthsF p).length : Int) < ((truthsF p).length : Int) := by omega
      have HBB := Lib.hid (HB.out.trans ((HB4.out.trans (HN.out.mono HB4.out.size)).mono HB.out.size)); rw [HSA.out, HNA.out]; obtain ⟨S, hS⟩ : ∃ x, someB p h want lim = x := ⟨_, rfl⟩; obtain ⟨N, hN⟩ : ∃ x, notB p h want lim = x := ⟨_, rfl⟩; rw [hS, hN] at HWS; rw [hS, hN]; clear hS hN
      cases S <;> cases N <;>
      · go_wp2
        go_ret; exact ⟨by rw [← HWS.out]; rfl, HBB.out⟩
end Go.Proofs.YtbknfddaoolagaaGreatDoor
end

section
namespace Go.Proofs.YtbknfddaoolagaaGreatDoor
open Go Go.RowKit Go.Proofs
set_option linter.unusedVariables false
set_option linter.unusedSimpArgs false

def briefB (h : Hd) : Bool := decide (h.er.length ≤ 10)
theorem l_brief (h : Hd) (pe : Option Addr) (ce : Nat) (w : World) : Calls Tryz.prog 12 #[hdV h pe ce] w fun e w' => e = .returned (.bool (briefB h)) ∧ Below w.heap.size w w' := by
  unfold hdV; obtain ⟨w1, e1, HS1, q0, q1, q2, q3, b1⟩ := box4 w (.int .i64 h.arb) (.int .i64 h.num) (.int .i64 h.den) (.slice pe h.er.length ce) 40; have HB := Lib.hid b1; have HD := Lib.hid (show decide ((h.er.length : Int) ≤ 10) = briefB h by unfold briefB; exact decide_eq_decide.2 (by omega)); clear b1
  by_cases hl : h.er.length ≤ 10
  · have h1 : decide ((h.er.length : Int) ≤ 10) = true := decide_eq_true (by omega)
    have H := Lib.hid (show briefB h = true from decide_eq_true hl); clear hl
    go_enter Tryz.func12, Tryz.ntmps12
    go_wp2; go_ret; exact ⟨by rw [H.out]; rfl, HB.out⟩
  · have h1 : decide ((h.er.length : Int) ≤ 10) = false := decide_eq_false (by omega)
    have H := Lib.hid (show briefB h = false from decide_eq_false hl); clear hl
    go_enter Tryz.func12, Tryz.ntmps12
    go_wp2; go_ret; exact ⟨by rw [H.out]; rfl, HB.out⟩
end Go.Proofs.YtbknfddaoolagaaGreatDoor
end

section
namespace Go.Proofs.YtbknfddaoolagaaGreatDoor
open Go Go.RowKit Go.Proofs
set_option linter.unusedVariables false
set_option linter.unusedSimpArgs false

def LAskNo (er : Int) (w : World) (e : Ending) (w' : World) : Prop := e = .returned (.tuple #[.slice none 0 0, .int .i64 er]) ∧ Below w.heap.size w w'
def LAskOk (p : Pc) (w : World) (e : Ending) (w' : World) : Prop := ∃ q c, e = .returned (.tuple #[.slice q (truthsF p).length c, .int .i64 0]) ∧ RdLs w' q (truthsF p) ∧ Below w.heap.size w w'
set_option maxRecDepth 100000 in
theorem l_asked_no (pm pv pr : Option Addr) (cm cv cr : Nat) (p : Pc) (is : Bool) (w : World) (hp : RdP w pm pv pr p) (hl : LenOk p) (h : (pieceB p && is) = false) :
    Calls Tryz.prog 17 #[.agg #[.slice pm p.ms.length cm, .slice pv p.mv.length cv, .slice pr p.rs.length cr], .bool is] w (LAskNo 2 w) := by
  obtain ⟨w1, e1, HS1, k0, k1, k2, b1⟩ := box3 w (.slice pm p.ms.length cm) (.slice pv p.mv.length cv) (.slice pr p.rs.length cr) 27; have HP := Lib.hid (hp.below b1); have HB := Lib.hid b1; clear hp b1
  rcases h2 : pieceB p with _ | _
  · clear h
    go_enter Tryz.func17, Tryz.ntmps17
    go_wp2_with fail; refine (r_Piece pm pv pr cm cv cr p _ HP.out hl).mono ?_; rw [h2]; rintro e wn ⟨rfl, bq⟩; have HBB := Lib.hid (HB.out.trans (bq.mono HB.out.size)); clear bq e1; go_wp2; refine bodyPost_ret (v := .tuple #[.slice none 0 0, .int .i64 2]) (by simp [results, Tryz.results17, go_sem]) rfl ?_; exact ⟨rfl, HBB.out⟩
  · obtain rfl : is = false := by rw [h2] at h; simpa using h
    clear h
    go_enter Tryz.func17, Tryz.ntmps17
    go_wp2_with fail; refine (r_Piece pm pv pr cm cv cr p _ HP.out hl).mono ?_; rw [h2]; rintro e wn ⟨rfl, bq⟩; have HBB := Lib.hid (HB.out.trans (bq.mono HB.out.size)); clear bq e1; go_wp2; refine bodyPost_ret (v := .tuple #[.slice none 0 0, .int .i64 2]) (by simp [results, Tryz.results17, go_sem]) rfl ?_; exact ⟨rfl, HBB.out⟩
set_option maxRecDepth 100000 in
theorem l_asked_rule (pm pv pr : Option Addr) (cm cv cr : Nat) (p : Pc) (w : World) (hp : RdP w pm pv pr p) (hl : LenOk p) (h : pieceB p = true) (ht : truthsF p = []) :
    Calls Tryz.prog 17 #[.agg #[.slice pm p.ms.length cm, .slice pv p.mv.length cv, .slice pr p.rs.length cr], .bool true] w (LAskNo 7 w) := by
  obtain ⟨w1, e1, HS1, k0, k1, k2, b1⟩ := box3 w (.slice pm p.ms.length cm) (.slice pv p.mv.length cv) (.slice pr p.rs.length cr) 27; have HP := Lib.hid (hp.below b1); have HB := Lib.hid b1; have HT := Lib.hid ht; clear hp b1 ht
  go_enter Tryz.func17, Tryz.ntmps17
  go_wp2_with fail; refine (r_Piece pm pv pr cm cv cr p _ HP.out hl).mono ?_; rw [h]; clear e1; rintro e wn ⟨rfl, bq⟩; replace HB := Lib.hid (HB.out.trans (bq.mono HB.out.size)); replace HP := Lib.hid (HP.out.below bq); have k0 := (bq.cell (lt_of_cellq k0)).trans k0; have k1 := (bq.cell (lt_of_cellq k1)).trans k1; have k2 := (bq.cell (lt_of_cellq k2)).trans k2; clear bq; go_wp2_with fail; refine (r_Truths pm pv pr cm cv cr p _ HP.out (pieceB_iff.1 h)).mono ?_; rw [HT.out]; rintro e w2 ⟨q, c, rfl, hr, bq⟩; have HBB := Lib.hid (HB.out.trans (bq.mono HB.out.size)); clear bq hr; go_wp2; refine bodyPost_ret (v := .tuple #[.slice none 0 0, .int .i64 7]) (by simp [results, Tryz.results17, go_sem]) rfl ?_; exact ⟨rfl, HBB.out⟩
set_option maxRecDepth 100000 in
theorem l_asked_ok (pm pv pr : Option Addr) (cm cv cr : Nat) (p : Pc) (w : World) (hp : RdP w pm pv pr p) (hl : LenOk p) (h : pieceB p = true) (ht : truthsF p ≠ []) :
    Calls Tryz.prog 17 #[.agg #[.slice pm p.ms.length cm, .slice pv p.mv.length cv, .slice pr p.rs.length cr], .bool true] w (LAskOk p w) := by
  obtain ⟨w1, e1, HS1, k0, k1, k2, b1⟩ := box3 w (.slice pm p.ms.length cm) (.slice pv p.mv.length cv) (.slice pr p.rs.length cr) 27; have HP := Lib.hid (hp.below b1); have HB := Lib.hid b1
  have h0 : (((truthsF p).length : Int) == 0) = false := by
    rw [beq_eq_false_iff_ne]; have := List.length_pos_iff.2 ht; omega
  clear hp b1 ht
  go_enter Tryz.func17, Tryz.ntmps17
  go_wp2_with fail; refine (r_Piece pm pv pr cm cv cr p _ HP.out hl).mono ?_; rw [h]; clear e1; rintro e wn ⟨rfl, bq⟩; replace HB := Lib.hid (HB.out.trans (bq.mono HB.out.size)); replace HP := Lib.hid (HP.out.below bq); have k0 := (bq.cell (lt_of_cellq k0)).trans k0; have k1 := (bq.cell (lt_of_cellq k1)).trans k1; have k2 := (bq.cell (lt_of_cellq k2)).trans k2; clear bq; go_wp2_with fail; refine (r_Truths pm pv pr cm cv cr p _ HP.out (pieceB_iff.1 h)).mono ?_; rintro e w2 ⟨q, c, rfl, hr, bq⟩; have HBB := Lib.hid (HB.out.trans (bq.mono HB.out.size)); have HR := Lib.hid hr; clear bq hr; go_wp2; refine bodyPost_ret (v := .tuple #[.slice q (truthsF p).length c, .int .i64 0]) (by simp [results, Tryz.results17, go_sem]) rfl ?_; exact ⟨q, c, rfl, HR.out, HBB.out⟩
end Go.Proofs.YtbknfddaoolagaaGreatDoor
end

section
namespace Go.Proofs.YtbknfddaoolagaaGreatDoor
open Go Go.RowKit Go.Proofs
set_option linter.unusedVariables false
set_option linter.unusedSimpArgs false
attribute [local go_sem] imax2 imin2

end Go.Proofs.YtbknfddaoolagaaGreatDoor
end

section
namespace Go.Proofs.YtbknfddaoolagaaGreatDoor
open Go Go.RowKit Go.Proofs
set_option linter.unusedVariables false
set_option linter.unusedSimpArgs false
attribute [local go_sem] imax2 imin2

end Go.Proofs.YtbknfddaoolagaaGreatDoor
end

section
namespace Go.Proofs.YtbknfddaoolagaaGreatDoor
open Go Go.RowKit Go.Proofs
set_option linter.unusedVariables false
set_option linter.unusedSimpArgs false
attribute [local go_sem] imax2 imin2

end Go.Proofs.YtbknfddaoolagaaGreatDoor
end

section
namespace Go.Proofs.YtbknfddaoolagaaGreatDoor
open Go Go.RowKit Go.Proofs
set_option linter.unusedVariables false
set_option linter.unusedSimpArgs false
attribute [local go_sem] imax2 imin2

end Go.Proofs.YtbknfddaoolagaaGreatDoor
end

section
namespace Go.Proofs.YtbknfddaoolagaaGreatDoor
open Go Go.RowKit Go.Proofs
set_option linter.unusedVariables false
set_option linter.unusedSimpArgs false

end Go.Proofs.YtbknfddaoolagaaGreatDoor
end

section
namespace Go.Proofs.YtbknfddaoolagaaGreatDoor
open Go Go.RowKit Go.Proofs
set_option linter.unusedVariables false
set_option linter.unusedSimpArgs false
attribute [local go_sem] imax2 imin2

theorem r_Far (n : Int) (w : World) : Calls Tryz.prog 19 #[.int .i64 n] w fun e w' => e = .returned (.bool (inB n (-5000) 5000)) ∧ Below w.heap.size w w' := by
  go_enter Tryz.func19, Tryz.ntmps19
  (go_wp2_with fail); refine (r_in _ _ _ _).mono ?_
  rintro e wn ⟨rfl, rfl⟩; go_wp2; go_ret; exact ⟨rfl, Below.refl _ _⟩
theorem r_Limit (n : Int) (w : World) : Calls Tryz.prog 20 #[.int .i64 n] w fun e w' => e = .returned (.bool (inB n 0 5000)) ∧ Below w.heap.size w w' := by
  go_enter Tryz.func20, Tryz.ntmps20
  (go_wp2_with fail); refine (r_in _ _ _ _).mono ?_
  rintro e wn ⟨rfl, rfl⟩; go_wp2; go_ret; exact ⟨rfl, Below.refl _ _⟩
end Go.Proofs.YtbknfddaoolagaaGreatDoor
end

section
namespace Go.Proofs.YtbknfddaoolagaaGreatDoor
open Go Go.RowKit Go.Proofs
set_option linter.unusedVariables false
attribute [local go_sem] imax2 imin2

theorem c_Hand (pm pv pr : Option Addr) (cm cv cr : Nat) (p : Pc) (h : Hd) (pe : Option Addr) (ce : Nat) (w : World) (hp : RdP w pm pv pr p) (hl : LenOk p) (hh : RdS w pe h.er) (hle : h.er.length ≤ 1000000) :
    Calls Tryz.prog 13 #[.agg #[.slice pm p.ms.length cm, .slice pv p.mv.length cv, .slice pr p.rs.length cr], hdV h pe ce] w fun e w' => e = .returned (.int .i64 (if (pieceB p && handB p.ms.length h) = true then 0 else 2)) ∧ Below w.heap.size w w' := by
  obtain ⟨w0, e0, HS0, k0, k1, k2, b0⟩ := box3 w (.slice pm p.ms.length cm) (.slice pv p.mv.length cv) (.slice pr p.rs.length cr) 27; obtain ⟨w1, e1, HS1, q0, q1, q2, q3, b1⟩ := box4 w0 (.int .i64 h.arb) (.int .i64 h.num) (.int .i64 h.den) (.slice pe h.er.length ce) 40; have HP := Lib.hid ((hp.below b0).below b1); have HE := Lib.hid ((hh.below b0).below b1); have HB := Lib.hid (b0.trans (b1.mono b0.size)); have k0 := (b1.cell (lt_of_cellq k0)).trans k0; have k1 := (b1.cell (lt_of_cellq k1)).trans k1; have k2 := (b1.cell (lt_of_cellq k2)).trans k2; have HL := Lib.hid hl; clear b0 b1 hh hp hl; unfold hdV
  rcases h1 : pieceB p with _ | _
  · go_enter Tryz.func13, Tryz.ntmps13
    go_wp2_with fail; refine (c_isPiece pm pv pr cm cv cr p _ HP.out HL.out).mono ?_; rw [h1]; rintro e wn ⟨rfl, bq⟩; replace HB := Lib.hid (HB.out.trans (bq.mono HB.out.size)); clear bq e0 e1; go_wp2; go_ret; exact ⟨rfl, HB.out⟩
  · have hc := fun w hh => c_isHand pm pv pr cm cv cr p h pe ce w hh hle
    unfold hdV at hc; have HC := Lib.hid hc; clear hc
    rcases h2 : handB p.ms.length h with _ | _
    · go_enter Tryz.func13, Tryz.ntmps13
      go_wp2_with fail; refine (c_isPiece pm pv pr cm cv cr p _ HP.out HL.out).mono ?_; rw [h1]; rintro e wn ⟨rfl, bq⟩; replace HB := Lib.hid (HB.out.trans (bq.mono HB.out.size)); replace HE := Lib.hid (HE.out.below bq); have k0 := (bq.cell (lt_of_cellq k0)).trans k0; have k1 := (bq.cell (lt_of_cellq k1)).trans k1; have k2 := (bq.cell (lt_of_cellq k2)).trans k2; have q0 := (bq.cell (lt_of_cellq q0)).trans q0; have q1 := (bq.cell (lt_of_cellq q1)).trans q1; have q2 := (bq.cell (lt_of_cellq q2)).trans q2; have q3 := (bq.cell (lt_of_cellq q3)).trans q3; clear bq e0 e1; go_wp2_with fail; refine (HC.out _ HE.out).mono ?_; rw [h2]; rintro e wn2 ⟨rfl, bq⟩; replace HB := Lib.hid (HB.out.trans (bq.mono HB.out.size)); clear bq; go_wp2; go_ret; exact ⟨rfl, HB.out⟩
    · go_enter Tryz.func13, Tryz.ntmps13
      go_wp2_with fail; refine (c_isPiece pm pv pr cm cv cr p _ HP.out HL.out).mono ?_; rw [h1]; rintro e wn ⟨rfl, bq⟩; replace HB := Lib.hid (HB.out.trans (bq.mono HB.out.size)); replace HE := Lib.hid (HE.out.below bq); have k0 := (bq.cell (lt_of_cellq k0)).trans k0; have k1 := (bq.cell (lt_of_cellq k1)).trans k1; have k2 := (bq.cell (lt_of_cellq k2)).trans k2; have q0 := (bq.cell (lt_of_cellq q0)).trans q0; have q1 := (bq.cell (lt_of_cellq q1)).trans q1; have q2 := (bq.cell (lt_of_cellq q2)).trans q2; have q3 := (bq.cell (lt_of_cellq q3)).trans q3; clear bq e0 e1; go_wp2_with fail; refine (HC.out _ HE.out).mono ?_; rw [h2]; rintro e wn2 ⟨rfl, bq⟩; replace HB := Lib.hid (HB.out.trans (bq.mono HB.out.size)); clear bq; go_wp2; go_ret; exact ⟨rfl, HB.out⟩
end Go.Proofs.YtbknfddaoolagaaGreatDoor
end

section
namespace Go.Proofs.YtbknfddaoolagaaGreatDoor
open Go Go.RowKit Go.Proofs
set_option linter.unusedVariables false

theorem ixW0 (w : World) : (Instr.index 148 (.agg #[.int .i64 1, .int .i64 2, .int .i64 3]) (.int .i64 0)).run Tryz.prog w = .ok (.int .i64 1) w := by kernel_rfl
theorem ixW1 (w : World) : (Instr.index 148 (.agg #[.int .i64 1, .int .i64 2, .int .i64 3]) (.int .i64 1)).run Tryz.prog w = .ok (.int .i64 2) w := by kernel_rfl
theorem ixW2 (w : World) : (Instr.index 148 (.agg #[.int .i64 1, .int .i64 2, .int .i64 3]) (.int .i64 2)).run Tryz.prog w = .ok (.int .i64 3) w := by kernel_rfl
set_option maxRecDepth 100000 in
theorem c_word0 (w : World) : Calls Tryz.prog 55 #[.int .i64 0] w fun e w' => e = .returned (.int .i64 1) ∧ Below w.heap.size w w' := by
  have hx := ixW0 w
  go_enter Tryz.func55, Tryz.ntmps55
  go_wp2; go_ret; exact ⟨rfl, Below.refl _ _⟩
set_option maxRecDepth 100000 in
theorem c_word1 (w : World) : Calls Tryz.prog 55 #[.int .i64 1] w fun e w' => e = .returned (.int .i64 2) ∧ Below w.heap.size w w' := by
  have hx := ixW1 w
  go_enter Tryz.func55, Tryz.ntmps55
  go_wp2; go_ret; exact ⟨rfl, Below.refl _ _⟩
set_option maxRecDepth 100000 in
theorem c_word2 (w : World) : Calls Tryz.prog 55 #[.int .i64 2] w fun e w' => e = .returned (.int .i64 3) ∧ Below w.heap.size w w' := by
  have hx := ixW2 w
  go_enter Tryz.func55, Tryz.ntmps55
  go_wp2; go_ret; exact ⟨rfl, Below.refl _ _⟩
end Go.Proofs.YtbknfddaoolagaaGreatDoor
end

section
namespace Go.Proofs.YtbknfddaoolagaaGreatDoor
open Go Go.RowKit Go.Proofs
theorem mrgH {G : Prop} (A : Prop) (k : A) (f : Hid A → G) : G := f (Lib.hid k)
theorem nrm {P : Program} {md : Region.Mode} {ops : Array Oper} {Q : Exit → Act → World → Prop} {S : World → Prop} {fuel : Nat} {l : Array Bool} {a : Act} {w : World} (L : List Bool) (h : wpAnyH P md ops Q S fuel L.toArray a w) (e : l = L.toArray := by kernel_rfl) : wpAnyH P md ops Q S fuel l a w := e ▸ h
def bts (n m : Nat) : List Bool := (List.range n).map fun i => m.testBit i
end Go.Proofs.YtbknfddaoolagaaGreatDoor
end

section
namespace Go.Proofs.YtbknfddaoolagaaGreatDoor
set_option linter.unusedSimpArgs false
open Go Go.RowKit Go.Proofs
set_option linter.unusedVariables false
attribute [local go_sem] imax2 imin2

theorem c_isPlaceC (n : Int) (w : World) : Calls Tryz.prog 53 #[.int .i64 n] w fun e w' => e = .returned (.bool (inB n (-5000) 5000)) ∧ Below w.heap.size w w' :=
  (c_isPlace n w).mono fun e w' h => ⟨h.1, h.2 ▸ Below.refl _ _⟩
theorem c_isLimitC (n : Int) (w : World) : Calls Tryz.prog 54 #[.int .i64 n] w fun e w' => e = .returned (.bool (inB n 0 5000)) ∧ Below w.heap.size w w' :=
  (c_isLimit n w).mono fun e w' h => ⟨h.1, h.2 ▸ Below.refl _ _⟩
def sureErr (p : Pc) (h : Hd) (want lim : Int) : Int := errF p ((handB p.ms.length h && inB want (-5000) 5000) && inB lim 0 5000)
def sureOut (p : Pc) (h : Hd) (want lim : Int) : Int := if sureErr p h want lim = 0 then sureF p h want lim else 0
def SurePost (p : Pc) (h : Hd) (want lim : Int) (w : World) (e : Ending) (w' : World) : Prop := e = .returned (.tuple #[.int .i64 (sureOut p h want lim), .int .i64 (sureErr p h want lim)]) ∧ Below w.heap.size w w'
set_option maxHeartbeats 6400000 in
set_option maxRecDepth 100000 in
theorem c_Sure (pm pv pr : Option Addr) (cm cv cr : Nat) (p : Pc) (h : Hd) (pe : Option Addr) (ce : Nat) (want lim : Int) (w : World) (hp : RdP w pm pv pr p) (hl : LenOk p) (hh : RdS w pe h.er) (hle : h.er.length ≤ 1000000) :
    Calls Tryz.prog 15 #[.agg #[.slice pm p.ms.length cm, .slice pv p.mv.length cv, .slice pr p.rs.length cr], hdV h pe ce, .int .i64 want, .int .i64 lim] w (SurePost p h want lim w) := by
  have hc := fun w hh => c_isHand pm pv pr cm cv cr p h pe ce w hh hle
  have hsw := fun q nq cq p2 n c2 nn e W => c_shows q nq cq p2 n c2 nn h pe ce e W
  unfold hdV at hc hsw ⊢; obtain ⟨w1, e1, HS1, k0, k1, k2, b1⟩ := box3 w (.slice pm p.ms.length cm) (.slice pv p.mv.length cv) (.slice pr p.rs.length cr) 27; obtain ⟨w2, e2, HS2, q0, q1, q2, q3, b2⟩ := box4 w1 (.int .i64 h.arb) (.int .i64 h.num) (.int .i64 h.den) (.slice pe h.er.length ce) 40; have b12 := b1.trans (b2.mono b1.size); have k0 := (b2.cell (lt_of_cellq k0)).trans k0; have k1 := (b2.cell (lt_of_cellq k1)).trans k1; have k2 := (b2.cell (lt_of_cellq k2)).trans k2; have HPW := Lib.hid (fun (W : World) (hb : Below w2.heap.size w2 W) => (hp.below b12).below hb); have HEW := Lib.hid (fun (W : World) (hb : Below w2.heap.size w2 W) => (hh.below b12).below hb); have HL := Lib.hid hl; have HC := Lib.hid hc; have HSW := Lib.hid hsw; have HB := Lib.hid b12; have HRH := Lib.hid (fun (W : World) (hb : Below w2.heap.size w2 W) => cl4 q0 q1 q2 q3 W hb); clear hp hh hl hc hsw b1 b2 b12
  go_enter Tryz.func15, Tryz.ntmps15
  go_upto_region 1 with (fail); clear e1 e2; refine Code.wp_mono (Q := fun e a wz => e = .normal ∧ ∃ (bx : Nat) (qa : Option Addr) (na ca : Nat) (qb : Option Addr) (nb cb : Nat) (qc : Option Addr) (nc cc : Nat) (qd : Option Addr) (nd cd : Nat) (er : Int) (g21 g22 g23 g24 g25 g26 g27 g28 g29 : Value), a = { tmps := #[.agg #[.slice pm p.ms.length cm, .slice pv p.mv.length cv, .slice pr p.rs.length cr], .agg #[.int .i64 h.arb, .int .i64 h.num, .int .i64 h.den, .slice pe h.er.length ce], .int .i64 want, .int .i64 lim, .pointer (some ⟨w.heap.size, 0, none⟩), .pointer (some ⟨w1.heap.size, 0, none⟩), undef, undef, .int .i64 0, .int .i64 0, .pointer (some ⟨bx, 0, none⟩), .int .i64 er, undef, undef, undef, undef, undef, .tuple #[.agg #[.slice qa na ca, .slice qb nb cb, .slice qc nc cc, .slice qd nd cd], .int .i64 er], .agg #[.slice pm p.ms.length cm, .slice pv p.mv.length cv, .slice pr p.rs.length cr], .agg #[.slice pm p.ms.length cm, .slice pv p.mv.length cv, .slice pr p.rs.length cr], .agg #[.int .i64 h.arb, .int .i64 h.num, .int .i64 h.den, .slice pe h.er.length ce], g21, g22, g23, g24, g25, g26, g27, g28, g29, .tuple #[.agg #[.slice qa na ca, .slice qb nb cb, .slice qc nc cc, .slice qd nd cd], .int .i64 er], .agg #[.slice qa na ca, .slice qb nb cb, .slice qc nc cc, .slice qd nd cd], .int .i64 er, undef, undef, undef, undef, undef, undef, undef, undef, undef, undef, undef, undef, undef, undef, undef, undef, undef, undef, undef, undef, undef, undef, undef, undef, undef, undef, undef, undef, undef, undef, undef, undef, undef, undef, undef, undef, undef, undef, undef, undef, undef, undef, undef, undef, undef, undef, undef, undef, undef, undef, undef, undef, undef, undef, undef, undef], defers := [] } ∧ Hid (wz.heap[bx]? = some (.cells #[.slice qa na ca, .slice qb nb cb, .slice qc nc cc, .slice qd nd cd] 93 (0, 0))) ∧ Hid (AskZ pm pv pr cm cv cr p ((handB p.ms.length h && inB want (-5000) 5000) && inB lim 0 5000) (.slice qa na ca) (.slice qb nb cb) (.slice qc nc cc) (.slice qd nd cd) er wz) ∧ Hid (Below w2.heap.size w2 wz) ∧ Hid (w2.heap.size ≤ bx)) ?imp ?reg
  case reg =>
    rcases hF1 : handB p.ms.length h with _ | _
    · skip
      have HSB := Lib.hid (cl7 k0 k1 k2 q0 q1 q2 q3); apply mrgH; rotate_left; intro key9; apply mrgH; rotate_left; intro key8; apply mrgH; rotate_left; intro key7; apply mrgH; rotate_left; intro key6; apply mrgH; rotate_left; intro key5; apply mrgH; rotate_left; intro key4; apply mrgH; rotate_left; intro key3; apply mrgH; rotate_left; intro key2; apply mrgH; rotate_left; intro key1
      · refine held7 k0 k1 k2 q0 q1 q2 q3 (fun W HB => ?_)
        refine tk 0 rfl (by exact HSB.out _ HB) ?_; (try simp only [Act.put, ptL]); refine tk 1 rfl (by exact HSB.out _ HB) ?_; (try simp only [Act.put, ptL]); refine tk 2 rfl (by exact HSB.out _ HB) ?_; (try simp only [Act.put, ptL]); refine rz2 3 16 rfl rfl ?_ ?_
        · intro K hK
          go_simp
          (with_reducible refine (HC.out W (HEW.out _ HB)).mono ?_)
          rw [hF1]; rintro e WN ⟨rfl, hbn⟩; have HBN : Below w2.heap.size w2 WN := HB.trans (hbn.mono HB.size); clear hbn HB; refine kz hK (by exact HSB.out _ HBN) ?_; clear hK K; (try simp only [Act.put, ptL]); refine tk 4 rfl (by exact HSB.out _ HBN) ?_; (try simp only [Act.put, ptL]); refine tu 5 rfl (by exact HSB.out _ HBN) ?_; (try simp only [Act.put, ptL]); refine nrm (bts 19 63) ?_; have HB := HBN; clear HBN
          revert HB; revert WN; exact key1.out
        · intro K hK
          go_simp; refine kz hK (by exact HSB.out _ (HB.alloc HB.size _)) ?_; clear hK K; (try simp only [Act.put, ptL]); refine wpAnyH_gen (fun WN hWn => ?_); have hbn : Below W.heap.size W WN := by rw [hWn]; exact below_alloc1 _ _
          have hx_x : WN.heap[W.heap.size]? = some (.cells #[.slice none 0 0, .slice none 0 0, .slice none 0 0, .slice none 0 0] 93) := by rw [hWn]; exact alloc_new _ _
          have hl_x : w2.heap.size ≤ W.heap.size := HB.size; have HBN : Below w2.heap.size w2 WN := HB.trans (hbn.mono HB.size); clear hbn HB hWn; obtain ⟨b_x, hb_x⟩ : ∃ b, W.heap.size = b := ⟨_, rfl⟩; rw [hb_x] at hx_x hl_x  ⊢; clear hb_x; refine nrm (bts 19 65543) ?_; have HB := HBN; clear HBN
          revert hl_x; revert hx_x; revert b_x; revert HB; revert WN; exact key2.out
      rotate_right
      · intro W HB
        refine rz2 6 16 rfl rfl ?_ ?_
        · intro K hK
          with_reducible refine unw ?hbu1 ?hqu1
          case hbu1 => kernel_rfl
          refine kz hK (by exact HSB.out _ HB) ?_; clear hK K; (try simp only [Act.put, ptL]); refine tk 7 rfl (by exact HSB.out _ HB) ?_; (try simp only [Act.put, ptL]); refine tk 8 rfl (by exact HSB.out _ HB) ?_; (try simp only [Act.put, ptL]); refine tu 9 rfl (by exact HSB.out _ HB) ?_; (try simp only [Act.put, ptL]); refine nrm (bts 19 1023) ?_
          revert HB; revert W; exact key3.out
        · intro K hK
          go_simp; refine kz hK (by exact HSB.out _ (HB.alloc HB.size _)) ?_; clear hK K; (try simp only [Act.put, ptL]); refine wpAnyH_gen (fun WN hWn => ?_); have hbn : Below W.heap.size W WN := by rw [hWn]; exact below_alloc1 _ _
          have hx_x : WN.heap[W.heap.size]? = some (.cells #[.slice none 0 0, .slice none 0 0, .slice none 0 0, .slice none 0 0] 93) := by rw [hWn]; exact alloc_new _ _
          have hl_x : w2.heap.size ≤ W.heap.size := HB.size; have HBN : Below w2.heap.size w2 WN := HB.trans (hbn.mono HB.size); clear hbn HB hWn; obtain ⟨b_x, hb_x⟩ : ∃ b, W.heap.size = b := ⟨_, rfl⟩; rw [hb_x] at hx_x hl_x  ⊢; clear hb_x; refine nrm (bts 19 65599) ?_; have HB := HBN; clear HBN
          revert hl_x; revert hx_x; revert b_x; revert HB; revert WN; exact key4.out
      rotate_right
      · intro W HB b_x hx_x hl_x
        refine rz1 3 rfl ?_
        · intro K hK
          go_simp
          (with_reducible refine (HC.out W (HEW.out _ HB)).mono ?_)
          rw [hF1]; rintro e WN ⟨rfl, hbn⟩; have HBN : Below w2.heap.size w2 WN := HB.trans (hbn.mono HB.size); replace hx_x := (hbn.block _ (block_lt hx_x)).trans hx_x; clear hbn HB; refine kz hK (by exact HSB.out _ HBN) ?_; clear hK K; (try simp only [Act.put, ptL]); refine tk 4 rfl (by exact HSB.out _ HBN) ?_; (try simp only [Act.put, ptL]); refine tu 5 rfl (by exact HSB.out _ HBN) ?_; (try simp only [Act.put, ptL]); refine nrm (bts 19 65599) ?_; have HB := HBN; clear HBN
          revert hl_x; revert hx_x; revert b_x; revert HB; revert WN; exact key4.out
      rotate_right
      · intro W HB
        refine rz2 10 16 rfl rfl ?_ ?_
        · intro K hK
          with_reducible refine unw ?hbu2 ?hqu2
          case hbu2 => kernel_rfl
          refine kz hK (by exact HSB.out _ HB) ?_; clear hK K; (try simp only [Act.put, ptL]); refine tk 11 rfl (by exact HSB.out _ HB) ?_; (try simp only [Act.put, ptL]); refine nrm (bts 19 4095) ?_
          revert HB; revert W; exact key5.out
        · intro K hK
          go_simp; refine kz hK (by exact HSB.out _ (HB.alloc HB.size _)) ?_; clear hK K; (try simp only [Act.put, ptL]); refine wpAnyH_gen (fun WN hWn => ?_); have hbn : Below W.heap.size W WN := by rw [hWn]; exact below_alloc1 _ _
          have hx_x : WN.heap[W.heap.size]? = some (.cells #[.slice none 0 0, .slice none 0 0, .slice none 0 0, .slice none 0 0] 93) := by rw [hWn]; exact alloc_new _ _
          have hl_x : w2.heap.size ≤ W.heap.size := HB.size; have HBN : Below w2.heap.size w2 WN := HB.trans (hbn.mono HB.size); clear hbn HB hWn; obtain ⟨b_x, hb_x⟩ : ∃ b, W.heap.size = b := ⟨_, rfl⟩; rw [hb_x] at hx_x hl_x  ⊢; clear hb_x; refine nrm (bts 19 66559) ?_; have HB := HBN; clear HBN
          revert hl_x; revert hx_x; revert b_x; revert HB; revert WN; exact key6.out
      rotate_right
      · intro W HB b_x hx_x hl_x
        refine rz1 6 rfl ?_
        · intro K hK
          with_reducible refine unw ?hbu3 ?hqu3
          case hbu3 => kernel_rfl
          refine kz hK (by exact HSB.out _ HB) ?_; clear hK K; (try simp only [Act.put, ptL]); refine tk 7 rfl (by exact HSB.out _ HB) ?_; (try simp only [Act.put, ptL]); refine tk 8 rfl (by exact HSB.out _ HB) ?_; (try simp only [Act.put, ptL]); refine tu 9 rfl (by exact HSB.out _ HB) ?_; (try simp only [Act.put, ptL]); refine nrm (bts 19 66559) ?_
          revert hl_x; revert hx_x; revert b_x; revert HB; revert W; exact key6.out
      rotate_right
      · intro W HB
        refine rz2 12 16 rfl rfl ?_ ?_
        · intro K hK
          go_simp
          (with_reducible refine (c_askedG pm pv pr cm cv cr p false W (HPW.out _ HB) HL.out).mono ?_)
          rintro e WN ⟨qa, na, ca, qb, nb, cb, qc, nc, cc, qd, nd, cd, er, rfl, hmk, hbn⟩; obtain ⟨WA, hWA⟩ : ∃ X, X = W := ⟨_, rfl⟩; obtain ⟨WB, hWB⟩ : ∃ X, X = WN := ⟨_, rfl⟩; have HQ : ∀ k, WA.heap.size ≤ k → k < WB.heap.size → WN.heap[k]? = WB.heap[k]? := fun k _ _ => by rw [hWB]
          have hqs : WB.heap.size ≤ WN.heap.size := by rw [hWB]; exact Nat.le_refl _
          rw [← hWA, ← hWB] at hmk; have HBN : Below w2.heap.size w2 WN := HB.trans (hbn.mono HB.size); clear hWA hWB; clear hbn HB; refine kz hK (by exact HSB.out _ HBN) ?_; clear hK K; (try simp only [Act.put, ptL]); refine tk 13 rfl (by exact HSB.out _ HBN) ?_; (try simp only [Act.put, ptL]); refine tk 14 rfl (by exact HSB.out _ HBN) ?_; (try simp only [Act.put, ptL]); refine tk 15 rfl (by exact HSB.out _ HBN) ?_; (try simp only [Act.put, ptL]); refine nrm (bts 19 65535) ?_; have HB := HBN; clear HBN
          revert hqs; revert HQ; revert hmk; revert WB; revert WA; revert er; revert cd; revert nd; revert qd; revert cc; revert nc; revert qc; revert cb; revert nb; revert qb; revert ca; revert na; revert qa; revert HB; revert WN; exact key7.out
        · intro K hK
          go_simp; refine kz hK (by exact HSB.out _ (HB.alloc HB.size _)) ?_; clear hK K; (try simp only [Act.put, ptL]); refine wpAnyH_gen (fun WN hWn => ?_); have hbn : Below W.heap.size W WN := by rw [hWn]; exact below_alloc1 _ _
          have hx_x : WN.heap[W.heap.size]? = some (.cells #[.slice none 0 0, .slice none 0 0, .slice none 0 0, .slice none 0 0] 93) := by rw [hWn]; exact alloc_new _ _
          have hl_x : w2.heap.size ≤ W.heap.size := HB.size; have HBN : Below w2.heap.size w2 WN := HB.trans (hbn.mono HB.size); clear hbn HB hWn; obtain ⟨b_x, hb_x⟩ : ∃ b, W.heap.size = b := ⟨_, rfl⟩; rw [hb_x] at hx_x hl_x  ⊢; clear hb_x; refine nrm (bts 19 69631) ?_; have HB := HBN; clear HBN
          revert hl_x; revert hx_x; revert b_x; revert HB; revert WN; exact key8.out
      rotate_right
      · intro W HB b_x hx_x hl_x
        refine rz1 10 rfl ?_
        · intro K hK
          with_reducible refine unw ?hbu4 ?hqu4
          case hbu4 => kernel_rfl
          refine kz hK (by exact HSB.out _ HB) ?_; clear hK K; (try simp only [Act.put, ptL]); refine tk 11 rfl (by exact HSB.out _ HB) ?_; (try simp only [Act.put, ptL]); refine nrm (bts 19 69631) ?_
          revert hl_x; revert hx_x; revert b_x; revert HB; revert W; exact key8.out
      rotate_right
      · intro W HB qa na ca qb nb cb qc nc cc qd nd cd er WA WB hmk HQ hqs
        refine rz1 16 rfl ?_
        · intro K hK
          go_simp; refine kz hK (by exact HSB.out _ (HB.alloc HB.size _)) ?_; clear hK K; (try simp only [Act.put, ptL]); refine wpAnyH_gen (fun WN hWn => ?_); have hbn : Below W.heap.size W WN := by rw [hWn]; exact below_alloc1 _ _
          have hx_x : WN.heap[W.heap.size]? = some (.cells #[.slice none 0 0, .slice none 0 0, .slice none 0 0, .slice none 0 0] 93) := by rw [hWn]; exact alloc_new _ _
          have hl_x : w2.heap.size ≤ W.heap.size := HB.size; have HBN : Below w2.heap.size w2 WN := HB.trans (hbn.mono HB.size); have hq_x : W.heap.size < WA.heap.size ∨ WB.heap.size ≤ W.heap.size := .inr hqs; replace HQ := fun (k : Nat) (h1 : WA.heap.size ≤ k) (h2 : k < WB.heap.size) => (hbn.block k (Nat.lt_of_lt_of_le h2 hqs)).trans (HQ k h1 h2)
          replace hqs := Nat.le_trans hqs hbn.size; clear hbn HB hWn; obtain ⟨b_x, hb_x⟩ : ∃ b, W.heap.size = b := ⟨_, rfl⟩; rw [hb_x] at hx_x hl_x  hq_x ⊢; clear hb_x; refine nrm (bts 19 131071) ?_; have HB := HBN; clear HBN
          revert hq_x; revert hl_x; revert hx_x; revert hqs; revert HQ; revert hmk; revert b_x; revert WB; revert WA; revert er; revert cd; revert nd; revert qd; revert cc; revert nc; revert qc; revert cb; revert nb; revert qb; revert ca; revert na; revert qa; revert HB; revert WN; exact key9.out
      rotate_right
      · intro W HB b_x hx_x hl_x
        refine rz1 12 rfl ?_
        · intro K hK
          go_simp
          (with_reducible refine (c_askedG pm pv pr cm cv cr p false W (HPW.out _ HB) HL.out).mono ?_)
          rintro e WN ⟨qa, na, ca, qb, nb, cb, qc, nc, cc, qd, nd, cd, er, rfl, hmk, hbn⟩; obtain ⟨WA, hWA⟩ : ∃ X, X = W := ⟨_, rfl⟩; obtain ⟨WB, hWB⟩ : ∃ X, X = WN := ⟨_, rfl⟩; have HQ : ∀ k, WA.heap.size ≤ k → k < WB.heap.size → WN.heap[k]? = WB.heap[k]? := fun k _ _ => by rw [hWB]
          have hqs : WB.heap.size ≤ WN.heap.size := by rw [hWB]; exact Nat.le_refl _
          rw [← hWA, ← hWB] at hmk; have HBN : Below w2.heap.size w2 WN := HB.trans (hbn.mono HB.size); have hq_x : b_x < WA.heap.size ∨ WB.heap.size ≤ b_x := .inl (by rw [hWA]; exact block_lt hx_x); clear hWA hWB; replace hx_x := (hbn.block _ (block_lt hx_x)).trans hx_x; clear hbn HB; refine kz hK (by exact HSB.out _ HBN) ?_; clear hK K; (try simp only [Act.put, ptL]); refine tk 13 rfl (by exact HSB.out _ HBN) ?_; (try simp only [Act.put, ptL]); refine tk 14 rfl (by exact HSB.out _ HBN) ?_; (try simp only [Act.put, ptL]); refine tk 15 rfl (by exact HSB.out _ HBN) ?_; (try simp only [Act.put, ptL]); refine nrm (bts 19 131071) ?_; have HB := HBN; clear HBN
          revert hq_x; revert hl_x; revert hx_x; revert hqs; revert HQ; revert hmk; revert b_x; revert WB; revert WA; revert er; revert cd; revert nd; revert qd; revert cc; revert nc; revert qc; revert cb; revert nb; revert qb; revert ca; revert na; revert qa; revert HB; revert WN; exact key9.out
      rotate_right
      · intro W HB qa na ca qb nb cb qc nc cc qd nd cd er WA WB b_x hmk HQ hqs hx_x hl_x hq_x
        refine rz1 17 rfl ?_; intro K hK; refine set4K W b_x 93 _ _ _ _ (.slice qa na ca) (.slice qb nb cb) (.slice qc nc cc) (.slice qd nd cd) hx_x (fun wa wb wc WN sa sb sc sd ca0 fa0 ca1 fa1 ca2 fa2 ca3 fa3 hx4 hxk HZs hxb => ?_); have HBN : Below w2.heap.size w2 WN := hxb w2 w2.heap.size hl_x HB; replace hx_x := hx4; replace HQ : ∀ k, WA.heap.size ≤ k → k < WB.heap.size → WN.heap[k]? = WB.heap[k]? := fun k h1 h2 => (hxk k (by omega)).trans (HQ k h1 h2)
        clear hx4 hxk hxb HZs HB; go_simp; refine kz hK (by exact HSB.out _ HBN) ?_; clear hK K; (try simp only [Act.put, ptL]); clear ca0 ca1 ca2 ca3 fa0 fa1 fa2 fa3 sa sb sc sd; refine tk 18 rfl (by exact HSB.out _ HBN) ?_; (try simp only [Act.put, ptL]); refine wpAnyH_done (by kernel_rfl) ?_ _; exact ⟨rfl, _, _, _, _, _, _, _, _, _, _, _, _, _, _, _, _, _, _, _, _, _, _, _, rfl, Lib.hid hx_x, Lib.hid (by rw [Bool.false_and, Bool.false_and]; exact hmk.out.at HQ), Lib.hid HBN, Lib.hid hl_x⟩
    rcases hF2 : inB want (-5000) 5000 with _ | _
    · skip
      have HSB := Lib.hid (cl7 k0 k1 k2 q0 q1 q2 q3); apply mrgH; rotate_left; intro key9; apply mrgH; rotate_left; intro key8; apply mrgH; rotate_left; intro key7; apply mrgH; rotate_left; intro key6; apply mrgH; rotate_left; intro key5; apply mrgH; rotate_left; intro key4; apply mrgH; rotate_left; intro key3; apply mrgH; rotate_left; intro key2; apply mrgH; rotate_left; intro key1
      · refine held7 k0 k1 k2 q0 q1 q2 q3 (fun W HB => ?_)
        refine tk 0 rfl (by exact HSB.out _ HB) ?_; (try simp only [Act.put, ptL]); refine tk 1 rfl (by exact HSB.out _ HB) ?_; (try simp only [Act.put, ptL]); refine tk 2 rfl (by exact HSB.out _ HB) ?_; (try simp only [Act.put, ptL]); refine rz2 3 16 rfl rfl ?_ ?_
        · intro K hK
          go_simp
          (with_reducible refine (HC.out W (HEW.out _ HB)).mono ?_)
          rw [hF1]; rintro e WN ⟨rfl, hbn⟩; have HBN : Below w2.heap.size w2 WN := HB.trans (hbn.mono HB.size); clear hbn HB; refine kz hK (by exact HSB.out _ HBN) ?_; clear hK K; (try simp only [Act.put, ptL]); refine tk 4 rfl (by exact HSB.out _ HBN) ?_; (try simp only [Act.put, ptL]); refine tk 5 rfl (by exact HSB.out _ HBN) ?_; (try simp only [Act.put, ptL]); refine nrm (bts 19 63) ?_; have HB := HBN; clear HBN
          revert HB; revert WN; exact key1.out
        · intro K hK
          go_simp; refine kz hK (by exact HSB.out _ (HB.alloc HB.size _)) ?_; clear hK K; (try simp only [Act.put, ptL]); refine wpAnyH_gen (fun WN hWn => ?_); have hbn : Below W.heap.size W WN := by rw [hWn]; exact below_alloc1 _ _
          have hx_x : WN.heap[W.heap.size]? = some (.cells #[.slice none 0 0, .slice none 0 0, .slice none 0 0, .slice none 0 0] 93) := by rw [hWn]; exact alloc_new _ _
          have hl_x : w2.heap.size ≤ W.heap.size := HB.size; have HBN : Below w2.heap.size w2 WN := HB.trans (hbn.mono HB.size); clear hbn HB hWn; obtain ⟨b_x, hb_x⟩ : ∃ b, W.heap.size = b := ⟨_, rfl⟩; rw [hb_x] at hx_x hl_x  ⊢; clear hb_x; refine nrm (bts 19 65543) ?_; have HB := HBN; clear HBN
          revert hl_x; revert hx_x; revert b_x; revert HB; revert WN; exact key2.out
      rotate_right
      · intro W HB
        refine rz2 6 16 rfl rfl ?_ ?_
        · intro K hK
          go_simp
          (with_reducible refine (c_isPlaceC want W).mono ?_)
          rw [hF2]; rintro e WN ⟨rfl, hbn⟩; have HBN : Below w2.heap.size w2 WN := HB.trans (hbn.mono HB.size); clear hbn HB; refine kz hK (by exact HSB.out _ HBN) ?_; clear hK K; (try simp only [Act.put, ptL]); refine tk 7 rfl (by exact HSB.out _ HBN) ?_; (try simp only [Act.put, ptL]); refine tk 8 rfl (by exact HSB.out _ HBN) ?_; (try simp only [Act.put, ptL]); refine tu 9 rfl (by exact HSB.out _ HBN) ?_; (try simp only [Act.put, ptL]); refine nrm (bts 19 1023) ?_; have HB := HBN; clear HBN
          revert HB; revert WN; exact key3.out
        · intro K hK
          go_simp; refine kz hK (by exact HSB.out _ (HB.alloc HB.size _)) ?_; clear hK K; (try simp only [Act.put, ptL]); refine wpAnyH_gen (fun WN hWn => ?_); have hbn : Below W.heap.size W WN := by rw [hWn]; exact below_alloc1 _ _
          have hx_x : WN.heap[W.heap.size]? = some (.cells #[.slice none 0 0, .slice none 0 0, .slice none 0 0, .slice none 0 0] 93) := by rw [hWn]; exact alloc_new _ _
          have hl_x : w2.heap.size ≤ W.heap.size := HB.size; have HBN : Below w2.heap.size w2 WN := HB.trans (hbn.mono HB.size); clear hbn HB hWn; obtain ⟨b_x, hb_x⟩ : ∃ b, W.heap.size = b := ⟨_, rfl⟩; rw [hb_x] at hx_x hl_x  ⊢; clear hb_x; refine nrm (bts 19 65599) ?_; have HB := HBN; clear HBN
          revert hl_x; revert hx_x; revert b_x; revert HB; revert WN; exact key4.out
      rotate_right
      · intro W HB b_x hx_x hl_x
        refine rz1 3 rfl ?_
        · intro K hK
          go_simp
          (with_reducible refine (HC.out W (HEW.out _ HB)).mono ?_)
          rw [hF1]; rintro e WN ⟨rfl, hbn⟩; have HBN : Below w2.heap.size w2 WN := HB.trans (hbn.mono HB.size); replace hx_x := (hbn.block _ (block_lt hx_x)).trans hx_x; clear hbn HB; refine kz hK (by exact HSB.out _ HBN) ?_; clear hK K; (try simp only [Act.put, ptL]); refine tk 4 rfl (by exact HSB.out _ HBN) ?_; (try simp only [Act.put, ptL]); refine tk 5 rfl (by exact HSB.out _ HBN) ?_; (try simp only [Act.put, ptL]); refine nrm (bts 19 65599) ?_; have HB := HBN; clear HBN
          revert hl_x; revert hx_x; revert b_x; revert HB; revert WN; exact key4.out
      rotate_right
      · intro W HB
        refine rz2 10 16 rfl rfl ?_ ?_
        · intro K hK
          with_reducible refine unw ?hbu5 ?hqu5
          case hbu5 => kernel_rfl
          refine kz hK (by exact HSB.out _ HB) ?_; clear hK K; (try simp only [Act.put, ptL]); refine tk 11 rfl (by exact HSB.out _ HB) ?_; (try simp only [Act.put, ptL]); refine nrm (bts 19 4095) ?_
          revert HB; revert W; exact key5.out
        · intro K hK
          go_simp; refine kz hK (by exact HSB.out _ (HB.alloc HB.size _)) ?_; clear hK K; (try simp only [Act.put, ptL]); refine wpAnyH_gen (fun WN hWn => ?_); have hbn : Below W.heap.size W WN := by rw [hWn]; exact below_alloc1 _ _
          have hx_x : WN.heap[W.heap.size]? = some (.cells #[.slice none 0 0, .slice none 0 0, .slice none 0 0, .slice none 0 0] 93) := by rw [hWn]; exact alloc_new _ _
          have hl_x : w2.heap.size ≤ W.heap.size := HB.size; have HBN : Below w2.heap.size w2 WN := HB.trans (hbn.mono HB.size); clear hbn HB hWn; obtain ⟨b_x, hb_x⟩ : ∃ b, W.heap.size = b := ⟨_, rfl⟩; rw [hb_x] at hx_x hl_x  ⊢; clear hb_x; refine nrm (bts 19 66559) ?_; have HB := HBN; clear HBN
          revert hl_x; revert hx_x; revert b_x; revert HB; revert WN; exact key6.out
      rotate_right
      · intro W HB b_x hx_x hl_x
        refine rz1 6 rfl ?_
        · intro K hK
          go_simp
          (with_reducible refine (c_isPlaceC want W).mono ?_)
          rw [hF2]; rintro e WN ⟨rfl, hbn⟩; have HBN : Below w2.heap.size w2 WN := HB.trans (hbn.mono HB.size); replace hx_x := (hbn.block _ (block_lt hx_x)).trans hx_x; clear hbn HB; refine kz hK (by exact HSB.out _ HBN) ?_; clear hK K; (try simp only [Act.put, ptL]); refine tk 7 rfl (by exact HSB.out _ HBN) ?_; (try simp only [Act.put, ptL]); refine tk 8 rfl (by exact HSB.out _ HBN) ?_; (try simp only [Act.put, ptL]); refine tu 9 rfl (by exact HSB.out _ HBN) ?_; (try simp only [Act.put, ptL]); refine nrm (bts 19 66559) ?_; have HB := HBN; clear HBN
          revert hl_x; revert hx_x; revert b_x; revert HB; revert WN; exact key6.out
      rotate_right
      · intro W HB
        refine rz2 12 16 rfl rfl ?_ ?_
        · intro K hK
          go_simp
          (with_reducible refine (c_askedG pm pv pr cm cv cr p false W (HPW.out _ HB) HL.out).mono ?_)
          rintro e WN ⟨qa, na, ca, qb, nb, cb, qc, nc, cc, qd, nd, cd, er, rfl, hmk, hbn⟩; obtain ⟨WA, hWA⟩ : ∃ X, X = W := ⟨_, rfl⟩; obtain ⟨WB, hWB⟩ : ∃ X, X = WN := ⟨_, rfl⟩; have HQ : ∀ k, WA.heap.size ≤ k → k < WB.heap.size → WN.heap[k]? = WB.heap[k]? := fun k _ _ => by rw [hWB]
          have hqs : WB.heap.size ≤ WN.heap.size := by rw [hWB]; exact Nat.le_refl _
          rw [← hWA, ← hWB] at hmk; have HBN : Below w2.heap.size w2 WN := HB.trans (hbn.mono HB.size); clear hWA hWB; clear hbn HB; refine kz hK (by exact HSB.out _ HBN) ?_; clear hK K; (try simp only [Act.put, ptL]); refine tk 13 rfl (by exact HSB.out _ HBN) ?_; (try simp only [Act.put, ptL]); refine tk 14 rfl (by exact HSB.out _ HBN) ?_; (try simp only [Act.put, ptL]); refine tk 15 rfl (by exact HSB.out _ HBN) ?_; (try simp only [Act.put, ptL]); refine nrm (bts 19 65535) ?_; have HB := HBN; clear HBN
          revert hqs; revert HQ; revert hmk; revert WB; revert WA; revert er; revert cd; revert nd; revert qd; revert cc; revert nc; revert qc; revert cb; revert nb; revert qb; revert ca; revert na; revert qa; revert HB; revert WN; exact key7.out
        · intro K hK
          go_simp; refine kz hK (by exact HSB.out _ (HB.alloc HB.size _)) ?_; clear hK K; (try simp only [Act.put, ptL]); refine wpAnyH_gen (fun WN hWn => ?_); have hbn : Below W.heap.size W WN := by rw [hWn]; exact below_alloc1 _ _
          have hx_x : WN.heap[W.heap.size]? = some (.cells #[.slice none 0 0, .slice none 0 0, .slice none 0 0, .slice none 0 0] 93) := by rw [hWn]; exact alloc_new _ _
          have hl_x : w2.heap.size ≤ W.heap.size := HB.size; have HBN : Below w2.heap.size w2 WN := HB.trans (hbn.mono HB.size); clear hbn HB hWn; obtain ⟨b_x, hb_x⟩ : ∃ b, W.heap.size = b := ⟨_, rfl⟩; rw [hb_x] at hx_x hl_x  ⊢; clear hb_x; refine nrm (bts 19 69631) ?_; have HB := HBN; clear HBN
          revert hl_x; revert hx_x; revert b_x; revert HB; revert WN; exact key8.out
      rotate_right
      · intro W HB b_x hx_x hl_x
        refine rz1 10 rfl ?_
        · intro K hK
          with_reducible refine unw ?hbu6 ?hqu6
          case hbu6 => kernel_rfl
          refine kz hK (by exact HSB.out _ HB) ?_; clear hK K; (try simp only [Act.put, ptL]); refine tk 11 rfl (by exact HSB.out _ HB) ?_; (try simp only [Act.put, ptL]); refine nrm (bts 19 69631) ?_
          revert hl_x; revert hx_x; revert b_x; revert HB; revert W; exact key8.out
      rotate_right
      · intro W HB qa na ca qb nb cb qc nc cc qd nd cd er WA WB hmk HQ hqs
        refine rz1 16 rfl ?_
        · intro K hK
          go_simp; refine kz hK (by exact HSB.out _ (HB.alloc HB.size _)) ?_; clear hK K; (try simp only [Act.put, ptL]); refine wpAnyH_gen (fun WN hWn => ?_); have hbn : Below W.heap.size W WN := by rw [hWn]; exact below_alloc1 _ _
          have hx_x : WN.heap[W.heap.size]? = some (.cells #[.slice none 0 0, .slice none 0 0, .slice none 0 0, .slice none 0 0] 93) := by rw [hWn]; exact alloc_new _ _
          have hl_x : w2.heap.size ≤ W.heap.size := HB.size; have HBN : Below w2.heap.size w2 WN := HB.trans (hbn.mono HB.size); have hq_x : W.heap.size < WA.heap.size ∨ WB.heap.size ≤ W.heap.size := .inr hqs; replace HQ := fun (k : Nat) (h1 : WA.heap.size ≤ k) (h2 : k < WB.heap.size) => (hbn.block k (Nat.lt_of_lt_of_le h2 hqs)).trans (HQ k h1 h2)
          replace hqs := Nat.le_trans hqs hbn.size; clear hbn HB hWn; obtain ⟨b_x, hb_x⟩ : ∃ b, W.heap.size = b := ⟨_, rfl⟩; rw [hb_x] at hx_x hl_x  hq_x ⊢; clear hb_x; refine nrm (bts 19 131071) ?_; have HB := HBN; clear HBN
          revert hq_x; revert hl_x; revert hx_x; revert hqs; revert HQ; revert hmk; revert b_x; revert WB; revert WA; revert er; revert cd; revert nd; revert qd; revert cc; revert nc; revert qc; revert cb; revert nb; revert qb; revert ca; revert na; revert qa; revert HB; revert WN; exact key9.out
      rotate_right
      · intro W HB b_x hx_x hl_x
        refine rz1 12 rfl ?_
        · intro K hK
          go_simp
          (with_reducible refine (c_askedG pm pv pr cm cv cr p false W (HPW.out _ HB) HL.out).mono ?_)
          rintro e WN ⟨qa, na, ca, qb, nb, cb, qc, nc, cc, qd, nd, cd, er, rfl, hmk, hbn⟩; obtain ⟨WA, hWA⟩ : ∃ X, X = W := ⟨_, rfl⟩; obtain ⟨WB, hWB⟩ : ∃ X, X = WN := ⟨_, rfl⟩; have HQ : ∀ k, WA.heap.size ≤ k → k < WB.heap.size → WN.heap[k]? = WB.heap[k]? := fun k _ _ => by rw [hWB]
          have hqs : WB.heap.size ≤ WN.heap.size := by rw [hWB]; exact Nat.le_refl _
          rw [← hWA, ← hWB] at hmk; have HBN : Below w2.heap.size w2 WN := HB.trans (hbn.mono HB.size); have hq_x : b_x < WA.heap.size ∨ WB.heap.size ≤ b_x := .inl (by rw [hWA]; exact block_lt hx_x); clear hWA hWB; replace hx_x := (hbn.block _ (block_lt hx_x)).trans hx_x; clear hbn HB; refine kz hK (by exact HSB.out _ HBN) ?_; clear hK K; (try simp only [Act.put, ptL]); refine tk 13 rfl (by exact HSB.out _ HBN) ?_; (try simp only [Act.put, ptL]); refine tk 14 rfl (by exact HSB.out _ HBN) ?_; (try simp only [Act.put, ptL]); refine tk 15 rfl (by exact HSB.out _ HBN) ?_; (try simp only [Act.put, ptL]); refine nrm (bts 19 131071) ?_; have HB := HBN; clear HBN
          revert hq_x; revert hl_x; revert hx_x; revert hqs; revert HQ; revert hmk; revert b_x; revert WB; revert WA; revert er; revert cd; revert nd; revert qd; revert cc; revert nc; revert qc; revert cb; revert nb; revert qb; revert ca; revert na; revert qa; revert HB; revert WN; exact key9.out
      rotate_right
      · intro W HB qa na ca qb nb cb qc nc cc qd nd cd er WA WB b_x hmk HQ hqs hx_x hl_x hq_x
        refine rz1 17 rfl ?_; intro K hK; refine set4K W b_x 93 _ _ _ _ (.slice qa na ca) (.slice qb nb cb) (.slice qc nc cc) (.slice qd nd cd) hx_x (fun wa wb wc WN sa sb sc sd ca0 fa0 ca1 fa1 ca2 fa2 ca3 fa3 hx4 hxk HZs hxb => ?_); have HBN : Below w2.heap.size w2 WN := hxb w2 w2.heap.size hl_x HB; replace hx_x := hx4; replace HQ : ∀ k, WA.heap.size ≤ k → k < WB.heap.size → WN.heap[k]? = WB.heap[k]? := fun k h1 h2 => (hxk k (by omega)).trans (HQ k h1 h2)
        clear hx4 hxk hxb HZs HB; go_simp; refine kz hK (by exact HSB.out _ HBN) ?_; clear hK K; (try simp only [Act.put, ptL]); clear ca0 ca1 ca2 ca3 fa0 fa1 fa2 fa3 sa sb sc sd; refine tk 18 rfl (by exact HSB.out _ HBN) ?_; (try simp only [Act.put, ptL]); refine wpAnyH_done (by kernel_rfl) ?_ _; exact ⟨rfl, _, _, _, _, _, _, _, _, _, _, _, _, _, _, _, _, _, _, _, _, _, _, _, rfl, Lib.hid hx_x, Lib.hid (by rw [Bool.true_and, Bool.false_and]; exact hmk.out.at HQ), Lib.hid HBN, Lib.hid hl_x⟩
    have HSB := Lib.hid (cl7 k0 k1 k2 q0 q1 q2 q3); apply mrgH; rotate_left; intro key9; apply mrgH; rotate_left; intro key8; apply mrgH; rotate_left; intro key7; apply mrgH; rotate_left; intro key6; apply mrgH; rotate_left; intro key5; apply mrgH; rotate_left; intro key4; apply mrgH; rotate_left; intro key3; apply mrgH; rotate_left; intro key2; apply mrgH; rotate_left; intro key1
    · refine held7 k0 k1 k2 q0 q1 q2 q3 (fun W HB => ?_)
      refine tk 0 rfl (by exact HSB.out _ HB) ?_; (try simp only [Act.put, ptL]); refine tk 1 rfl (by exact HSB.out _ HB) ?_; (try simp only [Act.put, ptL]); refine tk 2 rfl (by exact HSB.out _ HB) ?_; (try simp only [Act.put, ptL]); refine rz2 3 16 rfl rfl ?_ ?_
      · intro K hK
        go_simp
        (with_reducible refine (HC.out W (HEW.out _ HB)).mono ?_)
        rw [hF1]; rintro e WN ⟨rfl, hbn⟩; have HBN : Below w2.heap.size w2 WN := HB.trans (hbn.mono HB.size); clear hbn HB; refine kz hK (by exact HSB.out _ HBN) ?_; clear hK K; (try simp only [Act.put, ptL]); refine tk 4 rfl (by exact HSB.out _ HBN) ?_; (try simp only [Act.put, ptL]); refine tk 5 rfl (by exact HSB.out _ HBN) ?_; (try simp only [Act.put, ptL]); refine nrm (bts 19 63) ?_; have HB := HBN; clear HBN
        revert HB; revert WN; exact key1.out
      · intro K hK
        go_simp; refine kz hK (by exact HSB.out _ (HB.alloc HB.size _)) ?_; clear hK K; (try simp only [Act.put, ptL]); refine wpAnyH_gen (fun WN hWn => ?_); have hbn : Below W.heap.size W WN := by rw [hWn]; exact below_alloc1 _ _
        have hx_x : WN.heap[W.heap.size]? = some (.cells #[.slice none 0 0, .slice none 0 0, .slice none 0 0, .slice none 0 0] 93) := by rw [hWn]; exact alloc_new _ _
        have hl_x : w2.heap.size ≤ W.heap.size := HB.size; have HBN : Below w2.heap.size w2 WN := HB.trans (hbn.mono HB.size); clear hbn HB hWn; obtain ⟨b_x, hb_x⟩ : ∃ b, W.heap.size = b := ⟨_, rfl⟩; rw [hb_x] at hx_x hl_x  ⊢; clear hb_x; refine nrm (bts 19 65543) ?_; have HB := HBN; clear HBN
        revert hl_x; revert hx_x; revert b_x; revert HB; revert WN; exact key2.out
    rotate_right
    · intro W HB
      refine rz2 6 16 rfl rfl ?_ ?_
      · intro K hK
        go_simp
        (with_reducible refine (c_isPlaceC want W).mono ?_)
        rw [hF2]; rintro e WN ⟨rfl, hbn⟩; have HBN : Below w2.heap.size w2 WN := HB.trans (hbn.mono HB.size); clear hbn HB; refine kz hK (by exact HSB.out _ HBN) ?_; clear hK K; (try simp only [Act.put, ptL]); refine tk 7 rfl (by exact HSB.out _ HBN) ?_; (try simp only [Act.put, ptL]); refine tk 8 rfl (by exact HSB.out _ HBN) ?_; (try simp only [Act.put, ptL]); refine tk 9 rfl (by exact HSB.out _ HBN) ?_; (try simp only [Act.put, ptL]); refine nrm (bts 19 1023) ?_; have HB := HBN; clear HBN
        revert HB; revert WN; exact key3.out
      · intro K hK
        go_simp; refine kz hK (by exact HSB.out _ (HB.alloc HB.size _)) ?_; clear hK K; (try simp only [Act.put, ptL]); refine wpAnyH_gen (fun WN hWn => ?_); have hbn : Below W.heap.size W WN := by rw [hWn]; exact below_alloc1 _ _
        have hx_x : WN.heap[W.heap.size]? = some (.cells #[.slice none 0 0, .slice none 0 0, .slice none 0 0, .slice none 0 0] 93) := by rw [hWn]; exact alloc_new _ _
        have hl_x : w2.heap.size ≤ W.heap.size := HB.size; have HBN : Below w2.heap.size w2 WN := HB.trans (hbn.mono HB.size); clear hbn HB hWn; obtain ⟨b_x, hb_x⟩ : ∃ b, W.heap.size = b := ⟨_, rfl⟩; rw [hb_x] at hx_x hl_x  ⊢; clear hb_x; refine nrm (bts 19 65599) ?_; have HB := HBN; clear HBN
        revert hl_x; revert hx_x; revert b_x; revert HB; revert WN; exact key4.out
    rotate_right
    · intro W HB b_x hx_x hl_x
      refine rz1 3 rfl ?_
      · intro K hK
        go_simp
        (with_reducible refine (HC.out W (HEW.out _ HB)).mono ?_)
        rw [hF1]; rintro e WN ⟨rfl, hbn⟩; have HBN : Below w2.heap.size w2 WN := HB.trans (hbn.mono HB.size); replace hx_x := (hbn.block _ (block_lt hx_x)).trans hx_x; clear hbn HB; refine kz hK (by exact HSB.out _ HBN) ?_; clear hK K; (try simp only [Act.put, ptL]); refine tk 4 rfl (by exact HSB.out _ HBN) ?_; (try simp only [Act.put, ptL]); refine tk 5 rfl (by exact HSB.out _ HBN) ?_; (try simp only [Act.put, ptL]); refine nrm (bts 19 65599) ?_; have HB := HBN; clear HBN
        revert hl_x; revert hx_x; revert b_x; revert HB; revert WN; exact key4.out
    rotate_right
    · intro W HB
      refine rz2 10 16 rfl rfl ?_ ?_
      · intro K hK
        go_simp
        (with_reducible refine (c_isLimitC lim W).mono ?_)
        rintro e WN ⟨rfl, hbn⟩; have HBN : Below w2.heap.size w2 WN := HB.trans (hbn.mono HB.size); clear hbn HB; refine kz hK (by exact HSB.out _ HBN) ?_; clear hK K; (try simp only [Act.put, ptL]); refine tk 11 rfl (by exact HSB.out _ HBN) ?_; (try simp only [Act.put, ptL]); refine nrm (bts 19 4095) ?_; have HB := HBN; clear HBN
        revert HB; revert WN; exact key5.out
      · intro K hK
        go_simp; refine kz hK (by exact HSB.out _ (HB.alloc HB.size _)) ?_; clear hK K; (try simp only [Act.put, ptL]); refine wpAnyH_gen (fun WN hWn => ?_); have hbn : Below W.heap.size W WN := by rw [hWn]; exact below_alloc1 _ _
        have hx_x : WN.heap[W.heap.size]? = some (.cells #[.slice none 0 0, .slice none 0 0, .slice none 0 0, .slice none 0 0] 93) := by rw [hWn]; exact alloc_new _ _
        have hl_x : w2.heap.size ≤ W.heap.size := HB.size; have HBN : Below w2.heap.size w2 WN := HB.trans (hbn.mono HB.size); clear hbn HB hWn; obtain ⟨b_x, hb_x⟩ : ∃ b, W.heap.size = b := ⟨_, rfl⟩; rw [hb_x] at hx_x hl_x  ⊢; clear hb_x; refine nrm (bts 19 66559) ?_; have HB := HBN; clear HBN
        revert hl_x; revert hx_x; revert b_x; revert HB; revert WN; exact key6.out
    rotate_right
    · intro W HB b_x hx_x hl_x
      refine rz1 6 rfl ?_
      · intro K hK
        go_simp
        (with_reducible refine (c_isPlaceC want W).mono ?_)
        rw [hF2]; rintro e WN ⟨rfl, hbn⟩; have HBN : Below w2.heap.size w2 WN := HB.trans (hbn.mono HB.size); replace hx_x := (hbn.block _ (block_lt hx_x)).trans hx_x; clear hbn HB; refine kz hK (by exact HSB.out _ HBN) ?_; clear hK K; (try simp only [Act.put, ptL]); refine tk 7 rfl (by exact HSB.out _ HBN) ?_; (try simp only [Act.put, ptL]); refine tk 8 rfl (by exact HSB.out _ HBN) ?_; (try simp only [Act.put, ptL]); refine tk 9 rfl (by exact HSB.out _ HBN) ?_; (try simp only [Act.put, ptL]); refine nrm (bts 19 66559) ?_; have HB := HBN; clear HBN
        revert hl_x; revert hx_x; revert b_x; revert HB; revert WN; exact key6.out
    rotate_right
    · intro W HB
      refine rz2 12 16 rfl rfl ?_ ?_
      · intro K hK
        go_simp
        (with_reducible refine (c_askedG pm pv pr cm cv cr p (inB lim 0 5000) W (HPW.out _ HB) HL.out).mono ?_)
        rintro e WN ⟨qa, na, ca, qb, nb, cb, qc, nc, cc, qd, nd, cd, er, rfl, hmk, hbn⟩; obtain ⟨WA, hWA⟩ : ∃ X, X = W := ⟨_, rfl⟩; obtain ⟨WB, hWB⟩ : ∃ X, X = WN := ⟨_, rfl⟩; have HQ : ∀ k, WA.heap.size ≤ k → k < WB.heap.size → WN.heap[k]? = WB.heap[k]? := fun k _ _ => by rw [hWB]
        have hqs : WB.heap.size ≤ WN.heap.size := by rw [hWB]; exact Nat.le_refl _
        rw [← hWA, ← hWB] at hmk; have HBN : Below w2.heap.size w2 WN := HB.trans (hbn.mono HB.size); clear hWA hWB; clear hbn HB; refine kz hK (by exact HSB.out _ HBN) ?_; clear hK K; (try simp only [Act.put, ptL]); refine tk 13 rfl (by exact HSB.out _ HBN) ?_; (try simp only [Act.put, ptL]); refine tk 14 rfl (by exact HSB.out _ HBN) ?_; (try simp only [Act.put, ptL]); refine tk 15 rfl (by exact HSB.out _ HBN) ?_; (try simp only [Act.put, ptL]); refine nrm (bts 19 65535) ?_; have HB := HBN; clear HBN
        revert hqs; revert HQ; revert hmk; revert WB; revert WA; revert er; revert cd; revert nd; revert qd; revert cc; revert nc; revert qc; revert cb; revert nb; revert qb; revert ca; revert na; revert qa; revert HB; revert WN; exact key7.out
      · intro K hK
        go_simp; refine kz hK (by exact HSB.out _ (HB.alloc HB.size _)) ?_; clear hK K; (try simp only [Act.put, ptL]); refine wpAnyH_gen (fun WN hWn => ?_); have hbn : Below W.heap.size W WN := by rw [hWn]; exact below_alloc1 _ _
        have hx_x : WN.heap[W.heap.size]? = some (.cells #[.slice none 0 0, .slice none 0 0, .slice none 0 0, .slice none 0 0] 93) := by rw [hWn]; exact alloc_new _ _
        have hl_x : w2.heap.size ≤ W.heap.size := HB.size; have HBN : Below w2.heap.size w2 WN := HB.trans (hbn.mono HB.size); clear hbn HB hWn; obtain ⟨b_x, hb_x⟩ : ∃ b, W.heap.size = b := ⟨_, rfl⟩; rw [hb_x] at hx_x hl_x  ⊢; clear hb_x; refine nrm (bts 19 69631) ?_; have HB := HBN; clear HBN
        revert hl_x; revert hx_x; revert b_x; revert HB; revert WN; exact key8.out
    rotate_right
    · intro W HB b_x hx_x hl_x
      refine rz1 10 rfl ?_
      · intro K hK
        go_simp
        (with_reducible refine (c_isLimitC lim W).mono ?_)
        rintro e WN ⟨rfl, hbn⟩; have HBN : Below w2.heap.size w2 WN := HB.trans (hbn.mono HB.size); replace hx_x := (hbn.block _ (block_lt hx_x)).trans hx_x; clear hbn HB; refine kz hK (by exact HSB.out _ HBN) ?_; clear hK K; (try simp only [Act.put, ptL]); refine tk 11 rfl (by exact HSB.out _ HBN) ?_; (try simp only [Act.put, ptL]); refine nrm (bts 19 69631) ?_; have HB := HBN; clear HBN
        revert hl_x; revert hx_x; revert b_x; revert HB; revert WN; exact key8.out
    rotate_right
    · intro W HB qa na ca qb nb cb qc nc cc qd nd cd er WA WB hmk HQ hqs
      refine rz1 16 rfl ?_
      · intro K hK
        go_simp; refine kz hK (by exact HSB.out _ (HB.alloc HB.size _)) ?_; clear hK K; (try simp only [Act.put, ptL]); refine wpAnyH_gen (fun WN hWn => ?_); have hbn : Below W.heap.size W WN := by rw [hWn]; exact below_alloc1 _ _
        have hx_x : WN.heap[W.heap.size]? = some (.cells #[.slice none 0 0, .slice none 0 0, .slice none 0 0, .slice none 0 0] 93) := by rw [hWn]; exact alloc_new _ _
        have hl_x : w2.heap.size ≤ W.heap.size := HB.size; have HBN : Below w2.heap.size w2 WN := HB.trans (hbn.mono HB.size); have hq_x : W.heap.size < WA.heap.size ∨ WB.heap.size ≤ W.heap.size := .inr hqs; replace HQ := fun (k : Nat) (h1 : WA.heap.size ≤ k) (h2 : k < WB.heap.size) => (hbn.block k (Nat.lt_of_lt_of_le h2 hqs)).trans (HQ k h1 h2)
        replace hqs := Nat.le_trans hqs hbn.size; clear hbn HB hWn; obtain ⟨b_x, hb_x⟩ : ∃ b, W.heap.size = b := ⟨_, rfl⟩; rw [hb_x] at hx_x hl_x  hq_x ⊢; clear hb_x; refine nrm (bts 19 131071) ?_; have HB := HBN; clear HBN
        revert hq_x; revert hl_x; revert hx_x; revert hqs; revert HQ; revert hmk; revert b_x; revert WB; revert WA; revert er; revert cd; revert nd; revert qd; revert cc; revert nc; revert qc; revert cb; revert nb; revert qb; revert ca; revert na; revert qa; revert HB; revert WN; exact key9.out
    rotate_right
    · intro W HB b_x hx_x hl_x
      refine rz1 12 rfl ?_
      · intro K hK
        go_simp
        (with_reducible refine (c_askedG pm pv pr cm cv cr p (inB lim 0 5000) W (HPW.out _ HB) HL.out).mono ?_)
        rintro e WN ⟨qa, na, ca, qb, nb, cb, qc, nc, cc, qd, nd, cd, er, rfl, hmk, hbn⟩; obtain ⟨WA, hWA⟩ : ∃ X, X = W := ⟨_, rfl⟩; obtain ⟨WB, hWB⟩ : ∃ X, X = WN := ⟨_, rfl⟩; have HQ : ∀ k, WA.heap.size ≤ k → k < WB.heap.size → WN.heap[k]? = WB.heap[k]? := fun k _ _ => by rw [hWB]
        have hqs : WB.heap.size ≤ WN.heap.size := by rw [hWB]; exact Nat.le_refl _
        rw [← hWA, ← hWB] at hmk; have HBN : Below w2.heap.size w2 WN := HB.trans (hbn.mono HB.size); have hq_x : b_x < WA.heap.size ∨ WB.heap.size ≤ b_x := .inl (by rw [hWA]; exact block_lt hx_x); clear hWA hWB; replace hx_x := (hbn.block _ (block_lt hx_x)).trans hx_x; clear hbn HB; refine kz hK (by exact HSB.out _ HBN) ?_; clear hK K; (try simp only [Act.put, ptL]); refine tk 13 rfl (by exact HSB.out _ HBN) ?_; (try simp only [Act.put, ptL]); refine tk 14 rfl (by exact HSB.out _ HBN) ?_; (try simp only [Act.put, ptL]); refine tk 15 rfl (by exact HSB.out _ HBN) ?_; (try simp only [Act.put, ptL]); refine nrm (bts 19 131071) ?_; have HB := HBN; clear HBN
        revert hq_x; revert hl_x; revert hx_x; revert hqs; revert HQ; revert hmk; revert b_x; revert WB; revert WA; revert er; revert cd; revert nd; revert qd; revert cc; revert nc; revert qc; revert cb; revert nb; revert qb; revert ca; revert na; revert qa; revert HB; revert WN; exact key9.out
    rotate_right
    · intro W HB qa na ca qb nb cb qc nc cc qd nd cd er WA WB b_x hmk HQ hqs hx_x hl_x hq_x
      refine rz1 17 rfl ?_; intro K hK; refine set4K W b_x 93 _ _ _ _ (.slice qa na ca) (.slice qb nb cb) (.slice qc nc cc) (.slice qd nd cd) hx_x (fun wa wb wc WN sa sb sc sd ca0 fa0 ca1 fa1 ca2 fa2 ca3 fa3 hx4 hxk HZs hxb => ?_); have HBN : Below w2.heap.size w2 WN := hxb w2 w2.heap.size hl_x HB; replace hx_x := hx4; replace HQ : ∀ k, WA.heap.size ≤ k → k < WB.heap.size → WN.heap[k]? = WB.heap[k]? := fun k h1 h2 => (hxk k (by omega)).trans (HQ k h1 h2)
      clear hx4 hxk hxb HZs HB; go_simp; refine kz hK (by exact HSB.out _ HBN) ?_; clear hK K; (try simp only [Act.put, ptL]); clear ca0 ca1 ca2 ca3 fa0 fa1 fa2 fa3 sa sb sc sd; refine tk 18 rfl (by exact HSB.out _ HBN) ?_; (try simp only [Act.put, ptL]); refine wpAnyH_done (by kernel_rfl) ?_ _; exact ⟨rfl, _, _, _, _, _, _, _, _, _, _, _, _, _, _, _, _, _, _, _, _, _, _, _, rfl, Lib.hid hx_x, Lib.hid (by rw [Bool.true_and, Bool.true_and]; exact hmk.out.at HQ), Lib.hid HBN, Lib.hid hl_x⟩
  case imp =>
    clear k0 k1 k2 q0 q1 q2 q3; rintro e a wz ⟨rfl, bx, qa, na, ca, qb, nb, cb, qc, nc, cc, qd, nd, cd, er, g21, g22, g23, g24, g25, g26, g27, g28, g29, rfl, HX, HAZ, HBZ, HLX⟩
    rcases HAZ.out with ⟨hf, rfl, ea, eb, ec, ed⟩ | ⟨hf, ht, rfl, ea, eb, ec, ed⟩ | ⟨hpo, hfi, ht, rfl, ea, eb, ec, g, cap, ed, hq⟩
    all_goals
      obtain ⟨rfl, rfl, rfl⟩ := sl_inj ea; obtain ⟨rfl, rfl, rfl⟩ := sl_inj eb; obtain ⟨rfl, rfl, rfl⟩ := sl_inj ec; obtain ⟨rfl, rfl, rfl⟩ := sl_inj ed; clear ea eb ec ed
    · have HF := Lib.hid hf
      have HBB := Lib.hid (HB.out.trans (HBZ.out.mono HB.out.size)); clear hf; go_wp2; refine bodyPost_ret (v := .tuple #[.int .i64 0, .int .i64 2]) (by simp [results, Tryz.results15, go_sem]) rfl ⟨?_, HBB.out⟩; unfold sureOut sureErr; rw [err_bad HF.out, if_neg (by decide)]
    · have HF := Lib.hid (And.intro hf ht)
      have HBB := Lib.hid (HB.out.trans (HBZ.out.mono HB.out.size)); clear hf ht; go_wp2; refine bodyPost_ret (v := .tuple #[.int .i64 0, .int .i64 7]) (by simp [results, Tryz.results15, go_sem]) rfl ⟨?_, HBB.out⟩; unfold sureOut sureErr; rw [err_rule HF.out.1 HF.out.2, if_neg (by decide)]
    · have hfx := hfi
      rw [Bool.and_eq_true, Bool.and_eq_true] at hfx; have hHO := handB_iff.1 hfx.1.1; have hwa := inB_iff.1 hfx.1.2; have hwb := inB_iff.1 hfx.2; have hw1 : IntKind.i64.wrap (want - lim) = want - lim := w64 _ (by omega) (by omega); have hw2 : IntKind.i64.wrap (want + lim) = want + lim := w64 _ (by omega) (by omega); have HE := Lib.hid (err_good (pieceB_iff.2 hpo) hfi ht); have HBY := Lib.hid (HB.out.trans (HBZ.out.mono HB.out.size)); have HHO := Lib.hid hHO; have HPO := Lib.hid hpo; have htl := truthsFew hpo; have hn4 := hpo.n4; obtain ⟨bt, hbt, hqt⟩ := hq
      cases hbt
      have HQ := Lib.hid hqt; have HZ4 := Lib.hid (HRH.out wz HBZ.out); have HEZ := Lib.hid (HEW.out wz HBZ.out); have HSS := Lib.hid (fun k hk => someT_succ p h want lim k hk); have HNS := Lib.hid (fun k hk => notT_succ p h want lim k hk); have HSA := Lib.hid (someT_all p h want lim); have HNA := Lib.hid (notT_all p h want lim); have HS0 := Lib.hid (show someT p h want lim 0 = false from rfl); have HN0 := Lib.hid (show notT p h want lim 0 = false from rfl); have HSF := Lib.hid (show sureF p h want lim = if someB p h want lim = false then 1 else if notB p h want lim = true then 2 else 3 from rfl); obtain ⟨x0, x1, x2, x3⟩ := cells4 HX.out; clear hfx hwa hwb hHO hpo ht hfi hqt HPW HL HC HRH HEW HB; go_wp2; clear x0 x1 x2 x3
      go_loopw [12, 13, 39] (fun s n i wr => ∃ k : Nat, k ≤ (truthsF p).length ∧ i = .int .i64 k ∧ s = .bool (someT p h want lim k) ∧ n = .bool (notT p h want lim k) ∧ Hid (Below wz.heap.size wz wr)) (fun _ _ i _ => (truthsF p).length - (intOf i).toNat)
      case atStart => exact ⟨0, Nat.zero_le _, rfl, by rw [HS0.out], by rw [HN0.out], Lib.hid (Below.refl _ _)⟩
      case round =>
      obtain ⟨k, hk, rfl, rfl, rfl, HN⟩ := hrel
      by_cases hltk : k < (truthsF p).length
      · have hki : (k : Int) < ((truthsF p).length : Int) := by omega
        obtain ⟨hgl, p1, c1, p2, c2, z0, z1, r1, r2, hel, _, _⟩ := HQ.out k hltk; have z0 := (HN.out.cell (lt_of_cellq z0)).trans z0; have z1 := (HN.out.cell (lt_of_cellq z1)).trans z1; have q0 := (HN.out.cell (lt_of_cellq HZ4.out.1)).trans HZ4.out.1; have q1 := (HN.out.cell (lt_of_cellq HZ4.out.2.1)).trans HZ4.out.2.1; have q2 := (HN.out.cell (lt_of_cellq HZ4.out.2.2.1)).trans HZ4.out.2.2.1; have q3 := (HN.out.cell (lt_of_cellq HZ4.out.2.2.2)).trans HZ4.out.2.2.2; have hpk := truthOk HPO.out k hltk; have hpl := sh_plain HPO.out HHO.out (pl := gl (truthsF p) k) (by rw [gl_get _ _ hltk]; exact List.getElem_mem hltk)
        have HCS := Lib.hid (show ∀ W, Below wr.heap.size wr W → Calls Tryz.prog 52 #[.agg #[.slice p1 p.ms.length c1, .slice p2 (p.ms.length + 1) c2], .agg #[.int .i64 h.arb, .int .i64 h.num, .int .i64 h.den, .slice pe h.er.length ce]] W fun e' w' => e' = .returned (.agg #[.int .i64 (shF p h (gl (truthsF p) k)).1, .int .i64 (shF p h (gl (truthsF p) k)).2]) ∧ Below W.heap.size W w' from fun W hb =>
          HSW.out p1 p.ms.length c1 p2 (p.ms.length + 1) c2 p.ms.length (endF p (gl (truthsF p) k)) W ((r2.below HN.out).below hb) hel ((HEZ.out.below HN.out).below hb) HHO.out (by omega) (hand_place HPO.out hpk HHO.out))
        have HST := Lib.hid (HSS.out k hltk); have HNT := Lib.hid (HNS.out k hltk); obtain ⟨X, hX⟩ : ∃ x, shF p h (gl (truthsF p) k) = x := ⟨_, rfl⟩; rw [hX] at HCS HST HNT hpl; obtain ⟨L1, U1⟩ := X; simp only at HCS HST HNT hpl; obtain ⟨S, hS⟩ : ∃ x, someT p h want lim k = x := ⟨_, rfl⟩; obtain ⟨N, hN⟩ : ∃ x, notT p h want lim k = x := ⟨_, rfl⟩; rw [hS] at HST ⊢; rw [hN] at HNT ⊢; have hwk : IntKind.i64.wrap ((k : Int) + 1) = (k : Int) + 1 := w64 _ (by omega) (by omega); obtain ⟨wb, eb, HSb, t0, t1, bb⟩ := box2 wr (.slice p1 p.ms.length c1) (.slice p2 (p.ms.length + 1) c2) 98; have q0 := (bb.cell (lt_of_cellq q0)).trans q0; have q1 := (bb.cell (lt_of_cellq q1)).trans q1; have q2 := (bb.cell (lt_of_cellq q2)).trans q2; have q3 := (bb.cell (lt_of_cellq q3)).trans q3; have HCB := Lib.hid (HCS.out wb bb); have HNB := Lib.hid (HN.out.trans (bb.mono HN.out.size)); clear hX hS hN bb r1 r2 hgl hel hpk HCS
        (go_wp2_with fail); refine HCB.out.mono ?_
        rintro e wc ⟨rfl, bc⟩; obtain ⟨wd, ed, HSd, y0, y1, bd⟩ := box2 wc (.int .i64 L1) (.int .i64 U1) 44; have HND := Lib.hid (HNB.out.trans ((bc.trans (bd.mono bc.size)).mono HNB.out.size)); clear eb bc bd t0 t1 q0 q1 q2 q3 z0 z1
        rcases ht1 : decide (L1 ≤ want + lim) with _ | _ <;> rcases ht2 : decide (want - lim ≤ U1) with _ | _ <;> rcases ht3 : decide (L1 < want - lim) with _ | _ <;> rcases ht4 : decide (want + lim < U1) with _ | _ <;> cases S <;> cases N <;>
        · rw [ht1, ht2] at HST
          rw [ht3, ht4] at HNT; have ht2b : decide (U1 ≥ want - lim) = _ := ht2; have ht4b : decide (U1 > want + lim) = _ := ht4; have H1 := Lib.hid HST.out; have H2 := Lib.hid HNT.out; clear HST HNT; go_wp2; go_roundw
          case rel => exact ⟨k + 1, by omega, by go_num, by rw [H1.out]; rfl, by rw [H2.out]; rfl, HND⟩
          case measure => simp [intOf]; omega
      · obtain rfl : k = (truthsF p).length := by omega
        have hki : ¬ ((truthsF p).length : Int) < ((truthsF p).length : Int) := by omega
        have HBB := Lib.hid (HBY.out.trans (HN.out.mono HBY.out.size)); rw [HSA.out, HNA.out]; obtain ⟨S, hS⟩ : ∃ x, someB p h want lim = x := ⟨_, rfl⟩; obtain ⟨N, hN⟩ : ∃ x, notB p h want lim = x := ⟨_, rfl⟩; rw [hS, hN] at HSF; rw [hS, hN]; clear hS hN
        rcases S with _ | _
        · (go_wp2_with fail); refine (c_word0 wr).mono ?_
          rintro e wc ⟨rfl, bc⟩; have HBC := Lib.hid (HBB.out.trans (bc.mono HBB.out.size)); clear bc; go_wp2; refine bodyPost_ret (v := .tuple #[.int .i64 1, .int .i64 0]) (by simp [results, Tryz.results15, go_sem]) rfl ⟨?_, HBC.out⟩; unfold sureOut sureErr; rw [HE.out, if_pos rfl, HSF.out]; rfl
        · rcases N with _ | _
          · (go_wp2_with fail); refine (c_word2 wr).mono ?_
            rintro e wc ⟨rfl, bc⟩; have HBC := Lib.hid (HBB.out.trans (bc.mono HBB.out.size)); clear bc; go_wp2; refine bodyPost_ret (v := .tuple #[.int .i64 3, .int .i64 0]) (by simp [results, Tryz.results15, go_sem]) rfl ⟨?_, HBC.out⟩; unfold sureOut sureErr; rw [HE.out, if_pos rfl, HSF.out]; rfl
          · (go_wp2_with fail); refine (c_word1 wr).mono ?_
            rintro e wc ⟨rfl, bc⟩; have HBC := Lib.hid (HBB.out.trans (bc.mono HBB.out.size)); clear bc; go_wp2; refine bodyPost_ret (v := .tuple #[.int .i64 2, .int .i64 0]) (by simp [results, Tryz.results15, go_sem]) rfl ⟨?_, HBC.out⟩; unfold sureOut sureErr; rw [HE.out, if_pos rfl, HSF.out]; rfl
end Go.Proofs.YtbknfddaoolagaaGreatDoor
end

section
namespace Go.Proofs.YtbknfddaoolagaaGreatDoor
-- @CLN @TKL
open Go Go.RowKit Go.Proofs
set_option linter.unusedVariables false
set_option linter.unusedSimpArgs false
attribute [local go_sem] imax2 imin2

set_option maxHeartbeats 12800000 in
set_option maxRecDepth 100000 in
theorem law_Shows (pm pv pr : Option Addr) (cm cv cr : Nat) (p : Pc) (h : Hd) (pe : Option Addr) (ce : Nat) (want lim : Int) (m : Int) (w : World) (hp : RdP w pm pv pr p) (hE : RdS w pe h.er) (hm : MaxL m w) (hi : ItoaG w) :
    Calls Tryz.prog 4 #[.agg #[.slice pm p.ms.length cm, .slice pv p.mv.length cv, .slice pr p.rs.length cr], hdV h pe ce, .int .i64 want, .int .i64 lim] w (LawPost w) := by
  obtain ⟨w1, e1, HS1, k0, k1, k2, b1⟩ := box3 w (.slice pm p.ms.length cm) (.slice pv p.mv.length cv) (.slice pr p.rs.length cr) 27; obtain ⟨w2, e2, HS2, q0, q1, q2, q3, b2⟩ := box4 w1 (.int .i64 h.arb) (.int .i64 h.num) (.int .i64 h.den) (.slice pe h.er.length ce) 40; have b12 := b1.trans (b2.mono b1.size); have k0 := (b2.cell (lt_of_cellq k0)).trans k0; have k1 := (b2.cell (lt_of_cellq k1)).trans k1; have k2 := (b2.cell (lt_of_cellq k2)).trans k2; have HP := Lib.hid (hp.below b12); have HE := Lib.hid (hE.below b12); have HM := Lib.hid hm; have HI := Lib.hid hi; have HB := Lib.hid b12; have HLB := Lib.hid (l_brief h pe ce); have HKH := Lib.hid (fun W (h1 : RdP W pm pv pr p) hl (h2 : RdS W pe h.er) g2 => c_Hand pm pv pr cm cv cr p h pe ce W h1 hl h2 g2); have HKS := Lib.hid (fun W (h1 : RdP W pm pv pr p) hl (h2 : RdS W pe h.er) g2 => c_Shows pm pv pr cm cv cr p h pe ce W h1 hl h2 g2); have HKU := Lib.hid (fun W (h1 : RdP W pm pv pr p) hl (h2 : RdS W pe h.er) g2 => c_Sure pm pv pr cm cv cr p h pe ce want lim W h1 hl h2 g2)
  have HRH := Lib.hid (fun W (h2 : RdS W pe h.er) g2 => r_Hand pm pv pr cm cv cr p h pe ce W h2 g2); have HRS := Lib.hid (fun q c W (h1 : RdP W pm pv pr p) (hq : RdLs W q (truthsF p)) hpo ht (h2 : RdS W pe h.er) hh => r_Shows pm pv pr cm cv cr p q c h pe ce W h1 hq hpo ht h2 hh); have HRU := Lib.hid (fun q c W (h1 : RdP W pm pv pr p) (hq : RdLs W q (truthsF p)) hpo ht (h2 : RdS W pe h.er) hh hwl => r_Sure pm pv pr cm cv cr p q c h pe ce want lim W h1 hq hpo ht h2 hh hwl); clear hp hE hm hi b1 b2 b12; unfold hdV at HLB HKH HKS HKU HRH HRS HRU; unfold hdV
  go_enter Tryz.func4, Tryz.ntmps4
  (go_wp2_with fail); refine (c_short pm pv pr cm cv cr p _).mono ?_
  clear e1 e2
  rcases hs : shortB p with _ | _
  · rintro e wn ⟨rfl, bq⟩; replace HB := Lib.hid (HB.out.trans (bq.mono HB.out.size)); clear bq
    (go_wp2_with fail); refine (c_known m _ (HM.out.below HB.out) (HI.out.below HB.out)).mono ?_; rintro e wn ⟨rfl, bq⟩; have HFK := Lib.hid (HB.out.trans (bq.mono HB.out.size)); clear bq; go_wp2; go_ret; exact ⟨rfl, HFK.out⟩
  rintro e wn ⟨rfl, bq⟩; replace HB := Lib.hid (HB.out.trans (bq.mono HB.out.size)); replace HP := Lib.hid (HP.out.below bq); replace HE := Lib.hid (HE.out.below bq); obtain ⟨k0, k1, k2, q0, q1, q2, q3⟩ := cl7 k0 k1 k2 q0 q1 q2 q3 _ bq; clear bq; have HLN := Lib.hid (short_len hs); clear hs
  (go_wp2_with fail); refine (HLB.out _).mono ?_
  rcases hl1 : briefB h with _ | _
  · rintro e wn ⟨rfl, bq⟩; replace HB := Lib.hid (HB.out.trans (bq.mono HB.out.size)); clear bq
    (go_wp2_with fail); refine (c_known m _ (HM.out.below HB.out) (HI.out.below HB.out)).mono ?_; rintro e wn ⟨rfl, bq⟩; have HFK := Lib.hid (HB.out.trans (bq.mono HB.out.size)); clear bq; go_wp2; go_ret; exact ⟨rfl, HFK.out⟩
  rintro e wn ⟨rfl, bq⟩; replace HB := Lib.hid (HB.out.trans (bq.mono HB.out.size)); replace HP := Lib.hid (HP.out.below bq); replace HE := Lib.hid (HE.out.below bq); obtain ⟨k0, k1, k2, q0, q1, q2, q3⟩ := cl7 k0 k1 k2 q0 q1 q2 q3 _ bq; clear bq; have hl1 : h.er.length ≤ 10 := of_decide_eq_true hl1; have HL1 := Lib.hid (show h.er.length ≤ 1000000 by omega); clear hl1 HLB
  rcases g1 : pieceB p with _ | _
  · skip
    obtain ⟨Z, hZ⟩ : ∃ Z : Int, Z = 0 := ⟨0, rfl⟩; have hZ0 : (Z == 0) = true := by simp [hZ]
    have hZ1 : (Z != 0) = false := by simp [hZ]
    have HK0 := Lib.hid (fun W (h1 : RdP W pm pv pr p) (h2 : RdS W pe h.er) => show Calls Tryz.prog 13 #[.agg #[.slice pm p.ms.length cm, .slice pv p.mv.length cv, .slice pr p.rs.length cr], .agg #[.int .i64 h.arb, .int .i64 h.num, .int .i64 h.den, .slice pe h.er.length ce]] W fun e w' => e = .returned (.int .i64 2) ∧ Below W.heap.size W w' by
      have hh := HKH.out W h1 HLN.out h2 HL1.out; rw [if_neg (by rw [g1]; simp)] at hh; exact hh)
    have HK1 := Lib.hid (fun W (h1 : RdP W pm pv pr p) (h2 : RdS W pe h.er) => show Calls Tryz.prog 14 #[.agg #[.slice pm p.ms.length cm, .slice pv p.mv.length cv, .slice pr p.rs.length cr], .agg #[.int .i64 h.arb, .int .i64 h.num, .int .i64 h.den, .slice pe h.er.length ce]] W fun e w' => e = .returned (.tuple #[.agg #[.int .i64 Z, .int .i64 Z], .int .i64 2]) ∧ Below W.heap.size W w' by
      have hh := HKS.out W h1 HLN.out h2 HL1.out; unfold SpanPost AnsS okI at hh; rw [err_bad (by rw [g1]; rfl)] at hh; rw [hZ]; exact hh)
    have HK2 := Lib.hid (fun W (h1 : RdP W pm pv pr p) (h2 : RdS W pe h.er) => show Calls Tryz.prog 15 #[.agg #[.slice pm p.ms.length cm, .slice pv p.mv.length cv, .slice pr p.rs.length cr], .agg #[.int .i64 h.arb, .int .i64 h.num, .int .i64 h.den, .slice pe h.er.length ce], .int .i64 want, .int .i64 lim] W fun e w' => e = .returned (.tuple #[.int .i64 0, .int .i64 2]) ∧ Below W.heap.size W w' by
      have hh := HKU.out W h1 HLN.out h2 HL1.out; unfold SurePost sureOut sureErr at hh; rw [err_bad (by rw [g1]; rfl)] at hh; exact hh)
    have HPC := Lib.hid (fun W (h1 : RdP W pm pv pr p) (h2 : RdS W pe h.er) => show Calls Tryz.prog 8 #[.agg #[.slice pm p.ms.length cm, .slice pv p.mv.length cv, .slice pr p.rs.length cr]] W fun e w' => e = .returned (.bool false) ∧ Below W.heap.size W w' by
      have hh := r_Piece pm pv pr cm cv cr p W h1 HLN.out; rw [g1] at hh; exact hh)
    have HK3 := Lib.hid (fun W (h1 : RdP W pm pv pr p) => l_asked_no pm pv pr cm cv cr p false W h1 HLN.out (Bool.and_false _)); unfold LAskNo at HK3; have HK5 := Lib.hid (fun W (h1 : RdP W pm pv pr p) => l_asked_no pm pv pr cm cv cr p false W h1 HLN.out (Bool.and_false _)); unfold LAskNo at HK5; clear g1 hZ HKH HKS HKU HRH HRS HRU
    (go_wp2_with fail); refine (HK0.out _ HP.out HE.out).mono ?_
    rintro e wn ⟨rfl, bq⟩; replace HB := Lib.hid (HB.out.trans (bq.mono HB.out.size)); replace HP := Lib.hid (HP.out.below bq); replace HE := Lib.hid (HE.out.below bq); obtain ⟨k0, k1, k2, q0, q1, q2, q3⟩ := cl7 k0 k1 k2 q0 q1 q2 q3 _ bq; clear bq
    (go_wp2_with fail); refine (HK1.out _ HP.out HE.out).mono ?_
    rintro e wn ⟨rfl, bq⟩; replace HB := Lib.hid (HB.out.trans (bq.mono HB.out.size)); replace HP := Lib.hid (HP.out.below bq); replace HE := Lib.hid (HE.out.below bq); obtain ⟨k0, k1, k2, q0, q1, q2, q3⟩ := cl7 k0 k1 k2 q0 q1 q2 q3 _ bq; clear bq; obtain ⟨x2, e2, HSx, r0, r1, bq⟩ := box2 wn (.int .i64 Z) (.int .i64 Z) 44; go_upto_region 5 with (fail); clear e2
    skip; replace HB := Lib.hid (HB.out.trans (bq.mono HB.out.size)); replace HP := Lib.hid (HP.out.below bq); replace HE := Lib.hid (HE.out.below bq); obtain ⟨k0, k1, k2, q0, q1, q2, q3⟩ := cl7 k0 k1 k2 q0 q1 q2 q3 _ bq; clear bq
    (go_wp2_with fail); refine (HK2.out _ HP.out HE.out).mono ?_
    rintro e wn ⟨rfl, bq⟩; replace HB := Lib.hid (HB.out.trans (bq.mono HB.out.size)); replace HP := Lib.hid (HP.out.below bq); replace HE := Lib.hid (HE.out.below bq); obtain ⟨k0, k1, k2, q0, q1, q2, q3, r0, r1⟩ := cl9 k0 k1 k2 q0 q1 q2 q3 r0 r1 _ bq; clear bq
    (go_wp2_with fail); refine (HPC.out _ HP.out HE.out).mono ?_
    rintro e wn ⟨rfl, bq⟩; replace HB := Lib.hid (HB.out.trans (bq.mono HB.out.size)); replace HP := Lib.hid (HP.out.below bq); replace HE := Lib.hid (HE.out.below bq); obtain ⟨k0, k1, k2, q0, q1, q2, q3, r0, r1⟩ := cl9 k0 k1 k2 q0 q1 q2 q3 r0 r1 _ bq; clear bq
    (go_wp2_with fail); refine (HK3.out _ HP.out).mono ?_
    rintro e wn ⟨rfl, bq⟩; replace HB := Lib.hid (HB.out.trans (bq.mono HB.out.size)); replace HP := Lib.hid (HP.out.below bq); replace HE := Lib.hid (HE.out.below bq); obtain ⟨k0, k1, k2, q0, q1, q2, q3, r0, r1⟩ := cl9 k0 k1 k2 q0 q1 q2 q3 r0 r1 _ bq; clear bq; go_wp2; have HSB := Lib.hid (cl9 k0 k1 k2 q0 q1 q2 q3 r0 r1); refine held9 k0 k1 k2 q0 q1 q2 q3 r0 r1 (fun W0 HB0 => ?_); refine tk 0 rfl (by exact HSB.out _ HB0) ?_; refine tk 1 rfl (by exact HSB.out _ HB0) ?_; refine tk 2 rfl (by exact HSB.out _ HB0) ?_; (try simp only [Act.put, ptL]); refine tu 3 rfl (by exact HSB.out _ HB0) ?_; (try simp only [Act.put, ptL]); refine tu 4 rfl (by exact HSB.out _ HB0) ?_; (try simp only [Act.put, ptL]); refine tk 5 rfl (by exact HSB.out _ HB0) ?_; refine tk 6 rfl (by exact HSB.out _ HB0) ?_; (try simp only [Act.put, ptL]); refine tu 7 rfl (by exact HSB.out _ HB0) ?_; (try simp only [Act.put, ptL]); refine tu 8 rfl (by exact HSB.out _ HB0) ?_; (try simp only [Act.put, ptL])
    refine tk 9 rfl (by exact HSB.out _ HB0) ?_; (try simp only [Act.put, ptL]); refine rz1 10 rfl ?_; intro K hK; go_simp; refine (HK5.out W0 (HP.out.below HB0)).mono ?_; rintro e W1 ⟨rfl, ba⟩; have HB1 := HB0.trans (ba.mono HB0.size); clear ba; refine kz hK (by exact HSB.out _ HB1) ?_; clear hK K; (try simp only [Act.put, ptL]); refine tk 11 rfl (by exact HSB.out _ HB1) ?_; refine tk 12 rfl (by exact HSB.out _ HB1) ?_; refine tk 13 rfl (by exact HSB.out _ HB1) ?_; refine tk 14 rfl (by exact HSB.out _ HB1) ?_; refine tk 15 rfl (by exact HSB.out _ HB1) ?_; (try simp only [Act.put, ptL]); refine wpAnyH_done (by kernel_rfl) ?_ _; obtain ⟨k0, k1, k2, q0, q1, q2, q3, r0, r1⟩ := HSB.out _ HB1; replace HB := Lib.hid (HB.out.trans (HB1.mono HB.out.size)); replace HP := Lib.hid (HP.out.below HB1); replace HE := Lib.hid (HE.out.below HB1); clear HSB HB0 HB1
    (go_wp2_with fail); refine (c_known m _ (HM.out.below HB.out) (HI.out.below HB.out)).mono ?_; rintro e wn ⟨rfl, bq⟩; have HFK := Lib.hid (HB.out.trans (bq.mono HB.out.size)); clear bq; go_wp2; go_ret; exact ⟨rfl, HFK.out⟩
  rcases g2 : handB p.ms.length h with _ | _
  · skip
    obtain ⟨Z, hZ⟩ : ∃ Z : Int, Z = 0 := ⟨0, rfl⟩; have hZ0 : (Z == 0) = true := by simp [hZ]
    have hZ1 : (Z != 0) = false := by simp [hZ]
    have HK0 := Lib.hid (fun W (h1 : RdP W pm pv pr p) (h2 : RdS W pe h.er) => show Calls Tryz.prog 13 #[.agg #[.slice pm p.ms.length cm, .slice pv p.mv.length cv, .slice pr p.rs.length cr], .agg #[.int .i64 h.arb, .int .i64 h.num, .int .i64 h.den, .slice pe h.er.length ce]] W fun e w' => e = .returned (.int .i64 2) ∧ Below W.heap.size W w' by
      have hh := HKH.out W h1 HLN.out h2 HL1.out; rw [if_neg (by rw [g2]; simp)] at hh; exact hh)
    have HK1 := Lib.hid (fun W (h1 : RdP W pm pv pr p) (h2 : RdS W pe h.er) => show Calls Tryz.prog 14 #[.agg #[.slice pm p.ms.length cm, .slice pv p.mv.length cv, .slice pr p.rs.length cr], .agg #[.int .i64 h.arb, .int .i64 h.num, .int .i64 h.den, .slice pe h.er.length ce]] W fun e w' => e = .returned (.tuple #[.agg #[.int .i64 Z, .int .i64 Z], .int .i64 2]) ∧ Below W.heap.size W w' by
      have hh := HKS.out W h1 HLN.out h2 HL1.out; unfold SpanPost AnsS okI at hh; rw [err_bad (by rw [g2, Bool.and_false])] at hh; rw [hZ]; exact hh)
    have HK2 := Lib.hid (fun W (h1 : RdP W pm pv pr p) (h2 : RdS W pe h.er) => show Calls Tryz.prog 15 #[.agg #[.slice pm p.ms.length cm, .slice pv p.mv.length cv, .slice pr p.rs.length cr], .agg #[.int .i64 h.arb, .int .i64 h.num, .int .i64 h.den, .slice pe h.er.length ce], .int .i64 want, .int .i64 lim] W fun e w' => e = .returned (.tuple #[.int .i64 0, .int .i64 2]) ∧ Below W.heap.size W w' by
      have hh := HKU.out W h1 HLN.out h2 HL1.out; unfold SurePost sureOut sureErr at hh; rw [err_bad (by rw [g2, Bool.false_and, Bool.false_and, Bool.and_false])] at hh; exact hh)
    have HPC := Lib.hid (fun W (h1 : RdP W pm pv pr p) (h2 : RdS W pe h.er) => show Calls Tryz.prog 8 #[.agg #[.slice pm p.ms.length cm, .slice pv p.mv.length cv, .slice pr p.rs.length cr]] W fun e w' => e = .returned (.bool true) ∧ Below W.heap.size W w' by
      have hh := r_Piece pm pv pr cm cv cr p W h1 HLN.out; rw [g1] at hh; exact hh)
    have HH1 := Lib.hid (fun W (h1 : RdP W pm pv pr p) (h2 : RdS W pe h.er) => show Calls Tryz.prog 16 #[.agg #[.slice pm p.ms.length cm, .slice pv p.mv.length cv, .slice pr p.rs.length cr], .agg #[.int .i64 h.arb, .int .i64 h.num, .int .i64 h.den, .slice pe h.er.length ce]] W fun e w' => e = .returned (.bool false) ∧ Below W.heap.size W w' by
      have hh := HRH.out W h2 HL1.out; rw [g2] at hh; exact hh)
    have HK3 := Lib.hid (fun W (h1 : RdP W pm pv pr p) => l_asked_no pm pv pr cm cv cr p false W h1 HLN.out (Bool.and_false _)); unfold LAskNo at HK3; have HK5 := Lib.hid (fun W (h1 : RdP W pm pv pr p) => l_asked_no pm pv pr cm cv cr p false W h1 HLN.out (Bool.and_false _)); unfold LAskNo at HK5; clear g1 g2 hZ HKH HKS HKU HRH HRS HRU
    (go_wp2_with fail); refine (HK0.out _ HP.out HE.out).mono ?_
    rintro e wn ⟨rfl, bq⟩; replace HB := Lib.hid (HB.out.trans (bq.mono HB.out.size)); replace HP := Lib.hid (HP.out.below bq); replace HE := Lib.hid (HE.out.below bq); obtain ⟨k0, k1, k2, q0, q1, q2, q3⟩ := cl7 k0 k1 k2 q0 q1 q2 q3 _ bq; clear bq
    (go_wp2_with fail); refine (HK1.out _ HP.out HE.out).mono ?_
    rintro e wn ⟨rfl, bq⟩; replace HB := Lib.hid (HB.out.trans (bq.mono HB.out.size)); replace HP := Lib.hid (HP.out.below bq); replace HE := Lib.hid (HE.out.below bq); obtain ⟨k0, k1, k2, q0, q1, q2, q3⟩ := cl7 k0 k1 k2 q0 q1 q2 q3 _ bq; clear bq; obtain ⟨x2, e2, HSx, r0, r1, bq⟩ := box2 wn (.int .i64 Z) (.int .i64 Z) 44; go_upto_region 5 with (fail); clear e2
    skip; replace HB := Lib.hid (HB.out.trans (bq.mono HB.out.size)); replace HP := Lib.hid (HP.out.below bq); replace HE := Lib.hid (HE.out.below bq); obtain ⟨k0, k1, k2, q0, q1, q2, q3⟩ := cl7 k0 k1 k2 q0 q1 q2 q3 _ bq; clear bq
    (go_wp2_with fail); refine (HK2.out _ HP.out HE.out).mono ?_
    rintro e wn ⟨rfl, bq⟩; replace HB := Lib.hid (HB.out.trans (bq.mono HB.out.size)); replace HP := Lib.hid (HP.out.below bq); replace HE := Lib.hid (HE.out.below bq); obtain ⟨k0, k1, k2, q0, q1, q2, q3, r0, r1⟩ := cl9 k0 k1 k2 q0 q1 q2 q3 r0 r1 _ bq; clear bq
    (go_wp2_with fail); refine (HPC.out _ HP.out HE.out).mono ?_
    rintro e wn ⟨rfl, bq⟩; replace HB := Lib.hid (HB.out.trans (bq.mono HB.out.size)); replace HP := Lib.hid (HP.out.below bq); replace HE := Lib.hid (HE.out.below bq); obtain ⟨k0, k1, k2, q0, q1, q2, q3, r0, r1⟩ := cl9 k0 k1 k2 q0 q1 q2 q3 r0 r1 _ bq; clear bq
    (go_wp2_with fail); refine (HH1.out _ HP.out HE.out).mono ?_
    rintro e wn ⟨rfl, bq⟩; replace HB := Lib.hid (HB.out.trans (bq.mono HB.out.size)); replace HP := Lib.hid (HP.out.below bq); replace HE := Lib.hid (HE.out.below bq); obtain ⟨k0, k1, k2, q0, q1, q2, q3, r0, r1⟩ := cl9 k0 k1 k2 q0 q1 q2 q3 r0 r1 _ bq; clear bq
    (go_wp2_with fail); refine (HK3.out _ HP.out).mono ?_
    rintro e wn ⟨rfl, bq⟩; replace HB := Lib.hid (HB.out.trans (bq.mono HB.out.size)); replace HP := Lib.hid (HP.out.below bq); replace HE := Lib.hid (HE.out.below bq); obtain ⟨k0, k1, k2, q0, q1, q2, q3, r0, r1⟩ := cl9 k0 k1 k2 q0 q1 q2 q3 r0 r1 _ bq; clear bq; go_wp2; have HSB := Lib.hid (cl9 k0 k1 k2 q0 q1 q2 q3 r0 r1); refine held9 k0 k1 k2 q0 q1 q2 q3 r0 r1 (fun W0 HB0 => ?_); refine tk 0 rfl (by exact HSB.out _ HB0) ?_; refine tk 1 rfl (by exact HSB.out _ HB0) ?_; refine tk 2 rfl (by exact HSB.out _ HB0) ?_; (try simp only [Act.put, ptL]); refine tu 3 rfl (by exact HSB.out _ HB0) ?_; (try simp only [Act.put, ptL]); refine tu 4 rfl (by exact HSB.out _ HB0) ?_; (try simp only [Act.put, ptL]); refine tk 5 rfl (by exact HSB.out _ HB0) ?_; refine tk 6 rfl (by exact HSB.out _ HB0) ?_; (try simp only [Act.put, ptL]); refine tu 7 rfl (by exact HSB.out _ HB0) ?_; (try simp only [Act.put, ptL]); refine tu 8 rfl (by exact HSB.out _ HB0) ?_; (try simp only [Act.put, ptL])
    refine tk 9 rfl (by exact HSB.out _ HB0) ?_; (try simp only [Act.put, ptL]); refine rz1 10 rfl ?_; intro K hK; go_simp; refine (HK5.out W0 (HP.out.below HB0)).mono ?_; rintro e W1 ⟨rfl, ba⟩; have HB1 := HB0.trans (ba.mono HB0.size); clear ba; refine kz hK (by exact HSB.out _ HB1) ?_; clear hK K; (try simp only [Act.put, ptL]); refine tk 11 rfl (by exact HSB.out _ HB1) ?_; refine tk 12 rfl (by exact HSB.out _ HB1) ?_; refine tk 13 rfl (by exact HSB.out _ HB1) ?_; refine tk 14 rfl (by exact HSB.out _ HB1) ?_; refine tk 15 rfl (by exact HSB.out _ HB1) ?_; (try simp only [Act.put, ptL]); refine wpAnyH_done (by kernel_rfl) ?_ _; obtain ⟨k0, k1, k2, q0, q1, q2, q3, r0, r1⟩ := HSB.out _ HB1; replace HB := Lib.hid (HB.out.trans (HB1.mono HB.out.size)); replace HP := Lib.hid (HP.out.below HB1); replace HE := Lib.hid (HE.out.below HB1); clear HSB HB0 HB1
    (go_wp2_with fail); refine (c_known m _ (HM.out.below HB.out) (HI.out.below HB.out)).mono ?_; rintro e wn ⟨rfl, bq⟩; have HFK := Lib.hid (HB.out.trans (bq.mono HB.out.size)); clear bq; go_wp2; go_ret; exact ⟨rfl, HFK.out⟩
  by_cases ht : truthsF p = []
  · rcases g3 : inB want (-5000) 5000 with _ | _
    · skip
      obtain ⟨Z, hZ⟩ : ∃ Z : Int, Z = 0 := ⟨0, rfl⟩; have hZ0 : (Z == 0) = true := by simp [hZ]
      have hZ1 : (Z != 0) = false := by simp [hZ]
      have HK0 := Lib.hid (fun W (h1 : RdP W pm pv pr p) (h2 : RdS W pe h.er) => show Calls Tryz.prog 13 #[.agg #[.slice pm p.ms.length cm, .slice pv p.mv.length cv, .slice pr p.rs.length cr], .agg #[.int .i64 h.arb, .int .i64 h.num, .int .i64 h.den, .slice pe h.er.length ce]] W fun e w' => e = .returned (.int .i64 0) ∧ Below W.heap.size W w' by
        have hh := HKH.out W h1 HLN.out h2 HL1.out; rw [if_pos (by rw [g1, g2]; rfl)] at hh; exact hh)
      have HK1 := Lib.hid (fun W (h1 : RdP W pm pv pr p) (h2 : RdS W pe h.er) => show Calls Tryz.prog 14 #[.agg #[.slice pm p.ms.length cm, .slice pv p.mv.length cv, .slice pr p.rs.length cr], .agg #[.int .i64 h.arb, .int .i64 h.num, .int .i64 h.den, .slice pe h.er.length ce]] W fun e w' => e = .returned (.tuple #[.agg #[.int .i64 Z, .int .i64 Z], .int .i64 7]) ∧ Below W.heap.size W w' by
        have hh := HKS.out W h1 HLN.out h2 HL1.out; unfold SpanPost AnsS okI at hh; rw [err_rule (by rw [g1, g2]; rfl) ht] at hh; rw [hZ]; exact hh)
      have HK2 := Lib.hid (fun W (h1 : RdP W pm pv pr p) (h2 : RdS W pe h.er) => show Calls Tryz.prog 15 #[.agg #[.slice pm p.ms.length cm, .slice pv p.mv.length cv, .slice pr p.rs.length cr], .agg #[.int .i64 h.arb, .int .i64 h.num, .int .i64 h.den, .slice pe h.er.length ce], .int .i64 want, .int .i64 lim] W fun e w' => e = .returned (.tuple #[.int .i64 0, .int .i64 2]) ∧ Below W.heap.size W w' by
        have hh := HKU.out W h1 HLN.out h2 HL1.out; unfold SurePost sureOut sureErr at hh; rw [err_bad (by rw [g3, Bool.and_false, Bool.false_and, Bool.and_false])] at hh; exact hh)
      have HPC := Lib.hid (fun W (h1 : RdP W pm pv pr p) (h2 : RdS W pe h.er) => show Calls Tryz.prog 8 #[.agg #[.slice pm p.ms.length cm, .slice pv p.mv.length cv, .slice pr p.rs.length cr]] W fun e w' => e = .returned (.bool true) ∧ Below W.heap.size W w' by
        have hh := r_Piece pm pv pr cm cv cr p W h1 HLN.out; rw [g1] at hh; exact hh)
      have HH1 := Lib.hid (fun W (h1 : RdP W pm pv pr p) (h2 : RdS W pe h.er) => show Calls Tryz.prog 16 #[.agg #[.slice pm p.ms.length cm, .slice pv p.mv.length cv, .slice pr p.rs.length cr], .agg #[.int .i64 h.arb, .int .i64 h.num, .int .i64 h.den, .slice pe h.er.length ce]] W fun e w' => e = .returned (.bool true) ∧ Below W.heap.size W w' by
        have hh := HRH.out W h2 HL1.out; rw [g2] at hh; exact hh)
      have HK3 := Lib.hid (fun W (h1 : RdP W pm pv pr p) => l_asked_rule pm pv pr cm cv cr p W h1 HLN.out g1 ht); unfold LAskNo at HK3; have HK5 := Lib.hid (fun W (h1 : RdP W pm pv pr p) => l_asked_no pm pv pr cm cv cr p false W h1 HLN.out (Bool.and_false _)); unfold LAskNo at HK5
      have HFR := Lib.hid (fun W => show Calls Tryz.prog 19 #[.int .i64 want] W fun e w' => e = .returned (.bool false) ∧ Below W.heap.size W w' by
        have hh := r_Far want W; rw [g3] at hh; exact hh)
      clear g1 g2 g3 hZ HKH HKS HKU HRH HRS HRU
      (go_wp2_with fail); refine (HK0.out _ HP.out HE.out).mono ?_
      rintro e wn ⟨rfl, bq⟩; replace HB := Lib.hid (HB.out.trans (bq.mono HB.out.size)); replace HP := Lib.hid (HP.out.below bq); replace HE := Lib.hid (HE.out.below bq); obtain ⟨k0, k1, k2, q0, q1, q2, q3⟩ := cl7 k0 k1 k2 q0 q1 q2 q3 _ bq; clear bq
      (go_wp2_with fail); refine (HK1.out _ HP.out HE.out).mono ?_
      rintro e wn ⟨rfl, bq⟩; replace HB := Lib.hid (HB.out.trans (bq.mono HB.out.size)); replace HP := Lib.hid (HP.out.below bq); replace HE := Lib.hid (HE.out.below bq); obtain ⟨k0, k1, k2, q0, q1, q2, q3⟩ := cl7 k0 k1 k2 q0 q1 q2 q3 _ bq; clear bq; obtain ⟨x2, e2, HSx, r0, r1, bq⟩ := box2 wn (.int .i64 Z) (.int .i64 Z) 44; go_upto_region 5 with (fail); clear e2
      skip; replace HB := Lib.hid (HB.out.trans (bq.mono HB.out.size)); replace HP := Lib.hid (HP.out.below bq); replace HE := Lib.hid (HE.out.below bq); obtain ⟨k0, k1, k2, q0, q1, q2, q3⟩ := cl7 k0 k1 k2 q0 q1 q2 q3 _ bq; clear bq
      (go_wp2_with fail); refine (HK2.out _ HP.out HE.out).mono ?_
      rintro e wn ⟨rfl, bq⟩; replace HB := Lib.hid (HB.out.trans (bq.mono HB.out.size)); replace HP := Lib.hid (HP.out.below bq); replace HE := Lib.hid (HE.out.below bq); obtain ⟨k0, k1, k2, q0, q1, q2, q3, r0, r1⟩ := cl9 k0 k1 k2 q0 q1 q2 q3 r0 r1 _ bq; clear bq
      (go_wp2_with fail); refine (HPC.out _ HP.out HE.out).mono ?_
      rintro e wn ⟨rfl, bq⟩; replace HB := Lib.hid (HB.out.trans (bq.mono HB.out.size)); replace HP := Lib.hid (HP.out.below bq); replace HE := Lib.hid (HE.out.below bq); obtain ⟨k0, k1, k2, q0, q1, q2, q3, r0, r1⟩ := cl9 k0 k1 k2 q0 q1 q2 q3 r0 r1 _ bq; clear bq
      (go_wp2_with fail); refine (HH1.out _ HP.out HE.out).mono ?_
      rintro e wn ⟨rfl, bq⟩; replace HB := Lib.hid (HB.out.trans (bq.mono HB.out.size)); replace HP := Lib.hid (HP.out.below bq); replace HE := Lib.hid (HE.out.below bq); obtain ⟨k0, k1, k2, q0, q1, q2, q3, r0, r1⟩ := cl9 k0 k1 k2 q0 q1 q2 q3 r0 r1 _ bq; clear bq
      (go_wp2_with fail); refine (HK3.out _ HP.out).mono ?_
      rintro e wn ⟨rfl, bq⟩; replace HB := Lib.hid (HB.out.trans (bq.mono HB.out.size)); replace HP := Lib.hid (HP.out.below bq); replace HE := Lib.hid (HE.out.below bq); obtain ⟨k0, k1, k2, q0, q1, q2, q3, r0, r1⟩ := cl9 k0 k1 k2 q0 q1 q2 q3 r0 r1 _ bq; clear bq; go_wp2; have HSB := Lib.hid (cl9 k0 k1 k2 q0 q1 q2 q3 r0 r1); refine held9 k0 k1 k2 q0 q1 q2 q3 r0 r1 (fun W0 HB0 => ?_); refine tk 0 rfl (by exact HSB.out _ HB0) ?_; refine tk 1 rfl (by exact HSB.out _ HB0) ?_; refine tk 2 rfl (by exact HSB.out _ HB0) ?_; refine tk 3 rfl (by exact HSB.out _ HB0) ?_; (try simp only [Act.put, ptL]); refine rz1 4 rfl ?_; intro K hK; go_simp; refine (HFR.out W0).mono ?_; rintro e W1 ⟨rfl, ba⟩; have HB1 := HB0.trans (ba.mono HB0.size); clear ba; refine kz hK (by exact HSB.out _ HB1) ?_; clear hK K; (try simp only [Act.put, ptL]); refine tk 5 rfl (by exact HSB.out _ HB1) ?_; refine tk 6 rfl (by exact HSB.out _ HB1) ?_; (try simp only [Act.put, ptL])
      refine tu 7 rfl (by exact HSB.out _ HB1) ?_; (try simp only [Act.put, ptL]); refine tu 8 rfl (by exact HSB.out _ HB1) ?_; (try simp only [Act.put, ptL]); refine tk 9 rfl (by exact HSB.out _ HB1) ?_; (try simp only [Act.put, ptL]); refine rz1 10 rfl ?_; intro K hK; go_simp; refine (HK5.out W1 (HP.out.below HB1)).mono ?_; rintro e W2 ⟨rfl, ba⟩; have HB2 := HB1.trans (ba.mono HB1.size); clear ba; refine kz hK (by exact HSB.out _ HB2) ?_; clear hK K; (try simp only [Act.put, ptL]); refine tk 11 rfl (by exact HSB.out _ HB2) ?_; refine tk 12 rfl (by exact HSB.out _ HB2) ?_; refine tk 13 rfl (by exact HSB.out _ HB2) ?_; refine tk 14 rfl (by exact HSB.out _ HB2) ?_; refine tk 15 rfl (by exact HSB.out _ HB2) ?_; (try simp only [Act.put, ptL]); refine wpAnyH_done (by kernel_rfl) ?_ _; obtain ⟨k0, k1, k2, q0, q1, q2, q3, r0, r1⟩ := HSB.out _ HB2; replace HB := Lib.hid (HB.out.trans (HB2.mono HB.out.size))
      replace HP := Lib.hid (HP.out.below HB2); replace HE := Lib.hid (HE.out.below HB2); clear HSB HB0 HB1 HB2
      (go_wp2_with fail); refine (c_known m _ (HM.out.below HB.out) (HI.out.below HB.out)).mono ?_; rintro e wn ⟨rfl, bq⟩; have HFK := Lib.hid (HB.out.trans (bq.mono HB.out.size)); clear bq; go_wp2; go_ret; exact ⟨rfl, HFK.out⟩
    rcases g4 : inB lim 0 5000 with _ | _
    · skip
      obtain ⟨Z, hZ⟩ : ∃ Z : Int, Z = 0 := ⟨0, rfl⟩; have hZ0 : (Z == 0) = true := by simp [hZ]
      have hZ1 : (Z != 0) = false := by simp [hZ]
      have HK0 := Lib.hid (fun W (h1 : RdP W pm pv pr p) (h2 : RdS W pe h.er) => show Calls Tryz.prog 13 #[.agg #[.slice pm p.ms.length cm, .slice pv p.mv.length cv, .slice pr p.rs.length cr], .agg #[.int .i64 h.arb, .int .i64 h.num, .int .i64 h.den, .slice pe h.er.length ce]] W fun e w' => e = .returned (.int .i64 0) ∧ Below W.heap.size W w' by
        have hh := HKH.out W h1 HLN.out h2 HL1.out; rw [if_pos (by rw [g1, g2]; rfl)] at hh; exact hh)
      have HK1 := Lib.hid (fun W (h1 : RdP W pm pv pr p) (h2 : RdS W pe h.er) => show Calls Tryz.prog 14 #[.agg #[.slice pm p.ms.length cm, .slice pv p.mv.length cv, .slice pr p.rs.length cr], .agg #[.int .i64 h.arb, .int .i64 h.num, .int .i64 h.den, .slice pe h.er.length ce]] W fun e w' => e = .returned (.tuple #[.agg #[.int .i64 Z, .int .i64 Z], .int .i64 7]) ∧ Below W.heap.size W w' by
        have hh := HKS.out W h1 HLN.out h2 HL1.out; unfold SpanPost AnsS okI at hh; rw [err_rule (by rw [g1, g2]; rfl) ht] at hh; rw [hZ]; exact hh)
      have HK2 := Lib.hid (fun W (h1 : RdP W pm pv pr p) (h2 : RdS W pe h.er) => show Calls Tryz.prog 15 #[.agg #[.slice pm p.ms.length cm, .slice pv p.mv.length cv, .slice pr p.rs.length cr], .agg #[.int .i64 h.arb, .int .i64 h.num, .int .i64 h.den, .slice pe h.er.length ce], .int .i64 want, .int .i64 lim] W fun e w' => e = .returned (.tuple #[.int .i64 0, .int .i64 2]) ∧ Below W.heap.size W w' by
        have hh := HKU.out W h1 HLN.out h2 HL1.out; unfold SurePost sureOut sureErr at hh; rw [err_bad (by rw [g4, Bool.and_false, Bool.and_false])] at hh; exact hh)
      have HPC := Lib.hid (fun W (h1 : RdP W pm pv pr p) (h2 : RdS W pe h.er) => show Calls Tryz.prog 8 #[.agg #[.slice pm p.ms.length cm, .slice pv p.mv.length cv, .slice pr p.rs.length cr]] W fun e w' => e = .returned (.bool true) ∧ Below W.heap.size W w' by
        have hh := r_Piece pm pv pr cm cv cr p W h1 HLN.out; rw [g1] at hh; exact hh)
      have HH1 := Lib.hid (fun W (h1 : RdP W pm pv pr p) (h2 : RdS W pe h.er) => show Calls Tryz.prog 16 #[.agg #[.slice pm p.ms.length cm, .slice pv p.mv.length cv, .slice pr p.rs.length cr], .agg #[.int .i64 h.arb, .int .i64 h.num, .int .i64 h.den, .slice pe h.er.length ce]] W fun e w' => e = .returned (.bool true) ∧ Below W.heap.size W w' by
        have hh := HRH.out W h2 HL1.out; rw [g2] at hh; exact hh)
      have HK3 := Lib.hid (fun W (h1 : RdP W pm pv pr p) => l_asked_rule pm pv pr cm cv cr p W h1 HLN.out g1 ht); unfold LAskNo at HK3; have HK5 := Lib.hid (fun W (h1 : RdP W pm pv pr p) => l_asked_no pm pv pr cm cv cr p false W h1 HLN.out (Bool.and_false _)); unfold LAskNo at HK5
      have HFR := Lib.hid (fun W => show Calls Tryz.prog 19 #[.int .i64 want] W fun e w' => e = .returned (.bool true) ∧ Below W.heap.size W w' by
        have hh := r_Far want W; rw [g3] at hh; exact hh)
      have HLI := Lib.hid (fun W => show Calls Tryz.prog 20 #[.int .i64 lim] W fun e w' => e = .returned (.bool false) ∧ Below W.heap.size W w' by
        have hh := r_Limit lim W; rw [g4] at hh; exact hh)
      clear g1 g2 g3 g4 hZ HKH HKS HKU HRH HRS HRU
      (go_wp2_with fail); refine (HK0.out _ HP.out HE.out).mono ?_
      rintro e wn ⟨rfl, bq⟩; replace HB := Lib.hid (HB.out.trans (bq.mono HB.out.size)); replace HP := Lib.hid (HP.out.below bq); replace HE := Lib.hid (HE.out.below bq); obtain ⟨k0, k1, k2, q0, q1, q2, q3⟩ := cl7 k0 k1 k2 q0 q1 q2 q3 _ bq; clear bq
      (go_wp2_with fail); refine (HK1.out _ HP.out HE.out).mono ?_
      rintro e wn ⟨rfl, bq⟩; replace HB := Lib.hid (HB.out.trans (bq.mono HB.out.size)); replace HP := Lib.hid (HP.out.below bq); replace HE := Lib.hid (HE.out.below bq); obtain ⟨k0, k1, k2, q0, q1, q2, q3⟩ := cl7 k0 k1 k2 q0 q1 q2 q3 _ bq; clear bq; obtain ⟨x2, e2, HSx, r0, r1, bq⟩ := box2 wn (.int .i64 Z) (.int .i64 Z) 44; go_upto_region 5 with (fail); clear e2
      skip; replace HB := Lib.hid (HB.out.trans (bq.mono HB.out.size)); replace HP := Lib.hid (HP.out.below bq); replace HE := Lib.hid (HE.out.below bq); obtain ⟨k0, k1, k2, q0, q1, q2, q3⟩ := cl7 k0 k1 k2 q0 q1 q2 q3 _ bq; clear bq
      (go_wp2_with fail); refine (HK2.out _ HP.out HE.out).mono ?_
      rintro e wn ⟨rfl, bq⟩; replace HB := Lib.hid (HB.out.trans (bq.mono HB.out.size)); replace HP := Lib.hid (HP.out.below bq); replace HE := Lib.hid (HE.out.below bq); obtain ⟨k0, k1, k2, q0, q1, q2, q3, r0, r1⟩ := cl9 k0 k1 k2 q0 q1 q2 q3 r0 r1 _ bq; clear bq
      (go_wp2_with fail); refine (HPC.out _ HP.out HE.out).mono ?_
      rintro e wn ⟨rfl, bq⟩; replace HB := Lib.hid (HB.out.trans (bq.mono HB.out.size)); replace HP := Lib.hid (HP.out.below bq); replace HE := Lib.hid (HE.out.below bq); obtain ⟨k0, k1, k2, q0, q1, q2, q3, r0, r1⟩ := cl9 k0 k1 k2 q0 q1 q2 q3 r0 r1 _ bq; clear bq
      (go_wp2_with fail); refine (HH1.out _ HP.out HE.out).mono ?_
      rintro e wn ⟨rfl, bq⟩; replace HB := Lib.hid (HB.out.trans (bq.mono HB.out.size)); replace HP := Lib.hid (HP.out.below bq); replace HE := Lib.hid (HE.out.below bq); obtain ⟨k0, k1, k2, q0, q1, q2, q3, r0, r1⟩ := cl9 k0 k1 k2 q0 q1 q2 q3 r0 r1 _ bq; clear bq
      (go_wp2_with fail); refine (HK3.out _ HP.out).mono ?_
      rintro e wn ⟨rfl, bq⟩; replace HB := Lib.hid (HB.out.trans (bq.mono HB.out.size)); replace HP := Lib.hid (HP.out.below bq); replace HE := Lib.hid (HE.out.below bq); obtain ⟨k0, k1, k2, q0, q1, q2, q3, r0, r1⟩ := cl9 k0 k1 k2 q0 q1 q2 q3 r0 r1 _ bq; clear bq; go_wp2; have HSB := Lib.hid (cl9 k0 k1 k2 q0 q1 q2 q3 r0 r1); refine held9 k0 k1 k2 q0 q1 q2 q3 r0 r1 (fun W0 HB0 => ?_); refine tk 0 rfl (by exact HSB.out _ HB0) ?_; refine tk 1 rfl (by exact HSB.out _ HB0) ?_; refine tk 2 rfl (by exact HSB.out _ HB0) ?_; refine tk 3 rfl (by exact HSB.out _ HB0) ?_; (try simp only [Act.put, ptL]); refine rz1 4 rfl ?_; intro K hK; go_simp; refine (HFR.out W0).mono ?_; rintro e W1 ⟨rfl, ba⟩; have HB1 := HB0.trans (ba.mono HB0.size); clear ba; refine kz hK (by exact HSB.out _ HB1) ?_; clear hK K; (try simp only [Act.put, ptL]); refine tk 5 rfl (by exact HSB.out _ HB1) ?_; refine tk 6 rfl (by exact HSB.out _ HB1) ?_; refine tk 7 rfl (by exact HSB.out _ HB1) ?_; (try simp only [Act.put, ptL])
      refine rz1 8 rfl ?_; intro K hK; go_simp; refine (HLI.out W1).mono ?_; rintro e W2 ⟨rfl, ba⟩; have HB2 := HB1.trans (ba.mono HB1.size); clear ba; refine kz hK (by exact HSB.out _ HB2) ?_; clear hK K; (try simp only [Act.put, ptL]); refine tk 9 rfl (by exact HSB.out _ HB2) ?_; (try simp only [Act.put, ptL]); refine rz1 10 rfl ?_; intro K hK; go_simp; refine (HK5.out W2 (HP.out.below HB2)).mono ?_; rintro e W3 ⟨rfl, ba⟩; have HB3 := HB2.trans (ba.mono HB2.size); clear ba; refine kz hK (by exact HSB.out _ HB3) ?_; clear hK K; (try simp only [Act.put, ptL]); refine tk 11 rfl (by exact HSB.out _ HB3) ?_; refine tk 12 rfl (by exact HSB.out _ HB3) ?_; refine tk 13 rfl (by exact HSB.out _ HB3) ?_; refine tk 14 rfl (by exact HSB.out _ HB3) ?_; refine tk 15 rfl (by exact HSB.out _ HB3) ?_; (try simp only [Act.put, ptL]); refine wpAnyH_done (by kernel_rfl) ?_ _; obtain ⟨k0, k1, k2, q0, q1, q2, q3, r0, r1⟩ := HSB.out _ HB3
      replace HB := Lib.hid (HB.out.trans (HB3.mono HB.out.size)); replace HP := Lib.hid (HP.out.below HB3); replace HE := Lib.hid (HE.out.below HB3); clear HSB HB0 HB1 HB2 HB3
      (go_wp2_with fail); refine (c_known m _ (HM.out.below HB.out) (HI.out.below HB.out)).mono ?_; rintro e wn ⟨rfl, bq⟩; have HFK := Lib.hid (HB.out.trans (bq.mono HB.out.size)); clear bq; go_wp2; go_ret; exact ⟨rfl, HFK.out⟩
    · skip
      obtain ⟨Z, hZ⟩ : ∃ Z : Int, Z = 0 := ⟨0, rfl⟩; have hZ0 : (Z == 0) = true := by simp [hZ]
      have hZ1 : (Z != 0) = false := by simp [hZ]
      have HK0 := Lib.hid (fun W (h1 : RdP W pm pv pr p) (h2 : RdS W pe h.er) => show Calls Tryz.prog 13 #[.agg #[.slice pm p.ms.length cm, .slice pv p.mv.length cv, .slice pr p.rs.length cr], .agg #[.int .i64 h.arb, .int .i64 h.num, .int .i64 h.den, .slice pe h.er.length ce]] W fun e w' => e = .returned (.int .i64 0) ∧ Below W.heap.size W w' by
        have hh := HKH.out W h1 HLN.out h2 HL1.out; rw [if_pos (by rw [g1, g2]; rfl)] at hh; exact hh)
      have HK1 := Lib.hid (fun W (h1 : RdP W pm pv pr p) (h2 : RdS W pe h.er) => show Calls Tryz.prog 14 #[.agg #[.slice pm p.ms.length cm, .slice pv p.mv.length cv, .slice pr p.rs.length cr], .agg #[.int .i64 h.arb, .int .i64 h.num, .int .i64 h.den, .slice pe h.er.length ce]] W fun e w' => e = .returned (.tuple #[.agg #[.int .i64 Z, .int .i64 Z], .int .i64 7]) ∧ Below W.heap.size W w' by
        have hh := HKS.out W h1 HLN.out h2 HL1.out; unfold SpanPost AnsS okI at hh; rw [err_rule (by rw [g1, g2]; rfl) ht] at hh; rw [hZ]; exact hh)
      have HK2 := Lib.hid (fun W (h1 : RdP W pm pv pr p) (h2 : RdS W pe h.er) => show Calls Tryz.prog 15 #[.agg #[.slice pm p.ms.length cm, .slice pv p.mv.length cv, .slice pr p.rs.length cr], .agg #[.int .i64 h.arb, .int .i64 h.num, .int .i64 h.den, .slice pe h.er.length ce], .int .i64 want, .int .i64 lim] W fun e w' => e = .returned (.tuple #[.int .i64 0, .int .i64 7]) ∧ Below W.heap.size W w' by
        have hh := HKU.out W h1 HLN.out h2 HL1.out; unfold SurePost sureOut sureErr at hh; rw [err_rule (by rw [g1, g2, g3, g4]; rfl) ht] at hh; exact hh)
      have HPC := Lib.hid (fun W (h1 : RdP W pm pv pr p) (h2 : RdS W pe h.er) => show Calls Tryz.prog 8 #[.agg #[.slice pm p.ms.length cm, .slice pv p.mv.length cv, .slice pr p.rs.length cr]] W fun e w' => e = .returned (.bool true) ∧ Below W.heap.size W w' by
        have hh := r_Piece pm pv pr cm cv cr p W h1 HLN.out; rw [g1] at hh; exact hh)
      have HH1 := Lib.hid (fun W (h1 : RdP W pm pv pr p) (h2 : RdS W pe h.er) => show Calls Tryz.prog 16 #[.agg #[.slice pm p.ms.length cm, .slice pv p.mv.length cv, .slice pr p.rs.length cr], .agg #[.int .i64 h.arb, .int .i64 h.num, .int .i64 h.den, .slice pe h.er.length ce]] W fun e w' => e = .returned (.bool true) ∧ Below W.heap.size W w' by
        have hh := HRH.out W h2 HL1.out; rw [g2] at hh; exact hh)
      have HK3 := Lib.hid (fun W (h1 : RdP W pm pv pr p) => l_asked_rule pm pv pr cm cv cr p W h1 HLN.out g1 ht); unfold LAskNo at HK3; have HK5 := Lib.hid (fun W (h1 : RdP W pm pv pr p) => l_asked_rule pm pv pr cm cv cr p W h1 HLN.out g1 ht); unfold LAskNo at HK5
      have HFR := Lib.hid (fun W => show Calls Tryz.prog 19 #[.int .i64 want] W fun e w' => e = .returned (.bool true) ∧ Below W.heap.size W w' by
        have hh := r_Far want W; rw [g3] at hh; exact hh)
      have HLI := Lib.hid (fun W => show Calls Tryz.prog 20 #[.int .i64 lim] W fun e w' => e = .returned (.bool true) ∧ Below W.heap.size W w' by
        have hh := r_Limit lim W; rw [g4] at hh; exact hh)
      clear g1 g2 g3 g4 hZ HKH HKS HKU HRH HRS HRU
      (go_wp2_with fail); refine (HK0.out _ HP.out HE.out).mono ?_
      rintro e wn ⟨rfl, bq⟩; replace HB := Lib.hid (HB.out.trans (bq.mono HB.out.size)); replace HP := Lib.hid (HP.out.below bq); replace HE := Lib.hid (HE.out.below bq); obtain ⟨k0, k1, k2, q0, q1, q2, q3⟩ := cl7 k0 k1 k2 q0 q1 q2 q3 _ bq; clear bq
      (go_wp2_with fail); refine (HK1.out _ HP.out HE.out).mono ?_
      rintro e wn ⟨rfl, bq⟩; replace HB := Lib.hid (HB.out.trans (bq.mono HB.out.size)); replace HP := Lib.hid (HP.out.below bq); replace HE := Lib.hid (HE.out.below bq); obtain ⟨k0, k1, k2, q0, q1, q2, q3⟩ := cl7 k0 k1 k2 q0 q1 q2 q3 _ bq; clear bq; obtain ⟨x2, e2, HSx, r0, r1, bq⟩ := box2 wn (.int .i64 Z) (.int .i64 Z) 44; go_upto_region 5 with (fail); clear e2
      skip; replace HB := Lib.hid (HB.out.trans (bq.mono HB.out.size)); replace HP := Lib.hid (HP.out.below bq); replace HE := Lib.hid (HE.out.below bq); obtain ⟨k0, k1, k2, q0, q1, q2, q3⟩ := cl7 k0 k1 k2 q0 q1 q2 q3 _ bq; clear bq
      (go_wp2_with fail); refine (HK2.out _ HP.out HE.out).mono ?_
      rintro e wn ⟨rfl, bq⟩; replace HB := Lib.hid (HB.out.trans (bq.mono HB.out.size)); replace HP := Lib.hid (HP.out.below bq); replace HE := Lib.hid (HE.out.below bq); obtain ⟨k0, k1, k2, q0, q1, q2, q3, r0, r1⟩ := cl9 k0 k1 k2 q0 q1 q2 q3 r0 r1 _ bq; clear bq
      (go_wp2_with fail); refine (HPC.out _ HP.out HE.out).mono ?_
      rintro e wn ⟨rfl, bq⟩; replace HB := Lib.hid (HB.out.trans (bq.mono HB.out.size)); replace HP := Lib.hid (HP.out.below bq); replace HE := Lib.hid (HE.out.below bq); obtain ⟨k0, k1, k2, q0, q1, q2, q3, r0, r1⟩ := cl9 k0 k1 k2 q0 q1 q2 q3 r0 r1 _ bq; clear bq
      (go_wp2_with fail); refine (HH1.out _ HP.out HE.out).mono ?_
      rintro e wn ⟨rfl, bq⟩; replace HB := Lib.hid (HB.out.trans (bq.mono HB.out.size)); replace HP := Lib.hid (HP.out.below bq); replace HE := Lib.hid (HE.out.below bq); obtain ⟨k0, k1, k2, q0, q1, q2, q3, r0, r1⟩ := cl9 k0 k1 k2 q0 q1 q2 q3 r0 r1 _ bq; clear bq
      (go_wp2_with fail); refine (HK3.out _ HP.out).mono ?_
      rintro e wn ⟨rfl, bq⟩; replace HB := Lib.hid (HB.out.trans (bq.mono HB.out.size)); replace HP := Lib.hid (HP.out.below bq); replace HE := Lib.hid (HE.out.below bq); obtain ⟨k0, k1, k2, q0, q1, q2, q3, r0, r1⟩ := cl9 k0 k1 k2 q0 q1 q2 q3 r0 r1 _ bq; clear bq; go_wp2; have HSB := Lib.hid (cl9 k0 k1 k2 q0 q1 q2 q3 r0 r1); refine held9 k0 k1 k2 q0 q1 q2 q3 r0 r1 (fun W0 HB0 => ?_); refine tk 0 rfl (by exact HSB.out _ HB0) ?_; refine tk 1 rfl (by exact HSB.out _ HB0) ?_; refine tk 2 rfl (by exact HSB.out _ HB0) ?_; refine tk 3 rfl (by exact HSB.out _ HB0) ?_; (try simp only [Act.put, ptL]); refine rz1 4 rfl ?_; intro K hK; go_simp; refine (HFR.out W0).mono ?_; rintro e W1 ⟨rfl, ba⟩; have HB1 := HB0.trans (ba.mono HB0.size); clear ba; refine kz hK (by exact HSB.out _ HB1) ?_; clear hK K; (try simp only [Act.put, ptL]); refine tk 5 rfl (by exact HSB.out _ HB1) ?_; refine tk 6 rfl (by exact HSB.out _ HB1) ?_; refine tk 7 rfl (by exact HSB.out _ HB1) ?_; (try simp only [Act.put, ptL])
      refine rz1 8 rfl ?_; intro K hK; go_simp; refine (HLI.out W1).mono ?_; rintro e W2 ⟨rfl, ba⟩; have HB2 := HB1.trans (ba.mono HB1.size); clear ba; refine kz hK (by exact HSB.out _ HB2) ?_; clear hK K; (try simp only [Act.put, ptL]); refine tk 9 rfl (by exact HSB.out _ HB2) ?_; (try simp only [Act.put, ptL]); refine rz1 10 rfl ?_; intro K hK; go_simp; refine (HK5.out W2 (HP.out.below HB2)).mono ?_; rintro e W3 ⟨rfl, ba⟩; have HB3 := HB2.trans (ba.mono HB2.size); clear ba; refine kz hK (by exact HSB.out _ HB3) ?_; clear hK K; (try simp only [Act.put, ptL]); refine tk 11 rfl (by exact HSB.out _ HB3) ?_; refine tk 12 rfl (by exact HSB.out _ HB3) ?_; refine tk 13 rfl (by exact HSB.out _ HB3) ?_; refine tk 14 rfl (by exact HSB.out _ HB3) ?_; refine tk 15 rfl (by exact HSB.out _ HB3) ?_; (try simp only [Act.put, ptL]); refine wpAnyH_done (by kernel_rfl) ?_ _; obtain ⟨k0, k1, k2, q0, q1, q2, q3, r0, r1⟩ := HSB.out _ HB3
      replace HB := Lib.hid (HB.out.trans (HB3.mono HB.out.size)); replace HP := Lib.hid (HP.out.below HB3); replace HE := Lib.hid (HE.out.below HB3); clear HSB HB0 HB1 HB2 HB3
      (go_wp2_with fail); refine (c_known m _ (HM.out.below HB.out) (HI.out.below HB.out)).mono ?_; rintro e wn ⟨rfl, bq⟩; have HFK := Lib.hid (HB.out.trans (bq.mono HB.out.size)); clear bq; go_wp2; go_ret; exact ⟨rfl, HFK.out⟩
  obtain ⟨V0, hV0⟩ : ∃ x, (showsF p h).1 = x := ⟨_, rfl⟩; obtain ⟨V1, hV1⟩ : ∃ x, (showsF p h).2 = x := ⟨_, rfl⟩; obtain ⟨SU, hSU⟩ : ∃ x, sureF p h want lim = x := ⟨_, rfl⟩
  rcases g3 : inB want (-5000) 5000 with _ | _
  · skip
    have HK0 := Lib.hid (fun W (h1 : RdP W pm pv pr p) (h2 : RdS W pe h.er) => show Calls Tryz.prog 13 #[.agg #[.slice pm p.ms.length cm, .slice pv p.mv.length cv, .slice pr p.rs.length cr], .agg #[.int .i64 h.arb, .int .i64 h.num, .int .i64 h.den, .slice pe h.er.length ce]] W fun e w' => e = .returned (.int .i64 0) ∧ Below W.heap.size W w' by
      have hh := HKH.out W h1 HLN.out h2 HL1.out; rw [if_pos (by rw [g1, g2]; rfl)] at hh; exact hh)
    have HK1 := Lib.hid (fun W (h1 : RdP W pm pv pr p) (h2 : RdS W pe h.er) => show Calls Tryz.prog 14 #[.agg #[.slice pm p.ms.length cm, .slice pv p.mv.length cv, .slice pr p.rs.length cr], .agg #[.int .i64 h.arb, .int .i64 h.num, .int .i64 h.den, .slice pe h.er.length ce]] W fun e w' => e = .returned (.tuple #[.agg #[.int .i64 V0, .int .i64 V1], .int .i64 0]) ∧ Below W.heap.size W w' by
      have hh := HKS.out W h1 HLN.out h2 HL1.out; unfold SpanPost AnsS okI at hh; rw [err_good g1 g2 ht] at hh; simp only [if_pos, hV0, hV1] at hh; exact hh)
    have HK2 := Lib.hid (fun W (h1 : RdP W pm pv pr p) (h2 : RdS W pe h.er) => show Calls Tryz.prog 15 #[.agg #[.slice pm p.ms.length cm, .slice pv p.mv.length cv, .slice pr p.rs.length cr], .agg #[.int .i64 h.arb, .int .i64 h.num, .int .i64 h.den, .slice pe h.er.length ce], .int .i64 want, .int .i64 lim] W fun e w' => e = .returned (.tuple #[.int .i64 0, .int .i64 2]) ∧ Below W.heap.size W w' by
      have hh := HKU.out W h1 HLN.out h2 HL1.out; unfold SurePost sureOut sureErr at hh; rw [err_bad (by rw [g3, Bool.and_false, Bool.false_and, Bool.and_false])] at hh; exact hh)
    have HPC := Lib.hid (fun W (h1 : RdP W pm pv pr p) (h2 : RdS W pe h.er) => show Calls Tryz.prog 8 #[.agg #[.slice pm p.ms.length cm, .slice pv p.mv.length cv, .slice pr p.rs.length cr]] W fun e w' => e = .returned (.bool true) ∧ Below W.heap.size W w' by
      have hh := r_Piece pm pv pr cm cv cr p W h1 HLN.out; rw [g1] at hh; exact hh)
    have HH1 := Lib.hid (fun W (h1 : RdP W pm pv pr p) (h2 : RdS W pe h.er) => show Calls Tryz.prog 16 #[.agg #[.slice pm p.ms.length cm, .slice pv p.mv.length cv, .slice pr p.rs.length cr], .agg #[.int .i64 h.arb, .int .i64 h.num, .int .i64 h.den, .slice pe h.er.length ce]] W fun e w' => e = .returned (.bool true) ∧ Below W.heap.size W w' by
      have hh := HRH.out W h2 HL1.out; rw [g2] at hh; exact hh)
    have HK3 := Lib.hid (fun W (h1 : RdP W pm pv pr p) => l_asked_ok pm pv pr cm cv cr p W h1 HLN.out g1 ht); have HK5 := Lib.hid (fun W (h1 : RdP W pm pv pr p) => l_asked_no pm pv pr cm cv cr p false W h1 HLN.out (Bool.and_false _)); unfold LAskNo at HK5
    have HFR := Lib.hid (fun W => show Calls Tryz.prog 19 #[.int .i64 want] W fun e w' => e = .returned (.bool false) ∧ Below W.heap.size W w' by
      have hh := r_Far want W; rw [g3] at hh; exact hh)
    have HK4 := Lib.hid (fun W q c (h1 : RdP W pm pv pr p) (hq : RdLs W q (truthsF p)) (h2 : RdS W pe h.er) => show Calls Tryz.prog 18 #[.agg #[.slice pm p.ms.length cm, .slice pv p.mv.length cv, .slice pr p.rs.length cr], .slice q (truthsF p).length c, .agg #[.int .i64 h.arb, .int .i64 h.num, .int .i64 h.den, .slice pe h.er.length ce]] W fun e w' => e = .returned (.agg #[.int .i64 V0, .int .i64 V1]) ∧ Below W.heap.size W w' by
      have hh := HRS.out q c W h1 hq (pieceB_iff.1 g1) ht h2 (handB_iff.1 g2); unfold ShPost at hh; rw [hV0, hV1] at hh; exact hh)
    have t5 : (V0 == V0) = true := by simp
    have t6 : (V1 == V1) = true := by simp
    clear g1 g2 g3 hV0 hV1 hSU HKH HKS HKU HRH HRS HRU
    (go_wp2_with fail); refine (HK0.out _ HP.out HE.out).mono ?_
    rintro e wn ⟨rfl, bq⟩; replace HB := Lib.hid (HB.out.trans (bq.mono HB.out.size)); replace HP := Lib.hid (HP.out.below bq); replace HE := Lib.hid (HE.out.below bq); obtain ⟨k0, k1, k2, q0, q1, q2, q3⟩ := cl7 k0 k1 k2 q0 q1 q2 q3 _ bq; clear bq
    (go_wp2_with fail); refine (HK1.out _ HP.out HE.out).mono ?_
    rintro e wn ⟨rfl, bq⟩; replace HB := Lib.hid (HB.out.trans (bq.mono HB.out.size)); replace HP := Lib.hid (HP.out.below bq); replace HE := Lib.hid (HE.out.below bq); obtain ⟨k0, k1, k2, q0, q1, q2, q3⟩ := cl7 k0 k1 k2 q0 q1 q2 q3 _ bq; clear bq; obtain ⟨x2, e2, HSx, r0, r1, bq⟩ := box2 wn (.int .i64 V0) (.int .i64 V1) 44; go_upto_region 5 with (fail); clear e2
    skip; replace HB := Lib.hid (HB.out.trans (bq.mono HB.out.size)); replace HP := Lib.hid (HP.out.below bq); replace HE := Lib.hid (HE.out.below bq); obtain ⟨k0, k1, k2, q0, q1, q2, q3⟩ := cl7 k0 k1 k2 q0 q1 q2 q3 _ bq; clear bq
    (go_wp2_with fail); refine (HK2.out _ HP.out HE.out).mono ?_
    rintro e wn ⟨rfl, bq⟩; replace HB := Lib.hid (HB.out.trans (bq.mono HB.out.size)); replace HP := Lib.hid (HP.out.below bq); replace HE := Lib.hid (HE.out.below bq); obtain ⟨k0, k1, k2, q0, q1, q2, q3, r0, r1⟩ := cl9 k0 k1 k2 q0 q1 q2 q3 r0 r1 _ bq; clear bq
    (go_wp2_with fail); refine (HPC.out _ HP.out HE.out).mono ?_
    rintro e wn ⟨rfl, bq⟩; replace HB := Lib.hid (HB.out.trans (bq.mono HB.out.size)); replace HP := Lib.hid (HP.out.below bq); replace HE := Lib.hid (HE.out.below bq); obtain ⟨k0, k1, k2, q0, q1, q2, q3, r0, r1⟩ := cl9 k0 k1 k2 q0 q1 q2 q3 r0 r1 _ bq; clear bq
    (go_wp2_with fail); refine (HH1.out _ HP.out HE.out).mono ?_
    rintro e wn ⟨rfl, bq⟩; replace HB := Lib.hid (HB.out.trans (bq.mono HB.out.size)); replace HP := Lib.hid (HP.out.below bq); replace HE := Lib.hid (HE.out.below bq); obtain ⟨k0, k1, k2, q0, q1, q2, q3, r0, r1⟩ := cl9 k0 k1 k2 q0 q1 q2 q3 r0 r1 _ bq; clear bq
    (go_wp2_with fail); refine (HK3.out _ HP.out).mono ?_
    rintro e wn ⟨q, c, rfl, hr, bq⟩
    skip; replace HB := Lib.hid (HB.out.trans (bq.mono HB.out.size)); replace HP := Lib.hid (HP.out.below bq); replace HE := Lib.hid (HE.out.below bq); obtain ⟨k0, k1, k2, q0, q1, q2, q3, r0, r1⟩ := cl9 k0 k1 k2 q0 q1 q2 q3 r0 r1 _ bq; clear bq
    have HR := Lib.hid hr; clear hr; go_wp2; have HSB := Lib.hid (cl9 k0 k1 k2 q0 q1 q2 q3 r0 r1); refine held9 k0 k1 k2 q0 q1 q2 q3 r0 r1 (fun W0 HB0 => ?_); refine tk 0 rfl (by exact HSB.out _ HB0) ?_; refine tk 1 rfl (by exact HSB.out _ HB0) ?_; refine tk 2 rfl (by exact HSB.out _ HB0) ?_; refine tk 3 rfl (by exact HSB.out _ HB0) ?_; refine tk 4 rfl (by exact HSB.out _ HB0) ?_; refine tk 5 rfl (by exact HSB.out _ HB0) ?_; refine tk 6 rfl (by exact HSB.out _ HB0) ?_; (try simp only [Act.put, ptL]); refine rz1 7 rfl ?_; intro K hK; go_simp; refine (HK4.out W0 _ _ (HP.out.below HB0) (HR.out.below HB0) (HE.out.below HB0)).mono ?_; rintro e W1 ⟨rfl, ba⟩; have HB1 := HB0.trans (ba.mono HB0.size); clear ba; refine kz hK (by exact HSB.out _ HB1) ?_; clear hK K; (try simp only [Act.put, ptL]); refine tk 8 rfl (by exact HSB.out _ HB1) ?_; refine tk 9 rfl (by exact HSB.out _ HB1) ?_; (try simp only [Act.put, ptL])
    refine wpAnyH_done (by kernel_rfl) ?_ _; obtain ⟨k0, k1, k2, q0, q1, q2, q3, r0, r1⟩ := HSB.out _ HB1; replace HB := Lib.hid (HB.out.trans (HB1.mono HB.out.size)); replace HP := Lib.hid (HP.out.below HB1); replace HE := Lib.hid (HE.out.below HB1); replace HR := Lib.hid (HR.out.below HB1); clear HSB HB0 HB1; go_wp2; have HSB := Lib.hid (cl9 k0 k1 k2 q0 q1 q2 q3 r0 r1); refine held9 k0 k1 k2 q0 q1 q2 q3 r0 r1 (fun W0 HB0 => ?_); refine tk 0 rfl (by exact HSB.out _ HB0) ?_; refine tk 1 rfl (by exact HSB.out _ HB0) ?_; refine tk 2 rfl (by exact HSB.out _ HB0) ?_; refine tk 3 rfl (by exact HSB.out _ HB0) ?_; (try simp only [Act.put, ptL]); refine rz1 4 rfl ?_; intro K hK; go_simp; refine (HFR.out W0).mono ?_; rintro e W1 ⟨rfl, ba⟩; have HB1 := HB0.trans (ba.mono HB0.size); clear ba; refine kz hK (by exact HSB.out _ HB1) ?_; clear hK K; (try simp only [Act.put, ptL]); refine tk 5 rfl (by exact HSB.out _ HB1) ?_; refine tk 6 rfl (by exact HSB.out _ HB1) ?_; (try simp only [Act.put, ptL])
    refine tu 7 rfl (by exact HSB.out _ HB1) ?_; (try simp only [Act.put, ptL]); refine tu 8 rfl (by exact HSB.out _ HB1) ?_; (try simp only [Act.put, ptL]); refine tk 9 rfl (by exact HSB.out _ HB1) ?_; (try simp only [Act.put, ptL]); refine rz1 10 rfl ?_; intro K hK; go_simp; refine (HK5.out W1 (HP.out.below HB1)).mono ?_; rintro e W2 ⟨rfl, ba⟩; have HB2 := HB1.trans (ba.mono HB1.size); clear ba; refine kz hK (by exact HSB.out _ HB2) ?_; clear hK K; (try simp only [Act.put, ptL]); refine tk 11 rfl (by exact HSB.out _ HB2) ?_; refine tk 12 rfl (by exact HSB.out _ HB2) ?_; refine tk 13 rfl (by exact HSB.out _ HB2) ?_; refine tk 14 rfl (by exact HSB.out _ HB2) ?_; refine tk 15 rfl (by exact HSB.out _ HB2) ?_; (try simp only [Act.put, ptL]); refine wpAnyH_done (by kernel_rfl) ?_ _; obtain ⟨k0, k1, k2, q0, q1, q2, q3, r0, r1⟩ := HSB.out _ HB2; replace HB := Lib.hid (HB.out.trans (HB2.mono HB.out.size))
    replace HP := Lib.hid (HP.out.below HB2); replace HE := Lib.hid (HE.out.below HB2); clear HSB HB0 HB1 HB2
    (go_wp2_with fail); refine (c_known m _ (HM.out.below HB.out) (HI.out.below HB.out)).mono ?_; rintro e wn ⟨rfl, bq⟩; have HFK := Lib.hid (HB.out.trans (bq.mono HB.out.size)); clear bq; go_wp2; go_ret; exact ⟨rfl, HFK.out⟩
  rcases g4 : inB lim 0 5000 with _ | _
  · skip
    have HK0 := Lib.hid (fun W (h1 : RdP W pm pv pr p) (h2 : RdS W pe h.er) => show Calls Tryz.prog 13 #[.agg #[.slice pm p.ms.length cm, .slice pv p.mv.length cv, .slice pr p.rs.length cr], .agg #[.int .i64 h.arb, .int .i64 h.num, .int .i64 h.den, .slice pe h.er.length ce]] W fun e w' => e = .returned (.int .i64 0) ∧ Below W.heap.size W w' by
      have hh := HKH.out W h1 HLN.out h2 HL1.out; rw [if_pos (by rw [g1, g2]; rfl)] at hh; exact hh)
    have HK1 := Lib.hid (fun W (h1 : RdP W pm pv pr p) (h2 : RdS W pe h.er) => show Calls Tryz.prog 14 #[.agg #[.slice pm p.ms.length cm, .slice pv p.mv.length cv, .slice pr p.rs.length cr], .agg #[.int .i64 h.arb, .int .i64 h.num, .int .i64 h.den, .slice pe h.er.length ce]] W fun e w' => e = .returned (.tuple #[.agg #[.int .i64 V0, .int .i64 V1], .int .i64 0]) ∧ Below W.heap.size W w' by
      have hh := HKS.out W h1 HLN.out h2 HL1.out; unfold SpanPost AnsS okI at hh; rw [err_good g1 g2 ht] at hh; simp only [if_pos, hV0, hV1] at hh; exact hh)
    have HK2 := Lib.hid (fun W (h1 : RdP W pm pv pr p) (h2 : RdS W pe h.er) => show Calls Tryz.prog 15 #[.agg #[.slice pm p.ms.length cm, .slice pv p.mv.length cv, .slice pr p.rs.length cr], .agg #[.int .i64 h.arb, .int .i64 h.num, .int .i64 h.den, .slice pe h.er.length ce], .int .i64 want, .int .i64 lim] W fun e w' => e = .returned (.tuple #[.int .i64 0, .int .i64 2]) ∧ Below W.heap.size W w' by
      have hh := HKU.out W h1 HLN.out h2 HL1.out; unfold SurePost sureOut sureErr at hh; rw [err_bad (by rw [g4, Bool.and_false, Bool.and_false])] at hh; exact hh)
    have HPC := Lib.hid (fun W (h1 : RdP W pm pv pr p) (h2 : RdS W pe h.er) => show Calls Tryz.prog 8 #[.agg #[.slice pm p.ms.length cm, .slice pv p.mv.length cv, .slice pr p.rs.length cr]] W fun e w' => e = .returned (.bool true) ∧ Below W.heap.size W w' by
      have hh := r_Piece pm pv pr cm cv cr p W h1 HLN.out; rw [g1] at hh; exact hh)
    have HH1 := Lib.hid (fun W (h1 : RdP W pm pv pr p) (h2 : RdS W pe h.er) => show Calls Tryz.prog 16 #[.agg #[.slice pm p.ms.length cm, .slice pv p.mv.length cv, .slice pr p.rs.length cr], .agg #[.int .i64 h.arb, .int .i64 h.num, .int .i64 h.den, .slice pe h.er.length ce]] W fun e w' => e = .returned (.bool true) ∧ Below W.heap.size W w' by
      have hh := HRH.out W h2 HL1.out; rw [g2] at hh; exact hh)
    have HK3 := Lib.hid (fun W (h1 : RdP W pm pv pr p) => l_asked_ok pm pv pr cm cv cr p W h1 HLN.out g1 ht); have HK5 := Lib.hid (fun W (h1 : RdP W pm pv pr p) => l_asked_no pm pv pr cm cv cr p false W h1 HLN.out (Bool.and_false _)); unfold LAskNo at HK5
    have HFR := Lib.hid (fun W => show Calls Tryz.prog 19 #[.int .i64 want] W fun e w' => e = .returned (.bool true) ∧ Below W.heap.size W w' by
      have hh := r_Far want W; rw [g3] at hh; exact hh)
    have HLI := Lib.hid (fun W => show Calls Tryz.prog 20 #[.int .i64 lim] W fun e w' => e = .returned (.bool false) ∧ Below W.heap.size W w' by
      have hh := r_Limit lim W; rw [g4] at hh; exact hh)
    have HK4 := Lib.hid (fun W q c (h1 : RdP W pm pv pr p) (hq : RdLs W q (truthsF p)) (h2 : RdS W pe h.er) => show Calls Tryz.prog 18 #[.agg #[.slice pm p.ms.length cm, .slice pv p.mv.length cv, .slice pr p.rs.length cr], .slice q (truthsF p).length c, .agg #[.int .i64 h.arb, .int .i64 h.num, .int .i64 h.den, .slice pe h.er.length ce]] W fun e w' => e = .returned (.agg #[.int .i64 V0, .int .i64 V1]) ∧ Below W.heap.size W w' by
      have hh := HRS.out q c W h1 hq (pieceB_iff.1 g1) ht h2 (handB_iff.1 g2); unfold ShPost at hh; rw [hV0, hV1] at hh; exact hh)
    have t5 : (V0 == V0) = true := by simp
    have t6 : (V1 == V1) = true := by simp
    clear g1 g2 g3 g4 hV0 hV1 hSU HKH HKS HKU HRH HRS HRU
    (go_wp2_with fail); refine (HK0.out _ HP.out HE.out).mono ?_
    rintro e wn ⟨rfl, bq⟩; replace HB := Lib.hid (HB.out.trans (bq.mono HB.out.size)); replace HP := Lib.hid (HP.out.below bq); replace HE := Lib.hid (HE.out.below bq); obtain ⟨k0, k1, k2, q0, q1, q2, q3⟩ := cl7 k0 k1 k2 q0 q1 q2 q3 _ bq; clear bq
    (go_wp2_with fail); refine (HK1.out _ HP.out HE.out).mono ?_
    rintro e wn ⟨rfl, bq⟩; replace HB := Lib.hid (HB.out.trans (bq.mono HB.out.size)); replace HP := Lib.hid (HP.out.below bq); replace HE := Lib.hid (HE.out.below bq); obtain ⟨k0, k1, k2, q0, q1, q2, q3⟩ := cl7 k0 k1 k2 q0 q1 q2 q3 _ bq; clear bq; obtain ⟨x2, e2, HSx, r0, r1, bq⟩ := box2 wn (.int .i64 V0) (.int .i64 V1) 44; go_upto_region 5 with (fail); clear e2
    skip; replace HB := Lib.hid (HB.out.trans (bq.mono HB.out.size)); replace HP := Lib.hid (HP.out.below bq); replace HE := Lib.hid (HE.out.below bq); obtain ⟨k0, k1, k2, q0, q1, q2, q3⟩ := cl7 k0 k1 k2 q0 q1 q2 q3 _ bq; clear bq
    (go_wp2_with fail); refine (HK2.out _ HP.out HE.out).mono ?_
    rintro e wn ⟨rfl, bq⟩; replace HB := Lib.hid (HB.out.trans (bq.mono HB.out.size)); replace HP := Lib.hid (HP.out.below bq); replace HE := Lib.hid (HE.out.below bq); obtain ⟨k0, k1, k2, q0, q1, q2, q3, r0, r1⟩ := cl9 k0 k1 k2 q0 q1 q2 q3 r0 r1 _ bq; clear bq
    (go_wp2_with fail); refine (HPC.out _ HP.out HE.out).mono ?_
    rintro e wn ⟨rfl, bq⟩; replace HB := Lib.hid (HB.out.trans (bq.mono HB.out.size)); replace HP := Lib.hid (HP.out.below bq); replace HE := Lib.hid (HE.out.below bq); obtain ⟨k0, k1, k2, q0, q1, q2, q3, r0, r1⟩ := cl9 k0 k1 k2 q0 q1 q2 q3 r0 r1 _ bq; clear bq
    (go_wp2_with fail); refine (HH1.out _ HP.out HE.out).mono ?_
    rintro e wn ⟨rfl, bq⟩; replace HB := Lib.hid (HB.out.trans (bq.mono HB.out.size)); replace HP := Lib.hid (HP.out.below bq); replace HE := Lib.hid (HE.out.below bq); obtain ⟨k0, k1, k2, q0, q1, q2, q3, r0, r1⟩ := cl9 k0 k1 k2 q0 q1 q2 q3 r0 r1 _ bq; clear bq
    (go_wp2_with fail); refine (HK3.out _ HP.out).mono ?_
    rintro e wn ⟨q, c, rfl, hr, bq⟩
    skip; replace HB := Lib.hid (HB.out.trans (bq.mono HB.out.size)); replace HP := Lib.hid (HP.out.below bq); replace HE := Lib.hid (HE.out.below bq); obtain ⟨k0, k1, k2, q0, q1, q2, q3, r0, r1⟩ := cl9 k0 k1 k2 q0 q1 q2 q3 r0 r1 _ bq; clear bq
    have HR := Lib.hid hr; clear hr; go_wp2; have HSB := Lib.hid (cl9 k0 k1 k2 q0 q1 q2 q3 r0 r1); refine held9 k0 k1 k2 q0 q1 q2 q3 r0 r1 (fun W0 HB0 => ?_); refine tk 0 rfl (by exact HSB.out _ HB0) ?_; refine tk 1 rfl (by exact HSB.out _ HB0) ?_; refine tk 2 rfl (by exact HSB.out _ HB0) ?_; refine tk 3 rfl (by exact HSB.out _ HB0) ?_; refine tk 4 rfl (by exact HSB.out _ HB0) ?_; refine tk 5 rfl (by exact HSB.out _ HB0) ?_; refine tk 6 rfl (by exact HSB.out _ HB0) ?_; (try simp only [Act.put, ptL]); refine rz1 7 rfl ?_; intro K hK; go_simp; refine (HK4.out W0 _ _ (HP.out.below HB0) (HR.out.below HB0) (HE.out.below HB0)).mono ?_; rintro e W1 ⟨rfl, ba⟩; have HB1 := HB0.trans (ba.mono HB0.size); clear ba; refine kz hK (by exact HSB.out _ HB1) ?_; clear hK K; (try simp only [Act.put, ptL]); refine tk 8 rfl (by exact HSB.out _ HB1) ?_; refine tk 9 rfl (by exact HSB.out _ HB1) ?_; (try simp only [Act.put, ptL])
    refine wpAnyH_done (by kernel_rfl) ?_ _; obtain ⟨k0, k1, k2, q0, q1, q2, q3, r0, r1⟩ := HSB.out _ HB1; replace HB := Lib.hid (HB.out.trans (HB1.mono HB.out.size)); replace HP := Lib.hid (HP.out.below HB1); replace HE := Lib.hid (HE.out.below HB1); replace HR := Lib.hid (HR.out.below HB1); clear HSB HB0 HB1; go_wp2; have HSB := Lib.hid (cl9 k0 k1 k2 q0 q1 q2 q3 r0 r1); refine held9 k0 k1 k2 q0 q1 q2 q3 r0 r1 (fun W0 HB0 => ?_); refine tk 0 rfl (by exact HSB.out _ HB0) ?_; refine tk 1 rfl (by exact HSB.out _ HB0) ?_; refine tk 2 rfl (by exact HSB.out _ HB0) ?_; refine tk 3 rfl (by exact HSB.out _ HB0) ?_; (try simp only [Act.put, ptL]); refine rz1 4 rfl ?_; intro K hK; go_simp; refine (HFR.out W0).mono ?_; rintro e W1 ⟨rfl, ba⟩; have HB1 := HB0.trans (ba.mono HB0.size); clear ba; refine kz hK (by exact HSB.out _ HB1) ?_; clear hK K; (try simp only [Act.put, ptL]); refine tk 5 rfl (by exact HSB.out _ HB1) ?_; refine tk 6 rfl (by exact HSB.out _ HB1) ?_; refine tk 7 rfl (by exact HSB.out _ HB1) ?_; (try simp only [Act.put, ptL])
    refine rz1 8 rfl ?_; intro K hK; go_simp; refine (HLI.out W1).mono ?_; rintro e W2 ⟨rfl, ba⟩; have HB2 := HB1.trans (ba.mono HB1.size); clear ba; refine kz hK (by exact HSB.out _ HB2) ?_; clear hK K; (try simp only [Act.put, ptL]); refine tk 9 rfl (by exact HSB.out _ HB2) ?_; (try simp only [Act.put, ptL]); refine rz1 10 rfl ?_; intro K hK; go_simp; refine (HK5.out W2 (HP.out.below HB2)).mono ?_; rintro e W3 ⟨rfl, ba⟩; have HB3 := HB2.trans (ba.mono HB2.size); clear ba; refine kz hK (by exact HSB.out _ HB3) ?_; clear hK K; (try simp only [Act.put, ptL]); refine tk 11 rfl (by exact HSB.out _ HB3) ?_; refine tk 12 rfl (by exact HSB.out _ HB3) ?_; refine tk 13 rfl (by exact HSB.out _ HB3) ?_; refine tk 14 rfl (by exact HSB.out _ HB3) ?_; refine tk 15 rfl (by exact HSB.out _ HB3) ?_; (try simp only [Act.put, ptL]); refine wpAnyH_done (by kernel_rfl) ?_ _; obtain ⟨k0, k1, k2, q0, q1, q2, q3, r0, r1⟩ := HSB.out _ HB3
    replace HB := Lib.hid (HB.out.trans (HB3.mono HB.out.size)); replace HP := Lib.hid (HP.out.below HB3); replace HE := Lib.hid (HE.out.below HB3); clear HSB HB0 HB1 HB2 HB3
    (go_wp2_with fail); refine (c_known m _ (HM.out.below HB.out) (HI.out.below HB.out)).mono ?_; rintro e wn ⟨rfl, bq⟩; have HFK := Lib.hid (HB.out.trans (bq.mono HB.out.size)); clear bq; go_wp2; go_ret; exact ⟨rfl, HFK.out⟩
  · skip
    have HK0 := Lib.hid (fun W (h1 : RdP W pm pv pr p) (h2 : RdS W pe h.er) => show Calls Tryz.prog 13 #[.agg #[.slice pm p.ms.length cm, .slice pv p.mv.length cv, .slice pr p.rs.length cr], .agg #[.int .i64 h.arb, .int .i64 h.num, .int .i64 h.den, .slice pe h.er.length ce]] W fun e w' => e = .returned (.int .i64 0) ∧ Below W.heap.size W w' by
      have hh := HKH.out W h1 HLN.out h2 HL1.out; rw [if_pos (by rw [g1, g2]; rfl)] at hh; exact hh)
    have HK1 := Lib.hid (fun W (h1 : RdP W pm pv pr p) (h2 : RdS W pe h.er) => show Calls Tryz.prog 14 #[.agg #[.slice pm p.ms.length cm, .slice pv p.mv.length cv, .slice pr p.rs.length cr], .agg #[.int .i64 h.arb, .int .i64 h.num, .int .i64 h.den, .slice pe h.er.length ce]] W fun e w' => e = .returned (.tuple #[.agg #[.int .i64 V0, .int .i64 V1], .int .i64 0]) ∧ Below W.heap.size W w' by
      have hh := HKS.out W h1 HLN.out h2 HL1.out; unfold SpanPost AnsS okI at hh; rw [err_good g1 g2 ht] at hh; simp only [if_pos, hV0, hV1] at hh; exact hh)
    have HK2 := Lib.hid (fun W (h1 : RdP W pm pv pr p) (h2 : RdS W pe h.er) => show Calls Tryz.prog 15 #[.agg #[.slice pm p.ms.length cm, .slice pv p.mv.length cv, .slice pr p.rs.length cr], .agg #[.int .i64 h.arb, .int .i64 h.num, .int .i64 h.den, .slice pe h.er.length ce], .int .i64 want, .int .i64 lim] W fun e w' => e = .returned (.tuple #[.int .i64 SU, .int .i64 0]) ∧ Below W.heap.size W w' by
      have hh := HKU.out W h1 HLN.out h2 HL1.out; unfold SurePost sureOut sureErr at hh; rw [err_good g1 (by rw [g2, g3, g4]; rfl) ht, if_pos rfl, hSU] at hh; exact hh)
    have HPC := Lib.hid (fun W (h1 : RdP W pm pv pr p) (h2 : RdS W pe h.er) => show Calls Tryz.prog 8 #[.agg #[.slice pm p.ms.length cm, .slice pv p.mv.length cv, .slice pr p.rs.length cr]] W fun e w' => e = .returned (.bool true) ∧ Below W.heap.size W w' by
      have hh := r_Piece pm pv pr cm cv cr p W h1 HLN.out; rw [g1] at hh; exact hh)
    have HH1 := Lib.hid (fun W (h1 : RdP W pm pv pr p) (h2 : RdS W pe h.er) => show Calls Tryz.prog 16 #[.agg #[.slice pm p.ms.length cm, .slice pv p.mv.length cv, .slice pr p.rs.length cr], .agg #[.int .i64 h.arb, .int .i64 h.num, .int .i64 h.den, .slice pe h.er.length ce]] W fun e w' => e = .returned (.bool true) ∧ Below W.heap.size W w' by
      have hh := HRH.out W h2 HL1.out; rw [g2] at hh; exact hh)
    have HK3 := Lib.hid (fun W (h1 : RdP W pm pv pr p) => l_asked_ok pm pv pr cm cv cr p W h1 HLN.out g1 ht); have HK5 := Lib.hid (fun W (h1 : RdP W pm pv pr p) => l_asked_ok pm pv pr cm cv cr p W h1 HLN.out g1 ht)
    have HFR := Lib.hid (fun W => show Calls Tryz.prog 19 #[.int .i64 want] W fun e w' => e = .returned (.bool true) ∧ Below W.heap.size W w' by
      have hh := r_Far want W; rw [g3] at hh; exact hh)
    have HLI := Lib.hid (fun W => show Calls Tryz.prog 20 #[.int .i64 lim] W fun e w' => e = .returned (.bool true) ∧ Below W.heap.size W w' by
      have hh := r_Limit lim W; rw [g4] at hh; exact hh)
    have HK4 := Lib.hid (fun W q c (h1 : RdP W pm pv pr p) (hq : RdLs W q (truthsF p)) (h2 : RdS W pe h.er) => show Calls Tryz.prog 18 #[.agg #[.slice pm p.ms.length cm, .slice pv p.mv.length cv, .slice pr p.rs.length cr], .slice q (truthsF p).length c, .agg #[.int .i64 h.arb, .int .i64 h.num, .int .i64 h.den, .slice pe h.er.length ce]] W fun e w' => e = .returned (.agg #[.int .i64 V0, .int .i64 V1]) ∧ Below W.heap.size W w' by
      have hh := HRS.out q c W h1 hq (pieceB_iff.1 g1) ht h2 (handB_iff.1 g2); unfold ShPost at hh; rw [hV0, hV1] at hh; exact hh)
    have HK6 := Lib.hid (fun W q c (h1 : RdP W pm pv pr p) (hq : RdLs W q (truthsF p)) (h2 : RdS W pe h.er) => show Calls Tryz.prog 21 #[.agg #[.slice pm p.ms.length cm, .slice pv p.mv.length cv, .slice pr p.rs.length cr], .slice q (truthsF p).length c, .agg #[.int .i64 h.arb, .int .i64 h.num, .int .i64 h.den, .slice pe h.er.length ce], .int .i64 want, .int .i64 lim] W fun e w' => e = .returned (.int .i64 SU) ∧ Below W.heap.size W w' by
      have hh := HRU.out q c W h1 hq (pieceB_iff.1 g1) ht h2 (handB_iff.1 g2) (by have := inB_iff.1 g3; have := inB_iff.1 g4; omega); rw [hSU] at hh; exact hh)
    have t7 : (SU == SU) = true := by simp
    have t5 : (V0 == V0) = true := by simp
    have t6 : (V1 == V1) = true := by simp
    clear g1 g2 g3 g4 hV0 hV1 hSU HKH HKS HKU HRH HRS HRU
    (go_wp2_with fail); refine (HK0.out _ HP.out HE.out).mono ?_
    rintro e wn ⟨rfl, bq⟩; replace HB := Lib.hid (HB.out.trans (bq.mono HB.out.size)); replace HP := Lib.hid (HP.out.below bq); replace HE := Lib.hid (HE.out.below bq); obtain ⟨k0, k1, k2, q0, q1, q2, q3⟩ := cl7 k0 k1 k2 q0 q1 q2 q3 _ bq; clear bq
    (go_wp2_with fail); refine (HK1.out _ HP.out HE.out).mono ?_
    rintro e wn ⟨rfl, bq⟩; replace HB := Lib.hid (HB.out.trans (bq.mono HB.out.size)); replace HP := Lib.hid (HP.out.below bq); replace HE := Lib.hid (HE.out.below bq); obtain ⟨k0, k1, k2, q0, q1, q2, q3⟩ := cl7 k0 k1 k2 q0 q1 q2 q3 _ bq; clear bq; obtain ⟨x2, e2, HSx, r0, r1, bq⟩ := box2 wn (.int .i64 V0) (.int .i64 V1) 44; go_upto_region 5 with (fail); clear e2
    skip; replace HB := Lib.hid (HB.out.trans (bq.mono HB.out.size)); replace HP := Lib.hid (HP.out.below bq); replace HE := Lib.hid (HE.out.below bq); obtain ⟨k0, k1, k2, q0, q1, q2, q3⟩ := cl7 k0 k1 k2 q0 q1 q2 q3 _ bq; clear bq
    (go_wp2_with fail); refine (HK2.out _ HP.out HE.out).mono ?_
    rintro e wn ⟨rfl, bq⟩; replace HB := Lib.hid (HB.out.trans (bq.mono HB.out.size)); replace HP := Lib.hid (HP.out.below bq); replace HE := Lib.hid (HE.out.below bq); obtain ⟨k0, k1, k2, q0, q1, q2, q3, r0, r1⟩ := cl9 k0 k1 k2 q0 q1 q2 q3 r0 r1 _ bq; clear bq
    (go_wp2_with fail); refine (HPC.out _ HP.out HE.out).mono ?_
    rintro e wn ⟨rfl, bq⟩; replace HB := Lib.hid (HB.out.trans (bq.mono HB.out.size)); replace HP := Lib.hid (HP.out.below bq); replace HE := Lib.hid (HE.out.below bq); obtain ⟨k0, k1, k2, q0, q1, q2, q3, r0, r1⟩ := cl9 k0 k1 k2 q0 q1 q2 q3 r0 r1 _ bq; clear bq
    (go_wp2_with fail); refine (HH1.out _ HP.out HE.out).mono ?_
    rintro e wn ⟨rfl, bq⟩; replace HB := Lib.hid (HB.out.trans (bq.mono HB.out.size)); replace HP := Lib.hid (HP.out.below bq); replace HE := Lib.hid (HE.out.below bq); obtain ⟨k0, k1, k2, q0, q1, q2, q3, r0, r1⟩ := cl9 k0 k1 k2 q0 q1 q2 q3 r0 r1 _ bq; clear bq
    (go_wp2_with fail); refine (HK3.out _ HP.out).mono ?_
    rintro e wn ⟨q, c, rfl, hr, bq⟩
    skip; replace HB := Lib.hid (HB.out.trans (bq.mono HB.out.size)); replace HP := Lib.hid (HP.out.below bq); replace HE := Lib.hid (HE.out.below bq); obtain ⟨k0, k1, k2, q0, q1, q2, q3, r0, r1⟩ := cl9 k0 k1 k2 q0 q1 q2 q3 r0 r1 _ bq; clear bq
    have HR := Lib.hid hr; clear hr; go_wp2; have HSB := Lib.hid (cl9 k0 k1 k2 q0 q1 q2 q3 r0 r1); refine held9 k0 k1 k2 q0 q1 q2 q3 r0 r1 (fun W0 HB0 => ?_); refine tk 0 rfl (by exact HSB.out _ HB0) ?_; refine tk 1 rfl (by exact HSB.out _ HB0) ?_; refine tk 2 rfl (by exact HSB.out _ HB0) ?_; refine tk 3 rfl (by exact HSB.out _ HB0) ?_; refine tk 4 rfl (by exact HSB.out _ HB0) ?_; refine tk 5 rfl (by exact HSB.out _ HB0) ?_; refine tk 6 rfl (by exact HSB.out _ HB0) ?_; (try simp only [Act.put, ptL]); refine rz1 7 rfl ?_; intro K hK; go_simp; refine (HK4.out W0 _ _ (HP.out.below HB0) (HR.out.below HB0) (HE.out.below HB0)).mono ?_; rintro e W1 ⟨rfl, ba⟩; have HB1 := HB0.trans (ba.mono HB0.size); clear ba; refine kz hK (by exact HSB.out _ HB1) ?_; clear hK K; (try simp only [Act.put, ptL]); refine tk 8 rfl (by exact HSB.out _ HB1) ?_; refine tk 9 rfl (by exact HSB.out _ HB1) ?_; (try simp only [Act.put, ptL])
    refine wpAnyH_done (by kernel_rfl) ?_ _; obtain ⟨k0, k1, k2, q0, q1, q2, q3, r0, r1⟩ := HSB.out _ HB1; replace HB := Lib.hid (HB.out.trans (HB1.mono HB.out.size)); replace HP := Lib.hid (HP.out.below HB1); replace HE := Lib.hid (HE.out.below HB1); replace HR := Lib.hid (HR.out.below HB1); clear HSB HB0 HB1; go_wp2; have HSB := Lib.hid (cl9 k0 k1 k2 q0 q1 q2 q3 r0 r1); refine held9 k0 k1 k2 q0 q1 q2 q3 r0 r1 (fun W0 HB0 => ?_); refine tk 0 rfl (by exact HSB.out _ HB0) ?_; refine tk 1 rfl (by exact HSB.out _ HB0) ?_; refine tk 2 rfl (by exact HSB.out _ HB0) ?_; refine tk 3 rfl (by exact HSB.out _ HB0) ?_; (try simp only [Act.put, ptL]); refine rz1 4 rfl ?_; intro K hK; go_simp; refine (HFR.out W0).mono ?_; rintro e W1 ⟨rfl, ba⟩; have HB1 := HB0.trans (ba.mono HB0.size); clear ba; refine kz hK (by exact HSB.out _ HB1) ?_; clear hK K; (try simp only [Act.put, ptL]); refine tk 5 rfl (by exact HSB.out _ HB1) ?_; refine tk 6 rfl (by exact HSB.out _ HB1) ?_; refine tk 7 rfl (by exact HSB.out _ HB1) ?_; (try simp only [Act.put, ptL])
    refine rz1 8 rfl ?_; intro K hK; go_simp; refine (HLI.out W1).mono ?_; rintro e W2 ⟨rfl, ba⟩; have HB2 := HB1.trans (ba.mono HB1.size); clear ba; refine kz hK (by exact HSB.out _ HB2) ?_; clear hK K; (try simp only [Act.put, ptL]); refine tk 9 rfl (by exact HSB.out _ HB2) ?_; (try simp only [Act.put, ptL]); refine rz1 10 rfl ?_; intro K hK; go_simp; refine (HK5.out W2 (HP.out.below HB2)).mono ?_; rintro e W3 ⟨qz, cz, rfl, hrz, ba⟩; have HB3 := HB2.trans (ba.mono HB2.size); clear ba; refine kz hK (by exact HSB.out _ HB3) ?_; clear hK K; (try simp only [Act.put, ptL]); refine tk 11 rfl (by exact HSB.out _ HB3) ?_; refine tk 12 rfl (by exact HSB.out _ HB3) ?_; refine tk 13 rfl (by exact HSB.out _ HB3) ?_; refine tk 14 rfl (by exact HSB.out _ HB3) ?_; refine tk 15 rfl (by exact HSB.out _ HB3) ?_; (try simp only [Act.put, ptL]); refine wpAnyH_done (by kernel_rfl) ?_ _; obtain ⟨k0, k1, k2, q0, q1, q2, q3, r0, r1⟩ := HSB.out _ HB3
    replace HB := Lib.hid (HB.out.trans (HB3.mono HB.out.size)); replace HP := Lib.hid (HP.out.below HB3); replace HE := Lib.hid (HE.out.below HB3); clear HSB HB0 HB1 HB2 HB3; have HR2 := Lib.hid hrz; clear hrz
    (go_wp2_with fail); refine (HK6.out _ _ _ HP.out HR2.out HE.out).mono ?_
    rintro e wn ⟨rfl, bq⟩; replace HB := Lib.hid (HB.out.trans (bq.mono HB.out.size)); clear bq
    (go_wp2_with fail); refine (c_known m _ (HM.out.below HB.out) (HI.out.below HB.out)).mono ?_; rintro e wn ⟨rfl, bq⟩; have HFK := Lib.hid (HB.out.trans (bq.mono HB.out.size)); clear bq; go_wp2; go_ret; exact ⟨rfl, HFK.out⟩
end Go.Proofs.YtbknfddaoolagaaGreatDoor
end

section
namespace Go.Proofs.YtbknfddaoolagaaGreatDoor
open Go Go.ChangeShapes Go.WideShapes Go.ChangeAt Go.RowKit Go.Proofs
set_option linter.unusedVariables false

set_option maxRecDepth 100000 in
theorem slackShows_lifted (os : Os) (started : os.Started) (H : Type) (enc : TypeId × Value → H) :
    ReturnsInHanded {} Tryz.checked os 4 .any (fun w args => (Rows.slackShowsSpec.pre enc Tryz.prog Tryz.f4 [] false w args ∧ laidMetH Tryz.prog lay5 w) ∧ sizedMet enc Tryz.prog Tryz.f4 (OpenSpec.ofChange Rows.slackShowsSpec) false w args)
      (Rows.slackShowsSpec.post enc Tryz.prog Tryz.f4 false true false false) := by
  refine returns_listed (C := Tryz.checked) (X := fun w _ => laidMetH Tryz.prog lay5 w) (fun _ _ _ hh h => h.of_heap hh) ownT started (by kernel_rfl) Tryz.func4
    (ChangeSpec.witness_shaped (enc := enc) (C := Tryz.checked) (os := os) (X := fun w _ => laidMetH Tryz.prog lay5 w) false (World.laidAll Tryz.prog os lay5) #[.agg #[.slice none 0 0, .slice none 0 0, .slice none 0 0], .agg #[.int .i64 0, .int .i64 0, .int .i64 0, .slice none 0 0], .int .i64 0, .int .i64 0] 12 (World.laidAll_os _ _ _)
      (World.shaped_of_ZipB (by kernel_rfl) (by kernel_rfl)) (by kernel_rfl) (by kernel_rfl) (by kernel_rfl)
      (by rw [MakeChecks.laidMetH_plain _ _ _ (by kernel_rfl)]; exact laidMet_laidAll _ (by kernel_rfl) (by kernel_rfl))) ?_
  intro W base args ds gs before hval0 hW hX hSh; have hval : ∀ (j : Nat) t v, Tryz.f4.params[j]? = some t → args[j]? = some v → Value.okWide Tryz.prog W .any base t v := hval0; have hW' := hW; obtain ⟨p, q, hA0, hV, rfl, _, _⟩ := hW; have hA : DataW.TrodAll enc Tryz.prog W 0 (fun _ => true) true Tryz.f4.params.toList args.toList ds p := hA0; rw [Tryz.params4] at hA hval; obtain ⟨v0, vs0, d0, ds0, p0, q0, hargs, rfl, rfl, h0, r0⟩ := trodAll_cons hA; obtain ⟨v1, vs1, d1, ds1, p1, q1, rfl, rfl, rfl, h1, r1⟩ := trodAll_cons r0; obtain ⟨v2, vs2, d2, ds2, p2, q2, rfl, rfl, rfl, h2, r2⟩ := trodAll_cons r1; obtain ⟨v3, vs3, d3, ds3, p3, q3, rfl, rfl, rfl, h3, r3⟩ := trodAll_cons r2; obtain ⟨rfl, rfl, rfl⟩ := trodAll_nil r3; obtain rfl : args = #[v0, v1, v2, v3] := by cases args; simp_all
  obtain ⟨rfl, rfl⟩ := trodVars_none hV; obtain ⟨pm0, pv0, pr0, cm0, cv0, cr0, p0, rfl, rd0⟩ := op_piece (hval 0 27 v0 rfl rfl) h0; obtain ⟨g1, pe1, ce1, rfl, rd1⟩ := op_hand (hval 1 40 v1 rfl rfl) h1; obtain ⟨a2, rfl, la2, ua2⟩ := op_int (hval 2 3 v2 rfl rfl) h2; obtain ⟨a3, rfl, la3, ua3⟩ := op_int (hval 3 3 v3 rfl rfl) h3; clear hA0 hval0; obtain ⟨m, hm⟩ := maxLen_of hSh; have hit := itoaG_of (pow10_of hX); refine (law_Shows pm0 pv0 pr0 cm0 cv0 cr0 p0 g1 pe1 ce1 a2 a3 m W rd0 rd1 hm hit).mono fun e W' ⟨he, bel⟩ => ?_
  subst he; exact ⟨_, rfl, _, _, _, [], _, [], hW', trodAll_mk1 (shut_bool Tryz.underlying4 _), (trodAll_cons_mk (Below.trod laidOutT (by kernel_rfl) (of_decide_eq_true (by kernel_rfl)) h0 bel (trod_lt h0)) (trodAll_cons_mk (Below.trod laidOutT (by kernel_rfl) (of_decide_eq_true (by kernel_rfl)) h1 bel (trod_lt h1)) (trodAll_cons_mk (Below.trod laidOutT (by kernel_rfl) (of_decide_eq_true (by kernel_rfl)) h2 bel (trod_lt h2)) (trodAll_cons_mk (Below.trod laidOutT (by kernel_rfl) (of_decide_eq_true (by kernel_rfl)) h3 bel (trod_lt h3)) trodAll_mk0)))), rfl, bel.frame _, fun h => by cases h⟩
theorem slackShows_wf : Rows.slackShowsRow.wf (OpenSpec.ofChange Rows.slackShowsSpec) = true := by kernel_rfl
theorem slackShows_inPlace : (Rows.slackShowsRow.inPlace == Tryz.prog.inPlace 4) = true := by kernel_rfl
theorem slackShows_unfollowed : (Rows.slackShowsRow.unfollowed == Tryz.prog.unfollowed 4) = true := by kernel_rfl
theorem slackShows_recurses : (Rows.slackShowsRow.recurses == Tryz.prog.recurses 4) = true := by kernel_rfl
theorem slackShows_named : (Rows.slackShowsRow.named == Tryz.prog.varsNamed 4) = true := by kernel_rfl
theorem slackShows_goes : false = Rows.slackShowsRow.goesBy Tryz.prog := by kernel_rfl
theorem slackShows_func : Tryz.prog.funcNamed Rows.slackShowsRow.func = some 4 := by kernel_rfl
theorem slackShows_text : Rows.slackShowsRow.wfByText (OpenSpec.ofChange Rows.slackShowsSpec) = true := by kernel_rfl
theorem slackShows_closed : joinedFacts Tryz.prog 4 Tryz.f4 Rows.slackShowsSpec Rows.slackShowsRow = true :=
  (and_t (and_t (and_t (and_t (and_t (and_t (and_t (and_t (and_t (and_t (and_t (and_t (and_t (and_t (and_t (and_t (and_t (and_t (and_t (and_t (and_t (and_t (and_t (and_t (and_t (and_t (and_t (and_t (and_t (and_t (and_t slackShows_wf tLaidOut) tMaps) (by kernel_rfl)) (by kernel_rfl)) (by kernel_rfl)) (by kernel_rfl)) (by kernel_rfl)) (by kernel_rfl)) slackShows_inPlace) slackShows_unfollowed) slackShows_recurses) slackShows_named) (by kernel_rfl)) (by kernel_rfl)) (by kernel_rfl)) (by kernel_rfl)) (by kernel_rfl)) (by kernel_rfl)) (by kernel_rfl)) (by kernel_rfl)) (by kernel_rfl)) (by kernel_rfl)) (by kernel_rfl)) tHeard) tMayEnter) (eq_t (α := Bool) tFinal.symm)) (eq_t tMake)) (by kernel_rfl)) (by kernel_rfl)) (by kernel_rfl)) (by kernel_rfl))
theorem slackShows_wrap : Func.isWrapper Tryz.prog Tryz.f4 Rows.slackShowsRow.wrapper Rows.slackShowsRow.mainSum := by unfold Func.isWrapper; rw [if_neg (of_decide_eq_false (by kernel_rfl))]; exact ⟨rfl, rfl⟩
theorem slackShows_row : Rows.SlackShowsSaid :=
  OpenClaim.holds_of_wide 4 Tryz.f4 rfl rfl rfl rfl rfl rfl rfl ⟨rfl, rfl, rfl, rfl, rfl⟩ rfl rfl rfl rfl rfl slackShows_func Tryz.func4 slackShows_closed (of_decide_eq_true (by kernel_rfl)) slackShows_wrap (fun os started H enc _ => slackShows_lifted os started H enc)
theorem slackShows_plain : ∀ (j : Nat) t, Tryz.f4.params[j]? = some t → Tryz.prog.wantsStandIn t = false := fun j t ht => by
  rw [Tryz.params4] at ht; have hm : t ∈ [27, 40, 3, 3] := by simpa using Array.mem_of_getElem? ht
  have hall : ([27, 40, 3, 3].all fun u => !Tryz.prog.wantsStandIn u) = true := by kernel_rfl
  exact (show Tryz.prog.wantsStandIn t = false by simpa using List.all_eq_true.1 hall t hm)
theorem slackShows_holds : Rows.SlackShowsCardSaid :=
  Claim7.holds_tied_plain_at .later [] [.data, .data, .data, .data, .pinned] true (true, "5bdd96df082b05ead8f499b068607ad6f70edb0fd0d8d9298370081f32bba95f") true slackShows_row (fun _ h => by cases h) slackShows_text (fun _ h => by cases h) slackShows_row_tie rfl ⟨rfl, rfl⟩ tMainIs rfl
    (fun f fn hf hfn => by
      obtain rfl : f = 4 := Option.some.inj (slackShows_func.symm.trans hf) |>.symm
      obtain rfl : fn = Tryz.f4 := (Option.some.inj (Tryz.func4.symm.trans hfn)).symm; exact ⟨tLooks, slackShows_plain⟩)
    slackShows_goes
#print axioms slackShows_holds
end Go.Proofs.YtbknfddaoolagaaGreatDoor
end
