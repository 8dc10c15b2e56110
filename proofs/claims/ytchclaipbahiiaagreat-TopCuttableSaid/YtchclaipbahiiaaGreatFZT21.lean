/-
  Plain laws of chains of arbors (no program in sight): where all arbors are before the first move, and after a move.
  Plain laws of pieces: plays that are tried, truths, and what all truths have (no program in sight).
  Base words of these seats' walks: what slices that are only read hold; regions that draw their order; boxes; owned rows.
  What the types of these seats hold; pieces in memory.
  Small functions: ranges, spans, what is as defined; contracts.
  Plain laws of hands, and of aims (no program in sight).
  Whether a list holds something that is not as defined: contracts, a copy for each closure (printed by slkfunc.py).
  The nearest train, plain: as the program finds it.
  Small functions of the layers that the top statements join: contracts (printed by top.py).
  What is a piece, and plays: contracts (printed by slkc3.py).
  A move, arbor by arbor; no program in sight.
  Which truths the program's search yields, and in which order; no program in sight.
  Copies of plays; a move of the crank as a value; rows that are stored into.
  Where all arbors are before the first move: contract.
  Fractions: gcd, reduced, compare, distance; products: contracts.
  Fractions that are compared, products, what a Sense lets in: contracts.
  Rules and trains that are as defined; whether a list holds a number: contracts (printed by top.py).
  A truth after a move: contract.
  All that plays do, before the first move and after each one: contract.
  Whether the readings after some moves agree: contract.
  The truth after all moves, if all readings agree: contract.
  Run, all arguments: contract.
  Spans of numbers; sums: contracts.
  What all truths of a piece have: the span of a number of each: contracts (printed by slkover.py).
  over, for the places of an arbor: contract (the text to turn for the other closures).
  over, for the plays of a mesh: contract (printed by slkover2.py).
  By how much an arbor is behind the crank: contract.
  A quotient, rounded down, and what is left: contract.
  cmp.Compare, cmp.Or, slices.Compare on ints: contracts.
  Short words for the steps of a drawn region's walk.
  A drawn region whose cells are known: its beginning, in short words.
  Pairs in order: contract.
-/
import Derived.Test.YtchclaipbahiiaaGreatProg
import Derived.WalkKit
import Derived.WalkSpells
import Derived.WalkLawsBesides
import Derived.Handy
import Derived.Deep.QuietTactic
import Derived.BigQuiet
import Derived.Outline
import Derived.Below
import Derived.Lib.Hide
import Derived.Maps.RangeWalk
import Derived.StillTailTactics
import Derived.WalkMore
import Derived.Deep.RegionHeld3
import Derived.Deep.Cut
import Derived.RangeFuncBox
import Derived.Maps.AppendAt
import Derived.Lib.LazyBuf
import Derived.Recover
import Derived.Defers
import Derived.Laws.Pointers
import Derived.Laws.EntriesVeiled
import Derived.OrdersHeld
import Derived.Deep.RegionHeld
import Derived.ProofKit
section
namespace Go.Proofs.YtchclaipbahiiaaGreat
def gi (xs : List Int) (i : Nat) : Int := xs.getD i 0
theorem gi_get (xs : List Int) (i : Nat) (h : i < xs.length) : gi xs i = xs[i] := by
  unfold gi; rw [List.getD_eq_getElem?_getD, List.getElem?_eq_getElem h]; rfl
def sumT (pl : List Int) : Nat → Int
  | 0 => 0
  | k + 1 => sumT pl k + gi pl k
def Pos (pl : List Int) : Prop := ∀ i, i < pl.length → 0 ≤ gi pl i
structure Chain (pl pc : List Int) : Prop where
  len : pc.length = pl.length + 1
  le : ∀ i, i < pl.length → gi pc (i + 1) ≤ gi pc i
  ge : ∀ i, i < pl.length → gi pc i - gi pl i ≤ gi pc (i + 1)
def begF (pl : List Int) : List Int := (List.range (pl.length + 1)).map fun k => -sumT pl k
def mvF (pl pc : List Int) (m : Int) : List Int := (List.range (pl.length + 1)).map fun k => if 0 ≤ m then max (gi pc k) (gi pc 0 + m - sumT pl k) else min (gi pc k) (gi pc 0 + m)
def runF (pl mv : List Int) : Nat → List Int
  | 0 => begF pl
  | k + 1 => mvF pl (runF pl mv k) (gi mv k)
def rng (lo hi : Int) : List Int := (List.range (hi - lo + 1).toNat).map fun (k : Nat) => lo + (k : Int)
theorem mem_rng {lo hi n : Int} : n ∈ rng lo hi ↔ lo ≤ n ∧ n ≤ hi := by
  unfold rng; simp only [List.mem_map, List.mem_range]
  constructor
  · rintro ⟨k, hk, rfl⟩; omega
  · rintro ⟨h1, h2⟩; exact ⟨(n - lo).toNat, by omega, by omega⟩
theorem rng_len (lo hi : Int) : (rng lo hi).length = (hi - lo + 1).toNat := by simp [rng]
structure Rd where
  aft : Int
  arb : Int
  seen : Int
  off : Int
deriving DecidableEq
structure Pc where
  ms : List (Int × Int)
  mv : List Int
  rs : List Rd
def gm (l : List (Int × Int)) (i : Nat) : Int × Int := l.getD i (0, 0)
def rd0 : Rd := ⟨0, 0, 0, 0⟩
def gr (l : List Rd) (i : Nat) : Rd := l.getD i rd0
theorem gm_get (xs : List (Int × Int)) (i : Nat) (h : i < xs.length) : gm xs i = xs[i] := by
  unfold gm; rw [List.getD_eq_getElem?_getD, List.getElem?_eq_getElem h]; rfl
def inB (n lo hi : Int) : Bool := decide (lo ≤ n) && decide (n ≤ hi)
theorem inB_iff {n lo hi : Int} : inB n lo hi = true ↔ lo ≤ n ∧ n ≤ hi := by unfold inB; simp
structure PieceOk (p : Pc) : Prop where
  n1 : 1 ≤ p.ms.length
  n4 : p.ms.length ≤ 4
  m8 : p.mv.length ≤ 8
  r6 : p.rs.length ≤ 6
  mesh : ∀ i, i < p.ms.length → 0 ≤ (gm p.ms i).1 ∧ (gm p.ms i).1 ≤ (gm p.ms i).2 ∧ (gm p.ms i).2 ≤ 100 ∧ (gm p.ms i).2 - (gm p.ms i).1 ≤ 4
  move : ∀ i, i < p.mv.length → -300 ≤ gi p.mv i ∧ gi p.mv i ≤ 300
  read : ∀ i, i < p.rs.length → (0 ≤ (gr p.rs i).aft ∧ (gr p.rs i).aft ≤ p.mv.length) ∧ (1 ≤ (gr p.rs i).arb ∧ (gr p.rs i).arb ≤ p.ms.length) ∧ (-5000 ≤ (gr p.rs i).seen ∧ (gr p.rs i).seen ≤ 5000) ∧ (0 ≤ (gr p.rs i).off ∧ (gr p.rs i).off ≤ 50)
theorem all_at {α : Type} {f : α → Bool} (d : α) (l : List α) : l.all f = true ↔ ∀ i, i < l.length → f (l.getD i d) = true := by
  rw [List.all_eq_true]
  constructor
  · intro h i hi
    rw [List.getD_eq_getElem?_getD, List.getElem?_eq_getElem hi]; exact h _ (List.getElem_mem hi)
  · intro h x hx
    obtain ⟨i, hi, rfl⟩ := List.getElem_of_mem hx; have := h i hi
    rwa [List.getD_eq_getElem?_getD, List.getElem?_eq_getElem hi] at this
structure PlaysOk (p : Pc) (pl : List Int) : Prop where
  len : pl.length = p.ms.length
  in' : ∀ i, i < pl.length → 0 ≤ gi pl i ∧ gi pl i ≤ 100
theorem PlaysOk.pos {p : Pc} {pl : List Int} (h : PlaysOk p pl) : Pos pl := fun i hi => (h.in' i hi).1
def endF (p : Pc) (pl : List Int) : List Int := runF pl p.mv p.mv.length
end Go.Proofs.YtchclaipbahiiaaGreat
end

section
namespace Go.Proofs.YtchclaipbahiiaaGreat
open Go Go.RowKit Go.Proofs
set_option linter.unusedVariables false
def RdI (w : World) (p : Option Addr) (xs : List Int) : Prop :=
  xs = [] ∨ ∃ b off, p = some ⟨b, off, none⟩ ∧ ∀ i, i < xs.length → w.cell? ⟨b, off + i, none⟩ = some (.int .i64 (gi xs i))
theorem lt_of_cellq {w : World} {a : Addr} {v : Value} (h : w.cell? a = some v) : a.block < w.heap.size := World.block_lt_of_cell? _ _ h
theorem RdI.below {w w' : World} {p : Option Addr} {xs : List Int} (h : RdI w p xs) (hb : Below w.heap.size w w') : RdI w' p xs := by
  rcases h with h | ⟨b, off, rfl, hc⟩
  · exact .inl h
  · refine .inr ⟨b, off, rfl, fun i hi => ?_⟩
    have := hc i hi; exact (hb.cell (lt_of_cellq this)).trans this
theorem RdI.at {w : World} {p : Option Addr} {xs : List Int} (h : RdI w p xs) {i : Nat} (hi : i < xs.length) :
    ∃ b off, p = some ⟨b, off, none⟩ ∧ ∀ i, i < xs.length → w.cell? ⟨b, off + i, none⟩ = some (.int .i64 (gi xs i)) := by
  rcases h with h | h
  · subst h; simp at hi
  · exact h
theorem imax2 (m n : Int) [Decidable (m < n)] : (if m < n then n else m) = max m n := by split <;> omega
theorem imin2 (m n : Int) [Decidable (n < m)] : (if n < m then n else m) = min m n := by split <;> omega
theorem w64 (x : Int) (h1 : -9223372036854775808 ≤ x) (h2 : x ≤ 9223372036854775807) : IntKind.i64.wrap x = x := IntWalk.i64_in _ ⟨h1, h2⟩
section
variable {P : Program} {C : World → Prop} {K : Act → Prop} {a : Act} {ops : Array Oper} {Q : Act → Prop} {o : Oper} {rest : List Oper}
theorem wq (hw : Region.wanted o (yielded ops a.tmps) = true) (h : o.quiet P a C (wpQuiet P ops C Q rest)) : wpQuiet P ops C Q (o :: rest) a := by
  unfold wpQuiet; rw [if_pos hw]; exact h
theorem q_val (v : Value) (hrun : ∀ w, C w → (execOp a.eval o).run P w = .ok (.value v) w) (hk : K (a.put o.dst v)) : o.quiet P a C K :=
  ⟨v, fun w hw => by unfold Oper.quietAt; rw [hrun w hw]; exact ⟨rfl, rfl⟩, hk⟩
variable {d : Nat} {x y : Operand} {t t' ty : TypeId} {pos : String} {af : Array Edge} {g : Option (Nat × Bool)} {m n : Int}
theorem q_add (hx : a.eval x = .int .i64 m) (hy : a.eval y = .int .i64 n) (h1 : -9223372036854775808 ≤ m + n) (h2 : m + n ≤ 9223372036854775807)
    (hk : K (a.put (some d) (.int .i64 (m + n)))) : Oper.quiet P ⟨some d, .binOp .add t x y t', ty, pos, af, g⟩ a C K :=
  q_val (o := ⟨some d, .binOp .add t x y t', ty, pos, af, g⟩) (.int .i64 (m + n)) (fun w _ => by unfold execOp; dsimp only; rw [hx, hy]; simp [go_sem, w64 _ h1 h2]) hk
theorem q_sub (hx : a.eval x = .int .i64 m) (hy : a.eval y = .int .i64 n) (h1 : -9223372036854775808 ≤ m - n) (h2 : m - n ≤ 9223372036854775807)
    (hk : K (a.put (some d) (.int .i64 (m - n)))) : Oper.quiet P ⟨some d, .binOp .sub t x y t', ty, pos, af, g⟩ a C K :=
  q_val (o := ⟨some d, .binOp .sub t x y t', ty, pos, af, g⟩) (.int .i64 (m - n)) (fun w _ => by unfold execOp; dsimp only; rw [hx, hy]; simp [go_sem, w64 _ h1 h2]) hk
theorem q_mul (hx : a.eval x = .int .i64 m) (hy : a.eval y = .int .i64 n) (h1 : -9223372036854775808 ≤ m * n) (h2 : m * n ≤ 9223372036854775807)
    (hk : K (a.put (some d) (.int .i64 (m * n)))) : Oper.quiet P ⟨some d, .binOp .mul t x y t', ty, pos, af, g⟩ a C K :=
  q_val (o := ⟨some d, .binOp .mul t x y t', ty, pos, af, g⟩) (.int .i64 (m * n)) (fun w _ => by unfold execOp; dsimp only; rw [hx, hy]; simp [go_sem, w64 _ h1 h2]) hk
theorem q_rem (hx : a.eval x = .int .i64 m) (hy : a.eval y = .int .i64 n) (h0 : 0 ≤ m) (h1 : 1 ≤ n)
    (hk : K (a.put (some d) (.int .i64 (m % n)))) : Oper.quiet P ⟨some d, .binOp .rem t x y t', ty, pos, af, g⟩ a C K :=
  q_val (o := ⟨some d, .binOp .rem t x y t', ty, pos, af, g⟩) (.int .i64 (m % n)) (fun w _ => by
    have hn : ¬ n = 0 := by omega
    have e : m.tmod n = m % n := Int.tmod_eq_emod_of_nonneg h0; unfold execOp; dsimp only; rw [hx, hy]; simp [go_sem, hn, e]) hk
theorem wq_add (hw : Region.wanted ⟨some d, .binOp .add t x y t', ty, pos, af, g⟩ (yielded ops a.tmps) = true) (hx : a.eval x = .int .i64 m) (hy : a.eval y = .int .i64 n) (h1 : -9223372036854775808 ≤ m + n) (h2 : m + n ≤ 9223372036854775807)
    (hk : wpQuiet P ops C Q rest (a.put (some d) (.int .i64 (m + n)))) : wpQuiet P ops C Q (⟨some d, .binOp .add t x y t', ty, pos, af, g⟩ :: rest) a := wq hw (q_add hx hy h1 h2 hk)
theorem wq_sub (hw : Region.wanted ⟨some d, .binOp .sub t x y t', ty, pos, af, g⟩ (yielded ops a.tmps) = true) (hx : a.eval x = .int .i64 m) (hy : a.eval y = .int .i64 n) (h1 : -9223372036854775808 ≤ m - n) (h2 : m - n ≤ 9223372036854775807)
    (hk : wpQuiet P ops C Q rest (a.put (some d) (.int .i64 (m - n)))) : wpQuiet P ops C Q (⟨some d, .binOp .sub t x y t', ty, pos, af, g⟩ :: rest) a := wq hw (q_sub hx hy h1 h2 hk)
theorem wq_mul (hw : Region.wanted ⟨some d, .binOp .mul t x y t', ty, pos, af, g⟩ (yielded ops a.tmps) = true) (hx : a.eval x = .int .i64 m) (hy : a.eval y = .int .i64 n) (h1 : -9223372036854775808 ≤ m * n) (h2 : m * n ≤ 9223372036854775807)
    (hk : wpQuiet P ops C Q rest (a.put (some d) (.int .i64 (m * n)))) : wpQuiet P ops C Q (⟨some d, .binOp .mul t x y t', ty, pos, af, g⟩ :: rest) a := wq hw (q_mul hx hy h1 h2 hk)
theorem wq_rem (hw : Region.wanted ⟨some d, .binOp .rem t x y t', ty, pos, af, g⟩ (yielded ops a.tmps) = true) (hx : a.eval x = .int .i64 m) (hy : a.eval y = .int .i64 n) (h0 : 0 ≤ m) (h1 : 1 ≤ n)
    (hk : wpQuiet P ops C Q rest (a.put (some d) (.int .i64 (m % n)))) : wpQuiet P ops C Q (⟨some d, .binOp .rem t x y t', ty, pos, af, g⟩ :: rest) a := wq hw (q_rem hx hy h0 h1 hk)
theorem run_ix {e : TypeId} {sz : Nat} (hu : P.underlying t = some (.slice e)) (hs : ((P.info? e).map fun i => i.size) = some sz) (ad : Addr) (len cap : Nat) (k : IntKind) (n : Int) (h0 : 0 ≤ n) (h1 : n < len) (w : World) :
    (Instr.indexAt t (.slice (some ad) len cap) (.int k n)).run P w = .ok (.pointer (some (ad.add (n.toNat * sz)))) w := by
  cases hi : P.info? e with
  | none => rw [hi] at hs; cases hs
  | some i =>
    rw [hi] at hs; simp only [Option.map_some, Option.some.injEq] at hs; subst hs; have hb : 0 ≤ n ∧ n < len := ⟨h0, h1⟩; simp [Instr.indexAt, go_sem, run_underlying hu, hb, sizeOf, typeInfo, hi]
theorem wq_ix {e : TypeId} {sz : Nat} (hu : P.underlying t = some (.slice e)) (hs : ((P.info? e).map fun i => i.size) = some sz)
    (hw : Region.wanted ⟨some d, .indexAddr t x y, ty, pos, af, g⟩ (yielded ops a.tmps) = true) {b off len cap j : Nat} (hx : a.eval x = .slice (some ⟨b, off, none⟩) len cap) (hy : a.eval y = .int .i64 (j : Int)) (h1 : j < len)
    (hk : wpQuiet P ops C Q rest (a.put (some d) (.pointer (some ⟨b, off + j * sz, none⟩)))) : wpQuiet P ops C Q (⟨some d, .indexAddr t x y, ty, pos, af, g⟩ :: rest) a :=
  wq hw (q_val (o := ⟨some d, .indexAddr t x y, ty, pos, af, g⟩) (.pointer (some ⟨b, off + j * sz, none⟩)) (fun w _ => by
    have h := run_ix (P := P) (t := t) hu hs ⟨b, off, none⟩ len cap .i64 (j : Int) (by omega) (by omega) w; unfold execOp; dsimp only; rw [hx, hy]; simp only [Sem.run_bind, h, Result.andThen]
    have e1 : (Addr.add ⟨b, off, none⟩ ((j : Int).toNat * sz)) = ⟨b, off + j * sz, none⟩ := by
      unfold Addr.add; rw [Int.toNat_natCast]
      split
      · rename_i h0; rw [h0]; rfl
      · rfl
    rw [e1]; rfl) hk)
theorem wq_ld (hag : ∀ w, (isAgg t).run P w = .ok false w) (hw : Region.wanted ⟨some d, .load t x, ty, pos, af, g⟩ (yielded ops a.tmps) = true) {ad : Addr} {v : Value} (hx : a.eval x = .pointer (some ad)) (hc : ∀ w, C w → w.cell? ad = some v)
    (hk : wpQuiet P ops C Q rest (a.put (some d) v)) : wpQuiet P ops C Q (⟨some d, .load t x, ty, pos, af, g⟩ :: rest) a :=
  wq hw (q_val (o := ⟨some d, .load t x, ty, pos, af, g⟩) v (fun w hw => by
    have hc' := hc w hw; unfold execOp; dsimp only; rw [hx]; simp [Instr.loadAt, Instr.sureAddr, loadVar, hag, go_sem, hc']) hk)
theorem wq_eql (hw : Region.wanted ⟨some d, .binOp .eql t x y t', ty, pos, af, g⟩ (yielded ops a.tmps) = true) (hx : a.eval x = .int .i64 m) (hy : a.eval y = .int .i64 n)
    (hk : wpQuiet P ops C Q rest (a.put (some d) (.bool (m == n)))) : wpQuiet P ops C Q (⟨some d, .binOp .eql t x y t', ty, pos, af, g⟩ :: rest) a :=
  wq hw (q_val (o := ⟨some d, .binOp .eql t x y t', ty, pos, af, g⟩) (.bool (m == n)) (fun w _ => by unfold execOp; dsimp only; rw [hx, hy]; simp [go_sem]) hk)
theorem wq_neq (hw : Region.wanted ⟨some d, .binOp .neq t x y t', ty, pos, af, g⟩ (yielded ops a.tmps) = true) (hx : a.eval x = .int .i64 m) (hy : a.eval y = .int .i64 n)
    (hk : wpQuiet P ops C Q rest (a.put (some d) (.bool (m != n)))) : wpQuiet P ops C Q (⟨some d, .binOp .neq t x y t', ty, pos, af, g⟩ :: rest) a :=
  wq hw (q_val (o := ⟨some d, .binOp .neq t x y t', ty, pos, af, g⟩) (.bool (m != n)) (fun w _ => by unfold execOp; dsimp only; rw [hx, hy]; simp [go_sem]) hk)
theorem wq_lss (hw : Region.wanted ⟨some d, .binOp .lss t x y t', ty, pos, af, g⟩ (yielded ops a.tmps) = true) (hx : a.eval x = .int .i64 m) (hy : a.eval y = .int .i64 n)
    (hk : wpQuiet P ops C Q rest (a.put (some d) (.bool (decide (m < n))))) : wpQuiet P ops C Q (⟨some d, .binOp .lss t x y t', ty, pos, af, g⟩ :: rest) a :=
  wq hw (q_val (o := ⟨some d, .binOp .lss t x y t', ty, pos, af, g⟩) (.bool (decide (m < n))) (fun w _ => by unfold execOp; dsimp only; rw [hx, hy]; simp [go_sem]) hk)
theorem wq_leq (hw : Region.wanted ⟨some d, .binOp .leq t x y t', ty, pos, af, g⟩ (yielded ops a.tmps) = true) (hx : a.eval x = .int .i64 m) (hy : a.eval y = .int .i64 n)
    (hk : wpQuiet P ops C Q rest (a.put (some d) (.bool (decide (m ≤ n))))) : wpQuiet P ops C Q (⟨some d, .binOp .leq t x y t', ty, pos, af, g⟩ :: rest) a :=
  wq hw (q_val (o := ⟨some d, .binOp .leq t x y t', ty, pos, af, g⟩) (.bool (decide (m ≤ n))) (fun w _ => by unfold execOp; dsimp only; rw [hx, hy]; simp [go_sem]) hk)
theorem wq_gtr (hw : Region.wanted ⟨some d, .binOp .gtr t x y t', ty, pos, af, g⟩ (yielded ops a.tmps) = true) (hx : a.eval x = .int .i64 m) (hy : a.eval y = .int .i64 n)
    (hk : wpQuiet P ops C Q rest (a.put (some d) (.bool (decide (m > n))))) : wpQuiet P ops C Q (⟨some d, .binOp .gtr t x y t', ty, pos, af, g⟩ :: rest) a :=
  wq hw (q_val (o := ⟨some d, .binOp .gtr t x y t', ty, pos, af, g⟩) (.bool (decide (m > n))) (fun w _ => by unfold execOp; dsimp only; rw [hx, hy]; simp [go_sem]) hk)
theorem wq_geq (hw : Region.wanted ⟨some d, .binOp .geq t x y t', ty, pos, af, g⟩ (yielded ops a.tmps) = true) (hx : a.eval x = .int .i64 m) (hy : a.eval y = .int .i64 n)
    (hk : wpQuiet P ops C Q rest (a.put (some d) (.bool (decide (m ≥ n))))) : wpQuiet P ops C Q (⟨some d, .binOp .geq t x y t', ty, pos, af, g⟩ :: rest) a :=
  wq hw (q_val (o := ⟨some d, .binOp .geq t x y t', ty, pos, af, g⟩) (.bool (decide (m ≥ n))) (fun w _ => by unfold execOp; dsimp only; rw [hx, hy]; simp [go_sem]) hk)
theorem imax (m n : Int) : (if n > m then n else m) = max m n := by split <;> omega
theorem imin (m n : Int) : (if n < m then n else m) = min m n := by split <;> omega
variable {z : Operand} {l : Int} {ats : Array TypeId}
theorem wq_max2 (hw : Region.wanted ⟨some d, .call ⟨.builtin .max, #[x, y], ats⟩, ty, pos, af, g⟩ (yielded ops a.tmps) = true) (hx : a.eval x = .int .i64 m) (hy : a.eval y = .int .i64 n)
    (hk : wpQuiet P ops C Q rest (a.put (some d) (.int .i64 (max m n)))) : wpQuiet P ops C Q (⟨some d, .call ⟨.builtin .max, #[x, y], ats⟩, ty, pos, af, g⟩ :: rest) a :=
  wq hw (q_val (o := ⟨some d, .call ⟨.builtin .max, #[x, y], ats⟩, ty, pos, af, g⟩) (.int .i64 (max m n)) (fun w _ => by
    rw [BigFrame.execOp_builtin]; simp only [List.map_toArray, List.map_cons, List.map_nil, hx, hy]; simp [go_sem, Builtin.max_, Builtin.max2, List.foldlM]; rw [← imax]) hk)
theorem wq_min2 (hw : Region.wanted ⟨some d, .call ⟨.builtin .min, #[x, y], ats⟩, ty, pos, af, g⟩ (yielded ops a.tmps) = true) (hx : a.eval x = .int .i64 m) (hy : a.eval y = .int .i64 n)
    (hk : wpQuiet P ops C Q rest (a.put (some d) (.int .i64 (min m n)))) : wpQuiet P ops C Q (⟨some d, .call ⟨.builtin .min, #[x, y], ats⟩, ty, pos, af, g⟩ :: rest) a :=
  wq hw (q_val (o := ⟨some d, .call ⟨.builtin .min, #[x, y], ats⟩, ty, pos, af, g⟩) (.int .i64 (min m n)) (fun w _ => by
    rw [BigFrame.execOp_builtin]; simp only [List.map_toArray, List.map_cons, List.map_nil, hx, hy]; simp [go_sem, Builtin.min_, Builtin.min2, List.foldlM]; rw [← imin]) hk)
theorem wq_max3 (hw : Region.wanted ⟨some d, .call ⟨.builtin .max, #[x, y, z], ats⟩, ty, pos, af, g⟩ (yielded ops a.tmps) = true) (hx : a.eval x = .int .i64 m) (hy : a.eval y = .int .i64 n) (hz : a.eval z = .int .i64 l)
    (hk : wpQuiet P ops C Q rest (a.put (some d) (.int .i64 (max (max m n) l)))) : wpQuiet P ops C Q (⟨some d, .call ⟨.builtin .max, #[x, y, z], ats⟩, ty, pos, af, g⟩ :: rest) a :=
  wq hw (q_val (o := ⟨some d, .call ⟨.builtin .max, #[x, y, z], ats⟩, ty, pos, af, g⟩) (.int .i64 (max (max m n) l)) (fun w _ => by
    rw [BigFrame.execOp_builtin]; simp only [List.map_toArray, List.map_cons, List.map_nil, hx, hy, hz]; simp [go_sem, Builtin.max_, Builtin.max2, List.foldlM]; (repeat' split) <;> omega) hk)
theorem wq_min3 (hw : Region.wanted ⟨some d, .call ⟨.builtin .min, #[x, y, z], ats⟩, ty, pos, af, g⟩ (yielded ops a.tmps) = true) (hx : a.eval x = .int .i64 m) (hy : a.eval y = .int .i64 n) (hz : a.eval z = .int .i64 l)
    (hk : wpQuiet P ops C Q rest (a.put (some d) (.int .i64 (min (min m n) l)))) : wpQuiet P ops C Q (⟨some d, .call ⟨.builtin .min, #[x, y, z], ats⟩, ty, pos, af, g⟩ :: rest) a :=
  wq hw (q_val (o := ⟨some d, .call ⟨.builtin .min, #[x, y, z], ats⟩, ty, pos, af, g⟩) (.int .i64 (min (min m n) l)) (fun w _ => by
    rw [BigFrame.execOp_builtin]; simp only [List.map_toArray, List.map_cons, List.map_nil, hx, hy, hz]; simp [go_sem, Builtin.min_, Builtin.min2, List.foldlM]; (repeat' split) <;> omega) hk)
end
section
variable {P : Program} {ops : Array Oper} {C : World → Prop} {Q : Act → Prop} {rest : List Oper} {a : Act} {d : Nat} {x y : Operand} {ty t t' : TypeId} {pos : String} {af : Array Edge} {g : Option (Nat × Bool)}
end
theorem below_alloc1 (w : World) (o : Obj) : Below w.heap.size w (w.alloc o) := (Below.refl _ _).alloc (Nat.le_refl _) _
theorem block_lt {w : World} {b : Nat} {o : Obj} (h : w.heap[b]? = some o) : b < w.heap.size := (Array.getElem?_eq_some_iff.1 h).1
theorem alloc_new (w : World) (o : Obj) : (w.alloc o).heap[w.heap.size]? = some o := by show (w.heap.push _)[w.heap.size]? = _; simp
theorem alloc_old (w : World) (o : Obj) {k : Nat} {x : Obj} (h : w.heap[k]? = some x) : (w.alloc o).heap[k]? = some x := by
  show (w.heap.push _)[k]? = _; rw [Array.getElem?_push_lt (block_lt h)]; exact (Array.getElem?_eq_getElem (block_lt h)).symm.trans h
theorem below_drewN {B : Nat} {a w : World} (h : Below B a w) (n : Nat) : Below B a (w.drewN n) := ⟨h.os, h.tape, h.output, h.size, h.block⟩
def inV (xs : List Int) : List Value := xs.map (Value.int .i64)
theorem inV_append (a b : List Int) : inV (a ++ b) = inV a ++ inV b := by simp [inV]
theorem inV_get (xs : List Int) (i : Nat) (h : i < xs.length) : (inV xs)[i]? = some (.int .i64 (gi xs i)) := by
  unfold inV gi; simp [h]
def spV : List (Int × Int) → List Value
  | [] => []
  | s :: r => .int .i64 s.1 :: .int .i64 s.2 :: spV r
theorem spV_append (a b : List (Int × Int)) : spV (a ++ b) = spV a ++ spV b := by
  induction a with
  | nil => rfl
  | cons s r ih => simp [spV, ih]
theorem spV_length (a : List (Int × Int)) : (spV a).length = a.length * 2 := by
  induction a with
  | nil => rfl
  | cons s r ih => simp [spV, ih]; omega
theorem spV_get (ss : List (Int × Int)) : ∀ i, i < ss.length → (spV ss)[i * 2]? = some (.int .i64 (gm ss i).1) ∧ (spV ss)[i * 2 + 1]? = some (.int .i64 (gm ss i).2) := by
  induction ss with
  | nil => intro i h; simp at h
  | cons s r ih =>
    intro i h
    cases i with
    | zero => exact ⟨rfl, rfl⟩
    | succ i =>
      have := ih i (by simpa using h); rw [show (i + 1) * 2 = i * 2 + 2 by omega]; exact this
def RdS (w : World) (p : Option Addr) (ss : List (Int × Int)) : Prop :=
  ss = [] ∨ ∃ b off, p = some ⟨b, off, none⟩ ∧ ∀ i, i < ss.length → w.cell? ⟨b, off + i * 2, none⟩ = some (.int .i64 (gm ss i).1) ∧ w.cell? ⟨b, off + i * 2 + 1, none⟩ = some (.int .i64 (gm ss i).2)
theorem RdS.at {w : World} {p : Option Addr} {ss : List (Int × Int)} (h : RdS w p ss) {i : Nat} (hi : i < ss.length) :
    ∃ b off, p = some ⟨b, off, none⟩ ∧ ∀ i, i < ss.length → w.cell? ⟨b, off + i * 2, none⟩ = some (.int .i64 (gm ss i).1) ∧ w.cell? ⟨b, off + i * 2 + 1, none⟩ = some (.int .i64 (gm ss i).2) := by
  rcases h with h | h
  · subst h; simp at hi
  · exact h
theorem RdS.below {w w' : World} {p : Option Addr} {ss : List (Int × Int)} (h : RdS w p ss) (hb : Below w.heap.size w w') : RdS w' p ss := by
  rcases h with h | ⟨b, off, rfl, hc⟩
  · exact .inl h
  · refine .inr ⟨b, off, rfl, fun i hi => ?_⟩
    obtain ⟨h1, h2⟩ := hc i hi; exact ⟨(hb.cell (lt_of_cellq h1)).trans h1, (hb.cell (lt_of_cellq h2)).trans h2⟩
theorem at_new (w : World) (cs : Array Value) (t : TypeId) (j : Nat) : (w.alloc (.cells cs t)).cell? ⟨w.heap.size, j, none⟩ = cs[j]? := by
  have h : (w.alloc (.cells cs t)).heap[w.heap.size]? = some (.cells cs t) := by show (w.heap.push _)[w.heap.size]? = _; simp
  simp only [World.cell?, h]
  rfl
theorem add_new (n j : Nat) : (⟨n, 0, none⟩ : Addr).add j = ⟨n, j, none⟩ := by unfold Addr.add; split <;> simp_all
theorem news_of (w : World) (cs : List Value) (t : TypeId) : ∀ j u, cs[j]? = some u → (w.alloc (.cells cs.toArray t)).cell? ((⟨w.heap.size, 0, none⟩ : Addr).add j) = some u := by
  intro j u hj; rw [add_new, at_new]
  simpa using hj
theorem box4 (w : World) (a b c d : Value) (t : TypeId) : ∃ w0, w.alloc (.cells #[a, b, c, d] t) = w0 ∧ Hid (w0.heap.size = w.heap.size + 1) ∧
    w0.cell? ⟨w.heap.size, 0, none⟩ = some a ∧ w0.cell? ⟨w.heap.size, 1, none⟩ = some b ∧ w0.cell? ⟨w.heap.size, 2, none⟩ = some c ∧ w0.cell? ⟨w.heap.size, 3, none⟩ = some d ∧ Below w.heap.size w w0 :=
  ⟨_, rfl, Lib.hid (by simp), by rw [at_new]; rfl, by rw [at_new]; rfl, by rw [at_new]; rfl, by rw [at_new]; rfl, below_alloc1 _ _⟩
theorem box2 (w : World) (a b : Value) (t : TypeId) : ∃ w0, w.alloc (.cells #[a, b] t) = w0 ∧ Hid (w0.heap.size = w.heap.size + 1) ∧
    w0.cell? ⟨w.heap.size, 0, none⟩ = some a ∧ w0.cell? ⟨w.heap.size, 1, none⟩ = some b ∧ Below w.heap.size w w0 :=
  ⟨_, rfl, Lib.hid (by simp), by rw [at_new]; rfl, by rw [at_new]; rfl, below_alloc1 _ _⟩
theorem cell_of_list {w : World} {g : Nat} {cur : List Value} {t : TypeId} (hg : w.heap[g]? = some (.cells cur.toArray t (0, 0))) {j : Nat} {v : Value} (h : cur[j]? = some v) : w.cell? ⟨g, j, none⟩ = some v := by
  simp only [World.cell?, hg]
  simpa using h
structure BelX (X : Nat → Prop) (B : Nat) (w w' : World) : Prop where
  os : w'.os = w.os
  tape : w'.tape = w.tape
  output : w'.output = w.output
  size : w.heap.size ≤ w'.heap.size
  block : ∀ k, k < B → ¬ X k → w'.heap[k]? = w.heap[k]?
theorem belX_of {X : Nat → Prop} {B : Nat} {w w' : World} (h : Below B w w') : BelX X B w w' := ⟨h.os, h.tape, h.output, h.size, fun k hk _ => h.block k hk⟩
theorem BelX.refl (X : Nat → Prop) (B : Nat) (w : World) : BelX X B w w := belX_of (Below.refl _ _)
theorem BelX.trans {X : Nat → Prop} {B : Nat} {a b c : World} (h : BelX X B a b) (k : BelX X B b c) : BelX X B a c :=
  ⟨k.os.trans h.os, k.tape.trans h.tape, k.output.trans h.output, Nat.le_trans h.size k.size, fun i hi hx => (k.block i hi hx).trans (h.block i hi hx)⟩
theorem BelX.mono {X : Nat → Prop} {B B' : Nat} {w w' : World} (h : BelX X B w w') (hB : B' ≤ B) : BelX X B' w w' := ⟨h.os, h.tape, h.output, h.size, fun k hk hx => h.block k (Nat.lt_of_lt_of_le hk hB) hx⟩
theorem BelX.weak {X Y : Nat → Prop} {B : Nat} {w w' : World} (h : BelX X B w w') (hXY : ∀ k, k < B → X k → Y k) : BelX Y B w w' := ⟨h.os, h.tape, h.output, h.size, fun k hk hx => h.block k hk (fun hh => hx (hXY k hk hh))⟩
theorem BelX.cell {X : Nat → Prop} {B : Nat} {w w' : World} (h : BelX X B w w') {p : Addr} (hp : p.block < B) (hx : ¬ X p.block) : w'.cell? p = w.cell? p := World.cell?_of_block (w := w) (h.block p.block hp hx)
theorem BelX.frozen {X : Nat → Prop} {B : Nat} {w w' : World} (h : BelX X B w w') {p : Addr} (hp : p.block < B) (hx : ¬ X p.block) : w'.frozen? p = w.frozen? p := World.frozen?_of_block (w := w) (h.block p.block hp hx)
theorem BelX.below {X : Nat → Prop} {B B' : Nat} {w w' : World} (h : BelX X B w w') (hB : B' ≤ B) (hX : ∀ k, X k → B' ≤ k) : Below B' w w' :=
  ⟨h.os, h.tape, h.output, h.size, fun k hk => h.block k (by omega) (fun hx => by have := hX k hx; omega)⟩
theorem BelX.setCell {X : Nat → Prop} {B : Nat} {a w : World} (h : BelX X B a w) {p : Addr} (hl : X p.block ∨ B ≤ p.block) (v : Value) : BelX X B a (w.setCell p v) :=
  ⟨h.os, h.tape, h.output, by have := h.size; simpa using this, fun k hk hx => (Below.heap_setCell w p v k (fun e => by subst e; rcases hl with hl | hl; exact hx hl; omega)).trans (h.block k hk hx)⟩
theorem box1 (w : World) (a : Value) (t : TypeId) : ∃ w0, w.alloc (.cells #[a] t) = w0 ∧ Hid (w0.heap.size = w.heap.size + 1) ∧
    w0.cell? ⟨w.heap.size, 0, none⟩ = some a ∧ Hid (w0.frozen? ⟨w.heap.size, 0, none⟩ = false) ∧ Below w.heap.size w w0 :=
  ⟨_, rfl, Lib.hid (by simp), by rw [at_new]; rfl, Lib.hid (frozen_of_row _ _ 0 _ _ (alloc_new w (.cells #[a] t))), below_alloc1 _ _⟩
theorem own_kept {w w' : World} {B e size n : Nat} {v : Value} {xs : List Value} (h : w.ownsRow B e size v n xs) (hb : Below w.heap.size w w') : w'.ownsRow B e size v n xs :=
  h.kept (row := none) ⟨hb.os, hb.tape, hb.output, hb.size, fun k hk _ => hb.block k hk⟩ (by cases v.ownBlock <;> simp)
section
variable {P : Program} {ops : Array Oper} {md : Region.Mode} {C : World → Prop}
end
theorem own_apart {w : World} {B B' e e' size size' n n' : Nat} {v v' : Value} {xs xs' : List Value} (h : w.ownsRow B e size v n xs) (h' : w.ownsRow B' e' size' v' n' xs') (he : e ≠ e') : v.ownBlock = none ∨ v.ownBlock ≠ v'.ownBlock := by
  rcases h.2 with ⟨rfl, _⟩ | ⟨g, cap, cur, rfl, _, hg, _⟩
  · exact .inl rfl
  · rcases h'.2 with ⟨rfl, _⟩ | ⟨g', cap', cur', rfl, _, hg', _⟩
    · exact .inr (by simp [Value.ownBlock])
    · refine .inr fun hc => ?_
      simp [Value.ownBlock] at hc; subst hc; rw [hg] at hg'; have := Option.some.inj hg'; simp at this; exact he this.2
theorem own_mono {w : World} {B B' e size n : Nat} {v : Value} {xs : List Value} (h : w.ownsRow B e size v n xs) (hB : B' ≤ B) : w.ownsRow B' e size v n xs := by
  refine ⟨h.1, ?_⟩
  rcases h.2 with h1 | ⟨g, cap, cur, h1, h2, h3⟩
  · exact .inl h1
  · exact .inr ⟨g, cap, cur, h1, Nat.le_trans hB h2, h3⟩
theorem set4 (w : World) (B : Nat) (t : TypeId) (v0 v1 v2 v3 a b c d : Value) (h : w.heap[B]? = some (.cells #[v0, v1, v2, v3] t)) :
    ∃ w1 w2 w3 w4, w.setCell ⟨B, 0, none⟩ a = w1 ∧ w1.setCell ⟨B, 1, none⟩ b = w2 ∧ w2.setCell ⟨B, 2, none⟩ c = w3 ∧ w3.setCell ⟨B, 3, none⟩ d = w4 ∧
      (w.cell? ⟨B, 0, none⟩ = some v0 ∧ w.frozen? ⟨B, 0, none⟩ = false) ∧ (w1.cell? ⟨B, 1, none⟩ = some v1 ∧ w1.frozen? ⟨B, 1, none⟩ = false) ∧ (w2.cell? ⟨B, 2, none⟩ = some v2 ∧ w2.frozen? ⟨B, 2, none⟩ = false) ∧ (w3.cell? ⟨B, 3, none⟩ = some v3 ∧ w3.frozen? ⟨B, 3, none⟩ = false) ∧
      w4.heap[B]? = some (.cells #[a, b, c, d] t) ∧ (∀ k, k ≠ B → w4.heap[k]? = w.heap[k]?) ∧ w4.heap.size = w.heap.size ∧ ∀ W n0, n0 ≤ B → Below n0 W w → Below n0 W w4 := by
  have h1 := heap_setCell_same w B 0 _ t a h; have h2 := heap_setCell_same _ B 1 _ t b h1; have h3 := heap_setCell_same _ B 2 _ t c h2; have h4 := heap_setCell_same _ B 3 _ t d h3; refine ⟨_, _, _, _, rfl, rfl, rfl, rfl, ⟨?_, frozen_of_row _ _ _ _ _ h⟩, ⟨?_, frozen_of_row _ _ _ _ _ h1⟩, ⟨?_, frozen_of_row _ _ _ _ _ h2⟩, ⟨?_, frozen_of_row _ _ _ _ _ h3⟩, ?_, ?_, ?_, ?_⟩
  · rw [cell_of_row _ _ _ _ _ _ h]; rfl
  · rw [cell_of_row _ _ _ _ _ _ h1]; rfl
  · rw [cell_of_row _ _ _ _ _ _ h2]; rfl
  · rw [cell_of_row _ _ _ _ _ _ h3]; rfl
  · rw [h4]; rfl
  · intro k hk
    rw [Below.heap_setCell _ _ _ k hk, Below.heap_setCell _ _ _ k hk, Below.heap_setCell _ _ _ k hk, Below.heap_setCell _ _ _ k hk]
  · simp
  · intro W n0 hn hb
    exact (((hb.setCell hn _).setCell hn _).setCell hn _).setCell hn _
theorem cells4 {w : World} {B : Nat} {t : TypeId} {a b c d : Value} (h : w.heap[B]? = some (.cells #[a, b, c, d] t)) : w.cell? ⟨B, 0, none⟩ = some a ∧ w.cell? ⟨B, 1, none⟩ = some b ∧ w.cell? ⟨B, 2, none⟩ = some c ∧ w.cell? ⟨B, 3, none⟩ = some d := by
  refine ⟨?_, ?_, ?_, ?_⟩ <;> (rw [cell_of_row _ _ _ _ _ _ h]; rfl)
end Go.Proofs.YtchclaipbahiiaaGreat
end

section
namespace Go.Proofs.YtchclaipbahiiaaGreat
open Go Go.RowKit Go.Proofs
set_option linter.unusedVariables false
theorem agI (w : World) : (isAgg 3).run Tryz.prog w = .ok false w := by kernel_rfl
theorem agB (w : World) : (isAgg 4).run Tryz.prog w = .ok false w := by kernel_rfl
theorem agLI (w : World) : (isAgg 23).run Tryz.prog w = .ok false w := by kernel_rfl
theorem agLS (w : World) : (isAgg 48).run Tryz.prog w = .ok false w := by kernel_rfl
theorem agLM (w : World) : (isAgg 56).run Tryz.prog w = .ok false w := by kernel_rfl
theorem agLR (w : World) : (isAgg 57).run Tryz.prog w = .ok false w := by kernel_rfl
theorem agLL (w : World) : (isAgg 90).run Tryz.prog w = .ok false w := by kernel_rfl
theorem agLT (w : World) : (isAgg 118).run Tryz.prog w = .ok false w := by kernel_rfl
theorem szI : ((Tryz.prog.info? 3).map fun i => i.size) = some 1 := by kernel_rfl
theorem szL : ((Tryz.prog.info? 23).map fun i => i.size) = some 1 := by kernel_rfl
theorem szSp : ((Tryz.prog.info? 61).map fun i => i.size) = some 2 := by kernel_rfl
theorem szM : ((Tryz.prog.info? 63).map fun i => i.size) = some 2 := by kernel_rfl
theorem szR : ((Tryz.prog.info? 116).map fun i => i.size) = some 4 := by kernel_rfl
theorem szT : ((Tryz.prog.info? 125).map fun i => i.size) = some 2 := by kernel_rfl
theorem infI : (Tryz.prog.info? 3).map (fun i => (i.zero, i.size, i.bytes)) = some (some (.int .i64 0), 1, 8) := by kernel_rfl
theorem box3 (w : World) (a b c : Value) (t : TypeId) : ∃ w0, w.alloc (.cells #[a, b, c] t) = w0 ∧ Hid (w0.heap.size = w.heap.size + 1) ∧
    w0.cell? ⟨w.heap.size, 0, none⟩ = some a ∧ w0.cell? ⟨w.heap.size, 1, none⟩ = some b ∧ w0.cell? ⟨w.heap.size, 2, none⟩ = some c ∧ Below w.heap.size w w0 :=
  ⟨_, rfl, Lib.hid (by simp), by rw [at_new]; rfl, by rw [at_new]; rfl, by rw [at_new]; rfl, below_alloc1 _ _⟩
def RdR (w : World) (p : Option Addr) (rs : List Rd) : Prop :=
  rs = [] ∨ ∃ b off, p = some ⟨b, off, none⟩ ∧ ∀ i, i < rs.length → w.cell? ⟨b, off + i * 4, none⟩ = some (.int .i64 (gr rs i).aft) ∧ w.cell? ⟨b, off + i * 4 + 1, none⟩ = some (.int .i64 (gr rs i).arb) ∧ w.cell? ⟨b, off + i * 4 + 2, none⟩ = some (.int .i64 (gr rs i).seen) ∧ w.cell? ⟨b, off + i * 4 + 3, none⟩ = some (.int .i64 (gr rs i).off)
theorem RdR.at {w : World} {p : Option Addr} {rs : List Rd} (h : RdR w p rs) {i : Nat} (hi : i < rs.length) :
    ∃ b off, p = some ⟨b, off, none⟩ ∧ ∀ i, i < rs.length → w.cell? ⟨b, off + i * 4, none⟩ = some (.int .i64 (gr rs i).aft) ∧ w.cell? ⟨b, off + i * 4 + 1, none⟩ = some (.int .i64 (gr rs i).arb) ∧ w.cell? ⟨b, off + i * 4 + 2, none⟩ = some (.int .i64 (gr rs i).seen) ∧ w.cell? ⟨b, off + i * 4 + 3, none⟩ = some (.int .i64 (gr rs i).off) := by
  rcases h with h | h
  · subst h; simp at hi
  · exact h
theorem RdR.below {w w' : World} {p : Option Addr} {rs : List Rd} (h : RdR w p rs) (hb : Below w.heap.size w w') : RdR w' p rs := by
  rcases h with h | ⟨b, off, rfl, hc⟩
  · exact .inl h
  · refine .inr ⟨b, off, rfl, fun i hi => ?_⟩
    obtain ⟨h1, h2, h3, h4⟩ := hc i hi; exact ⟨(hb.cell (lt_of_cellq h1)).trans h1, (hb.cell (lt_of_cellq h2)).trans h2, (hb.cell (lt_of_cellq h3)).trans h3, (hb.cell (lt_of_cellq h4)).trans h4⟩
structure RdP (w : World) (pm pv pr : Option Addr) (p : Pc) : Prop where
  ms : RdS w pm p.ms
  mv : RdI w pv p.mv
  rs : RdR w pr p.rs
theorem RdP.below {w w' : World} {pm pv pr : Option Addr} {p : Pc} (h : RdP w pm pv pr p) (hb : Below w.heap.size w w') : RdP w' pm pv pr p := ⟨h.ms.below hb, h.mv.below hb, h.rs.below hb⟩
theorem rd_of_own {w : World} {base : Nat} {v : Value} {xs : List Int} (h : w.ownsRow base 3 1 v xs.length (inV xs)) :
    ∃ p cap, v = .slice p xs.length cap ∧ RdI w p xs := by
  rcases h.2 with ⟨rfl, h0⟩ | ⟨g, cap, cur, rfl, hb, hg, hnc, hcm, hsz, htk⟩
  · have : xs = [] := List.length_eq_zero_iff.1 h0
    subst this; exact ⟨none, 0, rfl, .inl rfl⟩
  · refine ⟨some ⟨g, 0, none⟩, cap, rfl, .inr ⟨g, 0, rfl, fun i hi => ?_⟩⟩
    have := h.cells (g := g) rfl i _ (inV_get xs i hi); have hadd : (⟨g, 0, none⟩ : Addr).add i = ⟨g, 0 + i, none⟩ := by unfold Addr.add; split <;> simp_all
    rwa [hadd] at this
theorem rds_of_own {w : World} {base e : Nat} {v : Value} {ss : List (Int × Int)} (h : w.ownsRow base e 2 v ss.length (spV ss)) :
    ∃ p cap, v = .slice p ss.length cap ∧ RdS w p ss := by
  rcases h.2 with ⟨rfl, h0⟩ | ⟨g, cap, cur, rfl, hb, hg, hnc, hcm, hsz, htk⟩
  · have : ss = [] := List.length_eq_zero_iff.1 h0
    subst this; exact ⟨none, 0, rfl, .inl rfl⟩
  · refine ⟨some ⟨g, 0, none⟩, cap, rfl, .inr ⟨g, 0, rfl, fun i hi => ?_⟩⟩
    obtain ⟨e1, e2⟩ := spV_get ss i hi; have h1 := h.cells (g := g) rfl _ _ e1; have h2 := h.cells (g := g) rfl _ _ e2; have hadd : ∀ j, (⟨g, 0, none⟩ : Addr).add j = ⟨g, 0 + j, none⟩ := fun j => by unfold Addr.add; split <;> simp_all
    rw [hadd] at h1 h2; exact ⟨h1, by rw [show 0 + i * 2 + 1 = 0 + (i * 2 + 1) by omega]; exact h2⟩
theorem inB_true {x lo hi : Int} (h1 : lo ≤ x) (h2 : x ≤ hi) : inB x lo hi = true := by simp [inB, h1, h2]
theorem inB_lo {x lo hi : Int} (h : ¬ lo ≤ x) : inB x lo hi = false := by simp [inB, h]
theorem inB_hi {x lo hi : Int} (h : ¬ x ≤ hi) : inB x lo hi = false := by simp [inB, h]
end Go.Proofs.YtchclaipbahiiaaGreat
end

section
namespace Go.Proofs.YtchclaipbahiiaaGreat
set_option linter.unusedVariables false
structure Hd where
  arb : Int
  num : Int
  den : Int
  er : List (Int × Int)
structure HandOk (n : Nat) (h : Hd) : Prop where
  arb : 0 ≤ h.arb ∧ h.arb ≤ n
  num : 1 ≤ h.num ∧ h.num ≤ 100
  den : 1 ≤ h.den ∧ h.den ≤ 100
  len : 1 ≤ h.er.length ∧ h.er.length ≤ 8
  err : ∀ i, i < h.er.length → -30 ≤ (gm h.er i).1 ∧ (gm h.er i).1 ≤ (gm h.er i).2 ∧ (gm h.er i).2 ≤ 30
end Go.Proofs.YtchclaipbahiiaaGreat
end

section
namespace Go.Proofs.YtchclaipbahiiaaGreat
open Go Go.RowKit Go.Proofs
set_option linter.unusedVariables false
attribute [local go_sem] imax2 imin2
def BadAt (n : Nat) (ok : Nat → Bool) (r : Int) : Prop := (r = -1 ∧ ∀ j, j < n → ok j = true) ∨ (0 ≤ r ∧ ∃ j, j < n ∧ ok j = false)
def BadPost (n : Nat) (ok : Nat → Bool) (w : World) (e : Ending) (w' : World) : Prop := ∃ r : Int, BadAt n ok r ∧ e = .returned (.int .i64 r) ∧ Below w.heap.size w w'
theorem all_ok {α : Type} {f : α → Bool} {d : α} {l : List α} (h : ∀ j, j < l.length → f (l.getD j d) = true) : l.all f = true := (all_at d l).2 h
theorem all_bad {α : Type} {f : α → Bool} {d : α} {l : List α} {j : Nat} (hj : j < l.length) (h : f (l.getD j d) = false) : l.all f = false := by
  cases hh : l.all f with
  | false => rfl
  | true => rw [(all_at d l).1 hh j hj] at h; cases h
end Go.Proofs.YtchclaipbahiiaaGreat
end

section
namespace Go.Proofs.YtchclaipbahiiaaGreat
set_option linter.unusedVariables false
def redF (n d : Int) : Int × Int := (n / (Int.gcd n d : Int), d / (Int.gcd n d : Int))
def cmpF (a b : Int × Int) : Int := a.1 * b.2 - b.1 * a.2
def dstF (x f : Int × Int) : Int × Int := (max (cmpF x f) (-(cmpF x f)), x.2)
def tthF (lo hi : Int) (nv : List Int) : List Int := (rng lo hi).filter fun n => !nv.contains n
def prdF (t : List Int) : Nat → Nat → Int → List Int
  | 0, _, now => [now]
  | n + 1, k, now => (List.range' k (t.length - k)).flatMap fun i => prdF t n i (now * gi t i)
def prodsL (t : List Int) (n : Nat) : List Int := prdF t n 0 1
def topN (n : Nat) : Nat := 60 ^ n
def srtF (t : List Int) (n : Nat) : List Int := ((List.range (topN n + 1)).filter fun (x : Nat) => (prodsL t n).contains (x : Int)).map fun (x : Nat) => (x : Int)
def atN (all : List Int) (num v : Int) : Nat := (all.takeWhile fun y => decide (y * num < v)).length
def nearS (f : Int × Int) (dr : Int) (all : List Int) (st : List (Int × Int) × (Int × Int)) (i : Int) : List (Int × Int) × (Int × Int) :=
  if inB i 0 ((all.length : Int) - 1) = false then st else
    let x := redF dr (gi all i.toNat)
    let d := dstF x f
    let s1 := if st.1 = [] ∨ cmpF d st.2 < 0 then ([], d) else st
    if cmpF d s1.2 = 0 ∧ s1.1.contains x = false then (s1.1 ++ [x], s1.2) else s1
def nearD (f : Int × Int) (all : List Int) (st : List (Int × Int) × (Int × Int)) (dr : Int) : List (Int × Int) × (Int × Int) :=
  let at' : Int := (atN all f.1 (dr * f.2) : Int)
  nearS f dr all (nearS f dr all st (at' - 1)) at'
def nearFr (all : List Int) (f : Int × Int) : List (Int × Int) × (Int × Int) := all.foldl (nearD f all) ([], (0, 0))
def canF (t : List Int) (k : Nat) (x : Int × Int) : Bool := (List.range (topN k + 1)).any fun n => decide (1 ≤ n) && (decide ((n : Int) * max x.1 x.2 ≤ topN k) && ((prodsL t k).contains ((n : Int) * x.1) && (prodsL t k).contains ((n : Int) * x.2)))
def ordB (a b : Int × Int) : Bool := decide (a.1 < b.1) || (decide (a.1 = b.1) && decide (a.2 < b.2))
def fstF (t : List Int) : Nat → List (Int × Int) → Int × Int → Option (List (Int × Int))
  | 0, now, _ => some now
  | k + 1, now, left => t.findSome? fun a => t.findSome? fun b =>
      if now.getLast?.any (fun l => ordB (a, b) l) then none else
        let rest := redF (left.1 * b) (left.2 * a)
        if canF t k rest then fstF t k (now ++ [(a, b)]) rest else none
def bestO {α : Type} (lt : α → α → Bool) (l : List α) : Option α := l.foldl (fun (o : Option α) x => match o with | none => some x | some y => if lt x y then some x else o) none
def trL : List (Int × Int) → List (Int × Int) → Bool
  | [], [] => false
  | [], _ :: _ => true
  | _ :: _, [] => false
  | a :: r, b :: s => ordB a b || (!ordB b a && trL r s)
def letsB (sense : Int) (n : Nat) : Bool := if sense = 2 then n % 2 == 0 else if sense = 3 then n % 2 == 1 else true
def foundL (t : List Int) (sense : Int) (pairs : Nat) (f : Int × Int) : List (Nat × (Int × Int) × List (Int × Int)) :=
  ((List.range pairs).map fun i => (i + 1, (nearFr (srtF t (i + 1)) f).2, (nearFr (srtF t (i + 1)) f).1)).filter fun y => !y.2.2.isEmpty && letsB sense y.1
def nrstF (t : List Int) (sense : Int) (pairs : Nat) (f : Int × Int) : Option (List (Int × Int)) :=
  (bestO (fun a b => decide (cmpF a.2.1 b.2.1 < 0)) (foundL t sense pairs f)).bind fun x => bestO trL (x.2.2.map fun y => (fstF t x.1 [] y).getD [])
set_option maxRecDepth 100000 in
theorem ex_nearest : nrstF (tthF 6 12 [7]) 1 2 (43, 30) = some [(12, 10), (12, 10)] := by decide +kernel
end Go.Proofs.YtchclaipbahiiaaGreat
end

section
namespace Go.Proofs.YtchclaipbahiiaaGreat
open Go Go.RowKit Go.Proofs
set_option linter.unusedVariables false
theorem t_in (x lo hi : Int) (w : World) :
    Calls Tryz.prog 72 #[.int .i64 x, .int .i64 lo, .int .i64 hi] w fun e w' => e = .returned (.bool (inB x lo hi)) ∧ w = w' := by
  by_cases h1 : lo ≤ x
  · by_cases h2 : x ≤ hi
    · have HB := Lib.hid (inB_true h1 h2)
      go_enter Tryz.func72, Tryz.ntmps72
      go_wp2; go_ret; exact ⟨by rw [HB.out]; rfl, rfl⟩
    · have HB := Lib.hid (inB_hi (lo := lo) h2)
      go_enter Tryz.func72, Tryz.ntmps72
      go_wp2; go_ret; exact ⟨by rw [HB.out]; rfl, rfl⟩
  · have HB := Lib.hid (inB_lo (hi := hi) h1)
    go_enter Tryz.func72, Tryz.ntmps72
    go_wp2; go_ret; exact ⟨by rw [HB.out]; rfl, rfl⟩
theorem h_in (x lo hi : Int) (w : World) :
    Calls Tryz.prog 55 #[.int .i64 x, .int .i64 lo, .int .i64 hi] w fun e w' => e = .returned (.bool (inB x lo hi)) ∧ w = w' := by
  by_cases h1 : lo ≤ x
  · by_cases h2 : x ≤ hi
    · have HB := Lib.hid (inB_true h1 h2)
      go_enter Tryz.func55, Tryz.ntmps55
      go_wp2; go_ret; exact ⟨by rw [HB.out]; rfl, rfl⟩
    · have HB := Lib.hid (inB_hi (lo := lo) h2)
      go_enter Tryz.func55, Tryz.ntmps55
      go_wp2; go_ret; exact ⟨by rw [HB.out]; rfl, rfl⟩
  · have HB := Lib.hid (inB_lo (hi := hi) h1)
    go_enter Tryz.func55, Tryz.ntmps55
    go_wp2; go_ret; exact ⟨by rw [HB.out]; rfl, rfl⟩
theorem y_in (x lo hi : Int) (w : World) :
    Calls Tryz.prog 110 #[.int .i64 x, .int .i64 lo, .int .i64 hi] w fun e w' => e = .returned (.bool (inB x lo hi)) ∧ w = w' := by
  by_cases h1 : lo ≤ x
  · by_cases h2 : x ≤ hi
    · have HB := Lib.hid (inB_true h1 h2)
      go_enter Tryz.func110, Tryz.ntmps110
      go_wp2; go_ret; exact ⟨by rw [HB.out]; rfl, rfl⟩
    · have HB := Lib.hid (inB_hi (lo := lo) h2)
      go_enter Tryz.func110, Tryz.ntmps110
      go_wp2; go_ret; exact ⟨by rw [HB.out]; rfl, rfl⟩
  · have HB := Lib.hid (inB_lo (hi := hi) h1)
    go_enter Tryz.func110, Tryz.ntmps110
    go_wp2; go_ret; exact ⟨by rw [HB.out]; rfl, rfl⟩
theorem p_in (x lo hi : Int) (w : World) :
    Calls Tryz.prog 41 #[.int .i64 x, .int .i64 lo, .int .i64 hi] w fun e w' => e = .returned (.bool (inB x lo hi)) ∧ w = w' := by
  by_cases h1 : lo ≤ x
  · by_cases h2 : x ≤ hi
    · have HB := Lib.hid (inB_true h1 h2)
      go_enter Tryz.func41, Tryz.ntmps41
      go_wp2; go_ret; exact ⟨by rw [HB.out]; rfl, rfl⟩
    · have HB := Lib.hid (inB_hi (lo := lo) h2)
      go_enter Tryz.func41, Tryz.ntmps41
      go_wp2; go_ret; exact ⟨by rw [HB.out]; rfl, rfl⟩
  · have HB := Lib.hid (inB_lo (hi := hi) h1)
    go_enter Tryz.func41, Tryz.ntmps41
    go_wp2; go_ret; exact ⟨by rw [HB.out]; rfl, rfl⟩
theorem a_in (x lo hi : Int) (w : World) :
    Calls Tryz.prog 24 #[.int .i64 x, .int .i64 lo, .int .i64 hi] w fun e w' => e = .returned (.bool (inB x lo hi)) ∧ w = w' := by
  by_cases h1 : lo ≤ x
  · by_cases h2 : x ≤ hi
    · have HB := Lib.hid (inB_true h1 h2)
      go_enter Tryz.func24, Tryz.ntmps24
      go_wp2; go_ret; exact ⟨by rw [HB.out]; rfl, rfl⟩
    · have HB := Lib.hid (inB_hi (lo := lo) h2)
      go_enter Tryz.func24, Tryz.ntmps24
      go_wp2; go_ret; exact ⟨by rw [HB.out]; rfl, rfl⟩
  · have HB := Lib.hid (inB_lo (hi := hi) h1)
    go_enter Tryz.func24, Tryz.ntmps24
    go_wp2; go_ret; exact ⟨by rw [HB.out]; rfl, rfl⟩
theorem b_in (x lo hi : Int) (w : World) :
    Calls Tryz.prog 25 #[.int .i64 x, .int .i64 lo, .int .i64 hi] w fun e w' => e = .returned (.bool (inB x lo hi)) ∧ w = w' := by
  by_cases h1 : lo ≤ x
  · by_cases h2 : x ≤ hi
    · have HB := Lib.hid (inB_true h1 h2)
      go_enter Tryz.func25, Tryz.ntmps25
      go_wp2; go_ret; exact ⟨by rw [HB.out]; rfl, rfl⟩
    · have HB := Lib.hid (inB_hi (lo := lo) h2)
      go_enter Tryz.func25, Tryz.ntmps25
      go_wp2; go_ret; exact ⟨by rw [HB.out]; rfl, rfl⟩
  · have HB := Lib.hid (inB_lo (hi := hi) h1)
    go_enter Tryz.func25, Tryz.ntmps25
    go_wp2; go_ret; exact ⟨by rw [HB.out]; rfl, rfl⟩
theorem t_teeth (x : Int) (w : World) : Calls Tryz.prog 71 #[.int .i64 x] w fun e w' => e = .returned (.bool (inB x 4 60)) ∧ w = w' := by
  go_enter Tryz.func71, Tryz.ntmps71
  go_wp2_with fail; refine (t_in _ _ _ _).mono ?_; rintro e w' ⟨rfl, rfl⟩; go_wp2; go_ret; exact ⟨rfl, rfl⟩
theorem h_teeth (x : Int) (w : World) : Calls Tryz.prog 134 #[.int .i64 x] w fun e w' => e = .returned (.bool (inB x 4 60)) ∧ w = w' := by
  go_enter Tryz.func134, Tryz.ntmps134
  go_wp2_with fail; refine (h_in _ _ _ _).mono ?_; rintro e w' ⟨rfl, rfl⟩; go_wp2; go_ret; exact ⟨rfl, rfl⟩
theorem a_teeth (x : Int) (w : World) : Calls Tryz.prog 38 #[.int .i64 x] w fun e w' => e = .returned (.bool (inB x 4 60)) ∧ w = w' := by
  go_enter Tryz.func38, Tryz.ntmps38
  go_wp2_with fail; refine (a_in _ _ _ _).mono ?_; rintro e w' ⟨rfl, rfl⟩; go_wp2; go_ret; exact ⟨rfl, rfl⟩
end Go.Proofs.YtchclaipbahiiaaGreat
end

section
namespace Go.Proofs.YtchclaipbahiiaaGreat
open Go Go.RowKit Go.Proofs
set_option linter.unusedVariables false
attribute [local go_sem] imax2 imin2
structure LenOk (p : Pc) : Prop where
  ms : p.ms.length ≤ 1000000
  mv : p.mv.length ≤ 1000000
  rs : p.rs.length ≤ 1000000
end Go.Proofs.YtchclaipbahiiaaGreat
end

section
namespace Go.Proofs.YtchclaipbahiiaaGreat
set_option linter.unusedVariables false
def gl (css : List (List Int)) (i : Nat) : List Int := css.getD i []
def Tried (p : Pc) (a : List Int) : Prop := a.length ≤ p.ms.length ∧ ∀ i, i < a.length → (gm p.ms i).1 ≤ gi a i ∧ gi a i ≤ (gm p.ms i).2
theorem Tried.snoc {p : Pc} {a : List Int} (h : Tried p a) (hl : a.length < p.ms.length) {n : Int} (h1 : (gm p.ms a.length).1 ≤ n) (h2 : n ≤ (gm p.ms a.length).2) : Tried p (a ++ [n]) := by
  refine ⟨by rw [List.length_append, List.length_singleton]; omega, fun i hi => ?_⟩; rw [List.length_append, List.length_singleton] at hi
  by_cases hk : i < a.length
  · have e : gi (a ++ [n]) i = gi a i := by unfold gi; rw [List.getD_eq_getElem?_getD, List.getD_eq_getElem?_getD, List.getElem?_append_left hk]
    rw [e]; exact h.2 i hk
  · obtain rfl : i = a.length := by omega
    have e : gi (a ++ [n]) a.length = n := by unfold gi; simp
    rw [e]; exact ⟨h1, h2⟩
end Go.Proofs.YtchclaipbahiiaaGreat
end

section
namespace Go.Proofs.YtchclaipbahiiaaGreat
open Go Go.RowKit Go.Proofs
set_option linter.unusedVariables false
attribute [local go_sem] imax2 imin2
theorem eqnLI (a : Option Addr) (l c : Nat) (w : World) : (binOp .eql 23 (.slice a l c) (.slice none 0 0)).run Tryz.prog w = .ok (.bool a.isNone) w := run_eql_slice_nil w 23 3 a l c Tryz.underlying23
attribute [local go_sem] eqnLI
set_option maxRecDepth 100000 in
theorem c_Clone_nil (w : World) : Calls Tryz.prog 91 #[.slice none 0 0] w fun e w' => e = .returned (.slice none 0 0) ∧ w = w' := by
  go_enter Tryz.func91, Tryz.ntmps91
  go_wp2; go_ret; exact ⟨rfl, rfl⟩
def ClonePost (xs : List Int) (w : World) (e : Ending) (w' : World) : Prop := ∃ v, e = .returned v ∧ w'.ownsRow w.heap.size 3 1 v xs.length (inV xs) ∧ Below w.heap.size w w'
set_option maxHeartbeats 400000 in
set_option maxRecDepth 100000 in
theorem c_Clone (b off cap : Nat) (xs : List Int) (w : World) (hx : RdI w (some ⟨b, off, none⟩) xs) (hl : xs.length ≤ 1000000) :
    Calls Tryz.prog 91 #[.slice (some ⟨b, off, none⟩) xs.length cap] w (ClonePost xs w) := by
  have HX := Lib.hid hx; clear hx
  go_enter Tryz.func91, Tryz.ntmps91
  obtain ⟨i0, hi0, hz0, hz1, hz2⟩ := info_parts infI; have hown : (w.alloc (.cells #[] 3)).ownsRow w.heap.size 3 1 (.slice (some ⟨w.heap.size, 0, none⟩) 0 0) 0 [] := World.ownsRow_made w #[] 0 (Nat.le_refl _) (by unfold maxLen; omega) (by simp)
  have hnews : ∀ j v, (inV xs)[j]? = some v → (w.alloc (.cells #[] 3)).cell? ((⟨b, off, none⟩ : Addr).add j) = some v := by
    intro j v hj
    have hj' : j < xs.length := by
      have := (List.getElem?_eq_some_iff.1 hj).1
      simpa [inV] using this
    obtain ⟨b', off', e, hc⟩ := HX.out.at hj'
    cases e
    have h1 := hc j hj'; rw [inV_get xs j hj'] at hj
    cases hj
    have e : (⟨b, off, none⟩ : Addr).add j = ⟨b, off + j, none⟩ := by unfold Addr.add; split <;> simp_all
    rw [e]; exact ((below_alloc1 w _).cell (lt_of_cellq h1)).trans h1
  have HO := Lib.hid hown; have HNW := Lib.hid hnews; clear hown hnews; go_wp2_with (at_builtin; refine wpList_append_own _ rfl _ _ 23 rfl w.heap.size 3 i0 _ 1 8 Tryz.underlying23 hi0 hz0 hz1 hz2 rfl (by decide) _ 0 [] rfl HO.out ⟨b, off, none⟩ xs.length cap (inV xs) rfl ?c0 HNW.out ?c2 ?c3 ?c4 ?c5 ?_)
  case c0 => simp [inV]
  case c2 => intro u hu; simp [inV] at hu; obtain ⟨x, _, rfl⟩ := hu; rfl
  case c3 => unfold maxLen; omega
  case c4 => omega
  case c5 => simp
  intro v' w1 hown' hgrow _; have HB := Lib.hid ((below_alloc1 w (.cells #[] 3)).grown hgrow (by simp) (fun k hk => by cases hk; exact Nat.le_refl _)); have HR := Lib.hid hown'; clear hown' hgrow; go_wp2; go_ret; exact ⟨v', rfl, by have := HR.out; simpa using this, HB.out⟩
theorem c_Clone_any (p : Option Addr) (cap : Nat) (xs : List Int) (w : World) (hx : RdI w p xs) (hl : xs.length ≤ 1000000) (hn : xs = [] → p = none ∧ cap = 0) :
    Calls Tryz.prog 91 #[.slice p xs.length cap] w (ClonePost xs w) := by
  cases xs with
  | nil =>
    obtain ⟨rfl, rfl⟩ := hn rfl; refine (c_Clone_nil w).mono ?_; rintro e w' ⟨rfl, rfl⟩; exact ⟨_, rfl, World.ownsRow_nil _ _ _ _, Below.refl _ _⟩
  | cons x xs =>
    obtain ⟨b, off, rfl, hc⟩ := hx.at (i := 0) (by simp); exact c_Clone b off cap (x :: xs) w hx hl
end Go.Proofs.YtchclaipbahiiaaGreat
end

section
namespace Go.Proofs.YtchclaipbahiiaaGreat
open Go Go.RowKit Go.Proofs
set_option linter.unusedVariables false
attribute [local go_sem] imax2 imin2
theorem set2 (w : World) (B : Nat) (t : TypeId) (v0 v1 a b : Value) (h : w.heap[B]? = some (.cells #[v0, v1] t)) :
    ∃ w1 w2, w.setCell ⟨B, 0, none⟩ a = w1 ∧ w1.setCell ⟨B, 1, none⟩ b = w2 ∧
      (w.cell? ⟨B, 0, none⟩ = some v0 ∧ w.frozen? ⟨B, 0, none⟩ = false) ∧ (w1.cell? ⟨B, 1, none⟩ = some v1 ∧ w1.frozen? ⟨B, 1, none⟩ = false) ∧
      w2.heap[B]? = some (.cells #[a, b] t) ∧ (∀ k, k ≠ B → w2.heap[k]? = w.heap[k]?) ∧ Hid (w2.heap.size = w.heap.size) ∧ ∀ W n0, n0 ≤ B → Below n0 W w → Below n0 W w2 := by
  have h1 := heap_setCell_same w B 0 _ t a h; have h2 := heap_setCell_same _ B 1 _ t b h1; refine ⟨_, _, rfl, rfl, ⟨?_, frozen_of_row _ _ _ _ _ h⟩, ⟨?_, frozen_of_row _ _ _ _ _ h1⟩, ?_, ?_, ?_, ?_⟩
  · rw [cell_of_row _ _ _ _ _ _ h]; rfl
  · rw [cell_of_row _ _ _ _ _ _ h1]; rfl
  · rw [h2]; rfl
  · intro k hk
    rw [Below.heap_setCell _ _ _ k hk, Below.heap_setCell _ _ _ k hk]
  · exact Lib.hid (by simp)
  · intro W n0 hn hb
    exact (hb.setCell hn _).setCell hn _
theorem cells2 {w : World} {B : Nat} {t : TypeId} {a b : Value} (h : w.heap[B]? = some (.cells #[a, b] t)) : w.cell? ⟨B, 0, none⟩ = some a ∧ w.cell? ⟨B, 1, none⟩ = some b := by
  refine ⟨?_, ?_⟩ <;> (rw [cell_of_row _ _ _ _ _ _ h]; rfl)
theorem own_same {w w' : World} {B e size n : Nat} {v : Value} {xs : List Value} (h : w.ownsRow B e size v n xs) (hs : ∀ g, v.ownBlock = some g → w'.heap[g]? = w.heap[g]?) : w'.ownsRow B e size v n xs := by
  refine ⟨h.1, ?_⟩
  rcases h.2 with h1 | ⟨g, cap, cur, h1, h2, h3, h4⟩
  · exact .inl h1
  · subst h1
    exact .inr ⟨g, cap, cur, rfl, h2, (hs g rfl).trans h3, h4⟩
structure PlOk (pl : List Int) : Prop where
  len : pl.length ≤ 1000
  in' : ∀ i, i < pl.length → 0 ≤ gi pl i ∧ gi pl i ≤ 100
end Go.Proofs.YtchclaipbahiiaaGreat
end

section
namespace Go.Proofs.YtchclaipbahiiaaGreat
open Go Go.RowKit Go.Proofs
set_option linter.unusedVariables false
set_option linter.unusedSimpArgs false
attribute [local go_sem] imax2 imin2
theorem gcd_step (a b : Nat) : Nat.gcd b (a % b) = Nat.gcd a b := by
  rw [Nat.gcd_comm b (a % b), ← Nat.gcd_rec, Nat.gcd_comm]
set_option maxRecDepth 100000 in
theorem t_gcd (a b : Nat) (ha : a ≤ 1000000000000000000) (hb : b ≤ 1000000000000000000) (w : World) : Calls Tryz.prog 156 #[.int .i64 a, .int .i64 b] w fun e w' => e = .returned (.int .i64 (Nat.gcd a b : Nat)) ∧ Below w.heap.size w w' := by
  obtain ⟨G, hG⟩ : ∃ G, Nat.gcd a b = G := ⟨_, rfl⟩; rw [hG]; have HG := Lib.hid hG; clear hG
  go_enter Tryz.func156, Tryz.ntmps156
  go_wp2
  go_loopw [0, 1] (fun x y wr => ∃ a b : Nat, x = .int .i64 a ∧ y = .int .i64 b ∧ a ≤ 1000000000000000000 ∧ b ≤ 1000000000000000000 ∧ Hid (Nat.gcd a b = G) ∧ Hid (Below w.heap.size w wr)) (fun _ y _ => (intOf y).toNat)
  case atStart => exact ⟨a, b, rfl, rfl, ha, hb, HG, Lib.hid (Below.refl _ _)⟩
  case round =>
    clear ha hb HG; obtain ⟨a, b, rfl, rfl, ha, hb, HG, HB⟩ := hrel
    by_cases h0 : 0 < b
    · have h1 : decide ((b : Int) > 0) = true := decide_eq_true (by omega)
      have h1' : decide (0 < b) = true := decide_eq_true h0; have hm : (a : Int) % (b : Int) = ((a % b : Nat) : Int) := rfl; have hmb : a % b < b := Nat.mod_lt _ h0; have HG2 := Lib.hid (show Nat.gcd b (a % b) = G by rw [gcd_step]; exact HG.out); go_wp2; refine wp_region_quiet_lit (by kernel_rfl) (by kernel_rfl) ?_; (repeat (first | ((with_reducible first | apply wq_ix Tryz.underlying23 szI | apply wq_ix Tryz.underlying48 szSp | apply wq_ix Tryz.underlying56 szM | apply wq_ix Tryz.underlying57 szR | apply wq_ix Tryz.underlying90 szL | apply wq_ix Tryz.underlying118 szT); (focus rfl); (focus rfl); (focus rfl); (focus omega); (try simp only [Nat.mul_one]); go_frame) | ((with_reducible first | apply wq_ld agI | apply wq_ld agB | apply wq_ld agLI | apply wq_ld agLS | apply wq_ld agLM | apply wq_ld agLR | apply wq_ld agLL | apply wq_ld agLT); (focus rfl); (focus rfl); (focus (rintro _ ⟨_, rfl⟩; first | fail)); go_frame) | ((with_reducible first | apply wq_add | apply wq_sub | apply wq_mul | apply wq_rem); (focus rfl); (focus rfl); (focus rfl); (focus omega); (focus omega); go_frame) | ((with_reducible first | apply wq_eql | apply wq_neq | apply wq_lss | apply wq_leq | apply wq_gtr | apply wq_geq | apply wq_max2 | apply wq_min2); (focus rfl); (focus rfl); (focus rfl); go_frame) | ((with_reducible first | apply wq_max3 | apply wq_min3); (focus rfl); (focus rfl); (focus rfl); (focus rfl); go_frame) | go_big_quiet_step (fail))); refine wpQuiet_nil ?_; rintro _ ⟨nq, rfl⟩
      clear h1 h1' hm; go_roundw
      case rel => exact ⟨_, _, _, _, _, _, _, _, ⟨b, a % b, rfl, rfl, hb, by omega, HG2, Lib.hid (below_drewN HB.out _)⟩, rfl⟩
      case measure => simp [intOf]; omega
    · obtain rfl : b = 0 := by omega
      have HE := Lib.hid (show a = G by rw [← HG.out, Nat.gcd_zero_right]); go_wp2; go_ret; exact ⟨by rw [HE.out]; rfl, HB.out⟩
theorem redF_nat (n d : Nat) : redF n d = (((n / Nat.gcd n d : Nat) : Int), ((d / Nat.gcd n d : Nat) : Int)) := by
  unfold redF; rw [Int.gcd_natCast_natCast]
  simp
set_option maxRecDepth 100000 in
theorem t_reduced (n d : Nat) (hd : 0 < d) (hn : n ≤ 1000000000000000000) (hd2 : d ≤ 1000000000000000000) (w : World) :
    Calls Tryz.prog 127 #[.int .i64 n, .int .i64 d] w fun e w' => e = .returned (.agg #[.int .i64 (redF n d).1, .int .i64 (redF n d).2]) ∧ Below w.heap.size w w' := by
  have kz := alloc_new w (.cells #[.int .i64 0, .int .i64 0] 27); obtain ⟨w1, e1, HS1, _, _, b1⟩ := box2 w (.int .i64 0) (.int .i64 0) 27; rw [e1] at kz; have hg := t_gcd n d hn hd2 w1; have hgp : 0 < Nat.gcd n d := Nat.gcd_pos_of_pos_right _ hd; have HRE := Lib.hid (redF_nat n d); obtain ⟨G, hG⟩ : ∃ G, Nat.gcd n d = G := ⟨_, rfl⟩; rw [hG] at hg hgp HRE; have HKZ := Lib.hid kz; have HB1 := Lib.hid b1; clear hG kz b1
  go_enter Tryz.func127, Tryz.ntmps127
  go_wp2_with fail; refine hg.mono ?_; clear hg e1; rintro e w2 ⟨rfl, b2⟩; have hk2 := (b2.block _ (block_lt HKZ.out)).trans HKZ.out; have HB2 := Lib.hid (HB1.out.trans (b2.mono HB1.out.size)); have hne : ¬ G = 0 := by omega
  have q1 : (n : Int).tdiv (G : Int) = ((n / G : Nat) : Int) := by rw [Int.tdiv_eq_ediv_of_nonneg (by omega)]; rfl
  have q2 : (d : Int).tdiv (G : Int) = ((d / G : Nat) : Int) := by rw [Int.tdiv_eq_ediv_of_nonneg (by omega)]; rfl
  have z1 : n / G ≤ n := Nat.div_le_self _ _; have z2 : d / G ≤ d := Nat.div_le_self _ _; clear b2; go_wp2_with fail
  go_still_tail 7, (by kernel_rfl)
  change wpList _ _ _ _ _ w2.drew; obtain ⟨X, hX⟩ : ∃ X : Int, ((n / G : Nat) : Int) = X := ⟨_, rfl⟩; obtain ⟨Y, hY⟩ : ∃ Y : Int, ((d / G : Nat) : Int) = Y := ⟨_, rfl⟩
  have hw1 : IntKind.i64.wrap ((n : Int) / (G : Int)) = X := by
    rw [← hX]; exact w64 _ (Int.le_trans (by decide) (Int.natCast_nonneg _)) (Int.le_trans (Int.ofNat_le.2 (Nat.le_trans z1 hn)) (by decide))
  have hw2 : IntKind.i64.wrap ((d : Int) / (G : Int)) = Y := by
    rw [← hY]; exact w64 _ (Int.le_trans (by decide) (Int.natCast_nonneg _)) (Int.le_trans (Int.ofNat_le.2 (Nat.le_trans z2 hd2)) (by decide))
  rw [hX, hY] at HRE; clear hX hY; rw [hw1, hw2]; have bd : Below w2.heap.size w2 w2.drew := (Below.refl _ _).drew; obtain ⟨w3, hw3⟩ : ∃ w3, w2.drew = w3 := ⟨_, rfl⟩; rw [hw3] at bd ⊢; obtain ⟨x1, x2, s1, s2, ⟨c0, f0⟩, ⟨c1, f1⟩, hx, hxk, HZ, hxb⟩ := set2 w3 w.heap.size 27 _ _ (.int .i64 X) (.int .i64 Y) ((bd.block _ (block_lt hk2)).trans hk2); obtain ⟨k0, k1⟩ := cells2 hx; have HBZ := Lib.hid (hxb w w.heap.size (Nat.le_refl _) (HB2.out.trans (bd.mono HB2.out.size))); clear hx hxk hxb bd hw3 q1 q2 hw1 hw2 z1 z2 hk2; go_wp2; refine bodyPost_ret (v := .agg #[.int .i64 X, .int .i64 Y]) (by simp [results, Tryz.results127, go_sem, k0, k1]) rfl ?_; exact ⟨by rw [HRE.out], HBZ.out⟩
def Mid (x : Int) : Prop := -2305843009213693952 ≤ x ∧ x ≤ 2305843009213693952
set_option maxRecDepth 100000 in
theorem t_compare (x1 y1 x2 y2 : Int) (h1 : Mid (x1 * y2)) (h2 : Mid (x2 * y1)) (w : World) : Calls Tryz.prog 82 #[.agg #[.int .i64 x1, .int .i64 y1], .agg #[.int .i64 x2, .int .i64 y2]] w fun e w' => e = .returned (.int .i64 (cmpF (x1, y1) (x2, y2))) ∧ Below w.heap.size w w' := by
  obtain ⟨w0, e0, HS0, k0, k1, b0⟩ := box2 w (.int .i64 x1) (.int .i64 y1) 27; obtain ⟨w1, e1, HS1, q0, q1, b1⟩ := box2 w0 (.int .i64 x2) (.int .i64 y2) 27; have k0 := (b1.cell (lt_of_cellq k0)).trans k0; have k1 := (b1.cell (lt_of_cellq k1)).trans k1; have HB := Lib.hid (b0.trans (b1.mono b0.size)); have HC := Lib.hid (show cmpF (x1, y1) (x2, y2) = x1 * y2 - x2 * y1 from rfl); unfold Mid at h1 h2; obtain ⟨P, hP⟩ : ∃ P, x1 * y2 = P := ⟨_, rfl⟩; obtain ⟨Q, hQ⟩ : ∃ Q, x2 * y1 = Q := ⟨_, rfl⟩; rw [hP] at h1 HC; rw [hQ] at h2 HC; have p1 : IntKind.i64.wrap P = P := w64 _ (by omega) (by omega); have p2 : IntKind.i64.wrap Q = Q := w64 _ (by omega) (by omega); have p3 : IntKind.i64.wrap (P - Q) = P - Q := w64 _ (by omega) (by omega); have w1' : IntKind.i64.wrap (x1 * y2) = P := by rw [hP, p1]
  have w2' : IntKind.i64.wrap (x2 * y1) = Q := by rw [hQ, p2]
  clear b0 b1 hP hQ h1 h2
  go_enter Tryz.func82, Tryz.ntmps82
  go_wp2; go_ret; exact ⟨by rw [HC.out]; rfl, HB.out⟩
set_option maxRecDepth 100000 in
theorem t_distance (x1 y1 x2 y2 : Int) (h1 : Mid (x1 * y2)) (h2 : Mid (x2 * y1)) (w : World) : Calls Tryz.prog 128 #[.agg #[.int .i64 x1, .int .i64 y1], .agg #[.int .i64 x2, .int .i64 y2]] w fun e w' => e = .returned (.agg #[.int .i64 (dstF (x1, y1) (x2, y2)).1, .int .i64 (dstF (x1, y1) (x2, y2)).2]) ∧ Below w.heap.size w w' := by
  obtain ⟨w0, e0, HS0, k0, k1, b0⟩ := box2 w (.int .i64 x1) (.int .i64 y1) 27; obtain ⟨w1, e1, HS1, q0, q1, b1⟩ := box2 w0 (.int .i64 x2) (.int .i64 y2) 27; have kz := alloc_new w1 (.cells #[.int .i64 0, .int .i64 0] 27); obtain ⟨w2, e2, HS2, _, _, b2⟩ := box2 w1 (.int .i64 0) (.int .i64 0) 27; rw [e2] at kz; have b12 := b1.trans (b2.mono b1.size); have k0 := (b12.cell (lt_of_cellq k0)).trans k0; have k1 := (b12.cell (lt_of_cellq k1)).trans k1; have q0 := (b2.cell (lt_of_cellq q0)).trans q0; have q1 := (b2.cell (lt_of_cellq q1)).trans q1; have HB := Lib.hid (b0.trans (b12.mono b0.size)); have HLT := Lib.hid (show w.heap.size ≤ w1.heap.size by have := b0.size; have := b1.size; omega); have HKZ := Lib.hid kz; have hc := t_compare x1 y1 x2 y2 h1 h2 w2; have HD := Lib.hid (show dstF (x1, y1) (x2, y2) = (max (cmpF (x1, y1) (x2, y2)) (-(cmpF (x1, y1) (x2, y2))), y1) from rfl)
  have hr : -4611686018427387904 ≤ cmpF (x1, y1) (x2, y2) ∧ cmpF (x1, y1) (x2, y2) ≤ 4611686018427387904 := by
    unfold Mid at h1 h2; have e : cmpF (x1, y1) (x2, y2) = x1 * y2 - x2 * y1 := rfl; omega
  obtain ⟨C, hC⟩ : ∃ C, cmpF (x1, y1) (x2, y2) = C := ⟨_, rfl⟩; rw [hC] at hc HD hr; have hn : IntKind.i64.wrap (-C) = -C := w64 _ (by omega) (by omega); clear hC h1 h2 kz b0 b1 b2 b12
  go_enter Tryz.func128, Tryz.ntmps128
  go_wp2_with fail; refine hc.mono ?_; clear hc e0 e1 e2; rintro e w3 ⟨rfl, b3⟩; have q1 := (b3.cell (lt_of_cellq k1)).trans k1; obtain ⟨M, hM⟩ : ∃ M, max C (-C) = M := ⟨_, rfl⟩; rw [hM] at HD; obtain ⟨x3, x4, s1, s2, ⟨c0, f0⟩, ⟨c1, f1⟩, hx, hxk, HZ, hxb⟩ := set2 w3 w1.heap.size 27 _ _ (.int .i64 M) (.int .i64 y1) ((b3.block _ (block_lt HKZ.out)).trans HKZ.out); obtain ⟨r0, r1⟩ := cells2 hx; have HBZ := Lib.hid (hxb w w.heap.size HLT.out (HB.out.trans (b3.mono HB.out.size))); clear hx hxk hxb b3 hr; go_wp2; refine bodyPost_ret (v := .agg #[.int .i64 M, .int .i64 y1]) (by simp [results, Tryz.results128, go_sem, r0, r1]) rfl ?_; exact ⟨by rw [HD.out], HBZ.out⟩
def prodT (xs : List Int) : Nat → Int
  | 0 => 1
  | k + 1 => prodT xs k * gi xs k
set_option maxRecDepth 100000 in
theorem t_product (p : Option Addr) (cap : Nat) (xs : List Int) (w : World) (hx : RdI w p xs) (hl : xs.length ≤ 1000) (hm : ∀ k, k ≤ xs.length → Mid (prodT xs k)) :
    Calls Tryz.prog 74 #[.slice p xs.length cap] w fun e w' => e = .returned (.int .i64 (prodT xs xs.length)) ∧ w = w' := by
  have HX := Lib.hid hx; have HM := Lib.hid hm; clear hx hm
  go_enter Tryz.func74, Tryz.ntmps74
  go_wp2
  go_loopw [3, 8] (fun v i wr => ∃ k : Nat, k ≤ xs.length ∧ i = .int .i64 k ∧ v = .int .i64 (prodT xs k) ∧ w = wr) (fun _ i _ => xs.length - (intOf i).toNat)
  case atStart => exact ⟨0, Nat.zero_le _, rfl, rfl, rfl⟩
  case round =>
    obtain ⟨k, hk, rfl, rfl, rfl⟩ := hrel
    by_cases hlt : k < xs.length
    · have hltI : decide ((k : Int) < (xs.length : Int)) = true := by simp; omega
      obtain ⟨b, off, rfl, hc⟩ := HX.out.at hlt; have d0 := hc k hlt; have HS := Lib.hid (show prodT xs (k + 1) = prodT xs k * gi xs k from rfl); have hmm := HM.out (k + 1) (by omega); rw [HS.out] at hmm; unfold Mid at hmm; obtain ⟨P, hP⟩ : ∃ P, prodT xs k = P := ⟨_, rfl⟩; obtain ⟨x, hxx⟩ : ∃ x, gi xs k = x := ⟨_, rfl⟩; rw [hP, hxx] at HS hmm; rw [hxx] at d0; rw [hP]; obtain ⟨Q, hQ⟩ : ∃ Q, P * x = Q := ⟨_, rfl⟩; rw [hQ] at HS hmm; have hw : IntKind.i64.wrap (P * x) = Q := by rw [hQ]; exact w64 _ (by omega) (by omega)
      clear hP hxx hQ hc; go_wp2; go_roundw
      case rel => exact ⟨k + 1, by omega, by go_num, by rw [HS.out], trivial⟩
      case measure => simp [intOf]; omega
    · obtain rfl : k = xs.length := by omega
      have hltI : decide ((xs.length : Int) < (xs.length : Int)) = false := by simp
      go_wp2; go_ret; exact ⟨rfl, rfl⟩
set_option maxRecDepth 100000 in
theorem t_isFraction (n d : Int) (w : World) : Calls Tryz.prog 34 #[.agg #[.int .i64 n, .int .i64 d]] w fun e w' => e = .returned (.bool (inB n 0 50000 && inB d 1 50000)) ∧ Below w.heap.size w w' := by
  obtain ⟨w0, e0, HS0, k0, k1, b0⟩ := box2 w (.int .i64 n) (.int .i64 d) 27; have HB := Lib.hid b0; clear b0
  rcases h1 : inB n 0 50000 with _ | _
  · go_enter Tryz.func34, Tryz.ntmps34
    go_wp2_with fail; refine (t_in _ _ _ _).mono ?_; rw [h1]; rintro e w' ⟨rfl, rfl⟩; go_wp2; go_ret; exact ⟨rfl, HB.out⟩
  · go_enter Tryz.func34, Tryz.ntmps34
    go_wp2_with fail; refine (t_in _ _ _ _).mono ?_; rw [h1]; rintro e w' ⟨rfl, rfl⟩; go_wp2_with fail; refine (t_in _ _ _ _).mono ?_; rintro e w' ⟨rfl, rfl⟩; go_wp2; go_ret; exact ⟨rfl, HB.out⟩
theorem box5 (w : World) (a b c d e : Value) (t : TypeId) : ∃ w0, w.alloc (.cells #[a, b, c, d, e] t) = w0 ∧ Hid (w0.heap.size = w.heap.size + 1) ∧
    w0.cell? ⟨w.heap.size, 0, none⟩ = some a ∧ w0.cell? ⟨w.heap.size, 1, none⟩ = some b ∧ w0.cell? ⟨w.heap.size, 2, none⟩ = some c ∧ w0.cell? ⟨w.heap.size, 3, none⟩ = some d ∧ w0.cell? ⟨w.heap.size, 4, none⟩ = some e ∧ Below w.heap.size w w0 :=
  ⟨_, rfl, Lib.hid (by simp), by rw [at_new]; rfl, by rw [at_new]; rfl, by rw [at_new]; rfl, by rw [at_new]; rfl, by rw [at_new]; rfl, below_alloc1 _ _⟩
theorem t_ruleNot (x : Int) (w : World) : Calls Tryz.prog 73 #[.int .i64 x] w fun e w' => e = .returned (.bool (!inB x 4 60)) ∧ Below w.heap.size w w' := by
  go_enter Tryz.func73, Tryz.ntmps73
  go_wp2_with fail; refine (t_teeth _ _).mono ?_; rintro e w' ⟨rfl, rfl⟩; go_wp2; go_ret; exact ⟨rfl, Below.refl _ _⟩
set_option maxHeartbeats 400000 in
set_option maxRecDepth 100000 in
theorem ix_rule (p : Option Addr) (cap : Nat) (xs : List Int) (w : World) (hx : RdI w p xs) (hl : xs.length ≤ 1000000) :
    Calls Tryz.prog 89 #[.slice p xs.length cap, .func (.func 73) #[] #[]] w (BadPost xs.length (fun j => (fun x => inB x 4 60) (gi xs j)) w) := by
  have HX := Lib.hid hx; clear hx
  go_enter Tryz.func89, Tryz.ntmps89
  go_wp2
  go_loopw [8] (fun i wr => ∃ k : Nat, k ≤ xs.length ∧ i = .int .i64 k ∧ Hid (∀ j, j < k → (fun x => inB x 4 60) (gi xs j) = true) ∧ Below w.heap.size w wr) (fun i _ => xs.length - (intOf i).toNat)
  case atStart => exact ⟨0, by omega, rfl, Lib.hid (by intro j hj; omega), Below.refl _ _⟩
  case round =>
    obtain ⟨k, hk, rfl, HH, hnx⟩ := hrel; have HN := Lib.hid hnx
    by_cases hlt : k < xs.length
    · obtain ⟨b, off, rfl, hc⟩ := (HX.out.below hnx).at hlt
      obtain e1 := hc k hlt; have hcl : Calls Tryz.prog 73 #[.int .i64 (gi xs k)] wr fun e w' => e = .returned (.bool (!(fun x => inB x 4 60) (gi xs k))) ∧ Below wr.heap.size wr w' := t_ruleNot (gi xs k) wr
      clear hc hnx
      rcases hb : (fun x => inB x 4 60) (gi xs k) with _ | _
      · have HB := Lib.hid hb
        rw [hb] at hcl; clear hb; go_wp2_with fail; refine hcl.mono ?_; rintro e w4 ⟨rfl, b4⟩; have HN2 := Lib.hid (HN.out.trans (b4.mono HN.out.size)); clear hcl b4; go_wp2; go_ret; exact ⟨k, .inr ⟨by omega, k, hlt, HB.out⟩, rfl, HN2.out⟩
      · have HB := Lib.hid hb
        rw [hb] at hcl; clear hb; go_wp2_with fail; refine hcl.mono ?_; rintro e w4 ⟨rfl, b4⟩; have HN2 := Lib.hid (HN.out.trans (b4.mono HN.out.size)); clear hcl b4; go_wp2; go_roundw
        case rel =>
          refine ⟨k + 1, by omega, by go_num, Lib.hid fun j hj => ?_, HN2.out⟩
          rcases Nat.lt_or_ge j k with h | h
          · exact HH.out j h
          · obtain rfl : j = k := by omega
            exact HB.out
        case measure => simp [intOf]; omega
    · obtain rfl : k = xs.length := by omega
      go_wp2; go_ret; exact ⟨-1, .inl ⟨rfl, HH.out⟩, rfl, HN.out⟩
set_option maxRecDepth 100000 in
theorem cf_rule (p : Option Addr) (cap : Nat) (xs : List Int) (w : World) (hx : RdI w p xs) (hl : xs.length ≤ 1000000) :
    Calls Tryz.prog 42 #[.slice p xs.length cap, .func (.func 73) #[] #[]] w fun e w' => e = .returned (.bool (!xs.all (fun x => inB x 4 60))) ∧ Below w.heap.size w w' := by
  have h := ix_rule p cap xs w hx hl; clear hx
  go_enter Tryz.func42, Tryz.ntmps42
  go_wp2_with fail; refine h.mono ?_; rintro e w' ⟨r, hr, rfl, hb⟩; have HB := Lib.hid hb; clear h hb
  rcases hr with ⟨rfl, hh⟩ | ⟨h0, j, hj, hb⟩
  · have HG := Lib.hid (all_ok (f := (fun x => inB x 4 60)) (d := 0) (l := xs) hh)
    clear hh; go_wp2; go_ret; exact ⟨by rw [HG.out]; rfl, HB.out⟩
  · have HG := Lib.hid (all_bad (f := (fun x => inB x 4 60)) (d := 0) (l := xs) hj hb)
    clear hb; go_wp2; go_ret; exact ⟨by rw [HG.out]; simp, HB.out⟩
def pairB (m : Int × Int) : Bool := inB m.1 4 60 && inB m.2 4 60
theorem t_pairNot (a b : Int) (w : World) : Calls Tryz.prog 138 #[.agg #[.int .i64 a, .int .i64 b]] w fun e w' => e = .returned (.bool (!pairB (a, b))) ∧ Below w.heap.size w w' := by
  obtain ⟨w0, e0, HS0, k0, k1, b0⟩ := box2 w (.int .i64 a) (.int .i64 b) 99; have HB := Lib.hid b0; clear b0; have HP := Lib.hid (show pairB (a, b) = (inB a 4 60 && inB b 4 60) from rfl)
  rcases h1 : inB a 4 60 with _ | _
  · rw [h1] at HP
    go_enter Tryz.func138, Tryz.ntmps138
    go_wp2_with fail; refine (t_teeth _ _).mono ?_; rw [h1]; rintro e w' ⟨rfl, rfl⟩; go_wp2; go_ret; exact ⟨by rw [HP.out]; rfl, HB.out⟩
  · rw [h1] at HP
    go_enter Tryz.func138, Tryz.ntmps138
    go_wp2_with fail; refine (t_teeth _ _).mono ?_; rw [h1]; rintro e w' ⟨rfl, rfl⟩; go_wp2_with fail; refine (t_teeth _ _).mono ?_; rintro e w' ⟨rfl, rfl⟩; go_wp2; go_ret; exact ⟨by rw [HP.out, Bool.true_and]; rfl, HB.out⟩
set_option maxHeartbeats 400000 in
set_option maxRecDepth 100000 in
theorem ix_pair (p : Option Addr) (cap : Nat) (xs : List (Int × Int)) (w : World) (hx : RdS w p xs) (hl : xs.length ≤ 1000000) :
    Calls Tryz.prog 158 #[.slice p xs.length cap, .func (.func 138) #[] #[]] w (BadPost xs.length (fun j => pairB (gm xs j)) w) := by
  have HX := Lib.hid hx; clear hx
  go_enter Tryz.func158, Tryz.ntmps158
  go_wp2
  go_loopw [8] (fun i wr => ∃ k : Nat, k ≤ xs.length ∧ i = .int .i64 k ∧ Hid (∀ j, j < k → pairB (gm xs j) = true) ∧ Below w.heap.size w wr) (fun i _ => xs.length - (intOf i).toNat)
  case atStart => exact ⟨0, by omega, rfl, Lib.hid (by intro j hj; omega), Below.refl _ _⟩
  case round =>
    obtain ⟨k, hk, rfl, HH, hnx⟩ := hrel; have HN := Lib.hid hnx
    by_cases hlt : k < xs.length
    · obtain ⟨b, off, rfl, hc⟩ := (HX.out.below hnx).at hlt
      obtain ⟨e1, e2⟩ := hc k hlt; have hcl : Calls Tryz.prog 138 #[.agg #[.int .i64 (gm xs k).1, .int .i64 (gm xs k).2]] wr fun e w' => e = .returned (.bool (!pairB (gm xs k))) ∧ Below wr.heap.size wr w' := t_pairNot (gm xs k).1 (gm xs k).2 wr
      clear hc hnx
      rcases hb : pairB (gm xs k) with _ | _
      · have HB := Lib.hid hb
        rw [hb] at hcl; clear hb; go_wp2_with fail; refine hcl.mono ?_; rintro e w4 ⟨rfl, b4⟩; have HN2 := Lib.hid (HN.out.trans (b4.mono HN.out.size)); clear hcl b4; go_wp2; go_ret; exact ⟨k, .inr ⟨by omega, k, hlt, HB.out⟩, rfl, HN2.out⟩
      · have HB := Lib.hid hb
        rw [hb] at hcl; clear hb; go_wp2_with fail; refine hcl.mono ?_; rintro e w4 ⟨rfl, b4⟩; have HN2 := Lib.hid (HN.out.trans (b4.mono HN.out.size)); clear hcl b4; go_wp2; go_roundw
        case rel =>
          refine ⟨k + 1, by omega, by go_num, Lib.hid fun j hj => ?_, HN2.out⟩
          rcases Nat.lt_or_ge j k with h | h
          · exact HH.out j h
          · obtain rfl : j = k := by omega
            exact HB.out
        case measure => simp [intOf]; omega
    · obtain rfl : k = xs.length := by omega
      go_wp2; go_ret; exact ⟨-1, .inl ⟨rfl, HH.out⟩, rfl, HN.out⟩
set_option maxRecDepth 100000 in
theorem cf_pair (p : Option Addr) (cap : Nat) (xs : List (Int × Int)) (w : World) (hx : RdS w p xs) (hl : xs.length ≤ 1000000) :
    Calls Tryz.prog 137 #[.slice p xs.length cap, .func (.func 138) #[] #[]] w fun e w' => e = .returned (.bool (!xs.all pairB)) ∧ Below w.heap.size w w' := by
  have h := ix_pair p cap xs w hx hl; clear hx
  go_enter Tryz.func137, Tryz.ntmps137
  go_wp2_with fail; refine h.mono ?_; rintro e w' ⟨r, hr, rfl, hb⟩; have HB := Lib.hid hb; clear h hb
  rcases hr with ⟨rfl, hh⟩ | ⟨h0, j, hj, hb⟩
  · have HG := Lib.hid (all_ok (f := pairB) (d := (0, 0)) (l := xs) hh)
    clear hh; go_wp2; go_ret; exact ⟨by rw [HG.out]; rfl, HB.out⟩
  · have HG := Lib.hid (all_bad (f := pairB) (d := (0, 0)) (l := xs) hj hb)
    clear hb; go_wp2; go_ret; exact ⟨by rw [HG.out]; simp, HB.out⟩
theorem t_index (p : Option Addr) (cap : Nat) (xs : List Int) (x : Int) (w : World) (hx : RdI w p xs) (hl : xs.length ≤ 1000000) :
    Calls Tryz.prog 123 #[.slice p xs.length cap, .int .i64 x] w fun e w' => (∃ r : Int, e = .returned (.int .i64 r) ∧ ((0 ≤ r ∧ xs.contains x = true) ∨ (r = -1 ∧ xs.contains x = false))) ∧ w = w' := by
  have HX := Lib.hid hx; clear hx
  go_enter Tryz.func123, Tryz.ntmps123
  go_wp2
  go_loopw [8] (fun i wr => ∃ k : Nat, k ≤ xs.length ∧ i = .int .i64 k ∧ Hid (∀ j, j < k → gi xs j ≠ x) ∧ w = wr) (fun i _ => xs.length - (intOf i).toNat)
  case atStart => exact ⟨0, Nat.zero_le _, rfl, Lib.hid (fun j h => by omega), rfl⟩
  case round =>
    obtain ⟨k, hk, rfl, HN, rfl⟩ := hrel
    by_cases hlt : k < xs.length
    · have hltI : decide ((k : Int) < (xs.length : Int)) = true := by simp; omega
      obtain ⟨b, off, rfl, hc⟩ := HX.out.at hlt; have d0 := hc k hlt; have HL := Lib.hid hlt; obtain ⟨y, hy⟩ : ∃ y, gi xs k = y := ⟨_, rfl⟩; rw [hy] at d0; have HY := Lib.hid hy; clear hc hy
      by_cases he : x = y
      · have hb : (x == y) = true := by rw [beq_iff_eq]; exact he
        have HM := Lib.hid (show xs.contains x = true by rw [he, ← HY.out, gi_get _ _ HL.out]; simp); clear he; go_wp2; go_ret; exact ⟨⟨_, rfl, .inl ⟨by omega, HM.out⟩⟩, rfl⟩
      · have hb : (x == y) = false := by rw [beq_eq_false_iff_ne]; exact he
        have HN2 := Lib.hid (show ∀ j, j < k + 1 → gi xs j ≠ x from fun j hj => by
          by_cases h : j < k
          · exact HN.out j h
          · obtain rfl : j = k := by omega
            rw [HY.out]; exact Ne.symm he)
        clear he; go_wp2; go_roundw
        case rel => exact ⟨k + 1, by omega, by go_num, HN2, trivial⟩
        case measure => simp [intOf]; omega
    · obtain rfl : k = xs.length := by omega
      have hltI : decide ((xs.length : Int) < (xs.length : Int)) = false := by simp
      have HM := Lib.hid (show xs.contains x = false by
        rw [← Bool.not_eq_true, List.contains_iff_mem]; intro hm; obtain ⟨j, hj, e⟩ := List.getElem_of_mem hm; exact HN.out j hj (by rw [gi_get _ _ hj]; exact e))
      go_wp2; go_ret; exact ⟨⟨_, rfl, .inr ⟨rfl, HM.out⟩⟩, rfl⟩
theorem t_contains (p : Option Addr) (cap : Nat) (xs : List Int) (x : Int) (w : World) (hx : RdI w p xs) (hl : xs.length ≤ 1000000) :
    Calls Tryz.prog 77 #[.slice p xs.length cap, .int .i64 x] w fun e w' => e = .returned (.bool (xs.contains x)) ∧ w = w' := by
  have h := t_index p cap xs x w hx hl; clear hx
  go_enter Tryz.func77, Tryz.ntmps77
  go_wp2_with fail; refine h.mono ?_; clear h; rintro e w' ⟨⟨r, rfl, ⟨h0, hm⟩ | ⟨rfl, hm⟩⟩, rfl⟩
  · have HM := Lib.hid hm
    have hd : decide (r ≥ 0) = true := decide_eq_true h0; clear hm; go_wp2; go_ret; exact ⟨by rw [HM.out]; rfl, rfl⟩
  · have HM := Lib.hid hm
    clear hm; go_wp2; go_ret; exact ⟨by rw [HM.out]; rfl, rfl⟩
structure RuleOk (lo hi pr se : Int) (nv : List Int) : Prop where
  flo : 4 ≤ lo ∧ lo ≤ 60
  fhi : 4 ≤ hi ∧ hi ≤ 60
  fle : lo ≤ hi
  fpr : 1 ≤ pr ∧ pr ≤ 3
  fse : 1 ≤ se ∧ se ≤ 3
  flen : nv.length ≤ 6
  fnv : nv.all (fun x => inB x 4 60) = true
set_option maxRecDepth 100000 in
theorem t_isRule (lo hi pr se : Int) (p : Option Addr) (cap : Nat) (nv : List Int) (w : World) (hx : RdI w p nv) (h : RuleOk lo hi pr se nv) :
    Calls Tryz.prog 33 #[.agg #[.int .i64 lo, .int .i64 hi, .int .i64 pr, .int .i64 se, .slice p nv.length cap]] w fun e w' => e = .returned (.bool true) ∧ Below w.heap.size w w' := by
  obtain ⟨w0, e0, HS0, k0, k1, k2, k3, k4, b0⟩ := box5 w (.int .i64 lo) (.int .i64 hi) (.int .i64 pr) (.int .i64 se) (.slice p nv.length cap) 25; have HB := Lib.hid b0; have hcf := cf_rule p cap nv w0 (hx.below b0) (by have := h.flen; omega); rw [h.fnv] at hcf; have h1 : inB lo 4 60 = true := inB_iff.2 h.flo; have h2 : inB hi 4 60 = true := inB_iff.2 h.fhi; have h3 : decide (lo ≤ hi) = true := decide_eq_true h.fle; have h4 : inB pr 1 3 = true := inB_iff.2 h.fpr; have h5 : inB (se - 1) 0 2 = true := inB_iff.2 ⟨by have := h.fse; omega, by have := h.fse; omega⟩; have hws : IntKind.i64.wrap (se - 1) = se - 1 := w64 _ (by have := h.fse; omega) (by have := h.fse; omega); have h6 : decide ((nv.length : Int) ≤ 6) = true := decide_eq_true (by have := h.flen; omega); clear b0 hx h
  go_enter Tryz.func33, Tryz.ntmps33
  go_wp2_with fail; refine (t_teeth _ _).mono ?_; rw [h1]; rintro e w' ⟨rfl, rfl⟩; go_wp2_with fail; refine (t_teeth _ _).mono ?_; rw [h2]; rintro e w' ⟨rfl, rfl⟩; go_wp2_with fail; refine (t_in _ _ _ _).mono ?_; rw [h4]; rintro e w' ⟨rfl, rfl⟩; go_wp2_with fail; refine (t_in _ _ _ _).mono ?_; rw [h5]; rintro e w' ⟨rfl, rfl⟩; go_wp2_with fail; refine hcf.mono ?_; rintro e w' ⟨rfl, b1⟩; have HB2 := Lib.hid (HB.out.trans (b1.mono HB.out.size)); clear b1; go_wp2; go_ret; exact ⟨rfl, HB2.out⟩
end Go.Proofs.YtchclaipbahiiaaGreat
end

section
namespace Go.Proofs.YtchclaipbahiiaaGreat
open Go Go.RowKit Go.Proofs
set_option linter.unusedVariables false
attribute [local go_sem] imax2 imin2
theorem asOn (v : Value) (w : World) : (Instr.typeAssert (.iface 234 v) 231 234 true).run Tryz.prog w = .ok (.tuple #[v, .bool true]) w := by kernel_rfl
theorem asBackOn (v : Value) (w : World) : (Instr.typeAssert (.iface 235 v) 231 234 true).run Tryz.prog w = .ok (.tuple #[.int .i64 0, .bool false]) w := by kernel_rfl
theorem asBack (v : Value) (w : World) : (Instr.typeAssert (.iface 235 v) 231 235 true).run Tryz.prog w = .ok (.tuple #[v, .bool true]) w := by kernel_rfl
attribute [local go_sem] asOn asBackOn asBack
end Go.Proofs.YtchclaipbahiiaaGreat
end

section
namespace Go.Proofs.YtchclaipbahiiaaGreat
open Go Go.RowKit Go.Proofs
set_option linter.unusedVariables false
attribute [local go_sem] imax2 imin2
def ElC (w : World) (B : Nat) (css : List (List Int)) (hs : List Value) : Prop := hs.length = css.length ∧ ∀ i, i < css.length → ∃ g cap, hs[i]? = some (.slice (some ⟨g, 0, none⟩) (gl css i).length cap) ∧ w.ownsRow B 3 1 (.slice (some ⟨g, 0, none⟩) (gl css i).length cap) (gl css i).length (inV (gl css i))
theorem ElC.below {w w' : World} {B : Nat} {css : List (List Int)} {hs : List Value} (h : ElC w B css hs) (hb : Below w.heap.size w w') : ElC w' B css hs := by
  refine ⟨h.1, fun i hi => ?_⟩
  obtain ⟨g, cap, e1, e2⟩ := h.2 i hi
  exact ⟨g, cap, e1, own_kept e2 hb⟩
theorem ElC.mono {w : World} {B B' : Nat} {css : List (List Int)} {hs : List Value} (h : ElC w B css hs) (hB : B' ≤ B) : ElC w B' css hs := by
  refine ⟨h.1, fun i hi => ?_⟩
  obtain ⟨g, cap, e1, e2⟩ := h.2 i hi
  exact ⟨g, cap, e1, own_mono e2 hB⟩
theorem ElC.grown {w w' : World} {B B' n size e : Nat} {css : List (List Int)} {hs xs : List Value} {v : Value} (h : ElC w B css hs) (ho : w.ownsRow B' e size v n xs) (he : e ≠ 3) (hg : w.grownBy w' v.ownBlock) : ElC w' B css hs := by
  refine ⟨h.1, fun i hi => ?_⟩
  obtain ⟨g, cap, e1, e2⟩ := h.2 i hi
  exact ⟨g, cap, e1, e2.kept hg (own_apart e2 ho (Ne.symm he))⟩
theorem gl_snoc (css : List (List Int)) (x : List Int) (i : Nat) : gl (css ++ [x]) i = if i < css.length then gl css i else if i = css.length then x else [] := by
  unfold gl
  rw [List.getD_eq_getElem?_getD, List.getD_eq_getElem?_getD]
  by_cases h : i < css.length
  · rw [if_pos h, List.getElem?_append_left h]
  · rw [if_neg h, List.getElem?_append_right (by omega)]
    by_cases h2 : i = css.length
    · subst h2; simp
    · rw [if_neg h2, List.getElem?_eq_none (by simp; omega)]; rfl
theorem ElC.snoc {w : World} {B : Nat} {css : List (List Int)} {hs : List Value} {x : List Int} {g cap : Nat} (h : ElC w B css hs) (hx : w.ownsRow B 3 1 (.slice (some ⟨g, 0, none⟩) x.length cap) x.length (inV x)) : ElC w B (css ++ [x]) (hs ++ [.slice (some ⟨g, 0, none⟩) x.length cap]) := by
  refine ⟨by simp [h.1], fun i hi => ?_⟩
  rw [List.length_append, List.length_singleton] at hi
  rw [gl_snoc]
  by_cases h1 : i < css.length
  · obtain ⟨g', c', e1, e2⟩ := h.2 i h1
    rw [if_pos h1]
    exact ⟨g', c', by rw [List.getElem?_append_left (by rw [h.1]; omega)]; exact e1, e2⟩
  · obtain rfl : i = css.length := by omega
    rw [if_neg h1, if_pos rfl]
    exact ⟨g, cap, by rw [← h.1]; simp, hx⟩
theorem own_form {w : World} {B e size n : Nat} {v : Value} {xs : List Value} (h : w.ownsRow B e size v (n + 1) xs) : ∃ g cap, v = .slice (some ⟨g, 0, none⟩) (n + 1) cap := by
  rcases h.2 with ⟨_, h0⟩ | ⟨g, cap, cur, h1, _⟩
  · omega
  · exact ⟨g, cap, h1⟩
structure RdsOk (rs : List Rd) (n : Nat) : Prop where
  len : rs.length ≤ 1000
  arb : ∀ j, j < rs.length → 0 ≤ (gr rs j).arb ∧ (gr rs j).arb < n
  seen : ∀ j, j < rs.length → -5000 ≤ (gr rs j).seen ∧ (gr rs j).seen ≤ 5000
  off : ∀ j, j < rs.length → 0 ≤ (gr rs j).off ∧ (gr rs j).off ≤ 50



def RdQ (w : World) (a : Option Addr) (p : Pc) (ts : List (List Int)) : Prop :=
  ∃ b, a = some ⟨b, 0, none⟩ ∧ ∀ i, i < ts.length → (gl ts i).length = p.ms.length ∧ ∃ p1 c1 p2 c2, w.cell? ⟨b, i * 2, none⟩ = some (.slice p1 p.ms.length c1) ∧ w.cell? ⟨b, i * 2 + 1, none⟩ = some (.slice p2 (p.ms.length + 1) c2) ∧ RdI w p1 (gl ts i) ∧ RdI w p2 (endF p (gl ts i)) ∧ (endF p (gl ts i)).length = p.ms.length + 1 ∧ p.ms.length ≤ c1 ∧ ∃ g, p2 = some ⟨g, 0, none⟩
theorem RdQ.below {w w' : World} {a : Option Addr} {p : Pc} {ts : List (List Int)} (h : RdQ w a p ts) (hb : Below w.heap.size w w') : RdQ w' a p ts := by
  obtain ⟨b, rfl, h⟩ := h; refine ⟨b, rfl, fun i hi => ?_⟩; obtain ⟨h0, p1, c1, p2, c2, h1, h2, h3, h4, h5⟩ := h i hi; exact ⟨h0, p1, c1, p2, c2, (hb.cell (lt_of_cellq h1)).trans h1, (hb.cell (lt_of_cellq h2)).trans h2, h3.below hb, h4.below hb, h5⟩



theorem tdiv_down {a b : Int} (hb : 0 < b) : a / b = (if a.tmod b < 0 then a.tdiv b - 1 else a.tdiv b) ∧ a % b = (if a.tmod b < 0 then a.tmod b + b else a.tmod b) := by
  have h1 := Int.mul_tdiv_add_tmod a b; have h2 := Int.tmod_lt_of_pos a hb; have h3 := Int.mul_ediv_add_emod a b; have h4 := Int.emod_nonneg a (show b ≠ 0 by omega); have h5 := Int.emod_lt_of_pos a hb
  have h6 : -b < a.tmod b := by
    have := Int.lt_tmod_of_pos a hb; omega
  split
  · have e : b * (a / b - (a.tdiv b - 1)) = a.tmod b + b - a % b := by rw [Int.mul_sub, Int.mul_sub]; omega
    have hz : a / b - (a.tdiv b - 1) = 0 := by
      rcases Int.lt_trichotomy (a / b - (a.tdiv b - 1)) 0 with h | h | h
      · have : b * (a / b - (a.tdiv b - 1)) ≤ b * (-1) := Int.mul_le_mul_of_nonneg_left (by omega) (by omega)
        omega
      · exact h
      · have : b * 1 ≤ b * (a / b - (a.tdiv b - 1)) := Int.mul_le_mul_of_nonneg_left (by omega) (by omega)
        omega
    rw [hz] at e; omega
  · have e : b * (a / b - a.tdiv b) = a.tmod b - a % b := by rw [Int.mul_sub]; omega
    have hz : a / b - a.tdiv b = 0 := by
      rcases Int.lt_trichotomy (a / b - a.tdiv b) 0 with h | h | h
      · have : b * (a / b - a.tdiv b) ≤ b * (-1) := Int.mul_le_mul_of_nonneg_left (by omega) (by omega)
        omega
      · exact h
      · have : b * 1 ≤ b * (a / b - a.tdiv b) := Int.mul_le_mul_of_nonneg_left (by omega) (by omega)
        omega
    rw [hz] at e; omega
end Go.Proofs.YtchclaipbahiiaaGreat
end

section
namespace Go.Proofs.YtchclaipbahiiaaGreat
open Go Go.RowKit Go.Proofs
set_option linter.unusedVariables false
set_option linter.unusedSimpArgs false
attribute [local go_sem] imax2 imin2
def cmpI (a b : Int) : Int := if a < b then -1 else if b < a then 1 else 0
theorem cmpI_neg (a b : Int) : cmpI a b < 0 ↔ a < b := by unfold cmpI; split <;> (try split) <;> omega
theorem cmpI_zero (a b : Int) : cmpI a b = 0 ↔ a = b := by unfold cmpI; split <;> (try split) <;> omega
theorem c_isNaN (x : Int) (w : World) : Calls Tryz.prog 155 #[.int .i64 x] w fun e w' => e = .returned (.bool false) ∧ w = w' := by
  go_enter Tryz.func155, Tryz.ntmps155
  go_wp2; go_ret; exact ⟨by simp, rfl⟩
theorem c_compare (x y : Int) (w : World) : Calls Tryz.prog 126 #[.int .i64 x, .int .i64 y] w fun e w' => e = .returned (.int .i64 (cmpI x y)) ∧ w = w' := by
  by_cases h1 : x < y
  · have HE := Lib.hid (show cmpI x y = -1 by unfold cmpI; rw [if_pos h1])
    go_enter Tryz.func126, Tryz.ntmps126
    go_wp2_with fail; refine (c_isNaN x _).mono ?_; rintro e w1 ⟨rfl, rfl⟩; go_wp2_with fail; refine (c_isNaN y _).mono ?_; rintro e w1 ⟨rfl, rfl⟩; go_wp2; go_ret; exact ⟨by rw [HE.out]; rfl, rfl⟩
  · by_cases h2 : y < x
    · have HE := Lib.hid (show cmpI x y = 1 by unfold cmpI; rw [if_neg h1, if_pos h2])
      go_enter Tryz.func126, Tryz.ntmps126
      go_wp2_with fail; refine (c_isNaN x _).mono ?_; rintro e w1 ⟨rfl, rfl⟩; go_wp2_with fail; refine (c_isNaN y _).mono ?_; rintro e w1 ⟨rfl, rfl⟩; go_wp2; go_ret; exact ⟨by rw [HE.out]; rfl, rfl⟩
    · have HE := Lib.hid (show cmpI x y = 0 by unfold cmpI; rw [if_neg h1, if_neg h2])
      go_enter Tryz.func126, Tryz.ntmps126
      go_wp2_with fail; refine (c_isNaN x _).mono ?_; rintro e w1 ⟨rfl, rfl⟩; go_wp2_with fail; refine (c_isNaN y _).mono ?_; rintro e w1 ⟨rfl, rfl⟩; go_wp2; go_ret; exact ⟨by rw [HE.out]; rfl, rfl⟩
def orL : List Int → Int
  | [] => 0
  | x :: l => if x ≠ 0 then x else orL l
set_option maxHeartbeats 800000 in
set_option maxRecDepth 100000 in
theorem c_or (p : Option Addr) (cap : Nat) (xs : List Int) (w : World) (hx : RdI w p xs) (hl : xs.length ≤ 1000000) :
    Calls Tryz.prog 133 #[.slice p xs.length cap] w fun e w' => e = .returned (.int .i64 (orL xs)) ∧ w = w' := by
  have HX := Lib.hid hx; clear hx
  go_enter Tryz.func133, Tryz.ntmps133
  go_wp2
  go_loop [8] (fun i => ∃ k : Nat, k ≤ xs.length ∧ i = .int .i64 k ∧ Hid (orL (xs.drop k) = orL xs)) (fun i => xs.length - (intOf i).toNat)
  case atStart => exact ⟨0, by omega, rfl, Lib.hid rfl⟩
  case round =>
    obtain ⟨k, hk, rfl, HD⟩ := hrel
    by_cases hlt : k < xs.length
    · obtain ⟨b, off, rfl, hc⟩ := HX.out.at hlt
      have e1 := hc k hlt
      have hdx : xs.drop k = gi xs k :: xs.drop (k + 1) := by
        rw [List.drop_eq_getElem_cons hlt]
        congr 1
        unfold gi; simp [hlt]
      have hcm := HD.out; rw [hdx, orL] at hcm; have HCM := Lib.hid hcm; have hi1 : (k : Int) < (xs.length : Int) := by omega
      clear hc hdx hcm; obtain ⟨c, hce⟩ : ∃ c, gi xs k = c := ⟨_, rfl⟩; rw [hce] at e1 HCM; clear hce
      by_cases hz : c = 0
      · subst hz
        have HN := Lib.hid (show orL (xs.drop (k + 1)) = orL xs by have h := HCM.out; rwa [if_neg (by decide)] at h); go_wp2; go_round
        case rel => exact ⟨k + 1, by omega, by go_num, HN⟩
        case measure => simp [intOf]; omega
      · have HN := Lib.hid (show c = orL xs by have h := HCM.out; rwa [if_pos hz] at h)
        go_wp2; go_ret; exact ⟨by rw [← HN.out]; rfl, rfl⟩
    · obtain rfl : k = xs.length := by omega
      have HN := Lib.hid (show orL xs = 0 by rw [← HD.out, List.drop_eq_nil_of_le (Nat.le_refl _)]; rfl); go_wp2; go_ret; exact ⟨by rw [HN.out]; rfl, rfl⟩
end Go.Proofs.YtchclaipbahiiaaGreat
end

section
namespace Go.Proofs.YtchclaipbahiiaaGreat
open Go Go.RowKit
section
variable {P : Program} {ops : Array Oper} {Q : Exit → Act → World → Prop} {md : Region.Mode} {S : World → Prop}
theorem tk (i : Nat) {oi : Oper} {d : Nat} {v : Value} {fuel : Nat} {listed : Array Bool} {a : Act} {w : World} (hi : ops[i]? = some oi) (hS : S w)
    (h : wpAnyH P md ops Q S fuel (listed.setIfInBounds i true) { a with tmps := a.tmps.setIfInBounds d v } w)
    (hs : Region.noSelect ops = true := by kernel_rfl) (hf : Region.free md ops listed i = true := by kernel_rfl) (hr : (Region.ready md ops listed).contains i = true := by kernel_rfl)
    (hd : oi.dst = some d := by rfl)
    (hQ : ∀ c a w, Q (.panic c) (a.put oi.dst v) w → Q (.panic c) a w := by intro _ _ _ h; first | exact h | (exact absurd h.1 (by intro hh; cases hh)))
    (hw : Region.wanted oi (yielded ops a.tmps) = true := by rfl)
    (hy : ∀ w, S w → (execOp a.eval oi).run P w = .ok (.value v) w := by (intro w hSw; (try dsimp only at hSw); go_simp <;> (try with_reducible rfl))) :
    wpAnyH P md ops Q S (fuel + 1) listed a w := wpAnyH_take hi hs hf hr hQ (Or.inl ⟨hw, hy⟩) hS (by rw [hd]; exact h)
theorem kz {K : Act → World → Prop} {T : Act → World → Prop} {a : Act} {w : World} (hK : Shut (∀ a w, S w → (S w → T a w) → K a w)) (hS : S w) (h : T a w) : K a w := hK.out _ _ hS fun _ => h
theorem rz1 (i : Nat) {o : Oper} {fuel : Nat} {listed : Array Bool} {a : Act} {w : World} (ho : ops[i]? = some o)
    (h : ∀ K' : Act → World → Prop, Shut (∀ a w, S w → (S w → wpAnyH P md ops Q S fuel (listed.setIfInBounds i true) a w) → K' a w) → if Region.wanted o (yielded ops a.tmps) = true then Oper.wp P o a w K' Q else K' (a.put o.dst undef) w)
    (hr : Region.ready md ops listed = [i] := by kernel_rfl) : wpAnyH P md ops Q S (fuel + 1) listed a w := wpAnyH_ready hr (by simp) (AllReadyH.cons ho h AllReadyH.nil)
theorem rz2 (i j : Nat) {o u : Oper} {fuel : Nat} {listed : Array Bool} {a : Act} {w : World} (ho : ops[i]? = some o) (hu : ops[j]? = some u)
    (h : ∀ K' : Act → World → Prop, Shut (∀ a w, S w → (S w → wpAnyH P md ops Q S fuel (listed.setIfInBounds i true) a w) → K' a w) → if Region.wanted o (yielded ops a.tmps) = true then Oper.wp P o a w K' Q else K' (a.put o.dst undef) w)
    (g : ∀ K' : Act → World → Prop, Shut (∀ a w, S w → (S w → wpAnyH P md ops Q S fuel (listed.setIfInBounds j true) a w) → K' a w) → if Region.wanted u (yielded ops a.tmps) = true then Oper.wp P u a w K' Q else K' (a.put u.dst undef) w)
    (hr : Region.ready md ops listed = [i, j] := by kernel_rfl) : wpAnyH P md ops Q S (fuel + 1) listed a w := wpAnyH_ready hr (by simp) (AllReadyH.cons ho h (AllReadyH.cons hu g AllReadyH.nil))
end
theorem ptL : (∀ (l : List Value) (i : Nat) (v : Value), l.toArray.setIfInBounds i v = (l.set i v).toArray) ∧ (∀ (l : List Bool) (i : Nat) (v : Bool), l.toArray.setIfInBounds i v = (l.set i v).toArray) ∧
    (∀ (l : List Value) (x v : Value), (x :: l).set 0 v = v :: l) ∧ (∀ (l : List Bool) (x v : Bool), (x :: l).set 0 v = v :: l) ∧
    (∀ (l : List Value) (i : Nat) (x v : Value), (x :: l).set (i + 1) v = x :: l.set i v) ∧ (∀ (l : List Bool) (i : Nat) (x v : Bool), (x :: l).set (i + 1) v = x :: l.set i v) := by
  refine ⟨fun l i v => ?_, fun l i v => ?_, fun _ _ _ => rfl, fun _ _ _ => rfl, fun _ _ _ _ => rfl, fun _ _ _ _ => rfl⟩ <;> simp
end Go.Proofs.YtchclaipbahiiaaGreat
end

section
namespace Go.Proofs.YtchclaipbahiiaaGreat
open Go Go.RowKit
set_option linter.unusedVariables false
section
variable {P : Program} {ops : Array Oper} {Q : Exit → Act → World → Prop} {id : Nat} {a : Act} {w : World}
theorem cl1 {a0 : Addr} {v0 : Value} (h0 : w.cell? a0 = some v0) : ∀ w', Below w.heap.size w w' → w'.cell? a0 = some v0 := fun w' hb => (hb.cell (lt_of_cellq h0)).trans h0
theorem held1 {a0 : Addr} {v0 : Value} (h0 : w.cell? a0 = some v0)
    (k : ∀ W0, Below w.heap.size w W0 → wpAnyH P .any ops Q (fun w' => w'.cell? a0 = some v0) ops.size (Array.replicate ops.size false) a W0)
    (hm : P.follows .mixedOrders = true := by kernel_rfl) : (Code.region id ops true).wp P Q a w :=
  wp_region_held_drew (S := fun w' => w'.cell? a0 = some v0) hm (cl1 h0 _ (Below.refl _ _).drew) (fun _ => k _ (Below.refl _ _).drew)
theorem cl2 {a0 a1 : Addr} {v0 v1 : Value} (h0 : w.cell? a0 = some v0) (h1 : w.cell? a1 = some v1) : ∀ w', Below w.heap.size w w' → w'.cell? a0 = some v0 ∧ w'.cell? a1 = some v1 := fun w' hb => ⟨(hb.cell (lt_of_cellq h0)).trans h0, (hb.cell (lt_of_cellq h1)).trans h1⟩
theorem held2 {a0 a1 : Addr} {v0 v1 : Value} (h0 : w.cell? a0 = some v0) (h1 : w.cell? a1 = some v1)
    (k : ∀ W0, Below w.heap.size w W0 → wpAnyH P .any ops Q (fun w' => w'.cell? a0 = some v0 ∧ w'.cell? a1 = some v1) ops.size (Array.replicate ops.size false) a W0)
    (hm : P.follows .mixedOrders = true := by kernel_rfl) : (Code.region id ops true).wp P Q a w :=
  wp_region_held_drew (S := fun w' => w'.cell? a0 = some v0 ∧ w'.cell? a1 = some v1) hm (cl2 h0 h1 _ (Below.refl _ _).drew) (fun _ => k _ (Below.refl _ _).drew)
theorem cl3 {a0 a1 a2 : Addr} {v0 v1 v2 : Value} (h0 : w.cell? a0 = some v0) (h1 : w.cell? a1 = some v1) (h2 : w.cell? a2 = some v2) : ∀ w', Below w.heap.size w w' → w'.cell? a0 = some v0 ∧ w'.cell? a1 = some v1 ∧ w'.cell? a2 = some v2 := fun w' hb => ⟨(hb.cell (lt_of_cellq h0)).trans h0, (hb.cell (lt_of_cellq h1)).trans h1, (hb.cell (lt_of_cellq h2)).trans h2⟩
theorem held3 {a0 a1 a2 : Addr} {v0 v1 v2 : Value} (h0 : w.cell? a0 = some v0) (h1 : w.cell? a1 = some v1) (h2 : w.cell? a2 = some v2)
    (k : ∀ W0, Below w.heap.size w W0 → wpAnyH P .any ops Q (fun w' => w'.cell? a0 = some v0 ∧ w'.cell? a1 = some v1 ∧ w'.cell? a2 = some v2) ops.size (Array.replicate ops.size false) a W0)
    (hm : P.follows .mixedOrders = true := by kernel_rfl) : (Code.region id ops true).wp P Q a w :=
  wp_region_held_drew (S := fun w' => w'.cell? a0 = some v0 ∧ w'.cell? a1 = some v1 ∧ w'.cell? a2 = some v2) hm (cl3 h0 h1 h2 _ (Below.refl _ _).drew) (fun _ => k _ (Below.refl _ _).drew)
theorem cl4 {a0 a1 a2 a3 : Addr} {v0 v1 v2 v3 : Value} (h0 : w.cell? a0 = some v0) (h1 : w.cell? a1 = some v1) (h2 : w.cell? a2 = some v2) (h3 : w.cell? a3 = some v3) : ∀ w', Below w.heap.size w w' → w'.cell? a0 = some v0 ∧ w'.cell? a1 = some v1 ∧ w'.cell? a2 = some v2 ∧ w'.cell? a3 = some v3 := fun w' hb => ⟨(hb.cell (lt_of_cellq h0)).trans h0, (hb.cell (lt_of_cellq h1)).trans h1, (hb.cell (lt_of_cellq h2)).trans h2, (hb.cell (lt_of_cellq h3)).trans h3⟩
theorem held4 {a0 a1 a2 a3 : Addr} {v0 v1 v2 v3 : Value} (h0 : w.cell? a0 = some v0) (h1 : w.cell? a1 = some v1) (h2 : w.cell? a2 = some v2) (h3 : w.cell? a3 = some v3)
    (k : ∀ W0, Below w.heap.size w W0 → wpAnyH P .any ops Q (fun w' => w'.cell? a0 = some v0 ∧ w'.cell? a1 = some v1 ∧ w'.cell? a2 = some v2 ∧ w'.cell? a3 = some v3) ops.size (Array.replicate ops.size false) a W0)
    (hm : P.follows .mixedOrders = true := by kernel_rfl) : (Code.region id ops true).wp P Q a w :=
  wp_region_held_drew (S := fun w' => w'.cell? a0 = some v0 ∧ w'.cell? a1 = some v1 ∧ w'.cell? a2 = some v2 ∧ w'.cell? a3 = some v3) hm (cl4 h0 h1 h2 h3 _ (Below.refl _ _).drew) (fun _ => k _ (Below.refl _ _).drew)
theorem cl5 {a0 a1 a2 a3 a4 : Addr} {v0 v1 v2 v3 v4 : Value} (h0 : w.cell? a0 = some v0) (h1 : w.cell? a1 = some v1) (h2 : w.cell? a2 = some v2) (h3 : w.cell? a3 = some v3) (h4 : w.cell? a4 = some v4) : ∀ w', Below w.heap.size w w' → w'.cell? a0 = some v0 ∧ w'.cell? a1 = some v1 ∧ w'.cell? a2 = some v2 ∧ w'.cell? a3 = some v3 ∧ w'.cell? a4 = some v4 := fun w' hb => ⟨(hb.cell (lt_of_cellq h0)).trans h0, (hb.cell (lt_of_cellq h1)).trans h1, (hb.cell (lt_of_cellq h2)).trans h2, (hb.cell (lt_of_cellq h3)).trans h3, (hb.cell (lt_of_cellq h4)).trans h4⟩
theorem held5 {a0 a1 a2 a3 a4 : Addr} {v0 v1 v2 v3 v4 : Value} (h0 : w.cell? a0 = some v0) (h1 : w.cell? a1 = some v1) (h2 : w.cell? a2 = some v2) (h3 : w.cell? a3 = some v3) (h4 : w.cell? a4 = some v4)
    (k : ∀ W0, Below w.heap.size w W0 → wpAnyH P .any ops Q (fun w' => w'.cell? a0 = some v0 ∧ w'.cell? a1 = some v1 ∧ w'.cell? a2 = some v2 ∧ w'.cell? a3 = some v3 ∧ w'.cell? a4 = some v4) ops.size (Array.replicate ops.size false) a W0)
    (hm : P.follows .mixedOrders = true := by kernel_rfl) : (Code.region id ops true).wp P Q a w :=
  wp_region_held_drew (S := fun w' => w'.cell? a0 = some v0 ∧ w'.cell? a1 = some v1 ∧ w'.cell? a2 = some v2 ∧ w'.cell? a3 = some v3 ∧ w'.cell? a4 = some v4) hm (cl5 h0 h1 h2 h3 h4 _ (Below.refl _ _).drew) (fun _ => k _ (Below.refl _ _).drew)
theorem cl7 {a0 a1 a2 a3 a4 a5 a6 : Addr} {v0 v1 v2 v3 v4 v5 v6 : Value} (h0 : w.cell? a0 = some v0) (h1 : w.cell? a1 = some v1) (h2 : w.cell? a2 = some v2) (h3 : w.cell? a3 = some v3) (h4 : w.cell? a4 = some v4) (h5 : w.cell? a5 = some v5) (h6 : w.cell? a6 = some v6) : ∀ w', Below w.heap.size w w' → w'.cell? a0 = some v0 ∧ w'.cell? a1 = some v1 ∧ w'.cell? a2 = some v2 ∧ w'.cell? a3 = some v3 ∧ w'.cell? a4 = some v4 ∧ w'.cell? a5 = some v5 ∧ w'.cell? a6 = some v6 := fun w' hb => ⟨(hb.cell (lt_of_cellq h0)).trans h0, (hb.cell (lt_of_cellq h1)).trans h1, (hb.cell (lt_of_cellq h2)).trans h2, (hb.cell (lt_of_cellq h3)).trans h3, (hb.cell (lt_of_cellq h4)).trans h4, (hb.cell (lt_of_cellq h5)).trans h5, (hb.cell (lt_of_cellq h6)).trans h6⟩
theorem held7 {a0 a1 a2 a3 a4 a5 a6 : Addr} {v0 v1 v2 v3 v4 v5 v6 : Value} (h0 : w.cell? a0 = some v0) (h1 : w.cell? a1 = some v1) (h2 : w.cell? a2 = some v2) (h3 : w.cell? a3 = some v3) (h4 : w.cell? a4 = some v4) (h5 : w.cell? a5 = some v5) (h6 : w.cell? a6 = some v6)
    (k : ∀ W0, Below w.heap.size w W0 → wpAnyH P .any ops Q (fun w' => w'.cell? a0 = some v0 ∧ w'.cell? a1 = some v1 ∧ w'.cell? a2 = some v2 ∧ w'.cell? a3 = some v3 ∧ w'.cell? a4 = some v4 ∧ w'.cell? a5 = some v5 ∧ w'.cell? a6 = some v6) ops.size (Array.replicate ops.size false) a W0)
    (hm : P.follows .mixedOrders = true := by kernel_rfl) : (Code.region id ops true).wp P Q a w :=
  wp_region_held_drew (S := fun w' => w'.cell? a0 = some v0 ∧ w'.cell? a1 = some v1 ∧ w'.cell? a2 = some v2 ∧ w'.cell? a3 = some v3 ∧ w'.cell? a4 = some v4 ∧ w'.cell? a5 = some v5 ∧ w'.cell? a6 = some v6) hm (cl7 h0 h1 h2 h3 h4 h5 h6 _ (Below.refl _ _).drew) (fun _ => k _ (Below.refl _ _).drew)
theorem cl8 {a0 a1 a2 a3 a4 a5 a6 a7 : Addr} {v0 v1 v2 v3 v4 v5 v6 v7 : Value} (h0 : w.cell? a0 = some v0) (h1 : w.cell? a1 = some v1) (h2 : w.cell? a2 = some v2) (h3 : w.cell? a3 = some v3) (h4 : w.cell? a4 = some v4) (h5 : w.cell? a5 = some v5) (h6 : w.cell? a6 = some v6) (h7 : w.cell? a7 = some v7) : ∀ w', Below w.heap.size w w' → w'.cell? a0 = some v0 ∧ w'.cell? a1 = some v1 ∧ w'.cell? a2 = some v2 ∧ w'.cell? a3 = some v3 ∧ w'.cell? a4 = some v4 ∧ w'.cell? a5 = some v5 ∧ w'.cell? a6 = some v6 ∧ w'.cell? a7 = some v7 := fun w' hb => ⟨(hb.cell (lt_of_cellq h0)).trans h0, (hb.cell (lt_of_cellq h1)).trans h1, (hb.cell (lt_of_cellq h2)).trans h2, (hb.cell (lt_of_cellq h3)).trans h3, (hb.cell (lt_of_cellq h4)).trans h4, (hb.cell (lt_of_cellq h5)).trans h5, (hb.cell (lt_of_cellq h6)).trans h6, (hb.cell (lt_of_cellq h7)).trans h7⟩
theorem held8 {a0 a1 a2 a3 a4 a5 a6 a7 : Addr} {v0 v1 v2 v3 v4 v5 v6 v7 : Value} (h0 : w.cell? a0 = some v0) (h1 : w.cell? a1 = some v1) (h2 : w.cell? a2 = some v2) (h3 : w.cell? a3 = some v3) (h4 : w.cell? a4 = some v4) (h5 : w.cell? a5 = some v5) (h6 : w.cell? a6 = some v6) (h7 : w.cell? a7 = some v7)
    (k : ∀ W0, Below w.heap.size w W0 → wpAnyH P .any ops Q (fun w' => w'.cell? a0 = some v0 ∧ w'.cell? a1 = some v1 ∧ w'.cell? a2 = some v2 ∧ w'.cell? a3 = some v3 ∧ w'.cell? a4 = some v4 ∧ w'.cell? a5 = some v5 ∧ w'.cell? a6 = some v6 ∧ w'.cell? a7 = some v7) ops.size (Array.replicate ops.size false) a W0)
    (hm : P.follows .mixedOrders = true := by kernel_rfl) : (Code.region id ops true).wp P Q a w :=
  wp_region_held_drew (S := fun w' => w'.cell? a0 = some v0 ∧ w'.cell? a1 = some v1 ∧ w'.cell? a2 = some v2 ∧ w'.cell? a3 = some v3 ∧ w'.cell? a4 = some v4 ∧ w'.cell? a5 = some v5 ∧ w'.cell? a6 = some v6 ∧ w'.cell? a7 = some v7) hm (cl8 h0 h1 h2 h3 h4 h5 h6 h7 _ (Below.refl _ _).drew) (fun _ => k _ (Below.refl _ _).drew)
theorem cl10 {a0 a1 a2 a3 a4 a5 a6 a7 a8 a9 : Addr} {v0 v1 v2 v3 v4 v5 v6 v7 v8 v9 : Value} (h0 : w.cell? a0 = some v0) (h1 : w.cell? a1 = some v1) (h2 : w.cell? a2 = some v2) (h3 : w.cell? a3 = some v3) (h4 : w.cell? a4 = some v4) (h5 : w.cell? a5 = some v5) (h6 : w.cell? a6 = some v6) (h7 : w.cell? a7 = some v7) (h8 : w.cell? a8 = some v8) (h9 : w.cell? a9 = some v9) : ∀ w', Below w.heap.size w w' → w'.cell? a0 = some v0 ∧ w'.cell? a1 = some v1 ∧ w'.cell? a2 = some v2 ∧ w'.cell? a3 = some v3 ∧ w'.cell? a4 = some v4 ∧ w'.cell? a5 = some v5 ∧ w'.cell? a6 = some v6 ∧ w'.cell? a7 = some v7 ∧ w'.cell? a8 = some v8 ∧ w'.cell? a9 = some v9 := fun w' hb => ⟨(hb.cell (lt_of_cellq h0)).trans h0, (hb.cell (lt_of_cellq h1)).trans h1, (hb.cell (lt_of_cellq h2)).trans h2, (hb.cell (lt_of_cellq h3)).trans h3, (hb.cell (lt_of_cellq h4)).trans h4, (hb.cell (lt_of_cellq h5)).trans h5, (hb.cell (lt_of_cellq h6)).trans h6, (hb.cell (lt_of_cellq h7)).trans h7, (hb.cell (lt_of_cellq h8)).trans h8, (hb.cell (lt_of_cellq h9)).trans h9⟩
theorem held10 {a0 a1 a2 a3 a4 a5 a6 a7 a8 a9 : Addr} {v0 v1 v2 v3 v4 v5 v6 v7 v8 v9 : Value} (h0 : w.cell? a0 = some v0) (h1 : w.cell? a1 = some v1) (h2 : w.cell? a2 = some v2) (h3 : w.cell? a3 = some v3) (h4 : w.cell? a4 = some v4) (h5 : w.cell? a5 = some v5) (h6 : w.cell? a6 = some v6) (h7 : w.cell? a7 = some v7) (h8 : w.cell? a8 = some v8) (h9 : w.cell? a9 = some v9)
    (k : ∀ W0, Below w.heap.size w W0 → wpAnyH P .any ops Q (fun w' => w'.cell? a0 = some v0 ∧ w'.cell? a1 = some v1 ∧ w'.cell? a2 = some v2 ∧ w'.cell? a3 = some v3 ∧ w'.cell? a4 = some v4 ∧ w'.cell? a5 = some v5 ∧ w'.cell? a6 = some v6 ∧ w'.cell? a7 = some v7 ∧ w'.cell? a8 = some v8 ∧ w'.cell? a9 = some v9) ops.size (Array.replicate ops.size false) a W0)
    (hm : P.follows .mixedOrders = true := by kernel_rfl) : (Code.region id ops true).wp P Q a w :=
  wp_region_held_drew (S := fun w' => w'.cell? a0 = some v0 ∧ w'.cell? a1 = some v1 ∧ w'.cell? a2 = some v2 ∧ w'.cell? a3 = some v3 ∧ w'.cell? a4 = some v4 ∧ w'.cell? a5 = some v5 ∧ w'.cell? a6 = some v6 ∧ w'.cell? a7 = some v7 ∧ w'.cell? a8 = some v8 ∧ w'.cell? a9 = some v9) hm (cl10 h0 h1 h2 h3 h4 h5 h6 h7 h8 h9 _ (Below.refl _ _).drew) (fun _ => k _ (Below.refl _ _).drew)
theorem tu {md : Region.Mode} {S : World → Prop} (i : Nat) {oi : Oper} {d : Nat} {fuel : Nat} {listed : Array Bool} {a : Act} {w : World} (hi : ops[i]? = some oi) (hS : S w)
    (h : wpAnyH P md ops Q S fuel (listed.setIfInBounds i true) { a with tmps := a.tmps.setIfInBounds d undef } w)
    (hs : Region.noSelect ops = true := by kernel_rfl) (hf : Region.free md ops listed i = true := by kernel_rfl) (hr : (Region.ready md ops listed).contains i = true := by kernel_rfl)
    (hd : oi.dst = some d := by rfl)
    (hQ : ∀ c a w, Q (.panic c) (a.put oi.dst undef) w → Q (.panic c) a w := by intro _ _ _ h; first | exact h | (exact absurd h.1 (by intro hh; cases hh)))
    (hw : Region.wanted oi (yielded ops a.tmps) = false := by kernel_rfl) : wpAnyH P md ops Q S (fuel + 1) listed a w :=
  wpAnyH_take hi hs hf hr hQ (Or.inr ⟨hw, rfl⟩) hS (by rw [hd]; exact h)
end
end Go.Proofs.YtchclaipbahiiaaGreat
end

section
namespace Go.Proofs.YtchclaipbahiiaaGreat
open Go Go.RowKit Go.Proofs
set_option linter.unusedVariables false
set_option linter.unusedSimpArgs false
attribute [local go_sem] imax2 imin2
def cmpP (a b : Int × Int) : Int := orL [cmpI a.1 b.1, cmpI a.2 b.2]
theorem rd_new2 (w : World) (a b : Int) (t : TypeId) : RdI (w.alloc (.cells #[.int .i64 a, .int .i64 b] t)) (some ⟨w.heap.size, 0, none⟩) [a, b] :=
  .inr ⟨_, 0, rfl, fun i hi => match i, hi with
    | 0, _ => by rw [at_new]; rfl
    | 1, _ => by rw [at_new]; rfl⟩
theorem cmpP_neg (a b : Int × Int) : decide (cmpP a b < 0) = ordB a b := by
  unfold cmpP ordB
  by_cases h : a.1 = b.1
  · rw [orL, if_neg (by rw [(cmpI_zero _ _).2 h]; decide), orL]
    by_cases h2 : a.2 = b.2
    · rw [if_neg (by rw [(cmpI_zero _ _).2 h2]; decide), orL, h, h2]; simp
    · rw [if_pos (fun hc => h2 ((cmpI_zero _ _).1 hc)), h]
      simp only [Int.lt_irrefl, decide_false, decide_true, Bool.true_and, Bool.false_or]; exact decide_eq_decide.2 (cmpI_neg _ _)
  · rw [orL, if_pos (fun hc => h ((cmpI_zero _ _).1 hc))]
    simp only [h, decide_false, Bool.false_and, Bool.or_false]; exact decide_eq_decide.2 (cmpI_neg _ _)
set_option maxHeartbeats 1600000 in
set_option maxRecDepth 100000 in
theorem t_inOrder (a b c d : Int) (w : World) : Calls Tryz.prog 87 #[.agg #[.int .i64 a, .int .i64 b], .agg #[.int .i64 c, .int .i64 d]] w fun e w' => e = .returned (.int .i64 (cmpP (a, b) (c, d))) ∧ Below w.heap.size w w' := by
  obtain ⟨w0, e0, HS0, k0, k1, b0⟩ := box2 w (.int .i64 a) (.int .i64 b) 99; obtain ⟨w1, e1, HS1, q0, q1, b1⟩ := box2 w0 (.int .i64 c) (.int .i64 d) 99; have k0 := (b1.cell (lt_of_cellq k0)).trans k0; have k1 := (b1.cell (lt_of_cellq k1)).trans k1; have HB := Lib.hid (b0.trans (b1.mono b0.size)); have HP := Lib.hid (show cmpP (a, b) (c, d) = orL [cmpI a c, cmpI b d] from rfl); have hc1 := c_compare a c; have hc2 := c_compare b d; obtain ⟨X, hX⟩ : ∃ X, cmpI a c = X := ⟨_, rfl⟩; obtain ⟨Y, hY⟩ : ∃ Y, cmpI b d = Y := ⟨_, rfl⟩; rw [hX] at hc1 HP; rw [hY] at hc2 HP; have H1 := Lib.hid hc1; have H2 := Lib.hid hc2; clear b0 b1 hX hY hc1 hc2
  go_enter Tryz.func87, Tryz.ntmps87
  go_upto_region 1 with (fail); clear e0 e1; have HSB := Lib.hid (cl4 k0 k1 q0 q1); refine held4 k0 k1 q0 q1 (fun W0 HB0 => ?_); refine tk 0 rfl (by exact HSB.out _ HB0) ?_; (try simp only [Act.put, ptL]); refine tk 1 rfl (by exact HSB.out _ HB0) ?_; (try simp only [Act.put, ptL]); refine tk 2 rfl (by exact HSB.out _ HB0) ?_; (try simp only [Act.put, ptL]); refine tk 3 rfl (by exact HSB.out _ HB0) ?_; (try simp only [Act.put, ptL]); refine tk 5 rfl (by exact HSB.out _ HB0) ?_; (try simp only [Act.put, ptL]); refine tk 6 rfl (by exact HSB.out _ HB0) ?_; (try simp only [Act.put, ptL]); refine tk 7 rfl (by exact HSB.out _ HB0) ?_; (try simp only [Act.put, ptL]); refine tk 8 rfl (by exact HSB.out _ HB0) ?_; (try simp only [Act.put, ptL]); refine rz1 4 rfl ?_; intro K hK; go_simp; refine (H1.out _).mono ?_; rintro e w' ⟨rfl, rfl⟩; refine kz hK (by exact HSB.out _ HB0) ?_; clear hK K; (try simp only [Act.put, ptL])
  refine rz1 9 rfl ?_; intro K hK; go_simp; refine (H2.out _).mono ?_; rintro e w' ⟨rfl, rfl⟩; refine kz hK (by exact HSB.out _ HB0) ?_; clear hK K; (try simp only [Act.put, ptL]); refine rz1 10 rfl ?_; intro K hK; go_simp; obtain ⟨W1, e1⟩ : ∃ W1, W0.alloc (.cells #[.int .i64 X, .int .i64 Y] 3) = W1 := ⟨_, rfl⟩; rw [e1]; have HB1 : Below w1.heap.size w1 W1 := by rw [← e1]; exact HB0.alloc HB0.size _
  have hor := c_or (some ⟨W0.heap.size, 0, none⟩) 2 [X, Y] W1 (by rw [← e1]; exact rd_new2 W0 X Y 3) (by simp); refine kz hK (by exact HSB.out _ HB1) ?_; clear hK K; (try simp only [Act.put, ptL]); refine rz1 11 rfl ?_; intro K hK; go_simp; refine hor.mono ?_; clear hor; rintro e W2 ⟨rfl, hb2⟩; have HB2 : Below w1.heap.size w1 W2 := HB1.trans (Below.mono (hb2 ▸ Below.refl _ _) HB1.size); refine kz hK (by exact HSB.out _ HB2) ?_; clear hK K; (try simp only [Act.put, ptL]); refine tk 12 rfl (by exact HSB.out _ HB2) ?_; (try simp only [Act.put, ptL]); refine wpAnyH_done (by kernel_rfl) ?_ _; have HBZ := Lib.hid (HB.out.trans (HB2.mono HB.out.size)); clear HSB HB2 HB1 HB0 k0 k1 q0 q1 hb2; go_wp2; go_ret; exact ⟨by rw [HP.out]; rfl, HBZ.out⟩
end Go.Proofs.YtchclaipbahiiaaGreat
end
