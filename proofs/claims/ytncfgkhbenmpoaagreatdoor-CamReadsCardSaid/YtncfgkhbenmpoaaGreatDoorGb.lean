/-
  Base words of this seat's walks: what a slice that is only read holds; bounds on sums; small laws.
  Regions that draw their order, operation by operation: what a quiet operation yields, in every world of a class.
  Small functions of the program and of the references: contracts.
  Changes of a cam.
  What is as defined: heights, cams, rules; both in the program and in the references.
  Cams and rules, as defined.
  Rules in the references; the error of a rule; two cams; changes, errors and whether a cam fits.
  Sizes, errors of a cam for a want: the program and the reference.
  Lists that the calls make; the spans that are near to a want.
  What a foot covers; feet.
  What lies in memory while both ends of what a foot covers are gathered.
  Two functions in an array: which one stands where.
  Both ends of what a foot covers, at each step.
  The height at which a follower stands.
  The cam for a want and a foot.
-/
import Derived.Test.YtncfgkhbenmpoaaGreatDoorProg
import Derived.Test.YtncfgkhbenmpoaaGreatDoorGa
import Derived.WalkKit
import Derived.WalkSpells
import Derived.WalkLawsBesides
import Derived.Handy
import Derived.Deep.QuietTactic
import Derived.BigQuiet
import Derived.Outline
import Derived.Below
import Derived.Lib.Hide
import Derived.Maps.RangeWalk
import Derived.Maps.AppendAt
import Derived.Deep.AppendLies
section
namespace Go.Proofs.YtncfgkhbenmpoaaGreatDoor
open Go Go.RowKit Go.Proofs
set_option linter.unusedVariables false

/-- A slice of integers at this address reads as these numbers. -/
def RdI (w : World) (p : Option Addr) (xs : List Int) : Prop :=
  xs = [] ∨ ∃ b off, p = some ⟨b, off, none⟩ ∧ ∀ i, i < xs.length → w.cell? ⟨b, off + i, none⟩ = some (.int .i64 (gi xs i))

theorem lt_of_cellq {w : World} {a : Addr} {v : Value} (h : w.cell? a = some v) : a.block < w.heap.size := World.block_lt_of_cell? _ _ h

theorem RdI.below {w w' : World} {p : Option Addr} {xs : List Int} (h : RdI w p xs) (hb : Below w.heap.size w w') : RdI w' p xs := by
  rcases h with h | ⟨b, off, rfl, hc⟩
  · exact .inl h
  · refine .inr ⟨b, off, rfl, fun i hi => ?_⟩
    have := hc i hi
    exact (hb.cell (lt_of_cellq this)).trans this

theorem RdI.at {w : World} {p : Option Addr} {xs : List Int} (h : RdI w p xs) {i : Nat} (hi : i < xs.length) :
    ∃ b off, p = some ⟨b, off, none⟩ ∧ ∀ i, i < xs.length → w.cell? ⟨b, off + i, none⟩ = some (.int .i64 (gi xs i)) := by
  rcases h with h | h
  · subst h; simp at hi
  · exact h

theorem nat_emod (k n : Nat) : ((k : Int) + 1) % (n : Int) = ((k + 1) % n : Nat) := by
  rw [Int.natCast_emod]; rfl

theorem imax2 (m n : Int) [Decidable (m < n)] : (if m < n then n else m) = max m n := by split <;> omega
theorem imin2 (m n : Int) [Decidable (n < m)] : (if n < m then n else m) = min m n := by split <;> omega

/-- A sum that fits. -/
theorem w64 (x : Int) (h1 : -9223372036854775808 ≤ x) (h2 : x ≤ 9223372036854775807) : IntKind.i64.wrap x = x := IntWalk.i64_in _ ⟨h1, h2⟩
end Go.Proofs.YtncfgkhbenmpoaaGreatDoor
end

section
namespace Go.Proofs.YtncfgkhbenmpoaaGreatDoor
open Go Go.RowKit Go.Proofs
set_option linter.unusedVariables false

section
variable {P : Program} {C : World → Prop} {K : Act → Prop} {a : Act} {ops : Array Oper} {Q : Act → Prop} {o : Oper} {rest : List Oper}

theorem wq (hw : Region.wanted o (yielded ops a.tmps) = true) (h : o.quiet P a C (wpQuiet P ops C Q rest)) : wpQuiet P ops C Q (o :: rest) a := by
  unfold wpQuiet; rw [if_pos hw]; exact h
theorem wqs (hw : Region.wanted o (yielded ops a.tmps) = false) (h : wpQuiet P ops C Q rest (a.put o.dst undef)) : wpQuiet P ops C Q (o :: rest) a := by
  unfold wpQuiet; rw [if_neg (by rw [hw]; simp)]; exact h

theorem q_val (v : Value) (hrun : ∀ w, C w → (execOp a.eval o).run P w = .ok (.value v) w) (hk : K (a.put o.dst v)) : o.quiet P a C K :=
  ⟨v, fun w hw => by unfold Oper.quietAt; rw [hrun w hw]; exact ⟨rfl, rfl⟩, hk⟩

theorem q_call (v : Value) (f : FuncId) (args : Array Value) (hrun : ∀ w, C w → (execOp a.eval o).run P w = .ok (.enter f args) w)
    (hc : ∀ w, C w → Calls P f args w fun e w' => e = .returned v ∧ C w') (hk : K (a.put o.dst v)) : o.quiet P a C K :=
  ⟨v, fun w hw => by unfold Oper.quietAt; rw [hrun w hw]; exact ⟨rfl, hc w hw⟩, hk⟩

variable {d : Nat} {x y : Operand} {t t' ty : TypeId} {pos : String} {af : Array Edge} {g : Option (Nat × Bool)} {m n : Int}

theorem q_add (hx : a.eval x = .int .i64 m) (hy : a.eval y = .int .i64 n) (h1 : -9223372036854775808 ≤ m + n) (h2 : m + n ≤ 9223372036854775807)
    (hk : K (a.put (some d) (.int .i64 (m + n)))) : Oper.quiet P ⟨some d, .binOp .add t x y t', ty, pos, af, g⟩ a C K :=
  q_val (o := ⟨some d, .binOp .add t x y t', ty, pos, af, g⟩) (.int .i64 (m + n)) (fun w _ => by unfold execOp; dsimp only; rw [hx, hy]; simp [go_sem, w64 _ h1 h2]) hk
theorem q_sub (hx : a.eval x = .int .i64 m) (hy : a.eval y = .int .i64 n) (h1 : -9223372036854775808 ≤ m - n) (h2 : m - n ≤ 9223372036854775807)
    (hk : K (a.put (some d) (.int .i64 (m - n)))) : Oper.quiet P ⟨some d, .binOp .sub t x y t', ty, pos, af, g⟩ a C K :=
  q_val (o := ⟨some d, .binOp .sub t x y t', ty, pos, af, g⟩) (.int .i64 (m - n)) (fun w _ => by unfold execOp; dsimp only; rw [hx, hy]; simp [go_sem, w64 _ h1 h2]) hk
theorem q_mul (hx : a.eval x = .int .i64 m) (hy : a.eval y = .int .i64 n) (h1 : -9223372036854775808 ≤ m * n) (h2 : m * n ≤ 9223372036854775807)
    (hk : K (a.put (some d) (.int .i64 (m * n)))) : Oper.quiet P ⟨some d, .binOp .mul t x y t', ty, pos, af, g⟩ a C K :=
  q_val (o := ⟨some d, .binOp .mul t x y t', ty, pos, af, g⟩) (.int .i64 (m * n)) (fun w _ => by unfold execOp; dsimp only; rw [hx, hy]; simp [go_sem, w64 _ h1 h2]) hk
/-- the rest of a number from 0 on by a positive one -/
theorem q_rem (hx : a.eval x = .int .i64 m) (hy : a.eval y = .int .i64 n) (h0 : 0 ≤ m) (h1 : 1 ≤ n)
    (hk : K (a.put (some d) (.int .i64 (m % n)))) : Oper.quiet P ⟨some d, .binOp .rem t x y t', ty, pos, af, g⟩ a C K :=
  q_val (o := ⟨some d, .binOp .rem t x y t', ty, pos, af, g⟩) (.int .i64 (m % n)) (fun w _ => by
    have hn : ¬ n = 0 := by omega
    have e : m.tmod n = m % n := Int.tmod_eq_emod_of_nonneg h0
    unfold execOp; dsimp only; rw [hx, hy]; simp [go_sem, hn, e]) hk

/-! ### the same, at the head of a lexical walk -/
theorem wq_add (hw : Region.wanted ⟨some d, .binOp .add t x y t', ty, pos, af, g⟩ (yielded ops a.tmps) = true) (hx : a.eval x = .int .i64 m) (hy : a.eval y = .int .i64 n) (h1 : -9223372036854775808 ≤ m + n) (h2 : m + n ≤ 9223372036854775807)
    (hk : wpQuiet P ops C Q rest (a.put (some d) (.int .i64 (m + n)))) : wpQuiet P ops C Q (⟨some d, .binOp .add t x y t', ty, pos, af, g⟩ :: rest) a := wq hw (q_add hx hy h1 h2 hk)
theorem wq_sub (hw : Region.wanted ⟨some d, .binOp .sub t x y t', ty, pos, af, g⟩ (yielded ops a.tmps) = true) (hx : a.eval x = .int .i64 m) (hy : a.eval y = .int .i64 n) (h1 : -9223372036854775808 ≤ m - n) (h2 : m - n ≤ 9223372036854775807)
    (hk : wpQuiet P ops C Q rest (a.put (some d) (.int .i64 (m - n)))) : wpQuiet P ops C Q (⟨some d, .binOp .sub t x y t', ty, pos, af, g⟩ :: rest) a := wq hw (q_sub hx hy h1 h2 hk)
theorem wq_mul (hw : Region.wanted ⟨some d, .binOp .mul t x y t', ty, pos, af, g⟩ (yielded ops a.tmps) = true) (hx : a.eval x = .int .i64 m) (hy : a.eval y = .int .i64 n) (h1 : -9223372036854775808 ≤ m * n) (h2 : m * n ≤ 9223372036854775807)
    (hk : wpQuiet P ops C Q rest (a.put (some d) (.int .i64 (m * n)))) : wpQuiet P ops C Q (⟨some d, .binOp .mul t x y t', ty, pos, af, g⟩ :: rest) a := wq hw (q_mul hx hy h1 h2 hk)
theorem wq_rem (hw : Region.wanted ⟨some d, .binOp .rem t x y t', ty, pos, af, g⟩ (yielded ops a.tmps) = true) (hx : a.eval x = .int .i64 m) (hy : a.eval y = .int .i64 n) (h0 : 0 ≤ m) (h1 : 1 ≤ n)
    (hk : wpQuiet P ops C Q rest (a.put (some d) (.int .i64 (m % n)))) : wpQuiet P ops C Q (⟨some d, .binOp .rem t x y t', ty, pos, af, g⟩ :: rest) a := wq hw (q_rem hx hy h0 h1 hk)

theorem wq_mv {x : Operand} (hw : Region.wanted ⟨some d, .move x, ty, pos, af, g⟩ (yielded ops a.tmps) = true) {v : Value} (hx : a.eval x = v)
    (hk : wpQuiet P ops C Q rest (a.put (some d) v)) : wpQuiet P ops C Q (⟨some d, .move x, ty, pos, af, g⟩ :: rest) a := wq hw (BigFrame.quiet_move x rfl (by rw [hx]; exact hk))
theorem wq_as {x : Operand} (hw : Region.wanted ⟨some d, .assign x, ty, pos, af, g⟩ (yielded ops a.tmps) = true) {v : Value} (hx : a.eval x = v)
    (hk : wpQuiet P ops C Q rest (a.put (some d) v)) : wpQuiet P ops C Q (⟨some d, .assign x, ty, pos, af, g⟩ :: rest) a := wq hw (BigFrame.quiet_assign x rfl (by rw [hx]; exact hk))

/-- the address of an element of a slice -/
theorem run_ix {e : TypeId} {sz : Nat} (hu : P.underlying t = some (.slice e)) (hs : ((P.info? e).map fun i => i.size) = some sz) (ad : Addr) (len cap : Nat) (k : IntKind) (n : Int) (h0 : 0 ≤ n) (h1 : n < len) (w : World) :
    (Instr.indexAt t (.slice (some ad) len cap) (.int k n)).run P w = .ok (.pointer (some (ad.add (n.toNat * sz)))) w := by
  cases hi : P.info? e with
  | none => rw [hi] at hs; cases hs
  | some i =>
    rw [hi] at hs
    simp only [Option.map_some, Option.some.injEq] at hs
    subst hs
    have hb : 0 ≤ n ∧ n < len := ⟨h0, h1⟩
    simp [Instr.indexAt, go_sem, run_underlying hu, hb, sizeOf, typeInfo, hi]

theorem wq_ix {e : TypeId} {sz : Nat} (hu : P.underlying t = some (.slice e)) (hs : ((P.info? e).map fun i => i.size) = some sz)
    (hw : Region.wanted ⟨some d, .indexAddr t x y, ty, pos, af, g⟩ (yielded ops a.tmps) = true) {b off len cap j : Nat} (hx : a.eval x = .slice (some ⟨b, off, none⟩) len cap) (hy : a.eval y = .int .i64 (j : Int)) (h1 : j < len)
    (hk : wpQuiet P ops C Q rest (a.put (some d) (.pointer (some ⟨b, off + j * sz, none⟩)))) : wpQuiet P ops C Q (⟨some d, .indexAddr t x y, ty, pos, af, g⟩ :: rest) a :=
  wq hw (q_val (o := ⟨some d, .indexAddr t x y, ty, pos, af, g⟩) (.pointer (some ⟨b, off + j * sz, none⟩)) (fun w _ => by
    have h := run_ix (P := P) (t := t) hu hs ⟨b, off, none⟩ len cap .i64 (j : Int) (by omega) (by omega) w
    unfold execOp; dsimp only; rw [hx, hy]
    simp only [Sem.run_bind, h, Result.andThen]
    have e1 : (Addr.add ⟨b, off, none⟩ ((j : Int).toNat * sz)) = ⟨b, off + j * sz, none⟩ := by
      unfold Addr.add
      rw [Int.toNat_natCast]
      split
      · rename_i h0; rw [h0]; rfl
      · rfl
    rw [e1]; rfl) hk)

/-- the load of a variable of one cell -/
theorem wq_ld (hag : ∀ w, (isAgg t).run P w = .ok false w) (hw : Region.wanted ⟨some d, .load t x, ty, pos, af, g⟩ (yielded ops a.tmps) = true) {ad : Addr} {v : Value} (hx : a.eval x = .pointer (some ad)) (hc : ∀ w, C w → w.cell? ad = some v)
    (hk : wpQuiet P ops C Q rest (a.put (some d) v)) : wpQuiet P ops C Q (⟨some d, .load t x, ty, pos, af, g⟩ :: rest) a :=
  wq hw (q_val (o := ⟨some d, .load t x, ty, pos, af, g⟩) v (fun w hw => by
    have hc' := hc w hw
    unfold execOp; dsimp only; rw [hx]
    simp [Instr.loadAt, Instr.sureAddr, loadVar, hag, go_sem, hc']) hk)

/-- a load of a struct -/
theorem wq_lda {sz : Nat} (hag : ∀ w, (isAgg t).run P w = .ok true w) (hs : ((P.info? t).map fun i => i.size) = some sz) (hw : Region.wanted ⟨some d, .load t x, ty, pos, af, g⟩ (yielded ops a.tmps) = true) {ad : Addr} {cs : List Value} (hx : a.eval x = .pointer (some ad))
    (hl : cs.length = sz) (hc : ∀ w, C w → ∀ j v, cs[j]? = some v → w.cell? (ad.add j) = some v)
    (hk : wpQuiet P ops C Q rest (a.put (some d) (.agg cs.toArray))) : wpQuiet P ops C Q (⟨some d, .load t x, ty, pos, af, g⟩ :: rest) a :=
  wq hw (q_val (o := ⟨some d, .load t x, ty, pos, af, g⟩) (.agg cs.toArray) (fun w hw => by
    have hc' := run_loadCells_list (P := P) (w := w) ad cs (hc w hw)
    rw [hl] at hc'
    unfold loadCells at hc'
    cases hi : P.info? t with
    | none => rw [hi] at hs; cases hs
    | some i =>
      rw [hi] at hs
      simp only [Option.map_some, Option.some.injEq] at hs
      subst hs
      unfold execOp; dsimp only; rw [hx]
      simp [Instr.loadAt, Instr.sureAddr, loadVar, hag, go_sem, hc', sizeOf, typeInfo, hi]) hk)

theorem wq_eql (hw : Region.wanted ⟨some d, .binOp .eql t x y t', ty, pos, af, g⟩ (yielded ops a.tmps) = true) (hx : a.eval x = .int .i64 m) (hy : a.eval y = .int .i64 n)
    (hk : wpQuiet P ops C Q rest (a.put (some d) (.bool (m == n)))) : wpQuiet P ops C Q (⟨some d, .binOp .eql t x y t', ty, pos, af, g⟩ :: rest) a :=
  wq hw (q_val (o := ⟨some d, .binOp .eql t x y t', ty, pos, af, g⟩) (.bool (m == n)) (fun w _ => by unfold execOp; dsimp only; rw [hx, hy]; simp [go_sem]) hk)
theorem wq_neq (hw : Region.wanted ⟨some d, .binOp .neq t x y t', ty, pos, af, g⟩ (yielded ops a.tmps) = true) (hx : a.eval x = .int .i64 m) (hy : a.eval y = .int .i64 n)
    (hk : wpQuiet P ops C Q rest (a.put (some d) (.bool (m != n)))) : wpQuiet P ops C Q (⟨some d, .binOp .neq t x y t', ty, pos, af, g⟩ :: rest) a :=
  wq hw (q_val (o := ⟨some d, .binOp .neq t x y t', ty, pos, af, g⟩) (.bool (m != n)) (fun w _ => by unfold execOp; dsimp only; rw [hx, hy]; simp [go_sem]) hk)
theorem wq_lss (hw : Region.wanted ⟨some d, .binOp .lss t x y t', ty, pos, af, g⟩ (yielded ops a.tmps) = true) (hx : a.eval x = .int .i64 m) (hy : a.eval y = .int .i64 n)
    (hk : wpQuiet P ops C Q rest (a.put (some d) (.bool (decide (m < n))))) : wpQuiet P ops C Q (⟨some d, .binOp .lss t x y t', ty, pos, af, g⟩ :: rest) a :=
  wq hw (q_val (o := ⟨some d, .binOp .lss t x y t', ty, pos, af, g⟩) (.bool (decide (m < n))) (fun w _ => by unfold execOp; dsimp only; rw [hx, hy]; simp [go_sem]) hk)
theorem wq_leq (hw : Region.wanted ⟨some d, .binOp .leq t x y t', ty, pos, af, g⟩ (yielded ops a.tmps) = true) (hx : a.eval x = .int .i64 m) (hy : a.eval y = .int .i64 n)
    (hk : wpQuiet P ops C Q rest (a.put (some d) (.bool (decide (m ≤ n))))) : wpQuiet P ops C Q (⟨some d, .binOp .leq t x y t', ty, pos, af, g⟩ :: rest) a :=
  wq hw (q_val (o := ⟨some d, .binOp .leq t x y t', ty, pos, af, g⟩) (.bool (decide (m ≤ n))) (fun w _ => by unfold execOp; dsimp only; rw [hx, hy]; simp [go_sem]) hk)
theorem wq_gtr (hw : Region.wanted ⟨some d, .binOp .gtr t x y t', ty, pos, af, g⟩ (yielded ops a.tmps) = true) (hx : a.eval x = .int .i64 m) (hy : a.eval y = .int .i64 n)
    (hk : wpQuiet P ops C Q rest (a.put (some d) (.bool (decide (m > n))))) : wpQuiet P ops C Q (⟨some d, .binOp .gtr t x y t', ty, pos, af, g⟩ :: rest) a :=
  wq hw (q_val (o := ⟨some d, .binOp .gtr t x y t', ty, pos, af, g⟩) (.bool (decide (m > n))) (fun w _ => by unfold execOp; dsimp only; rw [hx, hy]; simp [go_sem]) hk)
theorem wq_geq (hw : Region.wanted ⟨some d, .binOp .geq t x y t', ty, pos, af, g⟩ (yielded ops a.tmps) = true) (hx : a.eval x = .int .i64 m) (hy : a.eval y = .int .i64 n)
    (hk : wpQuiet P ops C Q rest (a.put (some d) (.bool (decide (m ≥ n))))) : wpQuiet P ops C Q (⟨some d, .binOp .geq t x y t', ty, pos, af, g⟩ :: rest) a :=
  wq hw (q_val (o := ⟨some d, .binOp .geq t x y t', ty, pos, af, g⟩) (.bool (decide (m ≥ n))) (fun w _ => by unfold execOp; dsimp only; rw [hx, hy]; simp [go_sem]) hk)

theorem imax (m n : Int) : (if n > m then n else m) = max m n := by split <;> omega
theorem imin (m n : Int) : (if n < m then n else m) = min m n := by split <;> omega
variable {z : Operand} {l : Int} {ats : Array TypeId}
theorem wq_max2 (hw : Region.wanted ⟨some d, .call ⟨.builtin .max, #[x, y], ats⟩, ty, pos, af, g⟩ (yielded ops a.tmps) = true) (hx : a.eval x = .int .i64 m) (hy : a.eval y = .int .i64 n)
    (hk : wpQuiet P ops C Q rest (a.put (some d) (.int .i64 (max m n)))) : wpQuiet P ops C Q (⟨some d, .call ⟨.builtin .max, #[x, y], ats⟩, ty, pos, af, g⟩ :: rest) a :=
  wq hw (q_val (o := ⟨some d, .call ⟨.builtin .max, #[x, y], ats⟩, ty, pos, af, g⟩) (.int .i64 (max m n)) (fun w _ => by
    rw [BigFrame.execOp_builtin]; simp only [List.map_toArray, List.map_cons, List.map_nil, hx, hy]; simp [go_sem, Builtin.max_, Builtin.max2, List.foldlM]; rw [← imax]) hk)
theorem wq_min2 (hw : Region.wanted ⟨some d, .call ⟨.builtin .min, #[x, y], ats⟩, ty, pos, af, g⟩ (yielded ops a.tmps) = true) (hx : a.eval x = .int .i64 m) (hy : a.eval y = .int .i64 n)
    (hk : wpQuiet P ops C Q rest (a.put (some d) (.int .i64 (min m n)))) : wpQuiet P ops C Q (⟨some d, .call ⟨.builtin .min, #[x, y], ats⟩, ty, pos, af, g⟩ :: rest) a :=
  wq hw (q_val (o := ⟨some d, .call ⟨.builtin .min, #[x, y], ats⟩, ty, pos, af, g⟩) (.int .i64 (min m n)) (fun w _ => by
    rw [BigFrame.execOp_builtin]; simp only [List.map_toArray, List.map_cons, List.map_nil, hx, hy]; simp [go_sem, Builtin.min_, Builtin.min2, List.foldlM]; rw [← imin]) hk)
theorem wq_max3 (hw : Region.wanted ⟨some d, .call ⟨.builtin .max, #[x, y, z], ats⟩, ty, pos, af, g⟩ (yielded ops a.tmps) = true) (hx : a.eval x = .int .i64 m) (hy : a.eval y = .int .i64 n) (hz : a.eval z = .int .i64 l)
    (hk : wpQuiet P ops C Q rest (a.put (some d) (.int .i64 (max (max m n) l)))) : wpQuiet P ops C Q (⟨some d, .call ⟨.builtin .max, #[x, y, z], ats⟩, ty, pos, af, g⟩ :: rest) a :=
  wq hw (q_val (o := ⟨some d, .call ⟨.builtin .max, #[x, y, z], ats⟩, ty, pos, af, g⟩) (.int .i64 (max (max m n) l)) (fun w _ => by
    rw [BigFrame.execOp_builtin]; simp only [List.map_toArray, List.map_cons, List.map_nil, hx, hy, hz]; simp [go_sem, Builtin.max_, Builtin.max2, List.foldlM]; (repeat' split) <;> omega) hk)
theorem wq_min3 (hw : Region.wanted ⟨some d, .call ⟨.builtin .min, #[x, y, z], ats⟩, ty, pos, af, g⟩ (yielded ops a.tmps) = true) (hx : a.eval x = .int .i64 m) (hy : a.eval y = .int .i64 n) (hz : a.eval z = .int .i64 l)
    (hk : wpQuiet P ops C Q rest (a.put (some d) (.int .i64 (min (min m n) l)))) : wpQuiet P ops C Q (⟨some d, .call ⟨.builtin .min, #[x, y, z], ats⟩, ty, pos, af, g⟩ :: rest) a :=
  wq hw (q_val (o := ⟨some d, .call ⟨.builtin .min, #[x, y, z], ats⟩, ty, pos, af, g⟩) (.int .i64 (min (min m n) l)) (fun w _ => by
    rw [BigFrame.execOp_builtin]; simp only [List.map_toArray, List.map_cons, List.map_nil, hx, hy, hz]; simp [go_sem, Builtin.min_, Builtin.min2, List.foldlM]; (repeat' split) <;> omega) hk)
end

/-! ### this program's types -/
theorem ag3 (w : World) : (isAgg 3).run Tryz.prog w = .ok false w := by kernel_rfl
theorem ag4 (w : World) : (isAgg 4).run Tryz.prog w = .ok false w := by kernel_rfl
theorem ag24 (w : World) : (isAgg 24).run Tryz.prog w = .ok false w := by kernel_rfl
theorem ag35 (w : World) : (isAgg 35).run Tryz.prog w = .ok false w := by kernel_rfl
theorem ag37 (w : World) : (isAgg 37).run Tryz.prog w = .ok false w := by kernel_rfl
theorem ag90 (w : World) : (isAgg 90).run Tryz.prog w = .ok false w := by kernel_rfl
theorem ag50 (w : World) : (isAgg 50).run Tryz.prog w = .ok true w := by kernel_rfl
theorem ag47 (w : World) : (isAgg 47).run Tryz.prog w = .ok true w := by kernel_rfl
theorem ag23 (w : World) : (isAgg 23).run Tryz.prog w = .ok true w := by kernel_rfl
theorem ag61 (w : World) : (isAgg 61).run Tryz.prog w = .ok true w := by kernel_rfl
theorem sz3 : ((Tryz.prog.info? 3).map fun i => i.size) = some 1 := by kernel_rfl
theorem sz24 : ((Tryz.prog.info? 24).map fun i => i.size) = some 1 := by kernel_rfl
theorem sz50 : ((Tryz.prog.info? 50).map fun i => i.size) = some 2 := by kernel_rfl
theorem sz47 : ((Tryz.prog.info? 47).map fun i => i.size) = some 3 := by kernel_rfl
theorem sz23 : ((Tryz.prog.info? 23).map fun i => i.size) = some 4 := by kernel_rfl
theorem sz61 : ((Tryz.prog.info? 61).map fun i => i.size) = some 2 := by kernel_rfl
end Go.Proofs.YtncfgkhbenmpoaaGreatDoor
end

section
namespace Go.Proofs.YtncfgkhbenmpoaaGreatDoor
open Go Go.RowKit Go.Proofs
set_option linter.unusedVariables false

def inB (x lo hi : Int) : Bool := decide (lo ≤ x) && decide (x ≤ hi)

theorem inB_true {x lo hi : Int} (h1 : lo ≤ x) (h2 : x ≤ hi) : inB x lo hi = true := by simp [inB, h1, h2]
theorem inB_lo {x lo hi : Int} (h : ¬ lo ≤ x) : inB x lo hi = false := by simp [inB, h]
theorem inB_hi {x lo hi : Int} (h : ¬ x ≤ hi) : inB x lo hi = false := by simp [inB, h]

theorem c90 (x lo hi : Int) (w : World) :
    Calls Tryz.prog 90 #[.int .i64 x, .int .i64 lo, .int .i64 hi] w fun e w' => e = .returned (.bool (inB x lo hi)) ∧ w = w' := by
  by_cases h1 : lo ≤ x
  · by_cases h2 : x ≤ hi
    · have HB := Lib.hid (inB_true h1 h2)
      go_enter Tryz.func90, Tryz.ntmps90
      go_wp2
      go_ret
      exact ⟨by rw [HB.out]; rfl, rfl⟩
    · have HB := Lib.hid (inB_hi (lo := lo) h2)
      go_enter Tryz.func90, Tryz.ntmps90
      go_wp2
      go_ret
      exact ⟨by rw [HB.out]; rfl, rfl⟩
  · have HB := Lib.hid (inB_lo (hi := hi) h1)
    go_enter Tryz.func90, Tryz.ntmps90
    go_wp2
    go_ret
    exact ⟨by rw [HB.out]; rfl, rfl⟩
end Go.Proofs.YtncfgkhbenmpoaaGreatDoor
end

section
namespace Go.Proofs.YtncfgkhbenmpoaaGreatDoor
open Go Go.RowKit Go.Proofs
set_option linter.unusedVariables false

/-- how many of the first k steps are changes -/
def chg (xs : List Int) : Nat → Int
  | 0 => 0
  | k + 1 => chg xs k + if gi xs k = gi xs ((k + 1) % xs.length) then 0 else 1

theorem chg_le (xs : List Int) (k : Nat) : 0 ≤ chg xs k ∧ chg xs k ≤ k := by
  induction k with
  | zero => simp [chg]
  | succ k ih => simp only [chg]; split <;> omega

set_option maxRecDepth 100000 in
set_option maxHeartbeats 400000 in
theorem c117 (p : Option Addr) (cap : Nat) (xs : List Int) (w : World) (hx : RdI w p xs) (hl : xs.length ≤ 1000000) :
    Calls Tryz.prog 117 #[.slice p xs.length cap] w fun e w' => e = .returned (.int .i64 (chg xs xs.length)) ∧ ∃ n, w' = w.drewN n := by
  go_enter Tryz.func117, Tryz.ntmps117
  go_wp2
  go_loopw [3, 7] (fun n i wr => ∃ k : Nat, k ≤ xs.length ∧ i = .int .i64 k ∧ n = .int .i64 (chg xs k) ∧ ∃ m, wr = w.drewN m) (fun _ i _ => xs.length - (intOf i).toNat)
  case atStart => exact ⟨0, by omega, rfl, rfl, 0, by rfl⟩
  case round =>
    obtain ⟨k, hk, rfl, rfl, m, rfl⟩ := hrel
    have hle := chg_le xs k
    by_cases hlt : k < xs.length
    · obtain ⟨b, off, rfl, hc⟩ := hx.at hlt
      have h1 := hc k hlt
      have h2 := hc ((k + 1) % xs.length) (Nat.mod_lt _ (by omega))
      have hmd := Nat.mod_lt (k + 1) (show 0 < xs.length by omega)
      have HM := nat_emod k xs.length
      clear hc hx
      by_cases he : gi xs k = gi xs ((k + 1) % xs.length)
      · have HC := Lib.hid (show chg xs (k + 1) = chg xs k by simp only [chg]; rw [if_pos he]; omega)
        have he' : (gi xs k != gi xs ((k + 1) % xs.length)) = false := by simp [he]
        clear he
        go_wp2
        refine wp_region_quiet_lit (by kernel_rfl) (by kernel_rfl) ?_; (repeat (first | (rw [HM]) | ((with_reducible apply wq_ix Tryz.underlying24 sz3); (focus rfl); (focus rfl); (focus rfl); (focus omega); (try simp only [Nat.mul_one]); go_frame) | ((with_reducible apply wq_ix Tryz.underlying37 sz50); (focus rfl); (focus rfl); (focus rfl); (focus omega); (try simp only [Nat.mul_one]); go_frame) | ((with_reducible apply wq_ix Tryz.underlying35 sz47); (focus rfl); (focus rfl); (focus rfl); (focus omega); (try simp only [Nat.mul_one]); go_frame) | ((with_reducible apply wq_ix Tryz.underlying90 sz24); (focus rfl); (focus rfl); (focus rfl); (focus omega); (try simp only [Nat.mul_one]); go_frame) | ((with_reducible apply wq_ld ag3); (focus rfl); (focus rfl); (focus (rintro _ ⟨_, rfl⟩; first | exact h1 | exact h2)); go_frame) | ((with_reducible apply wq_ld ag24); (focus rfl); (focus rfl); (focus (rintro _ ⟨_, rfl⟩; first | exact h1 | exact h2)); go_frame) | ((with_reducible apply wq_ld ag37); (focus rfl); (focus rfl); (focus (rintro _ ⟨_, rfl⟩; first | exact h1 | exact h2)); go_frame) | ((with_reducible apply wq_ld ag90); (focus rfl); (focus rfl); (focus (rintro _ ⟨_, rfl⟩; first | exact h1 | exact h2)); go_frame) | ((with_reducible apply wq_ld ag35); (focus rfl); (focus rfl); (focus (rintro _ ⟨_, rfl⟩; first | exact h1 | exact h2)); go_frame) | ((with_reducible apply wq_add); (focus rfl); (focus rfl); (focus rfl); (focus omega); (focus omega); go_frame) | ((with_reducible apply wq_sub); (focus rfl); (focus rfl); (focus rfl); (focus omega); (focus omega); go_frame) | ((with_reducible apply wq_mul); (focus rfl); (focus rfl); (focus rfl); (focus omega); (focus omega); go_frame) | ((with_reducible apply wq_rem); (focus rfl); (focus rfl); (focus rfl); (focus omega); (focus omega); go_frame) | ((with_reducible apply wq_eql); (focus rfl); (focus rfl); (focus rfl); go_frame) | ((with_reducible apply wq_neq); (focus rfl); (focus rfl); (focus rfl); go_frame) | ((with_reducible apply wq_lss); (focus rfl); (focus rfl); (focus rfl); go_frame) | ((with_reducible apply wq_leq); (focus rfl); (focus rfl); (focus rfl); go_frame) | ((with_reducible apply wq_gtr); (focus rfl); (focus rfl); (focus rfl); go_frame) | ((with_reducible apply wq_geq); (focus rfl); (focus rfl); (focus rfl); go_frame) | ((with_reducible apply wq_max2); (focus rfl); (focus rfl); (focus rfl); go_frame) | ((with_reducible apply wq_min2); (focus rfl); (focus rfl); (focus rfl); go_frame) | ((with_reducible apply wq_max3); (focus rfl); (focus rfl); (focus rfl); (focus rfl); go_frame) | ((with_reducible apply wq_min3); (focus rfl); (focus rfl); (focus rfl); (focus rfl); go_frame) | go_big_quiet_step (fail))); refine wpQuiet_nil ?_; rintro _ ⟨nq, rfl⟩
        go_wp2
        go_roundw
        case rel => exact ⟨k + 1, by omega, by go_num, by rw [HC.out], _, rfl⟩
        case measure => simp [intOf]; omega
      · have HC := Lib.hid (show chg xs (k + 1) = chg xs k + 1 by simp only [chg]; rw [if_neg he])
        have he' : (gi xs k != gi xs ((k + 1) % xs.length)) = true := by simp [he]
        clear he
        go_wp2
        refine wp_region_quiet_lit (by kernel_rfl) (by kernel_rfl) ?_; (repeat (first | (rw [HM]) | ((with_reducible apply wq_ix Tryz.underlying24 sz3); (focus rfl); (focus rfl); (focus rfl); (focus omega); (try simp only [Nat.mul_one]); go_frame) | ((with_reducible apply wq_ix Tryz.underlying37 sz50); (focus rfl); (focus rfl); (focus rfl); (focus omega); (try simp only [Nat.mul_one]); go_frame) | ((with_reducible apply wq_ix Tryz.underlying35 sz47); (focus rfl); (focus rfl); (focus rfl); (focus omega); (try simp only [Nat.mul_one]); go_frame) | ((with_reducible apply wq_ix Tryz.underlying90 sz24); (focus rfl); (focus rfl); (focus rfl); (focus omega); (try simp only [Nat.mul_one]); go_frame) | ((with_reducible apply wq_ld ag3); (focus rfl); (focus rfl); (focus (rintro _ ⟨_, rfl⟩; first | exact h1 | exact h2)); go_frame) | ((with_reducible apply wq_ld ag24); (focus rfl); (focus rfl); (focus (rintro _ ⟨_, rfl⟩; first | exact h1 | exact h2)); go_frame) | ((with_reducible apply wq_ld ag37); (focus rfl); (focus rfl); (focus (rintro _ ⟨_, rfl⟩; first | exact h1 | exact h2)); go_frame) | ((with_reducible apply wq_ld ag90); (focus rfl); (focus rfl); (focus (rintro _ ⟨_, rfl⟩; first | exact h1 | exact h2)); go_frame) | ((with_reducible apply wq_ld ag35); (focus rfl); (focus rfl); (focus (rintro _ ⟨_, rfl⟩; first | exact h1 | exact h2)); go_frame) | ((with_reducible apply wq_add); (focus rfl); (focus rfl); (focus rfl); (focus omega); (focus omega); go_frame) | ((with_reducible apply wq_sub); (focus rfl); (focus rfl); (focus rfl); (focus omega); (focus omega); go_frame) | ((with_reducible apply wq_mul); (focus rfl); (focus rfl); (focus rfl); (focus omega); (focus omega); go_frame) | ((with_reducible apply wq_rem); (focus rfl); (focus rfl); (focus rfl); (focus omega); (focus omega); go_frame) | ((with_reducible apply wq_eql); (focus rfl); (focus rfl); (focus rfl); go_frame) | ((with_reducible apply wq_neq); (focus rfl); (focus rfl); (focus rfl); go_frame) | ((with_reducible apply wq_lss); (focus rfl); (focus rfl); (focus rfl); go_frame) | ((with_reducible apply wq_leq); (focus rfl); (focus rfl); (focus rfl); go_frame) | ((with_reducible apply wq_gtr); (focus rfl); (focus rfl); (focus rfl); go_frame) | ((with_reducible apply wq_geq); (focus rfl); (focus rfl); (focus rfl); go_frame) | ((with_reducible apply wq_max2); (focus rfl); (focus rfl); (focus rfl); go_frame) | ((with_reducible apply wq_min2); (focus rfl); (focus rfl); (focus rfl); go_frame) | ((with_reducible apply wq_max3); (focus rfl); (focus rfl); (focus rfl); (focus rfl); go_frame) | ((with_reducible apply wq_min3); (focus rfl); (focus rfl); (focus rfl); (focus rfl); go_frame) | go_big_quiet_step (fail))); refine wpQuiet_nil ?_; rintro _ ⟨nq, rfl⟩
        go_wp2
        go_roundw
        case rel => exact ⟨k + 1, by omega, by go_num, by rw [HC.out], _, rfl⟩
        case measure => simp [intOf]; omega
    · go_wp2
      go_ret
      obtain rfl : k = xs.length := by omega
      exact ⟨rfl, m, rfl⟩
end Go.Proofs.YtncfgkhbenmpoaaGreatDoor
end

section
namespace Go.Proofs.YtncfgkhbenmpoaaGreatDoor
open Go Go.RowKit Go.Proofs
set_option linter.unusedVariables false

theorem c87 (x lo hi : Int) (w : World) :
    Calls Tryz.prog 87 #[.int .i64 x, .int .i64 lo, .int .i64 hi] w fun e w' => e = .returned (.bool (inB x lo hi)) ∧ w = w' := by
  by_cases h1 : lo ≤ x
  · by_cases h2 : x ≤ hi
    · have HB := Lib.hid (inB_true h1 h2)
      go_enter Tryz.func87, Tryz.ntmps87
      go_wp2
      go_ret
      exact ⟨by rw [HB.out]; rfl, rfl⟩
    · have HB := Lib.hid (inB_hi (lo := lo) h2)
      go_enter Tryz.func87, Tryz.ntmps87
      go_wp2
      go_ret
      exact ⟨by rw [HB.out]; rfl, rfl⟩
  · have HB := Lib.hid (inB_lo (hi := hi) h1)
    go_enter Tryz.func87, Tryz.ntmps87
    go_wp2
    go_ret
    exact ⟨by rw [HB.out]; rfl, rfl⟩

theorem c93 (x : Int) (w : World) : Calls Tryz.prog 93 #[.int .i64 x] w fun e w' => e = .returned (.bool (inB x 0 30)) ∧ w = w' := by
  go_enter Tryz.func93, Tryz.ntmps93
  go_wp2_with (go_at_call 90; refine (c90 _ _ _ _).mono ?_; rintro e w' ⟨rfl, rfl⟩)
  go_ret
  exact ⟨rfl, rfl⟩

theorem c127 (x : Int) (w : World) : Calls Tryz.prog 127 #[.int .i64 x] w fun e w' => e = .returned (.bool (!inB x 0 30)) ∧ w = w' := by
  go_enter Tryz.func127, Tryz.ntmps127
  go_wp2_with (go_at_call 93; refine (c93 _ _).mono ?_; rintro e w' ⟨rfl, rfl⟩)
  go_ret
  exact ⟨rfl, rfl⟩

/-- the first k numbers are heights -/
def HtsTo (xs : List Int) (k : Nat) : Prop := ∀ j, j < k → inB (gi xs j) 0 30 = true
theorem htsTo_zero (xs : List Int) : HtsTo xs 0 := fun j hj => by omega
theorem HtsTo.succ {xs : List Int} {k : Nat} (h : HtsTo xs k) (h1 : inB (gi xs k) 0 30 = true) : HtsTo xs (k + 1) := fun j hj => by
  rcases Nat.lt_or_ge j k with h2 | h2
  · exact h j h2
  · obtain rfl : j = k := by omega
    exact h1

/-- the index of the first number that is no height; -1, if all are -/
def FirstBad (xs : List Int) (r : Int) : Prop := (r = -1 ∧ HtsTo xs xs.length) ∨ (0 ≤ r ∧ ∃ j, j < xs.length ∧ inB (gi xs j) 0 30 = false)
def FirstBadPost (xs : List Int) (w : World) (e : Ending) (w' : World) : Prop := ∃ r : Int, FirstBad xs r ∧ e = .returned (.int .i64 r) ∧ w = w'

set_option maxRecDepth 100000 in
theorem c150 (p : Option Addr) (cap : Nat) (xs : List Int) (w : World) (hx : RdI w p xs) (hl : xs.length ≤ 17592186044416) :
    Calls Tryz.prog 150 #[.slice p xs.length cap, .func (.func 127) #[] #[]] w (FirstBadPost xs w) := by
  go_enter Tryz.func150, Tryz.ntmps150
  go_wp2
  go_loop [8] (fun i => ∃ k : Nat, k ≤ xs.length ∧ i = .int .i64 k ∧ HtsTo xs k) (fun i => xs.length - (intOf i).toNat)
  case atStart => exact ⟨0, by omega, rfl, htsTo_zero xs⟩
  case round =>
    obtain ⟨k, hk, rfl, hh⟩ := hrel
    have HH := Lib.hid hh
    clear hh
    by_cases hlt : k < xs.length
    · obtain ⟨b, off, rfl, hc⟩ := hx.at hlt
      have h1 := hc k hlt
      clear hc hx
      cases hb : inB (gi xs k) 0 30 with
      | true =>
        have HB := Lib.hid hb
        have hnb : (!inB (gi xs k) 0 30) = false := by simp [hb]
        clear hb
        go_wp2_with (go_at_call 127; refine (c127 _ _).mono ?_; rintro e w' ⟨rfl, rfl⟩)
        go_round
        case rel => exact ⟨k + 1, by omega, by go_num, HH.out.succ HB.out⟩
        case measure => simp [intOf]; omega
      | false =>
        have HB := Lib.hid hb
        have hnb : (!inB (gi xs k) 0 30) = true := by simp [hb]
        clear hb
        go_wp2_with (go_at_call 127; refine (c127 _ _).mono ?_; rintro e w' ⟨rfl, rfl⟩)
        go_ret
        exact ⟨k, .inr ⟨by omega, k, hlt, HB.out⟩, rfl, rfl⟩
    · obtain rfl : k = xs.length := by omega
      go_wp2
      go_ret
      exact ⟨-1, .inl ⟨rfl, HH.out⟩, rfl, rfl⟩
end Go.Proofs.YtncfgkhbenmpoaaGreatDoor
end

section
namespace Go.Proofs.YtncfgkhbenmpoaaGreatDoor
open Go Go.RowKit Go.Proofs
set_option linter.unusedVariables false

def hts (xs : List Int) : Bool := xs.all fun x => inB x 0 30
def camB (xs : List Int) : Bool := inB xs.length 3 24 && hts xs
def ruleB (lo hi sl ch : Int) : Bool := inB lo 0 30 && inB hi 0 30 && decide (lo ≤ hi) && inB sl 0 30 && inB ch 0 24

theorem hts_iff (xs : List Int) : HtsTo xs xs.length ↔ hts xs = true := by
  unfold hts HtsTo
  rw [List.all_eq_true]
  constructor
  · intro h x hx
    obtain ⟨j, hj, rfl⟩ := List.mem_iff_getElem.1 hx
    have := h j hj
    unfold gi at this
    simpa [hj] using this
  · intro h j hj
    exact h _ (gi_mem xs j hj)
theorem hts_false {xs : List Int} {j : Nat} (hj : j < xs.length) (h : inB (gi xs j) 0 30 = false) : hts xs = false := by
  cases hh : hts xs with
  | false => rfl
  | true => rw [(hts_iff xs).2 hh j hj] at h; cases h

theorem c126 (p : Option Addr) (cap : Nat) (xs : List Int) (w : World) (hx : RdI w p xs) (hl : xs.length ≤ 17592186044416) :
    Calls Tryz.prog 126 #[.slice p xs.length cap, .func (.func 127) #[] #[]] w fun e w' => e = .returned (.bool (!hts xs)) ∧ w = w' := by
  go_enter Tryz.func126, Tryz.ntmps126
  go_wp2_with fail
  refine (c150 p cap xs w hx hl).mono ?_
  rintro e w' ⟨r, hr, rfl, rfl⟩
  rcases hr with ⟨rfl, hh⟩ | ⟨h0, j, hj, hb⟩
  · have HB := Lib.hid ((hts_iff xs).1 hh)
    clear hh hx
    go_wp2
    go_ret
    exact ⟨by rw [HB.out]; rfl, rfl⟩
  · have HB := Lib.hid (hts_false hj hb)
    clear hb hx
    go_wp2
    go_ret
    exact ⟨by rw [HB.out]; simp, rfl⟩

theorem c83 (p : Option Addr) (cap : Nat) (xs : List Int) (w : World) (hx : RdI w p xs) (hl : xs.length ≤ 17592186044416) :
    Calls Tryz.prog 83 #[.slice p xs.length cap] w fun e w' => e = .returned (.bool (camB xs)) ∧ w = w' := by
  cases hb : inB xs.length 3 24 with
  | true =>
    have HB := Lib.hid hb
    go_enter Tryz.func83, Tryz.ntmps83
    go_wp2_with (first | (go_at_call 90; refine (c90 _ _ _ _).mono ?_; rintro e w' ⟨rfl, rfl⟩) | (go_at_call 126; refine (c126 p cap xs _ hx hl).mono ?_; rintro e w' ⟨rfl, rfl⟩))
    go_ret
    exact ⟨by unfold camB; rw [HB.out]; simp, rfl⟩
  | false =>
    have HB := Lib.hid hb
    go_enter Tryz.func83, Tryz.ntmps83
    go_wp2_with (first | (go_at_call 90; refine (c90 _ _ _ _).mono ?_; rintro e w' ⟨rfl, rfl⟩))
    go_ret
    exact ⟨by unfold camB; rw [HB.out]; simp, rfl⟩

set_option maxRecDepth 100000 in
theorem c28 (p : Option Addr) (cap : Nat) (xs : List Int) (w : World) (hx : RdI w p xs) (hl : xs.length ≤ 17592186044416) :
    Calls Tryz.prog 28 #[.slice p xs.length cap] w fun e w' => e = .returned (.bool (camB xs)) ∧ w = w' := by
  go_enter Tryz.func28, Tryz.ntmps28
  go_wp2
  go_loop [3] (fun i => ∃ k : Nat, k ≤ xs.length ∧ i = .int .i64 k ∧ HtsTo xs k) (fun i => xs.length - (intOf i).toNat)
  case atStart => exact ⟨0, by omega, rfl, htsTo_zero xs⟩
  case round =>
    obtain ⟨k, hk, rfl, hh⟩ := hrel
    have HH := Lib.hid hh
    clear hh
    by_cases hlt : k < xs.length
    · obtain ⟨b, off, rfl, hc⟩ := hx.at hlt
      have h1 := hc k hlt
      clear hc hx
      cases hb : inB (gi xs k) 0 30 with
      | true =>
        have HB := Lib.hid hb
        go_wp2_with (go_at_call 87; refine (c87 _ _ _ _).mono ?_; rintro e w' ⟨rfl, rfl⟩)
        go_round
        case rel => exact ⟨k + 1, by omega, by go_num, HH.out.succ HB.out⟩
        case measure => simp [intOf]; omega
      | false =>
        have HB := Lib.hid (hts_false hlt hb)
        go_wp2_with (go_at_call 87; refine (c87 _ _ _ _).mono ?_; rintro e w' ⟨rfl, rfl⟩)
        go_ret
        exact ⟨by unfold camB; rw [HB.out]; simp, rfl⟩
    · obtain rfl : k = xs.length := by omega
      have HB := Lib.hid ((hts_iff xs).1 HH.out)
      go_wp2_with (go_at_call 87; refine (c87 _ _ _ _).mono ?_; rintro e w' ⟨rfl, rfl⟩)
      go_ret
      exact ⟨by unfold camB; rw [HB.out]; simp, rfl⟩

theorem below_alloc1 (w : World) (o : Obj) : Below w.heap.size w (w.alloc o) := (Below.refl _ _).alloc (Nat.le_refl _) _

set_option maxRecDepth 100000 in
theorem c82 (lo hi sl ch : Int) (w : World) :
    Calls Tryz.prog 82 #[.agg #[.int .i64 lo, .int .i64 hi, .int .i64 sl, .int .i64 ch]] w fun e w' => e = .returned (.bool (ruleB lo hi sl ch)) ∧ Below w.heap.size w w' := by
  cases h1 : inB lo 0 30
  · go_enter Tryz.func82, Tryz.ntmps82
    go_wp2_with (first | (go_at_call 93; refine (c93 _ _).mono ?_; rintro e w' ⟨rfl, rfl⟩) | (go_at_call 90; refine (c90 _ _ _ _).mono ?_; rintro e w' ⟨rfl, rfl⟩))
    go_ret
    exact ⟨by unfold ruleB; rw [h1]; simp, below_alloc1 _ _⟩
  cases h2 : inB hi 0 30
  · go_enter Tryz.func82, Tryz.ntmps82
    go_wp2_with (first | (go_at_call 93; refine (c93 _ _).mono ?_; rintro e w' ⟨rfl, rfl⟩) | (go_at_call 90; refine (c90 _ _ _ _).mono ?_; rintro e w' ⟨rfl, rfl⟩))
    go_ret
    exact ⟨by unfold ruleB; rw [h1, h2]; simp, below_alloc1 _ _⟩
  by_cases h3 : lo ≤ hi
  case neg =>
    have H3 := Lib.hid (decide_eq_false h3)
    go_enter Tryz.func82, Tryz.ntmps82
    go_wp2_with (first | (go_at_call 93; refine (c93 _ _).mono ?_; rintro e w' ⟨rfl, rfl⟩) | (go_at_call 90; refine (c90 _ _ _ _).mono ?_; rintro e w' ⟨rfl, rfl⟩))
    go_ret
    exact ⟨by unfold ruleB; rw [h1, h2, H3.out]; simp, below_alloc1 _ _⟩
  cases h4 : inB sl 0 30
  · go_enter Tryz.func82, Tryz.ntmps82
    go_wp2_with (first | (go_at_call 93; refine (c93 _ _).mono ?_; rintro e w' ⟨rfl, rfl⟩) | (go_at_call 90; refine (c90 _ _ _ _).mono ?_; rintro e w' ⟨rfl, rfl⟩))
    go_ret
    exact ⟨by unfold ruleB; rw [h1, h2, decide_eq_true h3, h4]; simp, below_alloc1 _ _⟩
  · go_enter Tryz.func82, Tryz.ntmps82
    go_wp2_with (first | (go_at_call 93; refine (c93 _ _).mono ?_; rintro e w' ⟨rfl, rfl⟩) | (go_at_call 90; refine (c90 _ _ _ _).mono ?_; rintro e w' ⟨rfl, rfl⟩))
    go_ret
    exact ⟨by unfold ruleB; rw [h1, h2, decide_eq_true h3, h4]; simp, below_alloc1 _ _⟩
end Go.Proofs.YtncfgkhbenmpoaaGreatDoor
end

section
namespace Go.Proofs.YtncfgkhbenmpoaaGreatDoor
open Go Go.RowKit Go.Proofs
set_option linter.unusedVariables false

theorem ruleB_eq (lo hi sl ch : Int) : ruleB lo hi sl ch = (decide (lo ≥ 0) && decide (lo ≤ hi) && decide (hi ≤ 30) && inB sl 0 30 && inB ch 0 24) := by
  have e : (inB lo 0 30 && inB hi 0 30 && decide (lo ≤ hi)) = (decide (lo ≥ 0) && decide (lo ≤ hi) && decide (hi ≤ 30)) := by
    unfold inB
    rw [Bool.eq_iff_iff]; simp only [Bool.and_eq_true, decide_eq_true_eq]; omega
  unfold ruleB
  rw [e]

set_option maxRecDepth 100000 in
theorem c27 (lo hi sl ch : Int) (w : World) :
    Calls Tryz.prog 27 #[.agg #[.int .i64 lo, .int .i64 hi, .int .i64 sl, .int .i64 ch]] w fun e w' => e = .returned (.bool (ruleB lo hi sl ch)) ∧ Below w.heap.size w w' := by
  by_cases h1 : lo ≥ 0
  case neg =>
    have H := Lib.hid (decide_eq_false h1)
    go_enter Tryz.func27, Tryz.ntmps27
    go_wp2_with (first | (go_at_call 87; refine (c87 _ _ _ _).mono ?_; rintro e w' ⟨rfl, rfl⟩))
    go_ret
    exact ⟨by rw [ruleB_eq, H.out]; simp, below_alloc1 _ _⟩
  by_cases h2 : lo ≤ hi
  case neg =>
    have H := Lib.hid (decide_eq_false h2)
    go_enter Tryz.func27, Tryz.ntmps27
    go_wp2_with (first | (go_at_call 87; refine (c87 _ _ _ _).mono ?_; rintro e w' ⟨rfl, rfl⟩))
    go_ret
    exact ⟨by rw [ruleB_eq, H.out]; simp, below_alloc1 _ _⟩
  by_cases h3 : hi ≤ 30
  case neg =>
    have H := Lib.hid (decide_eq_false h3)
    go_enter Tryz.func27, Tryz.ntmps27
    go_wp2_with (first | (go_at_call 87; refine (c87 _ _ _ _).mono ?_; rintro e w' ⟨rfl, rfl⟩))
    go_ret
    exact ⟨by rw [ruleB_eq, H.out]; simp, below_alloc1 _ _⟩
  cases h4 : inB sl 0 30
  · go_enter Tryz.func27, Tryz.ntmps27
    go_wp2_with (first | (go_at_call 87; refine (c87 _ _ _ _).mono ?_; rintro e w' ⟨rfl, rfl⟩))
    go_ret
    exact ⟨by rw [ruleB_eq, h4]; simp, below_alloc1 _ _⟩
  · go_enter Tryz.func27, Tryz.ntmps27
    go_wp2_with (first | (go_at_call 87; refine (c87 _ _ _ _).mono ?_; rintro e w' ⟨rfl, rfl⟩))
    go_ret
    exact ⟨by rw [ruleB_eq, decide_eq_true h1, decide_eq_true h2, decide_eq_true h3, h4]; simp, below_alloc1 _ _⟩

set_option maxRecDepth 100000 in
theorem c66 (lo hi sl ch : Int) (w : World) :
    Calls Tryz.prog 66 #[.agg #[.int .i64 lo, .int .i64 hi, .int .i64 sl, .int .i64 ch]] w fun e w' => e = .returned (.int .i64 (if ruleB lo hi sl ch then 0 else 2)) ∧ Below w.heap.size w w' := by
  cases h1 : ruleB lo hi sl ch
  · have HR := Lib.hid h1
    clear h1
    go_enter Tryz.func66, Tryz.ntmps66
    go_wp2_with (first | (go_at_call 82; refine (c82 _ _ _ _ _).mono ?_; rw [HR.out]; rintro e w' ⟨rfl, hb⟩))
    go_ret
    exact ⟨rfl, (below_alloc1 _ _).trans (hb.mono (by simp))⟩
  · have HR := Lib.hid h1
    clear h1
    go_enter Tryz.func66, Tryz.ntmps66
    go_wp2_with (first | (go_at_call 82; refine (c82 _ _ _ _ _).mono ?_; rw [HR.out]; rintro e w' ⟨rfl, hb⟩))
    go_ret
    exact ⟨rfl, (below_alloc1 _ _).trans (hb.mono (by simp))⟩

set_option maxRecDepth 100000 in
theorem c113 (p : Option Addr) (cap : Nat) (xs : List Int) (q : Option Addr) (cap' : Nat) (ys : List Int) (w : World) (hx : RdI w p xs) (hl : xs.length ≤ 17592186044416) (hy : RdI w q ys) (hl' : ys.length ≤ 17592186044416) :
    Calls Tryz.prog 113 #[.slice p xs.length cap, .slice q ys.length cap'] w fun e w' => e = .returned (.bool (camB xs && camB ys && decide (xs.length = ys.length))) ∧ w = w' := by
  have HX := Lib.hid hx
  have HY := Lib.hid hy
  clear hx hy
  cases h1 : camB xs
  · have H1 := Lib.hid h1
    clear h1
    go_enter Tryz.func113, Tryz.ntmps113
    go_wp2_with (first | (go_at_call 83; refine (c83 p cap xs _ HX.out hl).mono ?_; rw [H1.out]; rintro e w' ⟨rfl, rfl⟩))
    go_ret
    exact ⟨by simp, rfl⟩
  cases h2 : camB ys
  · have H1 := Lib.hid h1
    have H2 := Lib.hid h2
    clear h1 h2
    go_enter Tryz.func113, Tryz.ntmps113
    go_wp2_with fail
    refine (c83 p cap xs _ HX.out hl).mono ?_
    rw [H1.out]; rintro e w' ⟨rfl, rfl⟩
    go_wp2_with fail
    refine (c83 q cap' ys _ HY.out hl').mono ?_
    rw [H2.out]; rintro e w' ⟨rfl, rfl⟩
    go_wp2_with fail
    go_ret
    exact ⟨by simp, rfl⟩
  · have H1 := Lib.hid h1
    have H2 := Lib.hid h2
    clear h1 h2
    by_cases h3 : xs.length = ys.length
    · have H3 := Lib.hid h3
      have h3' : ((xs.length : Int) == (ys.length : Int)) = true := by simp [h3]
      clear h3
      go_enter Tryz.func113, Tryz.ntmps113
      go_wp2_with fail
      refine (c83 p cap xs _ HX.out hl).mono ?_
      rw [H1.out]; rintro e w' ⟨rfl, rfl⟩
      go_wp2_with fail
      refine (c83 q cap' ys _ HY.out hl').mono ?_
      rw [H2.out]; rintro e w' ⟨rfl, rfl⟩
      go_wp2_with fail
      go_ret
      exact ⟨by simp [H3.out], rfl⟩
    · have H3 := Lib.hid h3
      have h3' : ((xs.length : Int) == (ys.length : Int)) = false := by simp; omega
      clear h3
      go_enter Tryz.func113, Tryz.ntmps113
      go_wp2_with fail
      refine (c83 p cap xs _ HX.out hl).mono ?_
      rw [H1.out]; rintro e w' ⟨rfl, rfl⟩
      go_wp2_with fail
      refine (c83 q cap' ys _ HY.out hl').mono ?_
      rw [H2.out]; rintro e w' ⟨rfl, rfl⟩
      go_wp2_with fail
      go_ret
      exact ⟨by simp [H3.out], rfl⟩
end Go.Proofs.YtncfgkhbenmpoaaGreatDoor
end

section
namespace Go.Proofs.YtncfgkhbenmpoaaGreatDoor
open Go Go.RowKit Go.Proofs
set_option linter.unusedVariables false

def sizeF (n : Int) : Int := max n (-n)
theorem sizeF_range (n : Int) : 0 ≤ sizeF n ∧ n ≤ sizeF n ∧ -n ≤ sizeF n ∧ (sizeF n = n ∨ sizeF n = -n) := by unfold sizeF; omega

theorem c112 (n : Int) (w : World) (h : -1000000000 ≤ n ∧ n ≤ 1000000000) : Calls Tryz.prog 112 #[.int .i64 n] w fun e w' => e = .returned (.int .i64 (sizeF n)) ∧ w = w' := by
  obtain ⟨h1, h2⟩ := h
  have hn := w64 (-n) (by omega) (by omega)
  go_enter Tryz.func112, Tryz.ntmps112
  go_wp2
  all_goals (go_ret; refine ⟨?_, rfl⟩; unfold sizeF; congr 2; simp; (try split) <;> omega)

/-- the greatest of the first k differences -/
def errTo (xs ys : List Int) : Nat → Int
  | 0 => 0
  | k + 1 => max (errTo xs ys k) (sizeF (gi xs k - gi ys k))

theorem errTo_range (xs ys : List Int) (B : Int) : ∀ k : Nat, (∀ j, j < k → -B ≤ gi xs j - gi ys j ∧ gi xs j - gi ys j ≤ B) → 0 ≤ B → 0 ≤ errTo xs ys k ∧ errTo xs ys k ≤ B := by
  intro k
  induction k with
  | zero => intro _ h; simp [errTo, h]
  | succ k ih =>
    intro h hB
    have h1 := ih (fun j hj => h j (by omega)) hB
    have h2 := h k (by omega)
    have h3 := sizeF_range (gi xs k - gi ys k)
    simp only [errTo]; omega

theorem hts_at {xs : List Int} (h : hts xs = true) {j : Nat} (hj : j < xs.length) : 0 ≤ gi xs j ∧ gi xs j ≤ 30 := by
  have := (hts_iff xs).2 h j hj
  unfold inB at this
  simpa using this
theorem camB_parts {xs : List Int} (h : camB xs = true) : 3 ≤ xs.length ∧ xs.length ≤ 24 ∧ hts xs = true := by
  unfold camB inB at h
  simp only [Bool.and_eq_true, decide_eq_true_eq] at h
  exact ⟨by omega, by omega, h.2⟩
theorem camB_at {xs : List Int} (h : camB xs = true) {j : Nat} (hj : j < xs.length) : 0 ≤ gi xs j ∧ gi xs j ≤ 30 := hts_at (camB_parts h).2.2 hj

def ErrPost (xs ys : List Int) (w : World) (e : Ending) (w' : World) : Prop := e = .returned (.tuple #[.int .i64 (errTo xs ys xs.length), .int .i64 0]) ∧ w = w'

set_option maxRecDepth 100000 in
theorem c58_ok (p : Option Addr) (cap : Nat) (xs : List Int) (q : Option Addr) (cap' : Nat) (ys : List Int) (w : World) (hx : RdI w p xs) (hy : RdI w q ys) (h1 : camB xs = true) (h2 : camB ys = true) (h3 : xs.length = ys.length) :
    Calls Tryz.prog 58 #[.slice p xs.length cap, .slice q ys.length cap'] w (ErrPost xs ys w) := by
  have HX := Lib.hid hx
  have HY := Lib.hid hy
  have H1 := Lib.hid h1
  have H2 := Lib.hid h2
  have H3 := Lib.hid h3
  have hl := camB_parts h1
  have hl1 : xs.length ≤ 24 := hl.2.1
  have hle := camB_parts h2
  have hl2 : ys.length ≤ 24 := hle.2.1
  have h3' : ((xs.length : Int) == (ys.length : Int)) = true := by simp [h3]
  have h3'' : ((xs.length : Int) != (ys.length : Int)) = false := by simp [h3]
  clear hx hy h1 h2 h3 hl hle
  go_enter Tryz.func58, Tryz.ntmps58
  go_wp2_with fail
  refine (c83 p cap xs _ HX.out (by omega)).mono ?_
  rw [H1.out]; rintro e w' ⟨rfl, rfl⟩
  go_wp2_with fail
  refine (c83 q cap' ys _ HY.out (by omega)).mono ?_
  rw [H2.out]; rintro e w' ⟨rfl, rfl⟩
  go_wp2_with fail
  go_loop [6, 26] (fun n i => ∃ k : Nat, k ≤ xs.length ∧ i = .int .i64 k ∧ n = .int .i64 (errTo xs ys k)) (fun _ i => xs.length - (intOf i).toNat)
  case atStart => exact ⟨0, by omega, rfl, rfl⟩
  case round =>
    obtain ⟨k, hk, rfl, rfl⟩ := hrel
    by_cases hlt : k < xs.length
    · obtain ⟨b, off, rfl, hc⟩ := HX.out.at hlt
      have e1 := hc k hlt
      clear hc
      have hlt2 : k < ys.length := by have := H3.out; omega
      obtain ⟨b', off', rfl, hc⟩ := HY.out.at hlt2
      have e2 := hc k hlt2
      clear hc
      have b1 := camB_at H1.out hlt
      have b2 := camB_at H2.out hlt2
      have HE := Lib.hid (show errTo xs ys (k + 1) = max (errTo xs ys k) (sizeF (gi xs k - gi ys k)) from rfl)
      go_wp2_with (go_at_call 112; refine (c112 _ _ ⟨by omega, by omega⟩).mono ?_; rintro e w' ⟨rfl, rfl⟩)
      all_goals
        go_round
        case rel => exact ⟨k + 1, by omega, by go_num, by rw [HE.out]; congr 1; first | (split <;> omega) | omega⟩
        case measure => simp [intOf]; omega
    · obtain rfl : k = xs.length := by omega
      go_wp2
      go_ret2
      exact ⟨rfl, rfl⟩
end Go.Proofs.YtncfgkhbenmpoaaGreatDoor
end

section
namespace Go.Proofs.YtncfgkhbenmpoaaGreatDoor
open Go Go.RowKit Go.Proofs
set_option linter.unusedVariables false
attribute [local go_sem] imax2 imin2

/-- the cells of spans -/
def spV : List (Int × Int) → List Value
  | [] => []
  | s :: r => .int .i64 s.1 :: .int .i64 s.2 :: spV r
theorem spV_append (a b : List (Int × Int)) : spV (a ++ b) = spV a ++ spV b := by
  induction a with
  | nil => rfl
  | cons s r ih => simp [spV, ih]
theorem spV_length (a : List (Int × Int)) : (spV a).length = a.length * 2 := by
  induction a with
  | nil => rfl
  | cons s r ih => simp [spV, ih]; omega
def gs (ss : List (Int × Int)) (i : Nat) : Int × Int := ss.getD i (0, 0)
theorem spV_get (ss : List (Int × Int)) : ∀ i, i < ss.length → (spV ss)[i * 2]? = some (.int .i64 (gs ss i).1) ∧ (spV ss)[i * 2 + 1]? = some (.int .i64 (gs ss i).2) := by
  induction ss with
  | nil => intro i h; simp at h
  | cons s r ih =>
    intro i h
    cases i with
    | zero => exact ⟨rfl, rfl⟩
    | succ i =>
      have := ih i (by simpa using h)
      rw [show (i + 1) * 2 = i * 2 + 2 by omega]
      exact this

/-- numbers, as cells -/
def inV (xs : List Int) : List Value := xs.map (Value.int .i64)
theorem inV_append (a b : List Int) : inV (a ++ b) = inV a ++ inV b := by simp [inV]
theorem inV_length (a : List Int) : (inV a).length = a.length := by simp [inV]
theorem inV_get (xs : List Int) (i : Nat) (h : i < xs.length) : (inV xs)[i]? = some (.int .i64 (gi xs i)) := by
  unfold inV gi; simp [h]

/-- A slice of spans at this address reads as these spans. -/
def RdS (w : World) (p : Option Addr) (ss : List (Int × Int)) : Prop :=
  ss = [] ∨ ∃ b off, p = some ⟨b, off, none⟩ ∧ ∀ i, i < ss.length → w.cell? ⟨b, off + i * 2, none⟩ = some (.int .i64 (gs ss i).1) ∧ w.cell? ⟨b, off + i * 2 + 1, none⟩ = some (.int .i64 (gs ss i).2)
theorem RdS.at {w : World} {p : Option Addr} {ss : List (Int × Int)} (h : RdS w p ss) {i : Nat} (hi : i < ss.length) :
    ∃ b off, p = some ⟨b, off, none⟩ ∧ ∀ i, i < ss.length → w.cell? ⟨b, off + i * 2, none⟩ = some (.int .i64 (gs ss i).1) ∧ w.cell? ⟨b, off + i * 2 + 1, none⟩ = some (.int .i64 (gs ss i).2) := by
  rcases h with h | h
  · subst h; simp at hi
  · exact h
theorem RdS.below {w w' : World} {p : Option Addr} {ss : List (Int × Int)} (h : RdS w p ss) (hb : Below w.heap.size w w') : RdS w' p ss := by
  rcases h with h | ⟨b, off, rfl, hc⟩
  · exact .inl h
  · refine .inr ⟨b, off, rfl, fun i hi => ?_⟩
    obtain ⟨h1, h2⟩ := hc i hi
    exact ⟨(hb.cell (lt_of_cellq h1)).trans h1, (hb.cell (lt_of_cellq h2)).trans h2⟩

/-- what an owned row of numbers reads as -/
theorem rd_of_own {w : World} {base : Nat} {v : Value} {xs : List Int} (h : w.ownsRow base 3 1 v xs.length (inV xs)) :
    ∃ p cap, v = .slice p xs.length cap ∧ RdI w p xs := by
  rcases h.2 with ⟨rfl, h0⟩ | ⟨g, cap, cur, rfl, hb, hg, hnc, hcm, hsz, htk⟩
  · have : xs = [] := List.length_eq_zero_iff.1 h0
    subst this
    exact ⟨none, 0, rfl, .inl rfl⟩
  · refine ⟨some ⟨g, 0, none⟩, cap, rfl, .inr ⟨g, 0, rfl, fun i hi => ?_⟩⟩
    have := h.cells (g := g) rfl i _ (inV_get xs i hi)
    have hadd : (⟨g, 0, none⟩ : Addr).add i = ⟨g, 0 + i, none⟩ := by unfold Addr.add; split <;> simp_all
    rwa [hadd] at this
theorem rds_of_own {w : World} {base : Nat} {v : Value} {ss : List (Int × Int)} (h : w.ownsRow base 50 2 v ss.length (spV ss)) :
    ∃ p cap, v = .slice p ss.length cap ∧ RdS w p ss := by
  rcases h.2 with ⟨rfl, h0⟩ | ⟨g, cap, cur, rfl, hb, hg, hnc, hcm, hsz, htk⟩
  · have : ss = [] := List.length_eq_zero_iff.1 h0
    subst this
    exact ⟨none, 0, rfl, .inl rfl⟩
  · refine ⟨some ⟨g, 0, none⟩, cap, rfl, .inr ⟨g, 0, rfl, fun i hi => ?_⟩⟩
    obtain ⟨e1, e2⟩ := spV_get ss i hi
    have h1 := h.cells (g := g) rfl _ _ e1
    have h2 := h.cells (g := g) rfl _ _ e2
    have hadd : ∀ j, (⟨g, 0, none⟩ : Addr).add j = ⟨g, 0 + j, none⟩ := fun j => by unfold Addr.add; split <;> simp_all
    rw [hadd] at h1 h2
    exact ⟨h1, by rw [show 0 + i * 2 + 1 = 0 + (i * 2 + 1) by omega]; exact h2⟩

theorem info3 : (Tryz.prog.info? 3).map (fun i => (i.zero, i.size, i.bytes)) = some (some (.int .i64 0), 1, 8) := by kernel_rfl
theorem info50 : (Tryz.prog.info? 50).map (fun i => (i.zero, i.size, i.bytes)) = some (some (.agg #[.int .i64 0, .int .i64 0]), 2, 16) := by kernel_rfl

theorem at_new (w : World) (cs : Array Value) (t : TypeId) (j : Nat) : (w.alloc (.cells cs t)).cell? ⟨w.heap.size, j, none⟩ = cs[j]? := by
  have h : (w.alloc (.cells cs t)).heap[w.heap.size]? = some (.cells cs t) := by show (w.heap.push _)[w.heap.size]? = _; simp
  simp only [World.cell?, h]
  rfl
theorem add_new (n j : Nat) : (⟨n, 0, none⟩ : Addr).add j = ⟨n, j, none⟩ := by unfold Addr.add; split <;> simp_all
theorem news_of (w : World) (cs : List Value) (t : TypeId) : ∀ j u, cs[j]? = some u → (w.alloc (.cells cs.toArray t)).cell? ((⟨w.heap.size, 0, none⟩ : Addr).add j) = some u := by
  intro j u hj
  rw [add_new, at_new]
  simpa using hj

/-- a struct of four numbers that is boxed -/
theorem box4 (w : World) (a b c d : Value) (t : TypeId) : ∃ w0, w.alloc (.cells #[a, b, c, d] t) = w0 ∧ Hid (w0.heap.size = w.heap.size + 1) ∧
    w0.cell? ⟨w.heap.size, 0, none⟩ = some a ∧ w0.cell? ⟨w.heap.size, 1, none⟩ = some b ∧ w0.cell? ⟨w.heap.size, 2, none⟩ = some c ∧ w0.cell? ⟨w.heap.size, 3, none⟩ = some d ∧ Below w.heap.size w w0 :=
  ⟨_, rfl, Lib.hid (by simp), by rw [at_new]; rfl, by rw [at_new]; rfl, by rw [at_new]; rfl, by rw [at_new]; rfl, below_alloc1 _ _⟩

theorem nearF_length (lo hi : Int) (want : List Int) (err : Int) : (nearF lo hi want err).length = want.length := by simp [nearF]
theorem nearF_take (lo hi : Int) (want : List Int) (err : Int) (k : Nat) (h : k < want.length) :
    nearF lo hi (want.take (k + 1)) err = nearF lo hi (want.take k) err ++ [(max lo (gi want k - err), min hi (gi want k + err))] := by
  unfold nearF gi
  rw [List.take_succ_eq_append_getElem h, List.map_append]
  congr 1; simp [h]

def NearPost (lo hi : Int) (want : List Int) (err : Int) (w : World) (e : Ending) (w' : World) : Prop :=
  ∃ p cap, e = .returned (.slice p (nearF lo hi want err).length cap) ∧ RdS w' p (nearF lo hi want err) ∧ Below w.heap.size w w'

set_option maxHeartbeats 400000 in
set_option maxRecDepth 100000 in
theorem c85 (lo hi sl ch : Int) (q : Option Addr) (cap : Nat) (want : List Int) (err : Int) (w : World) (hx : RdI w q want) (h1 : camB want = true) (h2 : -1000 ≤ err ∧ err ≤ 1000) :
    Calls Tryz.prog 85 #[.agg #[.int .i64 lo, .int .i64 hi, .int .i64 sl, .int .i64 ch], .slice q want.length cap, .int .i64 err] w (NearPost lo hi want err w) := by
  have HX := Lib.hid hx
  have H1 := Lib.hid h1
  have hl := (camB_parts h1).2.1
  obtain ⟨he1, he2⟩ := h2
  clear hx h1
  obtain ⟨i0, hi0, hz0, hz1, hz2⟩ := info_parts info50
  obtain ⟨w0, e0, HS, k0, k1, _, _, b0⟩ := box4 w (.int .i64 lo) (.int .i64 hi) (.int .i64 sl) (.int .i64 ch) 23
  go_enter Tryz.func85, Tryz.ntmps85
  go_wp2
  clear e0
  go_loopw [7, 12] (fun v i wr => ∃ k : Nat, k ≤ want.length ∧ i = .int .i64 k ∧ wr.ownsRow w0.heap.size 50 2 v k (spV (nearF lo hi (want.take k) err)) ∧ Below w0.heap.size w0 wr) (fun _ i _ => want.length - (intOf i).toNat)
  case atStart => exact ⟨0, by omega, rfl, World.ownsRow_nil _ _ _ _, Below.refl _ _⟩
  case round =>
    obtain ⟨k, hk, rfl, hown, hnx⟩ := hrel
    have HO := Lib.hid hown
    have HN := Lib.hid hnx
    by_cases hlt : k < want.length
    · obtain ⟨b, off, rfl, hc⟩ := (HX.out.below b0).at hlt
      have e1 := (hnx.cell (lt_of_cellq (hc k hlt))).trans (hc k hlt)
      have r0 := (hnx.cell (lt_of_cellq k0)).trans k0
      have r1 := (hnx.cell (lt_of_cellq k1)).trans k1
      have b1 := camB_at H1.out hlt
      have HT := Lib.hid (nearF_take lo hi want err k hlt)
      clear hc hown hnx k0 k1
      go_wp2_with (at_builtin; refine wpList_append_own _ rfl _ _ 37 rfl w0.heap.size 50 i0 _ 2 16 Tryz.underlying37 hi0 hz0 hz1 hz2 rfl (by decide) _ _ _ rfl (HO.out.alloc _) ⟨wr.heap.size, 0, none⟩ 1 1 [.int .i64 (max lo (gi want k - err)), .int .i64 (min hi (gi want k + err))] rfl rfl ?c1 ?c2 ?c3 ?c4 ?c5 ?_)
      case c1 => exact news_of _ _ _
      case c2 => intro u hu; simp at hu; rcases hu with rfl | rfl <;> rfl
      case c3 => unfold maxLen; omega
      case c4 => omega
      case c5 => have := HN.out.size; simp; omega
      intro v' w1 hown' hgrow _
      have hlt' := HO.out.lt
      have HN' := Lib.hid (HN.out.trans (((Below.refl w0.heap.size wr).alloc HN.out.size _).grown hgrow (by have := HN.out.size; simp; omega) (fun j hj => (hlt' j hj).1)))
      have HO' := Lib.hid hown'
      clear hown' hgrow hlt'
      go_wp2
      go_roundw
      case rel =>
        refine ⟨k + 1, by omega, by go_num, ?_, HN'.out⟩
        have := HO'.out
        rw [HT.out, spV_append]
        exact this
      case measure => simp [intOf]; omega
    · obtain rfl : k = want.length := by omega
      go_wp2
      obtain ⟨pp, cc, rfl, hrd⟩ := rds_of_own (ss := nearF lo hi want err) (by have := hown; rw [List.take_length] at this; rw [nearF_length]; exact this)
      go_ret
      exact ⟨pp, cc, by rw [nearF_length] at *; rfl, hrd, b0.trans (hnx.mono (by have := HS.out; omega))⟩
end Go.Proofs.YtncfgkhbenmpoaaGreatDoor
end

section
namespace Go.Proofs.YtncfgkhbenmpoaaGreatDoor
open Go Go.RowKit Go.Proofs
set_option linter.unusedVariables false
attribute [local go_sem] imax2 imin2

theorem u158 : Tryz.prog.underlying 158 = some (.slice 3) := Tryz.underlying158

set_option maxRecDepth 100000 in
theorem c153 (p : Option Addr) (cap : Nat) (xs : List Int) (w : World) (hx : RdI w p xs) (h1 : 1 ≤ xs.length) (hl : xs.length ≤ 1000000) :
    Calls Tryz.prog 153 #[.slice p xs.length cap] w fun e w' => e = .returned (.int .i64 (minTo xs xs.length)) ∧ w = w' := by
  obtain ⟨b, off, rfl, hc⟩ := hx.at h1
  have k0 := hc 0 (by omega)
  rw [Nat.add_zero] at k0
  have hp : (0 : Int) < (xs.length : Int) := by omega
  have HC := Lib.hid hc
  clear hc hx
  have HM := Lib.hid (show minTo xs 1 = gi xs 0 by simp [minTo])
  go_enter Tryz.func153, Tryz.ntmps153
  go_wp2
  go_loop [3, 4] (fun n i => ∃ k : Nat, 1 ≤ k ∧ k ≤ xs.length ∧ i = .int .i64 k ∧ n = .int .i64 (minTo xs k)) (fun _ i => xs.length - (intOf i).toNat)
  case atStart => exact ⟨1, by omega, h1, rfl, by rw [HM.out]⟩
  case round =>
    obtain ⟨k, hk1, hk, rfl, rfl⟩ := hrel
    by_cases hlt : k < xs.length
    · have e1 := HC.out k hlt
      have HE := Lib.hid (show minTo xs (k + 1) = min (minTo xs k) (gi xs k) from rfl)
      go_wp2
      go_round
      case rel => exact ⟨k + 1, by omega, by omega, by go_num, by rw [HE.out]⟩
      case measure => simp [intOf]; omega
    · obtain rfl : k = xs.length := by omega
      go_wp2
      go_ret
      exact ⟨rfl, rfl⟩
set_option maxRecDepth 100000 in
theorem c154 (p : Option Addr) (cap : Nat) (xs : List Int) (w : World) (hx : RdI w p xs) (h1 : 1 ≤ xs.length) (hl : xs.length ≤ 1000000) :
    Calls Tryz.prog 154 #[.slice p xs.length cap] w fun e w' => e = .returned (.int .i64 (maxTo xs xs.length)) ∧ w = w' := by
  obtain ⟨b, off, rfl, hc⟩ := hx.at h1
  have k0 := hc 0 (by omega)
  rw [Nat.add_zero] at k0
  have hp : (0 : Int) < (xs.length : Int) := by omega
  have HC := Lib.hid hc
  clear hc hx
  have HM := Lib.hid (show maxTo xs 1 = gi xs 0 by simp [maxTo])
  go_enter Tryz.func154, Tryz.ntmps154
  go_wp2
  go_loop [3, 4] (fun n i => ∃ k : Nat, 1 ≤ k ∧ k ≤ xs.length ∧ i = .int .i64 k ∧ n = .int .i64 (maxTo xs k)) (fun _ i => xs.length - (intOf i).toNat)
  case atStart => exact ⟨1, by omega, h1, rfl, by rw [HM.out]⟩
  case round =>
    obtain ⟨k, hk1, hk, rfl, rfl⟩ := hrel
    by_cases hlt : k < xs.length
    · have e1 := HC.out k hlt
      have HE := Lib.hid (show maxTo xs (k + 1) = max (maxTo xs k) (gi xs k) from rfl)
      go_wp2
      go_round
      case rel => exact ⟨k + 1, by omega, by omega, by go_num, by rw [HE.out]⟩
      case measure => simp [intOf]; omega
    · obtain rfl : k = xs.length := by omega
      go_wp2
      go_ret
      exact ⟨rfl, rfl⟩

theorem c139 (p : Option Addr) (cap : Nat) (xs : List Int) (w : World) (hx : RdI w p xs) (h1 : 1 ≤ xs.length) (hl : xs.length ≤ 1000000) :
    Calls Tryz.prog 139 #[.slice p xs.length cap] w fun e w' => e = .returned (.int .i64 (minTo xs xs.length)) ∧ w = w' := by
  go_enter Tryz.func139, Tryz.ntmps139
  go_wp2_with (go_at_call 153; refine (c153 p cap xs _ hx h1 hl).mono ?_; rintro e w' ⟨rfl, rfl⟩)
  go_ret
  exact ⟨rfl, rfl⟩
theorem c140 (p : Option Addr) (cap : Nat) (xs : List Int) (w : World) (hx : RdI w p xs) (h1 : 1 ≤ xs.length) (hl : xs.length ≤ 1000000) :
    Calls Tryz.prog 140 #[.slice p xs.length cap] w fun e w' => e = .returned (.int .i64 (maxTo xs xs.length)) ∧ w = w' := by
  go_enter Tryz.func140, Tryz.ntmps140
  go_wp2_with (go_at_call 154; refine (c154 p cap xs _ hx h1 hl).mono ?_; rintro e w' ⟨rfl, rfl⟩)
  go_ret
  exact ⟨rfl, rfl⟩

theorem c100 (x : Int) (w : World) : Calls Tryz.prog 100 #[.int .i64 x] w fun e w' => e = .returned (.bool (inB x 0 5)) ∧ w = w' := by
  go_enter Tryz.func100, Tryz.ntmps100
  go_wp2_with (go_at_call 90; refine (c90 _ _ _ _).mono ?_; rintro e w' ⟨rfl, rfl⟩)
  go_ret
  exact ⟨rfl, rfl⟩
end Go.Proofs.YtncfgkhbenmpoaaGreatDoor
end

section
namespace Go.Proofs.YtncfgkhbenmpoaaGreatDoor
open Go Go.RowKit Go.Proofs
set_option linter.unusedVariables false

def EndsPost (xs : List Int) (f : Nat) (w : World) (e : Ending) (w' : World) : Prop :=
  ∃ p0 c0 p1 c1, e = .returned (.agg #[.slice p0 xs.length c0, .slice p1 xs.length c1]) ∧ RdI w' p0 (underF xs f) ∧ RdI w' p1 (followF xs f) ∧ Below w.heap.size w w'

/-- the parts of what lies there: the slices va (ka numbers) and vb (kb numbers), and a block N that is neither one's -/
structure EK (xs : List Int) (f : Nat) (w wr : World) (va vb : Value) (ka kb N : Nat) : Prop where
  at1 : wr.heap[w.heap.size + 1]? = some (.cells #[va, vb] 125 (0, 0))
  at0 : wr.heap[w.heap.size]? = some (.cells #[.slice none 0 0, .slice none 0 0] 125 (0, 0))
  owna : wr.ownsRow (w.heap.size + 2) 3 1 va ka (inV ((underF xs f).take ka))
  ownb : wr.ownsRow (w.heap.size + 2) 3 1 vb kb (inV ((followF xs f).take kb))
  ne : va.ownBlock = none ∨ va.ownBlock ≠ vb.ownBlock
  bl : Below w.heap.size w wr
  sz : w.heap.size + 2 ≤ wr.heap.size
  na : va.ownBlock ≠ some N
  nb : vb.ownBlock ≠ some N
  hN : w.heap.size + 2 ≤ N
def EI (xs : List Int) (f : Nat) (w wr : World) (k : Nat) : Prop :=
  ∃ va vb, wr.heap[w.heap.size + 1]? = some (.cells #[va, vb] 125 (0, 0)) ∧ wr.heap[w.heap.size]? = some (.cells #[.slice none 0 0, .slice none 0 0] 125 (0, 0)) ∧
    wr.ownsRow (w.heap.size + 2) 3 1 va k (inV ((underF xs f).take k)) ∧ wr.ownsRow (w.heap.size + 2) 3 1 vb k (inV ((followF xs f).take k)) ∧
    (va.ownBlock = none ∨ va.ownBlock ≠ vb.ownBlock) ∧ Below w.heap.size w wr ∧ w.heap.size + 2 ≤ wr.heap.size
/-- the block N holds these numbers -/
def RdB (w : World) (N : Nat) (xs : List Int) : Prop := N < w.heap.size ∧ ∀ i, i < xs.length → w.cell? ⟨N, 0 + i, none⟩ = some (.int .i64 (gi xs i))
theorem RdB.rd {w : World} {N : Nat} {xs : List Int} (h : RdB w N xs) : RdI w (some ⟨N, 0, none⟩) xs := .inr ⟨N, 0, rfl, h.2⟩
theorem RdB.same {w w' : World} {N : Nat} {xs : List Int} (h : RdB w N xs) (e : w'.heap[N]? = w.heap[N]?) (hs : w.heap.size ≤ w'.heap.size) : RdB w' N xs :=
  ⟨by have := h.1; omega, fun i hi => (World.cell?_of_block (a := ⟨N, 0 + i, none⟩) e).trans (h.2 i hi)⟩

theorem block_lt {w : World} {b : Nat} {o : Obj} (h : w.heap[b]? = some o) : b < w.heap.size := (Array.getElem?_eq_some_iff.1 h).1
theorem alloc_new (w : World) (o : Obj) : (w.alloc o).heap[w.heap.size]? = some o := by show (w.heap.push _)[w.heap.size]? = _; simp
theorem alloc_old (w : World) (o : Obj) {k : Nat} {x : Obj} (h : w.heap[k]? = some x) : (w.alloc o).heap[k]? = some x := by
  show (w.heap.push _)[k]? = _; rw [Array.getElem?_push_lt (block_lt h)]; exact (Array.getElem?_eq_getElem (block_lt h)).symm.trans h

theorem EI_start (xs : List Int) (f : Nat) (w : World) : EI xs f w ((w.alloc (.cells #[.slice none 0 0, .slice none 0 0] 125)).alloc (.cells #[.slice none 0 0, .slice none 0 0] 125)) 0 := by
  refine ⟨.slice none 0 0, .slice none 0 0, ?_, ?_, ?_, ?_, .inl rfl, (below_alloc1 _ _).alloc (by simp) _, by simp⟩
  · have := alloc_new (w.alloc (.cells #[.slice none 0 0, .slice none 0 0] 125)) (.cells #[.slice none 0 0, .slice none 0 0] 125)
    simpa using this
  · exact alloc_old _ _ (alloc_new _ _)
  · exact World.ownsRow_nil _ _ _ _
  · exact World.ownsRow_nil _ _ _ _

theorem cg_around (xs : List Int) (z : Int) (h : 0 < xs.length) : gi xs ((z.tmod xs.length + xs.length) % xs.length).toNat = cg xs z := by
  rw [(around_ix z xs.length (by omega)).2.2]; rfl

/-- what another foot's gathering leaves is there still -/
theorem EI.part {xs : List Int} {f : Nat} {w wo wr : World} {k N : Nat} (h : EI xs f w wo k) (hb : Below wo.heap.size wo wr) (hN : wo.heap.size ≤ N) : ∃ va vb, EK xs f w wr va vb k k N := by
  obtain ⟨va, vb, g1, g2, g3, g4, g5, g6, g7⟩ := h
  have grow : wo.grownBy wr none := ⟨hb.os, hb.tape, hb.output, hb.size, fun k hk _ => hb.block k hk⟩
  refine ⟨va, vb, (hb.block _ (by omega)).trans g1, (hb.block _ (by omega)).trans g2, g3.kept grow ?_, g4.kept grow ?_, g5, g6.trans (hb.mono (by omega)), by have := hb.size; omega, ?_, ?_, by omega⟩
  · cases va.ownBlock <;> simp
  · cases vb.ownBlock <;> simp
  · intro e; have := g3.lt N e; omega
  · intro e; have := g4.lt N e; omega
theorem EK.whole {xs : List Int} {f : Nat} {w wr : World} {va vb : Value} {k N : Nat} (h : EK xs f w wr va vb k k N) : EI xs f w wr k :=
  ⟨va, vb, h.at1, h.at0, h.owna, h.ownb, h.ne, h.bl, h.sz⟩

theorem inV_under (xs : List Int) (f k : Nat) (h : k < xs.length) : inV ((underF xs f).take (k + 1)) = inV ((underF xs f).take k) ++ [.int .i64 (mn xs k f)] := by
  rw [List.take_succ_eq_append_getElem (by simpa using h)]
  unfold inV; rw [List.map_append]
  congr 1; simp; rw [← gi_underF xs f k h]; unfold gi; simp [h]
theorem inV_follow (xs : List Int) (f k : Nat) (h : k < xs.length) : inV ((followF xs f).take (k + 1)) = inV ((followF xs f).take k) ++ [.int .i64 (mx xs k f)] := by
  rw [List.take_succ_eq_append_getElem (by simpa using h)]
  unfold inV; rw [List.map_append]
  congr 1; simp; rw [← gi_followF xs f k h]; unfold gi; simp [h]

/-- one number more: a cell allocated, the row grown, its slice stored -/
theorem EK.keep {xs : List Int} {f : Nat} {w wr w1 : World} {va vb v : Value} {ka kb N : Nat} (h : EK xs f w wr va vb ka kb N) {o : Obj} (hgrow : (wr.alloc o).grownBy w1 v.ownBlock) (hv : ∀ k, v.ownBlock = some k → w.heap.size + 2 ≤ k) :
    w1.heap[w.heap.size + 1]? = some (.cells #[va, vb] 125 (0, 0)) ∧ w1.heap[w.heap.size]? = some (.cells #[.slice none 0 0, .slice none 0 0] 125 (0, 0)) ∧ Below w.heap.size w w1 ∧ wr.heap.size + 1 ≤ w1.heap.size := by
  have hs := h.sz
  have hg := hgrow.size
  simp at hg
  refine ⟨(hgrow.block _ (by simp; omega) ?_).trans (alloc_old _ _ h.at1), (hgrow.block _ (by simp; omega) ?_).trans (alloc_old _ _ h.at0), (h.bl.alloc (by omega) _).grown hgrow (by simp; omega) (fun k hk => by have := hv k hk; omega), hg⟩
  · intro e; have := hv _ e.symm; omega
  · intro e; have := hv _ e.symm; omega

theorem EK.stepA {xs : List Int} {f : Nat} {w wr w1 : World} {va vb : Value} {ka kb N : Nat} (h : EK xs f w wr va vb ka kb N) {o : Obj} {win : List Int} (hw : RdB wr N win)
    {g cap : Nat} (hk : ka < xs.length) (hown : w1.ownsRow (w.heap.size + 2) 3 1 (.slice (some ⟨g, 0, none⟩) (ka + 1) cap) (ka + 1) (inV ((underF xs f).take ka) ++ [.int .i64 (mn xs ka f)]))
    (hgrow : (wr.alloc o).grownBy w1 va.ownBlock) (hat : va.ownBlock = some g ∨ g = wr.heap.size + 1) :
    EK xs f w (w1.setCell ⟨w.heap.size + 1, 0, none⟩ (.slice (some ⟨g, 0, none⟩) (ka + 1) cap)) (.slice (some ⟨g, 0, none⟩) (ka + 1) cap) vb (ka + 1) kb N ∧ RdB (w1.setCell ⟨w.heap.size + 1, 0, none⟩ (.slice (some ⟨g, 0, none⟩) (ka + 1) cap)) N win := by
  have la := h.owna.lt
  have lb := h.ownb.lt
  obtain ⟨k1, k0, bl, hs⟩ := h.keep hgrow (fun k hk => (la k hk).1)
  have hN := hw.1
  have hN2 := h.hN
  have hna := h.na
  have hsz := h.sz
  have hne := h.ne
  refine ⟨⟨?_, ?_, ?_, ?_, ?_, ?_, ?_, ?_, h.nb, h.hN⟩, hw.same ?_ (by simp; omega)⟩
  · rw [heap_setCell_same _ _ _ _ _ _ k1]; rfl
  · rw [heap_setCell_other _ _ _ _ (by show w.heap.size ≠ w.heap.size + 1; omega)]; exact k0
  · rw [inV_under xs f ka hk]; exact ownsRow_setCell_below hown (by show w.heap.size + 1 < _; omega) _
  · refine ownsRow_setCell_below ((h.ownb.alloc o).kept hgrow ?_) (by show w.heap.size + 1 < _; omega) _
    rcases hne with e | e
    · rw [e]; cases vb.ownBlock <;> simp
    · exact .inr e.symm
  · show some g = none ∨ some g ≠ vb.ownBlock
    right
    intro e
    have := lb g e.symm
    rcases hat with e1 | e1
    · rcases hne with e2 | e2
      · rw [e2] at e1; cases e1
      · exact e2 (e1.trans e)
    · omega
  · exact bl.setCell (by show w.heap.size ≤ w.heap.size + 1; omega) _
  · simp; omega
  · show some g ≠ some N
    intro e
    rcases hat with e1 | e1
    · exact hna (e1.trans e)
    · cases e; omega
  · rw [heap_setCell_other _ _ _ _ (by show N ≠ w.heap.size + 1; omega), hgrow.block N (by simp; omega) (fun e => hna e.symm)]
    exact Below.heap_alloc _ _ _ hN
theorem EK.stepB {xs : List Int} {f : Nat} {w wr w1 : World} {va vb : Value} {ka kb N : Nat} (h : EK xs f w wr va vb ka kb N) {o : Obj} {win : List Int} (hw : RdB wr N win)
    {g cap : Nat} (hk : kb < xs.length) (hown : w1.ownsRow (w.heap.size + 2) 3 1 (.slice (some ⟨g, 0, none⟩) (kb + 1) cap) (kb + 1) (inV ((followF xs f).take kb) ++ [.int .i64 (mx xs kb f)]))
    (hgrow : (wr.alloc o).grownBy w1 vb.ownBlock) (hat : vb.ownBlock = some g ∨ g = wr.heap.size + 1) :
    EK xs f w (w1.setCell ⟨w.heap.size + 1, 1, none⟩ (.slice (some ⟨g, 0, none⟩) (kb + 1) cap)) va (.slice (some ⟨g, 0, none⟩) (kb + 1) cap) ka (kb + 1) N ∧ RdB (w1.setCell ⟨w.heap.size + 1, 1, none⟩ (.slice (some ⟨g, 0, none⟩) (kb + 1) cap)) N win := by
  have la := h.owna.lt
  have lb := h.ownb.lt
  obtain ⟨k1, k0, bl, hs⟩ := h.keep hgrow (fun k hk => (lb k hk).1)
  have hN := hw.1
  have hN2 := h.hN
  have hnb := h.nb
  have hsz := h.sz
  have hne := h.ne
  refine ⟨⟨?_, ?_, ?_, ?_, ?_, ?_, ?_, h.na, ?_, h.hN⟩, hw.same ?_ (by simp; omega)⟩
  · rw [heap_setCell_same _ _ _ _ _ _ k1]; rfl
  · rw [heap_setCell_other _ _ _ _ (by show w.heap.size ≠ w.heap.size + 1; omega)]; exact k0
  · exact ownsRow_setCell_below ((h.owna.alloc o).kept hgrow hne) (by show w.heap.size + 1 < _; omega) _
  · rw [inV_follow xs f kb hk]; exact ownsRow_setCell_below hown (by show w.heap.size + 1 < _; omega) _
  · show va.ownBlock = none ∨ va.ownBlock ≠ some g
    rcases hne with e2 | e2
    · exact .inl e2
    right
    intro e
    have := la g e
    rcases hat with e1 | e1
    · exact e2 (e.trans e1.symm)
    · omega
  · exact bl.setCell (by show w.heap.size ≤ w.heap.size + 1; omega) _
  · simp; omega
  · show some g ≠ some N
    intro e
    rcases hat with e1 | e1
    · exact hnb (e1.trans e)
    · cases e; omega
  · rw [heap_setCell_other _ _ _ _ (by show N ≠ w.heap.size + 1; omega), hgrow.block N (by simp; omega) (fun e => hnb e.symm)]
    exact Below.heap_alloc _ _ _ hN
end Go.Proofs.YtncfgkhbenmpoaaGreatDoor
end

section
namespace Go.Proofs.YtncfgkhbenmpoaaGreatDoor
open Go Go.RowKit Go.Proofs
set_option linter.unusedVariables false

theorem ix160 (a b : Value) (w : World) : (Instr.index 160 (.agg #[a, b]) (.int .i64 0)).run Tryz.prog w = .ok a w := by
  simp [Instr.index, run_underlying Tryz.underlying160, asIntOf, go_sem]
theorem ix160' (a b : Value) (w : World) : (Instr.index 160 (.agg #[a, b]) (.int .i64 1)).run Tryz.prog w = .ok b w := by
  simp [Instr.index, run_underlying Tryz.underlying160, asIntOf, go_sem]
end Go.Proofs.YtncfgkhbenmpoaaGreatDoor
end

section
namespace Go.Proofs.YtncfgkhbenmpoaaGreatDoor
open Go Go.RowKit Go.Proofs
set_option linter.unusedVariables false
attribute [local go_sem] imax2 imin2 ix160 ix160'

set_option maxHeartbeats 1000000 in
set_option maxRecDepth 100000 in
theorem c101 (q : Option Addr) (cap : Nat) (xs : List Int) (f : Nat) (w : World) (hx : RdI w q xs) (h1 : camB xs = true) (h2 : f ≤ 5) :
    Calls Tryz.prog 101 #[.slice q xs.length cap, .int .i64 f] w (EndsPost xs f w) := by
  have HX := Lib.hid hx
  have H1 := Lib.hid h1
  have hl := (camB_parts h1).2.1
  have hl3 := (camB_parts h1).1
  clear hx h1
  obtain ⟨i0, hi0, hz0, hz1, hz2⟩ := info_parts info3
  go_enter Tryz.func101, Tryz.ntmps101
  go_wp2
  have HE := Lib.hid (EI_start xs f w)
  generalize (w.alloc (.cells #[.slice none 0 0, .slice none 0 0] 125)).alloc (.cells #[.slice none 0 0, .slice none 0 0] 125) = w0 at *
  go_loopw [14] (fun i wr => ∃ k : Nat, k ≤ xs.length ∧ i = .int .i64 k ∧ EI xs f w wr k) (fun i _ => xs.length - (intOf i).toNat)
  case atStart => exact ⟨0, by omega, rfl, HE.out⟩
  case round =>
    obtain ⟨k, hk, rfl, hei⟩ := hrel
    have HI := Lib.hid hei
    clear hei
    by_cases hlt : k < xs.length
    · go_wp2
      obtain ⟨wo, rfl⟩ : ∃ wo : World, wo = wr := ⟨_, rfl⟩
      go_loopw [7, 8] (fun v z w2 => ∃ j : Nat, j ≤ 2 * f + 1 ∧ z = .int .i64 ((j : Int) - f) ∧ w2.ownsRow wo.heap.size 3 1 v j (inV (winTo xs k f j)) ∧ Below wo.heap.size wo w2) (fun _ z _ => 2 * f + 1 - (intOf z + f).toNat)
      case atStart => exact ⟨0, by omega, by simp, World.ownsRow_nil _ _ _ _, Below.refl _ _⟩
      case round =>
        obtain ⟨j, hj, rfl, hown, hnx⟩ := hrel
        have HO := Lib.hid hown
        have HN := Lib.hid hnx
        clear hown hnx
        by_cases hjl : j < 2 * f + 1
        · obtain ⟨b, off, rfl, hc⟩ := HX.out.at hlt
          have t6 := Int.add_emod_right (((k : Int) + ((j : Int) - (f : Int))).tmod xs.length) (xs.length : Int)
          have t4 := Int.emod_nonneg (((k : Int) + ((j : Int) - (f : Int))).tmod xs.length) (show (xs.length : Int) ≠ 0 by omega)
          have t5 := Int.emod_lt_of_pos (((k : Int) + ((j : Int) - (f : Int))).tmod xs.length) (show (0 : Int) < xs.length by omega)
          obtain ⟨t1, t2, _⟩ := around_ix ((k : Int) + ((j : Int) - (f : Int))) xs.length (by omega)
          have e1 := hc ((((k : Int) + ((j : Int) - (f : Int))).tmod xs.length) % xs.length).toNat (by omega)
          rw [← t6, cg_around _ _ (by omega), t6] at e1
          have hb : b < w.heap.size := lt_of_cellq (hc 0 (by omega))
          obtain ⟨va, vb, g1, g2, g3, g4, g5, g6, g7⟩ := HI.out
          have e2 := (HN.out.cell (p := ⟨b, off + ((((k : Int) + ((j : Int) - (f : Int))).tmod xs.length) % xs.length).toNat, none⟩) (by show b < _; omega)).trans ((g6.cell (by show b < _; omega)).trans e1)
          clear hc e1 g1 g2 g3 g4 g5 g6 g7
          go_wp2_with (at_builtin; refine wpList_append_own _ rfl _ _ 158 rfl wo.heap.size 3 i0 _ 1 8 Tryz.underlying158 hi0 hz0 hz1 hz2 rfl (by decide) _ _ _ rfl (HO.out.alloc _) ⟨wr.heap.size, 0, none⟩ 1 1 [.int .i64 (cg xs ((k : Int) + ((j : Int) - (f : Int))))] rfl rfl ?c1 ?c2 ?c3 ?c4 ?c5 ?_)
          case c1 => exact news_of _ _ _
          case c2 => intro u hu; simp at hu; subst hu; rfl
          case c3 => unfold maxLen; omega
          case c4 => omega
          case c5 => have := HN.out.size; simp; omega
          intro v' w1 hown' hgrow _
          have hlt' := HO.out.lt
          have HN' := Lib.hid (HN.out.trans (((Below.refl wo.heap.size wr).alloc HN.out.size _).grown hgrow (by have := HN.out.size; simp; omega) (fun j hj => (hlt' j hj).1)))
          have HO' := Lib.hid hown'
          clear hown' hgrow hlt'
          go_wp2
          go_roundw
          case rel =>
            refine ⟨j + 1, by omega, by go_num, ?_, HN'.out⟩
            have := HO'.out
            rw [winTo_succ, inV_append]
            exact this
          case measure => simp [intOf]; omega
        · obtain rfl : j = 2 * f + 1 := by omega
          obtain ⟨N, c0, rfl, hN1, hN2⟩ := HO.out.form (by omega)
          have hrd : RdB wr N (winTo xs k f (2 * f + 1)) := by
            refine ⟨hN2, fun i hi => ?_⟩
            have := HO.out.cells (g := N) rfl i _ (inV_get _ i hi)
            rw [add_new] at this
            rw [Nat.zero_add]; exact this
          obtain ⟨va, vb, hek⟩ := HI.out.part HN.out hN1
          have HP := Lib.hid (show ∃ va vb, RdB wr N (winTo xs k f (2 * f + 1)) ∧ EK xs f w wr va vb k k N from ⟨va, vb, hrd, hek⟩)
          have hwl := winTo_length xs k f (2 * f + 1)
          clear hrd hek HO HN HI
          have hz8 : (f : Int) < ((2 * f + 1 : Nat) : Int) - (f : Int) := by omega
          generalize ((2 * f + 1 : Nat) : Int) - (f : Int) = z8 at *
          go_wp2
          obtain ⟨wi, rfl⟩ : ∃ wi : World, wi = wr := ⟨_, rfl⟩
          go_loopw [47] (fun i w3 => ∃ m : Nat, m ≤ 2 ∧ i = .int .i64 m ∧ ∃ va vb, RdB w3 N (winTo xs k f (2 * f + 1)) ∧ EK xs f w w3 va vb (k + min m 1) (k + (m - 1)) N) (fun i _ => 2 - (intOf i).toNat)
          case atStart => obtain ⟨va, vb, h1, h2⟩ := HP.out; exact ⟨0, by omega, rfl, va, vb, h1, h2⟩
          case round =>
            obtain ⟨m, hm, rfl, va, vb, hrd, hek⟩ := hrel
            have HR := Lib.hid hrd
            have HK := Lib.hid hek
            have HRI := Lib.hid hrd.rd
            have a0 : wr.cell? ⟨w.heap.size + 1, 0, none⟩ = some va := (cell_of_row _ _ 0 _ _ _ hek.at1).trans rfl
            have a1 : wr.cell? ⟨w.heap.size + 1, 1, none⟩ = some vb := (cell_of_row _ _ 1 _ _ _ hek.at1).trans rfl
            have fz := frozen_of_row _ _ 0 _ _ hek.at1
            have fz1 := frozen_of_row _ _ 1 _ _ hek.at1
            clear hrd hek HP HE
            have h139 := c139 (some ⟨N, 0, none⟩) c0 (winTo xs k f (2 * f + 1)) wr HRI.out (by omega) (by omega)
            have h140 := c140 (some ⟨N, 0, none⟩) c0 (winTo xs k f (2 * f + 1)) wr HRI.out (by omega) (by omega)
            rw [hwl, minTo_win] at h139
            rw [hwl, maxTo_win] at h140
            have H139 := Lib.hid h139
            have H140 := Lib.hid h140
            clear h139 h140
            rcases (by omega : m = 0 ∨ m = 1 ∨ m = 2) with rfl | rfl | rfl
            · have HQ := Lib.hid (show EK xs f w wr va vb k k N from HK.out)
              go_wp2_with fail
              refine H139.out.mono ?_
              rintro e w' ⟨rfl, rfl⟩
              go_wp2_with (at_builtin; refine wpList_append_lies _ rfl _ _ 24 rfl (w.heap.size + 2) 3 i0 _ 1 8 Tryz.underlying24 hi0 hz0 hz1 hz2 rfl (by decide) va _ _ rfl (HQ.out.owna.alloc _) ⟨wr.heap.size, 0, none⟩ 1 1 [.int .i64 (mn xs k f)] rfl rfl ?c1 ?c2 (by decide) ?c3 ?c4 ?c5 (wr.heap.size + 1) (by simp) ?_)
              case c1 => exact news_of _ _ _
              case c2 => intro u hu; simp at hu; subst hu; rfl
              case c3 => unfold maxLen; omega
              case c4 => omega
              case c5 => have := HQ.out.sz; simp; omega
              intro g cp w1 hown' hgrow hat hgl
              have HS := Lib.hid (HQ.out.stepA HR.out hlt hown' hgrow hat)
              have hkeep := HQ.out.keep hgrow (fun k hk => (HQ.out.owna.lt k hk).1)
              have hfz := frozen_of_row _ _ 0 _ _ hkeep.1
              have hce : w1.cell? ⟨w.heap.size + 1, 0, none⟩ = some va := (cell_of_row _ _ 0 _ _ _ hkeep.1).trans rfl
              have hsz1 := block_lt hkeep.1
              clear hown' hgrow hat hkeep
              go_wp2
              go_roundw
              case rel => exact ⟨1, by omega, by go_num, _, _, HS.out.2, HS.out.1⟩
              case measure => simp [intOf]
            · have HQ := Lib.hid (show EK xs f w wr va vb (k + 1) k N from HK.out)
              go_wp2_with fail
              refine H140.out.mono ?_
              rintro e w' ⟨rfl, rfl⟩
              go_wp2_with (at_builtin; refine wpList_append_lies _ rfl _ _ 24 rfl (w.heap.size + 2) 3 i0 _ 1 8 Tryz.underlying24 hi0 hz0 hz1 hz2 rfl (by decide) vb _ _ rfl (HQ.out.ownb.alloc _) ⟨wr.heap.size, 0, none⟩ 1 1 [.int .i64 (mx xs k f)] rfl rfl ?c1 ?c2 (by decide) ?c3 ?c4 ?c5 (wr.heap.size + 1) (by simp) ?_)
              case c1 => exact news_of _ _ _
              case c2 => intro u hu; simp at hu; subst hu; rfl
              case c3 => unfold maxLen; omega
              case c4 => omega
              case c5 => have := HQ.out.sz; simp; omega
              intro g cp w1 hown' hgrow hat hgl
              have HS := Lib.hid (HQ.out.stepB HR.out hlt hown' hgrow hat)
              have hkeep := HQ.out.keep hgrow (fun k hk => (HQ.out.ownb.lt k hk).1)
              have hfz := frozen_of_row _ _ 1 _ _ hkeep.1
              have hce : w1.cell? ⟨w.heap.size + 1, 1, none⟩ = some vb := (cell_of_row _ _ 1 _ _ _ hkeep.1).trans rfl
              have hsz1 := block_lt hkeep.1
              clear hown' hgrow hat hkeep
              go_wp2
              go_roundw
              case rel => exact ⟨2, by omega, by go_num, _, _, HS.out.2, HS.out.1⟩
              case measure => simp [intOf]
            · have HQ := Lib.hid (show EK xs f w wr va vb (k + 1) (k + 1) N from HK.out)
              go_wp2
              go_roundw
              case rel => exact ⟨k + 1, by omega, by go_num, HQ.out.whole⟩
              case measure => simp [intOf]; omega
    · obtain rfl : k = xs.length := by omega
      obtain ⟨va, vb, g1, g2, g3, g4, g5, g6, g7⟩ := HI.out
      have g3 : wr.ownsRow (w.heap.size + 2) 3 1 va (underF xs f).length (inV (underF xs f)) := by rw [List.take_of_length_le (by simp)] at g3; rw [underF_length]; exact g3
      have g4 : wr.ownsRow (w.heap.size + 2) 3 1 vb (followF xs f).length (inV (followF xs f)) := by rw [List.take_of_length_le (by simp)] at g4; rw [followF_length]; exact g4
      obtain ⟨p0, c0, rfl, _⟩ := rd_of_own g3
      obtain ⟨p1, c1, rfl, _⟩ := rd_of_own g4
      have G3 := Lib.hid g3
      have G4 := Lib.hid g4
      have a0 := (cell_of_row _ _ 0 _ _ _ g1).trans rfl
      have a1 := (cell_of_row _ _ 1 _ _ _ g1).trans rfl
      have b0 : wr.cell? ⟨w.heap.size, 0, none⟩ = some (.slice none 0 0) := (cell_of_row _ _ 0 _ _ _ g2).trans rfl
      have b1 : wr.cell? ⟨w.heap.size, 1, none⟩ = some (.slice none 0 0) := (cell_of_row _ _ 1 _ _ _ g2).trans rfl
      have fz := frozen_of_row _ _ 0 _ _ g2
      have fz1 := frozen_of_row _ _ 1 _ _ g2
      have hz := block_lt g1
      have HB := Lib.hid g6
      have HG := Lib.hid g2
      clear g1 g2 g3 g4 g5 g6 g7 HE
      go_wp2
      have k1 := heap_setCell_same wr w.heap.size 0 _ _ (.slice p0 (underF xs f).length c0) HG.out
      have k2 := heap_setCell_same _ w.heap.size 1 _ _ (.slice p1 (followF xs f).length c1) k1
      have r0 : _ = some (Value.slice p0 (underF xs f).length c0) := (cell_of_row _ _ 0 _ _ _ k1).trans rfl
      have r1 : _ = some (Value.slice p1 (followF xs f).length c1) := (cell_of_row _ _ 1 _ _ _ k2).trans rfl
      have o3 := ownsRow_setCell_below (ownsRow_setCell_below G3.out (a := ⟨w.heap.size, 0, none⟩) (by show w.heap.size < _; omega) (.slice p0 (underF xs f).length c0)) (a := ⟨w.heap.size, 1, none⟩) (by show w.heap.size < _; omega) (.slice p1 (followF xs f).length c1)
      have o4 := ownsRow_setCell_below (ownsRow_setCell_below G4.out (a := ⟨w.heap.size, 0, none⟩) (by show w.heap.size < _; omega) (.slice p0 (underF xs f).length c0)) (a := ⟨w.heap.size, 1, none⟩) (by show w.heap.size < _; omega) (.slice p1 (followF xs f).length c1)
      obtain ⟨p0', c0', e0, rd0⟩ := rd_of_own o3
      obtain ⟨p1', c1', e1, rd1⟩ := rd_of_own o4
      cases e0
      cases e1
      simp only [underF_length, followF_length] at r0 r1 rd0 rd1
      clear k1 k2 o3 o4
      (try simp only [Exit.inBlock, Exit.then])
      refine bodyPost_ret (v := .agg #[.slice p0 xs.length c0, .slice p1 xs.length c1]) ?_ rfl ⟨p0, c0, p1, c1, rfl, ?_, ?_, ?_⟩
      · simp [results, Tryz.results101, go_sem, r0, r1]
      · exact rd0
      · exact rd1
      · exact (HB.out.setCell (Nat.le_refl _) _).setCell (Nat.le_refl _) _
end Go.Proofs.YtncfgkhbenmpoaaGreatDoor
end

section
namespace Go.Proofs.YtncfgkhbenmpoaaGreatDoor
open Go Go.RowKit Go.Proofs
set_option linter.unusedVariables false
attribute [local go_sem] imax2 imin2

theorem ix125_0 (a b : Value) (w : World) : (Instr.index 125 (.agg #[a, b]) (.int .i64 0)).run Tryz.prog w = .ok a w := by
  simp [Instr.index, run_underlying Tryz.underlying125, asIntOf, go_sem]
theorem ix125_1 (a b : Value) (w : World) : (Instr.index 125 (.agg #[a, b]) (.int .i64 1)).run Tryz.prog w = .ok b w := by
  simp [Instr.index, run_underlying Tryz.underlying125, asIntOf, go_sem]
attribute [local go_sem] ix125_0 ix125_1

def FollowPost (xs : List Int) (f : Int) (w : World) (e : Ending) (w' : World) : Prop :=
  Below w.heap.size w w' ∧
  if (camB xs && inB f 0 5) = true then ∃ p c, e = .returned (.tuple #[.slice p xs.length c, .int .i64 0]) ∧ RdI w' p (followF xs f.toNat)
  else e = .returned (.tuple #[.slice none 0 0, .int .i64 2])

theorem c38 (q : Option Addr) (cap : Nat) (xs : List Int) (f : Int) (w : World) (hx : RdI w q xs) (hl : xs.length ≤ 17592186044416) :
    Calls Tryz.prog 38 #[.slice q xs.length cap, .int .i64 f] w (FollowPost xs f w) := by
  go_enter Tryz.func38, Tryz.ntmps38
  have h83 := c83 q cap xs w hx hl
  have h100 := c100 f w
  rcases h1 : camB xs with _ | _
  · rw [h1] at h83
    go_wp2_with fail
    refine h83.mono ?_
    rintro e w' ⟨rfl, rfl⟩
    go_wp2
    go_ret2
    exact ⟨Below.refl _ _, by simp [h1]⟩
  rw [h1] at h83
  rcases h2 : inB f 0 5 with _ | _
  · rw [h2] at h100
    go_wp2_with fail
    refine h83.mono ?_
    rintro e w' ⟨rfl, rfl⟩
    go_wp2_with fail
    refine h100.mono ?_
    rintro e w' ⟨rfl, rfl⟩
    go_wp2
    go_ret2
    exact ⟨Below.refl _ _, by simp [h1, h2]⟩
  rw [h2] at h100
  obtain ⟨g1, g2⟩ : 0 ≤ f ∧ f ≤ 5 := by unfold inB at h2; simpa using h2
  obtain ⟨f, rfl⟩ : ∃ n : Nat, f = n := ⟨f.toNat, by omega⟩
  have h101 := c101 q cap xs f w hx h1 (by omega)
  go_wp2_with fail
  refine h83.mono ?_
  rintro e w' ⟨rfl, rfl⟩
  go_wp2_with fail
  refine h100.mono ?_
  rintro e w' ⟨rfl, rfl⟩
  go_wp2_with fail
  refine h101.mono ?_
  rintro e w' ⟨p0, c0, p1, c1, rfl, r0, r1, bl⟩
  go_wp2
  go_ret2
  exact ⟨bl, by simp only [h1, h2, Bool.and_self, if_true]; exact ⟨p1, c1, rfl, r1⟩⟩
end Go.Proofs.YtncfgkhbenmpoaaGreatDoor
end

section
namespace Go.Proofs.YtncfgkhbenmpoaaGreatDoor
open Go Go.RowKit Go.Proofs
set_option linter.unusedVariables false
attribute [local go_sem] imax2 imin2 ix125_0 ix125_1

def lowTo (want fol : List Int) (e : Int) : Nat → Bool
  | 0 => false
  | k + 1 => lowTo want fol e k || decide (gi fol k < gi want k - e)
theorem lowTo_iff (want fol : List Int) (e : Int) : ∀ k, lowTo want fol e k = true ↔ ∃ j, j < k ∧ gi fol j < gi want j - e := by
  intro k
  induction k with
  | zero => simp [lowTo]
  | succ k ih =>
    simp only [lowTo, Bool.or_eq_true, decide_eq_true_eq, ih]
    constructor
    · rintro (⟨j, h1, h2⟩ | h)
      · exact ⟨j, by omega, h2⟩
      · exact ⟨k, by omega, h⟩
    · rintro ⟨j, h1, h2⟩
      by_cases hj : j < k
      · exact .inl ⟨j, hj, h2⟩
      · obtain rfl : j = k := by omega
        exact .inr h2
theorem lowTo_carve (want : List Int) (f : Nat) (e : Int) : lowTo want (followF (carveAt want f e) f) e want.length = !carveOk want f e := by
  rw [Bool.eq_iff_iff, lowTo_iff]
  unfold carveOk
  rw [Bool.not_eq_true', ← Bool.not_eq_true, List.all_eq_true]
  simp only [List.mem_range, decide_eq_true_eq, Classical.not_forall]
  constructor
  · rintro ⟨j, h1, h2⟩; exact ⟨j, h1, by omega⟩
  · rintro ⟨j, h1, h2⟩; exact ⟨j, h1, by omega⟩
theorem carveOk_30 (want : List Int) (f : Nat) (h : camB want = true) : carveOk want f 30 = true := by
  have hl := (camB_parts h).1
  rw [carveOk_iff _ _ _ (by omega)]
  intro z
  obtain ⟨j, h1, h2, h3⟩ := mx_at (carveAt want f 30) z f
  rw [h3, cg_carveAt _ _ _ (by omega)]
  have h4 := (camB_at h (cg_lt want (by omega) z)).2
  obtain ⟨i, h5, h6, h7⟩ := mn_at want (z + j) f
  have h8 := (camB_at h (cg_lt want (by omega) (z + j + i))).1
  have e1 : cg want z = gi want (z % (want.length : Int)).toNat := rfl
  have e2 : cg want (z + j + i) = gi want ((z + j + i) % (want.length : Int)).toNat := rfl
  omega
theorem mn_range (xs : List Int) (h : camB xs = true) (z : Int) (f : Nat) : 0 ≤ mn xs z f ∧ mn xs z f ≤ 30 := by
  have hl := (camB_parts h).1
  obtain ⟨i, h5, h6, h7⟩ := mn_at xs z f
  have h8 := camB_at h (cg_lt xs (by omega) (z + i))
  rw [h7]; exact h8
theorem camB_iff (xs : List Int) : camB xs = true ↔ 3 ≤ xs.length ∧ xs.length ≤ 24 ∧ ∀ x ∈ xs, 0 ≤ x ∧ x ≤ 30 := by
  unfold camB hts inB
  simp [List.all_eq_true]
  constructor
  · rintro ⟨⟨h1, h2⟩, h3⟩; exact ⟨by omega, by omega, h3⟩
  · rintro ⟨h1, h2, h3⟩; exact ⟨⟨by omega, by omega⟩, h3⟩
theorem camB_carve (want : List Int) (f : Nat) (e : Int) (h : camB want = true) (he : 0 ≤ e) : camB (carveAt want f e) = true := by
  obtain ⟨h1, h2, _⟩ := camB_parts h
  rw [camB_iff]
  refine ⟨by simp; omega, by simp; omega, fun x hx => ?_⟩
  unfold carveAt underF at hx
  simp at hx
  obtain ⟨i, hi, rfl⟩ := hx
  have := mn_range want h i f
  omega
theorem carveAt_take (want : List Int) (f : Nat) (e : Int) (k : Nat) (h : k < want.length) : inV ((carveAt want f e).take (k + 1)) = inV ((carveAt want f e).take k) ++ [.int .i64 (min 30 (gi (underF want f) k + e))] := by
  rw [List.take_succ_eq_append_getElem (by simpa using h)]
  unfold inV; rw [List.map_append]
  congr 1; simp; rw [gi_underF want f k h]; unfold carveAt underF; simp

def CarvePost (want : List Int) (f : Int) (w : World) (e : Ending) (w' : World) : Prop :=
  Below w.heap.size w w' ∧
  if (camB want && inB f 0 5) = true then
    ∃ p c, ∃ er : Nat, er ≤ 30 ∧ carveOk want f.toNat er = true ∧ (∀ k : Nat, k < er → carveOk want f.toNat k = false) ∧
      e = .returned (.tuple #[.slice p want.length c, .int .i64 er, .int .i64 0]) ∧ RdI w' p (carveAt want f.toNat er)
  else e = .returned (.tuple #[.slice none 0 0, .int .i64 0, .int .i64 2])

set_option maxHeartbeats 1000000 in
set_option maxRecDepth 100000 in
theorem c39 (q : Option Addr) (cap : Nat) (xs : List Int) (f : Int) (w : World) (hx : RdI w q xs) (hl : xs.length ≤ 17592186044416) :
    Calls Tryz.prog 39 #[.slice q xs.length cap, .int .i64 f] w (CarvePost xs f w) := by
  have h83 := c83 q cap xs w hx hl
  have h100 := c100 f w
  obtain ⟨i0, hi0, hz0, hz1, hz2⟩ := info_parts info3
  go_enter Tryz.func39, Tryz.ntmps39
  rcases h1 : camB xs with _ | _
  · rw [h1] at h83
    go_wp2_with fail
    refine h83.mono ?_
    rintro e w' ⟨rfl, rfl⟩
    go_wp2
    go_ret3
    exact ⟨Below.refl _ _, by simp [h1]⟩
  rw [h1] at h83
  rcases h2 : inB f 0 5 with _ | _
  · rw [h2] at h100
    go_wp2_with fail
    refine h83.mono ?_
    rintro e w' ⟨rfl, rfl⟩
    go_wp2_with fail
    refine h100.mono ?_
    rintro e w' ⟨rfl, rfl⟩
    go_wp2
    go_ret3
    exact ⟨Below.refl _ _, by simp [h1, h2]⟩
  rw [h2] at h100
  obtain ⟨g1, g2⟩ : 0 ≤ f ∧ f ≤ 5 := by unfold inB at h2; simpa using h2
  obtain ⟨f, rfl⟩ : ∃ n : Nat, f = n := ⟨f.toNat, by omega⟩
  have h101 := c101 q cap xs f w hx h1 (by omega)
  go_wp2_with fail
  refine h83.mono ?_
  rintro e w' ⟨rfl, rfl⟩
  go_wp2_with fail
  refine h100.mono ?_
  rintro e w' ⟨rfl, rfl⟩
  go_wp2_with fail
  refine h101.mono ?_
  rintro e w0 ⟨p0, c0, p1, c1, rfl, r0, _, bl⟩
  have HX := Lib.hid (hx.below bl)
  have HB := Lib.hid bl
  have HR := Lib.hid r0
  have H1 := Lib.hid h1
  have H2 := Lib.hid h2
  have hl24 := (camB_parts h1).2.1
  have hl3 := (camB_parts h1).1
  clear h83 h100 h101 hx bl r0 h1 h2
  go_wp2
  go_loopw [28] (fun i wr => ∃ er : Nat, er ≤ 30 ∧ i = .int .i64 er ∧ (∀ k : Nat, k < er → carveOk xs f k = false) ∧ Below w0.heap.size w0 wr) (fun i _ => 31 - (intOf i).toNat)
  case atStart => exact ⟨0, by omega, rfl, by intro k hk; omega, Below.refl _ _⟩
  case round =>
    obtain ⟨er, her, rfl, hno, hb⟩ := hrel
    have HN := Lib.hid hno
    have HW := Lib.hid hb
    clear hno hb
    have hd31 : (er : Int) < 31 := by omega
    go_wp2
    obtain ⟨wo, rfl⟩ : ∃ wo : World, wo = wr := ⟨_, rfl⟩
    go_loopw [9, 33] (fun v z w2 => ∃ k : Nat, k ≤ xs.length ∧ z = .int .i64 k ∧ w2.ownsRow wo.heap.size 3 1 v k (inV ((carveAt xs f er).take k)) ∧ Below wo.heap.size wo w2) (fun _ z _ => xs.length - (intOf z).toNat)
    case atStart => exact ⟨0, by omega, by simp, World.ownsRow_nil _ _ _ _, Below.refl _ _⟩
    case round =>
      obtain ⟨k, hk, rfl, hown, hnx⟩ := hrel
      have HO := Lib.hid hown
      have HNX := Lib.hid hnx
      clear hown hnx
      by_cases hlt : k < xs.length
      · obtain ⟨b, off, rfl, hc⟩ := HR.out.at (i := k) (by simpa using hlt)
        have e1 := hc k (by simpa using hlt)
        have e2 := (HNX.out.cell (p := ⟨b, off + k, none⟩) (by have := lt_of_cellq e1; have := HW.out.size; show b < _; simp only at *; omega)).trans ((HW.out.cell (lt_of_cellq e1)).trans e1)
        have hrg := mn_range xs H1.out k f
        rw [← gi_underF xs f k hlt] at hrg
        clear hc e1
        go_wp2_with (at_builtin; refine wpList_append_own _ rfl _ _ 24 rfl wo.heap.size 3 i0 _ 1 8 Tryz.underlying24 hi0 hz0 hz1 hz2 rfl (by decide) _ _ _ rfl (HO.out.alloc _) ⟨wr.heap.size, 0, none⟩ 1 1 [.int .i64 (min 30 (gi (underF xs f) k + er))] rfl rfl ?c1 ?c2 ?c3 ?c4 ?c5 ?_)
        case c1 => exact news_of _ _ _
        case c2 => intro u hu; simp at hu; subst hu; rfl
        case c3 => unfold maxLen; omega
        case c4 => omega
        case c5 => have := HNX.out.size; simp; omega
        intro v' w1 hown' hgrow _
        have hlt' := HO.out.lt
        have HN' := Lib.hid (HNX.out.trans (((Below.refl wo.heap.size wr).alloc HNX.out.size _).grown hgrow (by have := HNX.out.size; simp; omega) (fun j hj => (hlt' j hj).1)))
        have HO' := Lib.hid hown'
        clear hown' hgrow hlt'
        go_wp2
        go_roundw
        case rel =>
          refine ⟨k + 1, by omega, by go_num, ?_, HN'.out⟩
          have := HO'.out
          rw [carveAt_take xs f er k hlt]
          exact this
        case measure => simp [intOf]; omega
      · obtain rfl : k = xs.length := by omega
        have hown := HO.out
        rw [List.take_of_length_le (by simp)] at hown
        have hown : wr.ownsRow wo.heap.size 3 1 u9 (carveAt xs f er).length (inV (carveAt xs f er)) := by rw [carveAt_length]; exact hown
        obtain ⟨pc, cc, rfl, hrd⟩ := rd_of_own hown
        have h101 := c101 pc cc (carveAt xs f er) f wr hrd (camB_carve xs f er H1.out (by omega)) (by omega)
        have HRC := Lib.hid hrd
        clear hown hrd HO
        rw [carveAt_length] at h101
        go_wp2_with fail
        refine h101.mono ?_
        rintro e w2 ⟨p2, c2, p3, c3, rfl, _, r3, b2⟩
        have hb2 := HNX.out.size
        have HX2 := Lib.hid ((HX.out.below (HW.out)).below (HNX.out.trans (b2.mono hb2)))
        have HC2 := Lib.hid (HRC.out.below b2)
        have H3 := Lib.hid r3
        have HB2 := Lib.hid (HW.out.trans ((HNX.out.trans (b2.mono hb2)).mono HW.out.size))
        clear h101 r3 b2 HRC HNX
        simp only [carveAt_length]
        go_wp2
        go_loopw [13, 51] (fun v z w3 => ∃ k : Nat, k ≤ xs.length ∧ z = .int .i64 k ∧ v = .bool (lowTo xs (followF (carveAt xs f er) f) er k) ∧ w3 = w2) (fun _ z _ => xs.length - (intOf z).toNat)
        case atStart => exact ⟨0, by omega, rfl, rfl, rfl⟩
        case round =>
          obtain ⟨k, hk, rfl, rfl, rfl⟩ := hrel
          by_cases hlt : k < xs.length
          · obtain ⟨b, off, rfl, hc⟩ := H3.out.at (i := k) (by simpa using hlt)
            obtain ⟨b', off', rfl, hc'⟩ := HX2.out.at hlt
            have e1 := hc k (by simpa using hlt)
            have e2 := hc' k hlt
            have hrg := camB_at H1.out hlt
            clear hc hc'
            rcases hv : lowTo xs (followF (carveAt xs f er) f) er k with _ | _
            · go_wp2
              go_roundw
              case rel => exact ⟨k + 1, by omega, by go_num, by simp [lowTo, hv], trivial⟩
              case measure => simp [intOf]; omega
            · go_wp2
              go_roundw
              case rel => exact ⟨k + 1, by omega, by go_num, by simp [lowTo, hv], trivial⟩
              case measure => simp [intOf]; omega
          · obtain rfl : k = xs.length := by omega
            have hlc0 := Lib.hid (lowTo_carve xs f er)
            rcases hv : lowTo xs (followF (carveAt xs f er) f) er xs.length with _ | _
            · have hlc := Lib.hid (hlc0.out.symm.trans hv)
              clear hv
              go_wp2
              go_ret3
              refine ⟨HB.out.trans (HB2.out.mono HB.out.size), ?_⟩
              rw [if_pos (by rw [H1.out, H2.out]; rfl)]
              exact ⟨pc, cc, er, her, by simpa using hlc.out, HN.out, rfl, HC2.out⟩
            · have hlc := Lib.hid (hlc0.out.symm.trans hv)
              clear hv
              have h30 := carveOk_30 xs f H1.out
              have hlt30 : er < 30 := by
                rcases Nat.lt_or_ge er 30 with h | h
                · exact h
                · obtain rfl : er = 30 := by omega
                  have := hlc.out
                  rw [show (((30 : Nat) : Int)) = 30 from rfl, h30] at this
                  simp at this
              go_wp2
              go_roundw
              case rel =>
                refine ⟨er + 1, by omega, by go_num, fun j hj => ?_, HB2.out⟩
                rcases Nat.lt_or_ge j er with h | h
                · exact HN.out j h
                · obtain rfl : j = er := by omega
                  simpa using hlc.out
              case measure => simp [intOf]; omega
end Go.Proofs.YtncfgkhbenmpoaaGreatDoor
end
