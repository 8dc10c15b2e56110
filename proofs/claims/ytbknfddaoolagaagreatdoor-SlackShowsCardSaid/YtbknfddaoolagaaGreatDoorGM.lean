/-
  A loop over a function that hands out things whose memory it has laid: what the loop's body is told of each, and what is known of all of them behind the loop.
  Truths in memory that an iterator hands out, and what its loop keeps.
  The search for truths: where all plays are told: contract.
  The search for truths: where plays are still to be tried: contract.
  The search for truths, whole; the iterator over all truths of a piece: contracts.
  Truths, all arguments: contract.
-/
import Derived.RangeFuncWrites
import Derived.Test.YtbknfddaoolagaaGreatDoorGF
import Derived.RangeFuncNested
import Derived.RangeFuncBound
import Derived.RangeFuncCalls
import Derived.RangeFuncLeaves
import Derived.Shelf.Abstract
import Derived.Shelf.RegionOpen
import Derived.OwnWalkIn
import Derived.TacticsInMore
import Derived.LoopNIn
import Derived.LoopIn
import Derived.Deep.AppendLies
import Derived.Maps.AppendAt
section
namespace Go.Proofs.YtbknfddaoolagaaGreatDoor
open Go Go.RowKit Go.Proofs
set_option linter.unusedVariables false

def SeqMem {α : Type} (F : Fence) (n : Nat) (P : Program) (g : Nat) (lb : Array Value) (encs : α → Array Value) (Kp : World → World → Prop) (Mem : α → World → Prop) (S : List α → Prop) (N : Nat) (w : World) : Prop :=
  ∀ (l : Nat) (J : List α → World → Prop) (W : World), Below w.heap.size w W → AbidesFrom W.heap.size J →
    (∀ pre x W1, J pre W1 → Mem x W1 → pre.length < N → YieldAt F (n - 1) P l (encs x) W1 fun e W' => e = .returned (.bool true) ∧ J (pre ++ [x]) W' ∧ Kp W1 W') →
    J [] W →
    CallsIn F n P g (#[.func (.yield l) #[] #[]] ++ lb) W fun e W' => (∃ v, e = .returned v) ∧ ∃ xs, S xs ∧ J xs W' ∧ ∀ x ∈ xs, Mem x W'

def StayPost (B : Nat) (Kp : World → World → Prop) (K : World → Prop) (W : World) : Exit → Act → World → Prop
  | .normal, _, W' => KeepsFrom B W W' ∧ Kp W W' ∧ K W'
  | _, _, _ => False

theorem wpIn_rangeFunc_mem {F : Fence} {n : Nat} {P : Program} {α : Type} {g : Operand} {ps : Array Tmp} {assign body : Code} {Q : Exit → Act → World → Prop} {a : Act} {w : World}
    (hro : F.round = none) (h1 : 1 ≤ n) {gf : Nat} {lb : Array Value} (hg : a.eval g = .func (.func gf) #[] lb) (hFg : F.fn gf) (eg : ∀ args w, (callFunc gf args).run P w = .ok (.enter gf args) w)
    {encs : α → Array Value} {Kp : World → World → Prop} {Mem : α → World → Prop} {S : List α → Prop} {N : Nat} {w0 : World} (hseq : SeqMem F (n - 1) P gf lb encs Kp Mem S N w0)
    (hKt : ∀ {A B C : World}, Kp A B → Kp B C → Kp A C) (hKb : ∀ (W : World) (l : Nat) (o o' : Obj), w.heap.size ≤ l → W.heap[l]? = some o → o.isCells = false → o.isWalk = false → Kp W (W.putObj l o'))
    (hMb : ∀ (x : α) (W : World) (l : Nat) (o o' : Obj), W.heap[l]? = some o → o.isCells = false → Mem x W → Mem x (W.putObj l o')) (hb0 : Below w0.heap.size w0 w) (hps : ∀ x, (encs x).size = ps.size)
    (I : List α → World → Prop) (hI : OwnFrom w.heap.size I) (h0 : I [] w) (Ax : α → Act → World → Prop) (hAx : ∀ x a', OwnFrom w.heap.size (fun (_ : Unit) W => Ax x a' W))
    (hassign : ∀ (l : Nat) (pre : List α) (x : α) (W : World) (K : Act → World → Prop), I pre W → Mem x W → (∀ a' W', KeepsFrom w.heap.size W W' → Kp W W' → I pre W' → Mem x W' → Ax x a' W' → K a' W') →
      assign.wpIn (F.inRound l) (n - 1 - 1) P (Exit.then K (fun _ _ _ => False)) { tmps := (ps.zip (encs x)).foldl (fun t (p, v) => t.setIfInBounds p v) a.tmps, defers := [] } W)
    (hbody : ∀ (l : Nat) (pre : List α) (x : α) (a' : Act) (W : World), I pre W → Mem x W → Ax x a' W → pre.length < N → body.wpIn (F.inRound l) (n - 1 - 1) P (StayPost w.heap.size Kp (I (pre ++ [x])) W) a' W)
    (hdone : ∀ (D : Nat) (xs : List α) (W : World), w.heap.size ≤ D → S xs → I xs W → (∀ x ∈ xs, Mem x W) → W.heap[D]? = some (.deferred (some [])) → Q .normal { a with defers := { target := .collected D, args := #[] } :: a.defers } W) :
    (Code.rangeFunc g ps assign body).wpIn F n P Q a w := by
  refine wpIn_rangeFunc ?_; intro fn hfn; rw [hro]; obtain ⟨rec, hrec⟩ : ∃ rec : LoopState → Option Code → Loop, rec = fun st pe => { state := st, pending := pe, fn, tmps := a.tmps, params := ps, assign, body, defers := w.heap.size } := ⟨_, rfl⟩
  obtain ⟨W1, hW1⟩ : ∃ W1, (w.alloc (.deferred (some []))).alloc (.loop (rec .ready none)) = W1 := ⟨_, rfl⟩; have hz1 : W1.heap.size = w.heap.size + 2 := by rw [← hW1]; simp
  have hL1 : W1.heap[w.heap.size + 1]? = some (.loop (rec .ready none)) := by
    have := World.alloc_heap_new (w.alloc (.deferred (some []))) (.loop (rec .ready none)); rw [World.size_alloc, hW1] at this; exact this
  have hK1 : W1.heap[w.heap.size]? = some (.deferred (some [])) := by
    rw [← hW1]; exact (Below.heap_alloc _ _ _ (by simp)).trans (World.alloc_heap_new w _)
  have hI1 : I [] W1 := by rw [← hW1]; exact hI.alloc _ (hI.alloc _ h0)
  have hb1 : Below w0.heap.size w0 W1 := by
    rw [← hW1]; exact hb0.trans ((((Below.refl _ w).alloc (Nat.le_refl _) _).alloc (by simp) _).mono hb0.size)
  refine ⟨w.heap.size + 1, [{ target := .collected w.heap.size, args := #[] }], W1, { target := .fn (.func gf) lb, args := #[.func (.yield (w.heap.size + 1)) #[] #[]] }, W1, gf,
    #[.func (.yield (w.heap.size + 1)) #[] #[]] ++ lb, W1, (by rw [← hW1, hrec]; exact run_enterLoop_outer _ _ _ _ _), (by simp only [resolve, hg]; simp [go_sem]), (fun f' hf' => by simp [Target.leads] at hf'; subst hf'; exact hFg), (by simp [invoke, go_sem, eg]), fun _ => h1, ?_⟩
  have far : ∀ {A : World} {row : Option Nat}, (∀ r, row = some r → W1.heap.size ≤ r ∧ ∃ o : Obj, A.heap[r]? = some o ∧ o.isWalk = true) → ∀ r, row = some r → w.heap.size ≤ r ∧ ∃ o : Obj, A.heap[r]? = some o ∧ o.isCells = false :=
    fun hr r e => by obtain ⟨hB, o, ho, hw⟩ := hr r e; exact ⟨by omega, o, ho, Obj.not_cells_of_walk hw⟩
  refine (hseq (w.heap.size + 1) (fun pre W => I pre W ∧ W.heap[w.heap.size + 1]? = some (.loop (rec .ready none)) ∧ W.heap[w.heap.size]? = some (.deferred (some []))) W1 hb1
    (fun s A B row hs hg' hr => ⟨hI s A B row hs.1 hg' (far hr), (grownBy_keeps hg' (fun r e => (hr r e).2) hs.2.1 rfl).trans hs.2.1, (grownBy_keeps hg' (fun r e => (hr r e).2) hs.2.2 rfl).trans hs.2.2⟩)
    ?round ⟨hI1, hL1, hK1⟩).mono ?after
  case round =>
    rintro pre x W ⟨hi, hl, hk⟩ hm hlen; have hy := run_yield (P := P) (args := encs x) hl (by rw [hrec]; exact hps x); rw [hrec] at hy; refine ⟨fn, _, assign, body, hy, roundIn_of_wpIn hfn (hassign _ pre x W _ hi hm ?_)⟩; intro a' Wa hka hkp hia hma hax; have hla := hka.same _ _ (by omega) hl rfl; have hkk := hka.same _ _ (Nat.le_refl _) hk rfl; have hlt : w.heap.size + 1 < Wa.heap.size := (Array.getElem?_eq_some_iff.1 hla).1; refine ⟨_, run_beginRound hla (by rw [hrec]), ?_⟩; obtain ⟨W2, hW2⟩ : ∃ W2, Wa.putObj (w.heap.size + 1) (.loop { rec .ready none with state := .busy }) = W2 := ⟨_, rfl⟩; have hl2 : W2.heap[w.heap.size + 1]? = some (.loop { rec .ready none with state := .busy }) := by rw [← hW2]; exact World.putObj_heap_same hlt
    have hk2 : W2.heap[w.heap.size]? = some (.deferred (some [])) := by rw [← hW2]; exact (World.putObj_heap_other (by omega)).trans hkk
    have hp2 : Kp W W2 := by rw [← hW2]; exact hKt hkp (hKb _ _ _ _ (by omega) hla rfl rfl)
    have hi2 : I pre W2 := by rw [← hW2]; exact hI.putObj _ hia (by omega) hla rfl
    have hm2 : Mem x W2 := by rw [← hW2]; exact hMb _ _ _ _ _ hla rfl hma
    have hx2 : Ax x a' W2 := by rw [← hW2]; exact (hAx x a').putObj (s := ()) _ hax (by omega) hla rfl
    rw [hW2]; refine wpIn_mono (hbody _ pre x a' _ hi2 hm2 hx2 hlen) ?_; rintro e a3 W3 hp
    cases e with
    | normal =>
      obtain ⟨hk3, hp3, hi3⟩ := hp; have hl3 := hk3.same _ _ (by omega) hl2 rfl; have hr := run_endRound (P := P) none hl3; rw [hrec] at hr hl3 ⊢; have hk4 := (World.putObj_heap_other (w := W3) (o := .loop { state := .ready, pending := none, fn, tmps := a.tmps, params := ps, assign, body, defers := w.heap.size }) (show w.heap.size ≠ w.heap.size + 1 by omega)).trans (hk3.same _ _ (Nat.le_refl _) hk2 rfl); exact ⟨_, _, hr, rfl, ⟨hI.putObj _ hi3 (by omega) hl3 rfl, World.putObj_heap_same (Array.getElem?_eq_some_iff.1 hl3).1, hk4⟩, hKt (hKt hp2 hp3) (hKb _ _ _ _ (by omega) hl3 rfl rfl)⟩
    | ret => exact hp.elim
    | exit id => exact hp.elim
    | goto t => exact hp.elim
    | panic ch => exact hp.elim
    | outgrown => exact hp.elim
  case after =>
    rintro e W2 ⟨⟨v, rfl⟩, xs, hS, ⟨hi, hl, hk⟩, hm⟩; have hr := run_endLoop (P := P) hl (by rw [hrec]; simp); rw [hrec] at hr; exact ⟨none, _, hr, hdone _ xs _ (Nat.le_refl _) hS (hI.putObj _ hi (by omega) hl rfl) (fun x hx => hMb _ _ _ _ _ hl rfl (hm x hx)) ((World.putObj_heap_other (by omega)).trans hk)⟩
end Go.Proofs.YtbknfddaoolagaaGreatDoor
end

section
namespace Go.Proofs.YtbknfddaoolagaaGreatDoor
open Go Go.RowKit Go.Proofs
set_option linter.unusedVariables false

structure Tv where
  pl : List Int
  q : Option Addr
  cq : Nat
  g : Nat
  cg : Nat
def tvA (x : Tv) : Value := .agg #[.slice x.q x.pl.length x.cq, .slice (some ⟨x.g, 0, none⟩) (x.pl.length + 1) x.cg]
def tvE (x : Tv) : Array Value := #[tvA x]
def tvV : List Tv → List Value
  | [] => []
  | x :: r => .slice x.q x.pl.length x.cq :: .slice (some ⟨x.g, 0, none⟩) (x.pl.length + 1) x.cg :: tvV r
theorem tvV_append (a b : List Tv) : tvV (a ++ b) = tvV a ++ tvV b := by
  induction a with
  | nil => rfl
  | cons x a ih => simp [tvV, ih]
theorem tvV_length (a : List Tv) : (tvV a).length = a.length * 2 := by
  induction a with
  | nil => rfl
  | cons x a ih => simp only [tvV, List.length_cons, ih]; omega
theorem tvV_get : ∀ (xs : List Tv) (i : Nat) (x : Tv), xs[i]? = some x → (tvV xs)[i * 2]? = some (.slice x.q x.pl.length x.cq) ∧ (tvV xs)[i * 2 + 1]? = some (.slice (some ⟨x.g, 0, none⟩) (x.pl.length + 1) x.cg) := by
  intro xs
  induction xs with
  | nil => intro i x h; simp at h
  | cons y xs ih =>
    intro i x h
    cases i with
    | zero => simp at h; subst h; exact ⟨rfl, rfl⟩
    | succ i =>
      simp at h; have := ih i x h; rw [show (i + 1) * 2 = i * 2 + 1 + 1 by omega]; exact this
def MemT (p : Pc) (n0 : Nat) (x : Tv) (w : World) : Prop := x.pl.length = p.ms.length ∧ (endF p x.pl).length = p.ms.length + 1 ∧ w.ownsRow n0 3 1 (.slice x.q x.pl.length x.cq) x.pl.length (inV x.pl) ∧ w.ownsRow n0 3 1 (.slice (some ⟨x.g, 0, none⟩) (x.pl.length + 1) x.cg) (x.pl.length + 1) (inV (endF p x.pl))
def KpT (n0 kx : Nat) (w w' : World) : Prop := BelX (fun x => x = kx) n0 w w' ∧ ∀ (b : Nat) (cur : Array Value) (ty : TypeId) (fr : Nat × Nat), w.heap[b]? = some (.cells cur ty fr) → b ≠ kx → ty ≠ 98 → w'.heap[b]? = w.heap[b]?
theorem KpT.refl (n0 kx : Nat) (w : World) : KpT n0 kx w w := ⟨BelX.refl _ _ _, fun _ _ _ _ _ _ _ => rfl⟩
theorem KpT.trans {n0 kx : Nat} {a b c : World} (h : KpT n0 kx a b) (k : KpT n0 kx b c) : KpT n0 kx a c :=
  ⟨h.1.trans k.1, fun b cur ty fr hb h1 h2 => by
    have e := h.2 b cur ty fr hb h1 h2; exact (k.2 b cur ty fr (e.trans hb) h1 h2).trans e⟩
theorem KpT.of_below {n0 kx : Nat} {w w' : World} (h : Below w.heap.size w w') (hn : n0 ≤ w.heap.size) : KpT n0 kx w w' :=
  ⟨(belX_of h).mono hn, fun b cur ty fr hb _ _ => h.block b (block_lt hb)⟩
theorem KpT.keeps {n0 kx : Nat} {w w' : World} (h : KpT n0 kx w w') {b : Nat} {cur : Array Value} {ty : TypeId} {fr : Nat × Nat} (hb : w.heap[b]? = some (.cells cur ty fr)) (h1 : b ≠ kx) (h2 : ty ≠ 98) : w'.heap[b]? = some (.cells cur ty fr) :=
  (h.2 b cur ty fr hb h1 h2).trans hb
theorem KpT.own {n0 kx B size n : Nat} {ty : TypeId} {v : Value} {xs : List Value} {w w' : World} (h : KpT n0 kx w w') (hk : kx < B) (h2 : ty ≠ 98) (ho : w.ownsRow B ty size v n xs) : w'.ownsRow B ty size v n xs := by
  refine own_same ho fun g hg => ?_
  rcases ho.2 with ⟨rfl, _⟩ | ⟨g', cap, cur, rfl, hb, hh, _⟩
  · simp [Value.ownBlock] at hg
  · simp [Value.ownBlock] at hg
    subst hg; exact h.2 _ _ _ _ hh (by omega) h2
theorem KpT.below {n0 kx B : Nat} {w w' : World} (h : KpT n0 kx w w') (h1 : B ≤ kx) (h2 : B ≤ n0) : Below B w w' := (h.1.mono h2).below (Nat.le_refl _) (fun x hx => by subst hx; exact h1)
theorem KpT.putObj {n0 kx : Nat} {W : World} {l : Nat} {o o' : Obj} (hn : n0 ≤ l) (hl : W.heap[l]? = some o) (ho : o.isCells = false) : KpT n0 kx W (W.putObj l o') := by
  have hg := grownBy_putObj' W l o'; refine ⟨⟨hg.os, hg.tape, hg.output, hg.size, fun k hk _ => World.putObj_heap_other (by omega)⟩, fun b cur ty fr hb _ _ => World.putObj_heap_other ?_⟩; intro e; subst e; rw [hl] at hb
  cases hb
  cases ho
theorem KpT.setCell {n0 kx : Nat} {a w : World} (h : KpT n0 kx a w) (j : Nat) (v : Value) : KpT n0 kx a (w.setCell ⟨kx, j, none⟩ v) :=
  h.trans ⟨BelX.setCell (X := fun x => x = kx) (BelX.refl _ _ _) (p := ⟨kx, j, none⟩) (.inl rfl) v, fun b cur ty fr hb h1 _ => Below.heap_setCell _ _ _ _ h1⟩
theorem KpT.alloc {n0 kx : Nat} {a w : World} (h : KpT n0 kx a w) (hn : n0 ≤ w.heap.size) (o : Obj) : KpT n0 kx a (w.alloc o) := h.trans (KpT.of_below (below_alloc1 w o) hn)
theorem MemT.kept {p : Pc} {n0 kx : Nat} {x : Tv} {w w' : World} (h : MemT p n0 x w) (hk : KpT n0 kx w w') (hx : kx < n0) : MemT p n0 x w' :=
  ⟨h.1, h.2.1, hk.own hx (by decide) h.2.2.1, hk.own hx (by decide) h.2.2.2⟩
theorem MemT.putObj {p : Pc} {n0 : Nat} {x : Tv} {W : World} {l : Nat} {o o' : Obj} (hl : W.heap[l]? = some o) (ho : o.isCells = false) (h : MemT p n0 x W) : MemT p n0 x (W.putObj l o') := by
  have key : ∀ (v : Value) (n : Nat) (xs : List Value), W.ownsRow n0 3 1 v n xs → (W.putObj l o').ownsRow n0 3 1 v n xs := by
    intro v n xs hr; refine own_same hr fun g hg => ?_
    rcases hr.2 with ⟨rfl, _⟩ | ⟨g', cap, cur, rfl, hb, hh, _⟩
    · simp [Value.ownBlock] at hg
    · simp [Value.ownBlock] at hg
      subst hg; refine World.putObj_heap_other ?_; intro e; subst e; rw [hl] at hh
      cases hh
      cases ho
  exact ⟨h.1, h.2.1, key _ _ _ h.2.2.1, key _ _ _ h.2.2.2⟩
theorem set2K {G : Prop} (w : World) (B : Nat) (t : TypeId) (v0 v1 a b : Value) (h : w.heap[B]? = some (.cells #[v0, v1] t))
    (k : ∀ w1 w2, w.setCell ⟨B, 0, none⟩ a = w1 → w1.setCell ⟨B, 1, none⟩ b = w2 → w.cell? ⟨B, 0, none⟩ = some v0 → w.frozen? ⟨B, 0, none⟩ = false → w1.cell? ⟨B, 1, none⟩ = some v1 → w1.frozen? ⟨B, 1, none⟩ = false →
      w2.heap[B]? = some (.cells #[a, b] t) → (∀ k, k ≠ B → w2.heap[k]? = w.heap[k]?) → Hid (w2.heap.size = w.heap.size) → (∀ W n0, n0 ≤ B → Below n0 W w → Below n0 W w2) → G) : G := by
  obtain ⟨w1, w2, s1, s2, ⟨c0, f0⟩, ⟨c1, f1⟩, h1, h2, h3, h4⟩ := set2 w B t v0 v1 a b h; exact k w1 w2 s1 s2 c0 f0 c1 f1 h1 h2 h3 h4
theorem set4K {G : Prop} (w : World) (B : Nat) (t : TypeId) (v0 v1 v2 v3 a b c d : Value) (h : w.heap[B]? = some (.cells #[v0, v1, v2, v3] t))
    (k : ∀ w1 w2 w3 w4, w.setCell ⟨B, 0, none⟩ a = w1 → w1.setCell ⟨B, 1, none⟩ b = w2 → w2.setCell ⟨B, 2, none⟩ c = w3 → w3.setCell ⟨B, 3, none⟩ d = w4 →
      w.cell? ⟨B, 0, none⟩ = some v0 → w.frozen? ⟨B, 0, none⟩ = false → w1.cell? ⟨B, 1, none⟩ = some v1 → w1.frozen? ⟨B, 1, none⟩ = false → w2.cell? ⟨B, 2, none⟩ = some v2 → w2.frozen? ⟨B, 2, none⟩ = false → w3.cell? ⟨B, 3, none⟩ = some v3 → w3.frozen? ⟨B, 3, none⟩ = false →
      w4.heap[B]? = some (.cells #[a, b, c, d] t) → (∀ k, k ≠ B → w4.heap[k]? = w.heap[k]?) → Hid (w4.heap.size = w.heap.size) → (∀ W n0, n0 ≤ B → Below n0 W w → Below n0 W w4) → G) : G := by
  obtain ⟨w1, w2, w3, w4, s1, s2, s3, s4, ⟨c0, f0⟩, ⟨c1, f1⟩, ⟨c2, f2⟩, ⟨c3, f3⟩, h1, h2, h3, h4⟩ := set4 w B t v0 v1 v2 v3 a b c d h; exact k w1 w2 w3 w4 s1 s2 s3 s4 c0 f0 c1 f1 c2 f2 c3 f3 h1 h2 (Lib.hid h3) h4
end Go.Proofs.YtbknfddaoolagaaGreatDoor
end

section
namespace Go.Proofs.YtbknfddaoolagaaGreatDoor
open Go Go.RowKit Go.Proofs Go.Shelf
set_option linter.unusedVariables false
attribute [local go_sem] Oper.semAt_some imax2 imin2

theorem RoundIn.anyDepth {F : Fence} (hd : F.depth = none) {m m' : Nat} {P : Program} {l : Nat} {f : FuncId} {tmps : Array Value} {assign body : Code} {w : World} {R : Ending → World → Prop}
    (h : RoundIn F m P l f tmps assign body w R) : RoundIn F m' P l f tmps assign body w R := ⟨h.1, fun c cs _ => h.2 c cs (fun d e => by rw [hd] at e; cases e)⟩
theorem YieldAt.anyDepth {F : Fence} (hd : F.depth = none) {m : Nat} (m' : Nat) {P : Program} {l : Nat} {args : Array Value} {W : World} {R : Ending → World → Prop} (h : YieldAt F m P l args W R) : YieldAt F m' P l args W R := by
  obtain ⟨fn, tmps, assign, body, hy, hR⟩ := h; exact ⟨fn, tmps, assign, body, hy, RoundIn.anyDepth hd hR⟩

structure Sx (p : Pc) (pm pv pr : Option Addr) (cm cv cr bp bY bs l : Nat) (we W : World) : Prop where
  kp : W.heap[bp]? = some (.cells #[.slice pm p.ms.length cm, .slice pv p.mv.length cv, .slice pr p.rs.length cr] 27 (0, 0))
  ky : W.heap[bY]? = some (.cells #[.func (.yield l) #[] #[]] 158 (0, 0))
  ks : W.heap[bs]? = some (.cells #[.func (.func 114) #[] #[.pointer (some ⟨bp, 0, none⟩), .pointer (some ⟨bY, 0, none⟩), .pointer (some ⟨bs, 0, none⟩)]] 159 (0, 0))
  below : Below we.heap.size we W
structure Sk (n0 kx bp bY bs : Nat) (we : World) : Prop where
  p : bp ≠ kx
  y : bY ≠ kx
  s : bs ≠ kx
  k : kx < n0
  e : we.heap.size ≤ kx
theorem Sx.kept {p : Pc} {pm pv pr : Option Addr} {cm cv cr bp bY bs l n0 kx : Nat} {we W W' : World} (h : Sx p pm pv pr cm cv cr bp bY bs l we W) (hs : Sk n0 kx bp bY bs we) (hk : KpT n0 kx W W') : Sx p pm pv pr cm cv cr bp bY bs l we W' :=
  ⟨hk.keeps h.kp hs.p (by decide), hk.keeps h.ky hs.y (by decide), hk.keeps h.ks hs.s (by decide), h.below.trans (hk.below hs.e (by have := hs.e; have := hs.k; omega))⟩
def SrPost (p : Pc) (n0 kx : Nat) (a : List Int) (J : List Tv → World → Prop) (pre : List Tv) (W : World) (e : Ending) (W' : World) : Prop :=
  e = .returned (.bool true) ∧ ∃ xs : List Tv, xs.map Tv.pl = yF p a ∧ J (pre ++ xs) W' ∧ (∀ x ∈ xs, MemT p n0 x W') ∧ KpT n0 kx W W'

set_option maxHeartbeats 1600000 in
set_option maxRecDepth 100000 in
theorem c_searchEnd (n : Nat) (hn : 1 ≤ n) (pm pv pr : Option Addr) (cm cv cr bp bY bs l n0 kx N : Nat) (p : Pc) (we : World) (hp : PieceOk p) (hRP : RdP we pm pv pr p) (hs : Sk n0 kx bp bY bs we)
    (J : List Tv → World → Prop) (hJ : ∀ pre W W', J pre W → Below W.heap.size W W' → J pre W')
    (hY : ∀ m pre x W1, J pre W1 → MemT p n0 x W1 → pre.length < N → YieldAt Fence.wide m Tryz.prog l (tvE x) W1 fun e W' => e = .returned (.bool true) ∧ J (pre ++ [x]) W' ∧ KpT n0 kx W1 W')
    (a : List Int) (q : Option Addr) (cq : Nat) (pre : List Tv) (W : World) (ha : a.length = p.ms.length) (ht : Tried p a) (ho : W.ownsRow n0 3 1 (.slice q a.length cq) a.length (inV a)) (hW : Sx p pm pv pr cm cv cr bp bY bs l we W) (hn0 : n0 ≤ W.heap.size)
    (hj : J pre W) (hN : pre.length + (yF p a).length ≤ N) :
    CallsIn Fence.wide n Tryz.prog 114 #[.slice q a.length cq, .pointer (some ⟨bp, 0, none⟩), .pointer (some ⟨bY, 0, none⟩), .pointer (some ⟨bs, 0, none⟩)] W (SrPost p n0 kx a J pre W) := by
  have hpl := ht.plays hp ha; have k0 : W.cell? ⟨bp, 0, none⟩ = some (.slice pm p.ms.length cm) := by rw [cell_of_row _ _ _ _ _ _ hW.kp]; rfl
  have k1 : W.cell? ⟨bp, 1, none⟩ = some (.slice pv p.mv.length cv) := by rw [cell_of_row _ _ _ _ _ _ hW.kp]; rfl
  have k2 : W.cell? ⟨bp, 2, none⟩ = some (.slice pr p.rs.length cr) := by rw [cell_of_row _ _ _ _ _ _ hW.kp]; rfl
  have ky : W.cell? ⟨bY, 0, none⟩ = some (.func (.yield l) #[] #[]) := by rw [cell_of_row _ _ _ _ _ _ hW.ky]; rfl
  obtain ⟨q', c', hqe, hRd⟩ := rd_of_own ho
  obtain ⟨rfl, rfl⟩ : q = q' ∧ cq = c' := by
    injection hqe with h1 h2 h3
    exact ⟨h1, h3⟩
  have hRW := hRP.below hW.below; have hcl := c_lived pm pv pr cm cv cr p q cq a W hRW.mv hRW.rs hRd hp hpl; have hyl := yF_end p a ha; have HJ := Lib.hid hj; have HJB := Lib.hid hJ; have HYY := Lib.hid hY; have HO := Lib.hid ho; have HA := Lib.hid ha; have HN := Lib.hid hN; have HS := Lib.hid hs; have HN0 := Lib.hid hn0; have HPL := Lib.hid hpl; have haI : ((a.length : Int) == (p.ms.length : Int)) = true := by rw [ha]; simp
  clear hqe hRd hRW ht hW hj hJ hY hpl hRP hs hN ha; refine callsIn_of_wp Tryz.func114 rfl trivial ?_ rfl; simp only [Tryz.ntmps114, List.size_toArray, List.length_cons, List.length_nil, Nat.reduceAdd, Nat.reduceSub, Array.replicate_succ, Array.replicate_zero, List.push_toArray, List.append_toArray, List.nil_append, List.cons_append]
  gi_wp2_with fail
  refine ⟨trivial, ?_⟩; refine (callsIn_wide.2 hcl).mono ?_; clear hcl; rintro e w1 ⟨⟨hl, g, cg, rfl, hog⟩ | ⟨hl, rfl⟩, b1⟩
  · have ka := alloc_new w1 (.cells #[.slice none 0 0, .slice none 0 0] 98)
    obtain ⟨w2, e2, HS2, _, _, b2⟩ := box2 w1 (.slice none 0 0) (.slice none 0 0) 98; rw [e2] at ka; obtain ⟨w3, w4, s1, s2, ⟨c0, f0⟩, ⟨c1, f1⟩, hx4, hxk, HZ, hxb⟩ := set2 w2 w1.heap.size 98 _ _ (.slice q a.length cq) (.slice (some ⟨g, 0, none⟩) (a.length + 1) cg) ka; obtain ⟨r0, r1⟩ := cells2 hx4; have b4 : Below W.heap.size W w4 := hxb W W.heap.size b1.size (b1.trans (b2.mono b1.size)); have b14 : Below w1.heap.size w1 w4 := hxb w1 w1.heap.size (Nat.le_refl _) b2; have ky4 := (b4.cell (lt_of_cellq ky)).trans ky; have hEl : (endF p a).length = p.ms.length + 1 := by rw [end_len HPL.out.pos, HA.out]
    have hm4 : MemT p n0 ⟨a, q, cq, g, cg⟩ w4 := ⟨HA.out, hEl, own_kept HO.out b4, own_mono (own_kept hog b14) HN0.out⟩; rw [if_pos hl] at hyl; obtain ⟨fn, tmps, assign, body, hy, hR⟩ := HYY.out (n - 1) pre ⟨a, q, cq, g, cg⟩ w4 (HJB.out _ _ _ HJ.out b4) hm4 (by have := HN.out; rw [hyl] at this; simp at this; omega); have HM4 := Lib.hid hm4; have HB4 := Lib.hid b4; have HYL := Lib.hid hyl
    dsimp only [tvE, tvA] at hy
    clear hx4 hxk hxb b1 b2 b4 b14 ka hm4 hog hl hyl hEl
    gi_wp2_with fail
    refine hR.mono ?_; rintro e w5 ⟨rfl, hj5, hk5⟩; have HJ5 := Lib.hid hj5; have HK5 := Lib.hid hk5; clear hR hy hj5 hk5
    gi_wp2
    go_ret; have hk : KpT n0 kx W w4 := KpT.of_below HB4.out HN0.out; refine ⟨rfl, [⟨a, q, cq, g, cg⟩], by rw [HYL.out]; rfl, HJ5.out, ?_, hk.trans HK5.out⟩; intro x hx; rw [List.mem_singleton] at hx; subst hx; exact HM4.out.kept HK5.out HS.out.k
  · have ka := alloc_new w1 (.cells #[.slice none 0 0, .slice none 0 0] 98)
    obtain ⟨w2, e2, HS2, _, _, b2⟩ := box2 w1 (.slice none 0 0) (.slice none 0 0) 98; rw [e2] at ka; obtain ⟨w3, w4, s1, s2, ⟨c0, f0⟩, ⟨c1, f1⟩, hx4, hxk, HZ, hxb⟩ := set2 w2 w1.heap.size 98 _ _ (.slice none 0 0) (.slice none 0 0) ka; have HB4 := Lib.hid (show Below W.heap.size W w4 from hxb W W.heap.size b1.size (b1.trans (b2.mono b1.size))); rw [if_neg (by rw [hl]; decide)] at hyl; have HYL := Lib.hid hyl; clear hx4 hxk hxb b1 b2 ka hl hyl
    gi_wp2_with fail
    refine ⟨fun _ h => (by cases h), ?_⟩
    gi_wp2
    go_ret; exact ⟨rfl, [], by rw [HYL.out]; rfl, by rw [List.append_nil]; exact HJB.out _ _ _ HJ.out HB4.out, (fun x hx => by cases hx), KpT.of_below HB4.out HN0.out⟩
end Go.Proofs.YtbknfddaoolagaaGreatDoor
end

section
namespace Go.Proofs.YtbknfddaoolagaaGreatDoor
open Go Go.RowKit Go.Proofs
set_option linter.unusedVariables false
attribute [local go_sem] imax2 imin2

theorem yTo_len (p : Pc) (a : List Int) (h : a.length < p.ms.length) (k : Nat) : (yTo p a k).length ≤ (yF p a).length := by
  have e := yTo_all p a h ((gm p.ms a.length).2 - (gm p.ms a.length).1 + 1).toNat (Nat.le_refl _)
  rw [← e]
  unfold yTo
  obtain ⟨L, hL⟩ : ∃ L, rng (gm p.ms a.length).1 (gm p.ms a.length).2 = L := ⟨_, rfl⟩
  have hl : L.length = ((gm p.ms a.length).2 - (gm p.ms a.length).1 + 1).toNat := by rw [← hL, rng_len]
  rw [hL, ← hl, List.take_length]
  have hs : (L.take k).Sublist L := List.take_sublist k L
  exact (sub_flatMap hs _).length_le
theorem gi_self (a : List Int) (n : Int) : inV a ++ [Value.int .i64 n] = inV (a ++ [n]) := by rw [inV_append]; rfl

set_option maxHeartbeats 3200000 in
set_option maxRecDepth 100000 in
theorem c_searchNode (pm pv pr : Option Addr) (cm cv cr bp bY bs l n0 kx N : Nat) (p : Pc) (we : World) (hp : PieceOk p) (hRP : RdP we pm pv pr p) (hs : Sk n0 kx bp bY bs we)
    (J : List Tv → World → Prop) (hJ : ∀ pre W W', J pre W → Below W.heap.size W W' → J pre W')
    (a : List Int) (q : Option Addr) (cq : Nat) (pre : List Tv) (W : World) (ha : a.length < p.ms.length) (ht : Tried p a) (hq : a = [] → q = none ∧ cq = 0) (ho : W.ownsRow n0 3 1 (.slice q a.length cq) a.length (inV a)) (hW : Sx p pm pv pr cm cv cr bp bY bs l we W) (hn0 : n0 ≤ W.heap.size)
    (hj : J pre W) (hN : pre.length + (yF p a).length ≤ N)
    (ih : ∀ (a' : List Int) (q' : Option Addr) (cq' : Nat) (pre' : List Tv) (W' : World), a'.length = a.length + 1 → Tried p a' → W'.ownsRow n0 3 1 (.slice q' a'.length cq') a'.length (inV a') → Sx p pm pv pr cm cv cr bp bY bs l we W' → n0 ≤ W'.heap.size → J pre' W' → pre'.length + (yF p a').length ≤ N →
      Calls Tryz.prog 114 #[.slice q' a'.length cq', .pointer (some ⟨bp, 0, none⟩), .pointer (some ⟨bY, 0, none⟩), .pointer (some ⟨bs, 0, none⟩)] W' (SrPost p n0 kx a' J pre' W')) :
    Calls Tryz.prog 114 #[.slice q a.length cq, .pointer (some ⟨bp, 0, none⟩), .pointer (some ⟨bY, 0, none⟩), .pointer (some ⟨bs, 0, none⟩)] W (SrPost p n0 kx a J pre W) := by
  obtain ⟨i0, hi0, hz0, hz1, hz2⟩ := info_parts infI
  have hml := piece_len hp
  obtain ⟨lo, hi, hlo⟩ : ∃ lo hi, gm p.ms a.length = (lo, hi) := ⟨_, _, rfl⟩
  have hms := hp.mesh a.length ha
  have hys := yTo_succ p a
  have hya := yTo_all p a ha
  have hyl := yTo_len p a ha
  have htn : ∀ n : Int, (gm p.ms a.length).1 ≤ n → n ≤ (gm p.ms a.length).2 → Tried p (a ++ [n]) := fun n h1 h2 => ht.snoc ha h1 h2
  rw [hlo] at hms hys hya htn
  simp only at hms hys hya htn
  obtain ⟨hm0, hm1, hm2, hm3⟩ := hms
  obtain ⟨cnt, hcnt⟩ : ∃ cnt : Nat, (hi - lo + 1).toNat = cnt := ⟨_, rfl⟩
  rw [hcnt] at hys hya
  have hcI : (cnt : Int) = hi - lo + 1 := by omega
  have rd : ∀ w, Sx p pm pv pr cm cv cr bp bY bs l we w → w.cell? ⟨bp, 0, none⟩ = some (.slice pm p.ms.length cm) ∧ w.cell? ⟨bs, 0, none⟩ = some (.func (.func 114) #[] #[.pointer (some ⟨bp, 0, none⟩), .pointer (some ⟨bY, 0, none⟩), .pointer (some ⟨bs, 0, none⟩)]) ∧
      ∃ b off, pm = some ⟨b, off, none⟩ ∧ w.cell? ⟨b, off + a.length * 2, none⟩ = some (.int .i64 lo) ∧ w.cell? ⟨b, off + a.length * 2 + 1, none⟩ = some (.int .i64 hi) := by
    intro w hw
    refine ⟨by rw [cell_of_row _ _ _ _ _ _ hw.kp]; rfl, by rw [cell_of_row _ _ _ _ _ _ hw.ks]; rfl, ?_⟩
    obtain ⟨b, off, e, hc⟩ := (hRP.below hw.below).ms.at ha
    have := hc a.length ha
    rw [hlo] at this
    exact ⟨b, off, e, this⟩
  obtain ⟨k0, ks0, b, off, hpm, d0, d1⟩ := rd W hW
  subst hpm
  have HRD := Lib.hid rd
  have HJ := Lib.hid hj
  have HJB := Lib.hid hJ
  have HO := Lib.hid ho
  have HQ := Lib.hid hq
  have HT := Lib.hid ht
  have HW := Lib.hid hW
  have HA := Lib.hid ha
  have HN := Lib.hid hN
  have HS := Lib.hid hs
  have HN0 := Lib.hid hn0
  have HIH := Lib.hid ih
  have HYS := Lib.hid hys
  have HYA := Lib.hid hya
  have HYL := Lib.hid hyl
  have HTN := Lib.hid htn
  have HCI := Lib.hid hcI
  have haI : ((a.length : Int) == (p.ms.length : Int)) = false := by simp; omega
  have haL : (a.length : Int) < (p.ms.length : Int) := by omega
  have haM := Lib.hid (show a.length ≤ 4 by omega)
  clear hj hJ ho hq ht hW hN hs hn0 ih hys hya hyl htn rd hRP hml hp hlo hcI
  go_enter Tryz.func114, Tryz.ntmps114
  go_wp2
  go_loopw [9] (fun v wr => ∃ (k : Nat) (ys : List Tv), k ≤ cnt ∧ v = .int .i64 (lo + (k : Int)) ∧ Hid (ys.map Tv.pl = yTo p a k) ∧ Hid (J (pre ++ ys) wr) ∧ Hid (∀ x ∈ ys, MemT p n0 x wr) ∧ Hid (KpT n0 kx W wr)) (fun v _ => cnt - (intOf v - lo).toNat)
  case atStart => exact ⟨0, [], Nat.zero_le _, by simp, Lib.hid (by rw [yTo_zero]; rfl), Lib.hid (by rw [List.append_nil]; exact HJ.out), Lib.hid (fun x hx => by cases hx), Lib.hid (KpT.refl _ _ _)⟩
  case round =>
    obtain ⟨k, ys, hk, rfl, HYT, HJR, HM, HK⟩ := hrel
    have HWR := Lib.hid (HW.out.kept HS.out HK.out)
    obtain ⟨r0, rs0, b', off', hpm, e0, e1⟩ := HRD.out wr HWR.out
    obtain ⟨rfl, rfl⟩ : b = b' ∧ off = off' := by
      injection hpm with h
      injection h with h1 h2
      exact ⟨h1, h2⟩
    clear hpm
    by_cases hlt : k < cnt
    · have hle : lo + (k : Int) ≤ hi := by have := HCI.out; omega
      have hBW : n0 ≤ wr.heap.size := Nat.le_trans HN0.out HK.out.1.size
      have hor : wr.ownsRow n0 3 1 (.slice q a.length cq) a.length (inV a) := HK.out.own HS.out.k (by decide) HO.out
      obtain ⟨q', c', hqe, hRd⟩ := rd_of_own hor
      obtain ⟨rfl, rfl⟩ : q = q' ∧ cq = c' := by
        injection hqe with h1 h2 h3
        exact ⟨h1, h3⟩
      have HBW := Lib.hid hBW
      have HR := Lib.hid hRd
      have hal : a.length ≤ 1000000 := by have := haM.out; omega
      have HAL := Lib.hid hal
      have h0b : 0 ≤ bs := Nat.zero_le _
      have HN' := Lib.hid (show (pre ++ ys).length + (yF p (a ++ [lo + (k : Int)])).length ≤ N by
        have h1 := HN.out
        have h2 := HYL.out (k + 1)
        rw [HYS.out k hlt, List.length_append, ← HYT.out, List.length_map] at h2
        rw [List.length_append]; omega)
      have HT' := Lib.hid (HTN.out (lo + (k : Int)) (by omega) hle)
      have HYK := Lib.hid (HYS.out k hlt)
      have hal1 : (a ++ [lo + (k : Int)]).length = a.length + 1 := by simp
      have HL1 := Lib.hid hal1
      -- what is known in each world in which the last call may stand
      have HFIN : Hid (∀ (w5 : World) (q5 : Option Addr) (c5 : Nat), Below wr.heap.size wr w5 → w5.ownsRow n0 3 1 (.slice q5 (a.length + 1) c5) (a.length + 1) (inV a ++ [.int .i64 (lo + (k : Int))]) →
          Calls Tryz.prog 114 #[.slice q5 (a.length + 1) c5, .pointer (some ⟨bp, 0, none⟩), .pointer (some ⟨bY, 0, none⟩), .pointer (some ⟨bs, 0, none⟩)] w5 fun e W' => e = .returned (.bool true) ∧
            ∃ ys' : List Tv, ys'.map Tv.pl = yTo p a (k + 1) ∧ J (pre ++ ys') W' ∧ (∀ x ∈ ys', MemT p n0 x W') ∧ KpT n0 kx W W') := by
        intro w5 q5 c5 hb5 ho5
        rw [gi_self] at ho5
        have hkr : KpT n0 kx wr w5 := KpT.of_below hb5 HBW.out
        have h1 := HIH.out (a ++ [lo + (k : Int)]) q5 c5 (pre ++ ys) w5 HL1.out HT'.out (by rw [HL1.out]; exact ho5) (HWR.out.kept HS.out hkr) (Nat.le_trans HBW.out hb5.size) (HJB.out _ _ _ HJR.out hb5) HN'.out
        rw [HL1.out] at h1
        refine h1.mono ?_
        rintro e W' ⟨rfl, xs, hx1, hx2, hx3, hx4⟩
        refine ⟨rfl, ys ++ xs, by rw [List.map_append, HYT.out, hx1, HYK.out], by rw [← List.append_assoc]; exact hx2, ?_, HK.out.trans (hkr.trans hx4)⟩
        intro x hx
        rcases List.mem_append.1 hx with h | h
        · exact (HM.out x h).kept (hkr.trans hx4) HS.out.k
        · exact hx3 x h
      clear hqe hRd hor hBW hal hal1 h0b
      go_upto_region 8 with (fail)
      have HA0 := Lib.hid (show ∀ o : Obj, (wr.alloc o).cell? ⟨bs, 0, none⟩ = some (.func (.func 114) #[] #[.pointer (some ⟨bp, 0, none⟩), .pointer (some ⟨bY, 0, none⟩), .pointer (some ⟨bs, 0, none⟩)]) from fun o => ((below_alloc1 wr o).cell (lt_of_cellq rs0)).trans rs0)
      go_region_held3 (fun w' => w'.cell? ⟨bs, 0, none⟩ = some (.func (.func 114) #[] #[.pointer (some ⟨bp, 0, none⟩), .pointer (some ⟨bY, 0, none⟩), .pointer (some ⟨bs, 0, none⟩)]))
          (first | exact kD | exact kC | exact HA.out _ | exact kB | exact HA0.out _ | exact rs0)
          (first
            | (go_at_call 116; (with_reducible refine (c_Clone_any q cq a wr.drew (HR.out.below ((Below.refl _ _).drew)) HAL.out HQ.out).mono ?_); rintro e wb ⟨v1, rfl, hov, hbv⟩
               have kB : wb.cell? ⟨bs, 0, none⟩ = some (.func (.func 114) #[] #[.pointer (some ⟨bp, 0, none⟩), .pointer (some ⟨bY, 0, none⟩), .pointer (some ⟨bs, 0, none⟩)]) := (hbv.cell (lt_of_cellq rs0)).trans rs0
               have HA : Hid (∀ o : Obj, (wb.alloc o).cell? ⟨bs, 0, none⟩ = some (.func (.func 114) #[] #[.pointer (some ⟨bp, 0, none⟩), .pointer (some ⟨bY, 0, none⟩), .pointer (some ⟨bs, 0, none⟩)])) := Lib.hid fun o => ((below_alloc1 wb o).cell (lt_of_cellq kB)).trans kB
               have HBW1 : Hid (Below wr.heap.size wr (wb.alloc (.cells #[.int .i64 (lo + (k : Int))] 3))) := Lib.hid ((Below.mono ⟨hbv.os, hbv.tape, hbv.output, hbv.size, hbv.block⟩ (Nat.le_refl _) : Below wr.heap.size wr wb).alloc hbv.size _)
               have HOV : Hid ((wb.alloc (.cells #[.int .i64 (lo + (k : Int))] 3)).ownsRow wr.heap.size 3 1 v1 a.length (inV a)) := Lib.hid (hov.alloc _))
            | (go_at_call 116; (with_reducible refine (c_Clone_any q cq a (wr.alloc (.cells #[.int .i64 (lo + (k : Int))] 3)).drew (HR.out.below ((below_alloc1 wr _).drew)) HAL.out HQ.out).mono ?_); rintro e wb ⟨v1, rfl, hov, hbv⟩
               have kB : wb.cell? ⟨bs, 0, none⟩ = some (.func (.func 114) #[] #[.pointer (some ⟨bp, 0, none⟩), .pointer (some ⟨bY, 0, none⟩), .pointer (some ⟨bs, 0, none⟩)]) := (hbv.cell (lt_of_cellq (HA0.out (.cells #[.int .i64 (lo + (k : Int))] 3)))).trans (HA0.out _)
               have HBW2 : Hid (Below wr.heap.size wr wb) := Lib.hid ((below_alloc1 wr _).trans (Below.mono ⟨hbv.os, hbv.tape, hbv.output, hbv.size, hbv.block⟩ (by simp)))
               have HNW : Hid (wb.heap[wr.heap.size]? = some (.cells #[.int .i64 (lo + (k : Int))] 3 (0, 0))) := Lib.hid ((hbv.block wr.heap.size (by simp)).trans (alloc_new wr _))
               have HOV : Hid (wb.ownsRow wr.heap.size 3 1 v1 a.length (inV a)) := Lib.hid (own_mono hov (by simp)))
            | (refine step_append_lies _ rfl _ _ 24 rfl wr.heap.size 3 i0 _ 1 8 Tryz.underlying24 hi0 hz0 hz1 hz2 rfl (by decide) v1 a.length (inV a) rfl HOV.out ⟨wb.heap.size, 0, none⟩ 1 1 [.int .i64 (lo + (k : Int))] rfl rfl (fun j u hj => by exact news_of wb _ 3 j u hj) (by intro u hu; simp at hu; subst hu; rfl) (by decide) (by have := HAL.out; unfold maxLen; omega) (by have := HAL.out; omega) (by exact HBW1.out.size) _ rfl ?_
               intro g cap3 w7 hown' hgrow _ _
               have hb7 : Below wr.heap.size wr w7 := HBW1.out.grown hgrow HBW1.out.size (fun j hj => (HOV.out.lt j hj).1)
               have kC : w7.cell? ⟨bs, 0, none⟩ = some (.func (.func 114) #[] #[.pointer (some ⟨bp, 0, none⟩), .pointer (some ⟨bY, 0, none⟩), .pointer (some ⟨bs, 0, none⟩)]) := (hb7.cell (lt_of_cellq rs0)).trans rs0
               have HFF := Lib.hid (HFIN.out w7 (some ⟨g, 0, none⟩) cap3 hb7 (own_mono hown' HBW.out)))
            | (refine step_append_lies _ rfl _ _ 24 rfl wr.heap.size 3 i0 _ 1 8 Tryz.underlying24 hi0 hz0 hz1 hz2 rfl (by decide) v1 a.length (inV a) rfl HOV.out ⟨wr.heap.size, 0, none⟩ 1 1 [.int .i64 (lo + (k : Int))] rfl rfl (World.news_of_block HNW.out) (by intro u hu; simp at hu; subst hu; rfl) (by decide) (by have := HAL.out; unfold maxLen; omega) (by have := HAL.out; omega) (by exact HBW2.out.size) _ rfl ?_
               intro g cap3 w7 hown' hgrow _ _
               have hb7 : Below wr.heap.size wr w7 := HBW2.out.grown hgrow HBW2.out.size (fun j hj => (HOV.out.lt j hj).1)
               have kC : w7.cell? ⟨bs, 0, none⟩ = some (.func (.func 114) #[] #[.pointer (some ⟨bp, 0, none⟩), .pointer (some ⟨bY, 0, none⟩), .pointer (some ⟨bs, 0, none⟩)]) := (hb7.cell (lt_of_cellq rs0)).trans rs0
               have HFF := Lib.hid (HFIN.out w7 (some ⟨g, 0, none⟩) cap3 hb7 (own_mono hown' HBW.out)))
            | (go_at_call 114; (with_reducible refine HFF.out.mono ?_); rintro e w8 ⟨rfl, ys', hy1, hy2, hy3, hy4⟩
               have kD := (HRD.out w8 (HW.out.kept HS.out hy4)).2.1))
      all_goals
        have H1 := Lib.hid hy1
        have H2 := Lib.hid hy2
        have H3 := Lib.hid hy3
        have H4 := Lib.hid hy4
        clear hy1 hy2 hy3 hy4
        go_wp2
        go_roundw
        case rel => exact ⟨k + 1, ys', by omega, by simp; omega, H1, H2, H3, H4⟩
        case measure => simp [intOf]; omega
    · obtain rfl : k = cnt := by omega
      have hle : ¬ lo + (k : Int) ≤ hi := by have := HCI.out; omega
      have HYAL := Lib.hid (HYA.out k (Nat.le_refl _))
      go_wp2
      go_ret
      exact ⟨rfl, ys, by rw [HYT.out, HYAL.out], HJR.out, HM.out, HK.out⟩
end Go.Proofs.YtbknfddaoolagaaGreatDoor
end

section
namespace Go.Proofs.YtbknfddaoolagaaGreatDoor
open Go Go.RowKit Go.Proofs Go.Shelf
set_option linter.unusedVariables false
attribute [local go_sem] Oper.semAt_some imax2 imin2

theorem c_search (pm pv pr : Option Addr) (cm cv cr bp bY bs l n0 kx N : Nat) (p : Pc) (we : World) (hp : PieceOk p) (hRP : RdP we pm pv pr p) (hs : Sk n0 kx bp bY bs we)
    (J : List Tv → World → Prop) (hJ : ∀ pre W W', J pre W → Below W.heap.size W W' → J pre W')
    (hY : ∀ m pre x W1, J pre W1 → MemT p n0 x W1 → pre.length < N → YieldAt Fence.wide m Tryz.prog l (tvE x) W1 fun e W' => e = .returned (.bool true) ∧ J (pre ++ [x]) W' ∧ KpT n0 kx W1 W') :
    ∀ (d : Nat) (a : List Int) (q : Option Addr) (cq : Nat) (pre : List Tv) (W : World), a.length + d = p.ms.length → Tried p a → (a = [] → q = none ∧ cq = 0) → W.ownsRow n0 3 1 (.slice q a.length cq) a.length (inV a) → Sx p pm pv pr cm cv cr bp bY bs l we W → n0 ≤ W.heap.size →
      J pre W → pre.length + (yF p a).length ≤ N →
      Calls Tryz.prog 114 #[.slice q a.length cq, .pointer (some ⟨bp, 0, none⟩), .pointer (some ⟨bY, 0, none⟩), .pointer (some ⟨bs, 0, none⟩)] W (SrPost p n0 kx a J pre W) := by
  intro d
  induction d with
  | zero =>
    intro a q cq pre W ha ht hq ho hW hn0 hj hN; exact (callsIn_wide (n := 1)).1 (c_searchEnd 1 (by omega) pm pv pr cm cv cr bp bY bs l n0 kx N p we hp hRP hs J hJ hY a q cq pre W (by omega) ht ho hW hn0 hj hN)
  | succ d ih =>
    intro a q cq pre W ha ht hq ho hW hn0 hj hN; refine c_searchNode pm pv pr cm cv cr bp bY bs l n0 kx N p we hp hRP hs J hJ a q cq pre W (by omega) ht hq ho hW hn0 hj hN ?_; intro a' q' cq' pre' W' ha' ht' ho' hW' hn0' hj' hN'; exact ih a' q' cq' pre' W' (by omega) ht' (fun e => by subst e; simp at ha') ho' hW' hn0' hj' hN'

set_option maxHeartbeats 1600000 in
set_option maxRecDepth 100000 in
theorem truths_seq (n : Nat) (hn : 2 ≤ n) (pm pv pr : Option Addr) (cm cv cr bp n0 kx : Nat) (p : Pc) (we w : World) (hp : PieceOk p) (hRP : RdP we pm pv pr p) (hn0 : n0 ≤ w.heap.size)
    (hkp : w.heap[bp]? = some (.cells #[.slice pm p.ms.length cm, .slice pv p.mv.length cv, .slice pr p.rs.length cr] 27 (0, 0))) (hbk : bp ≠ kx) (hkx : kx < n0) (hwe : we.heap.size ≤ kx) (hb : Below we.heap.size we w) :
    SeqMem Fence.wide n Tryz.prog 113 #[.pointer (some ⟨bp, 0, none⟩)] tvE (KpT n0 kx) (MemT p n0) (fun xs => xs.map Tv.pl = truthsF p) (truthsF p).length w := by
  intro l J W hW hJ hY h0; have hJB : ∀ pre W1 W2, J pre W1 → Below W1.heap.size W1 W2 → J pre W2 := fun pre W1 W2 h b => hJ pre W1 W2 none h ⟨b.os, b.tape, b.output, b.size, fun i hi _ => b.block i hi⟩ (fun r e => by cases e)
  have hYY : ∀ m pre x W1, J pre W1 → MemT p n0 x W1 → pre.length < (truthsF p).length → YieldAt Fence.wide m Tryz.prog l (tvE x) W1 fun e W' => e = .returned (.bool true) ∧ J (pre ++ [x]) W' ∧ KpT n0 kx W1 W' :=
    fun m pre x W1 h1 h2 h3 => YieldAt.anyDepth rfl m (hY pre x W1 h1 h2 h3)
  have hsz := hW.size; obtain ⟨w1, e1, HS1, y0, yf, b1⟩ := box1 W (.func (.yield l) #[] #[]) 158; have ky := alloc_new W (.cells #[.func (.yield l) #[] #[]] 158); rw [e1] at ky; obtain ⟨w2, e2, HS2, s0, sf, b2⟩ := box1 w1 .nilFunc 159; have ks := alloc_new w1 (.cells #[.nilFunc] 159); rw [e2] at ks; have fs : w2.frozen? ⟨w1.heap.size, 0, none⟩ = false := frozen_of_row _ _ _ _ _ ks; obtain ⟨F, hF⟩ : ∃ F : Value, Value.func (.func 114) #[] #[.pointer (some ⟨bp, 0, none⟩), .pointer (some ⟨W.heap.size, 0, none⟩), .pointer (some ⟨w1.heap.size, 0, none⟩)] = F := ⟨_, rfl⟩; obtain ⟨w3, s3⟩ : ∃ w3, w2.setCell ⟨w1.heap.size, 0, none⟩ F = w3 := ⟨_, rfl⟩; have ks3 : w3.heap[w1.heap.size]? = some (.cells #[F] 159 (0, 0)) := by rw [← s3, heap_setCell_same w2 w1.heap.size 0 _ _ _ ks]; rfl
  have b3 : Below w1.heap.size w1 w3 := by rw [← s3]; exact b2.setCell (Nat.le_refl _) _
  have bW : Below W.heap.size W w3 := b1.trans (b3.mono b1.size); have c3 : w3.cell? ⟨w1.heap.size, 0, none⟩ = some F := by rw [cell_of_row _ _ _ _ _ _ ks3]; rfl
  have hk3 := (bW.block bp (by have := block_lt hkp; omega)).trans ((hW.block bp (block_lt hkp)).trans hkp); have hz1 := HS1.out; have hSx : Sx p pm pv pr cm cv cr bp W.heap.size w1.heap.size l we w3 := ⟨hk3, (b3.block _ (block_lt ky)).trans ky, by rw [ks3, ← hF], hb.trans ((hW.mono hb.size).trans (bW.mono (by have := hb.size; omega)))⟩; have hSk : Sk n0 kx bp W.heap.size w1.heap.size we := ⟨hbk, by omega, by omega, hkx, hwe⟩; have hcl := c_search pm pv pr cm cv cr bp W.heap.size w1.heap.size l n0 kx (truthsF p).length p we hp hRP hSk J hJB hYY p.ms.length [] none 0 [] w3 (by simp) (tried_nil p) (fun _ => ⟨rfl, rfl⟩) (World.ownsRow_nil _ _ _ _) hSx (by have := bW.size; omega) (hJB _ _ _ h0 bW) (by rw [yF_nil]; simp); have hd : 1 ≤ n - 1 := by omega
  clear hSx hSk hk3 bW b3 ks3 ks ky hJB hYY hY hJ h0 hz1 b1 b2 hkp hb hRP hW hsz hwe hkx hbk hn0; rw [← hF] at s3 c3; subst hF; show CallsIn Fence.wide n Tryz.prog 113 #[.func (.yield l) #[] #[], .pointer (some ⟨bp, 0, none⟩)] W _; refine callsIn_of_wp Tryz.func113 rfl trivial ?_ rfl; simp only [Tryz.ntmps113, List.size_toArray, List.length_cons, List.length_nil, Nat.reduceAdd, Nat.reduceSub, Array.replicate_succ, Array.replicate_zero, List.push_toArray, List.append_toArray, List.nil_append, List.cons_append]
  gi_wp2_with fail
  refine ⟨trivial, fun _ => (by omega), ?_⟩; refine (callsIn_wide.2 hcl).mono ?_; clear hcl; rintro e w4 ⟨rfl, xs, hx1, hx2, hx3, hx4⟩; have H1 := Lib.hid hx1; have H2 := Lib.hid hx2; have H3 := Lib.hid hx3; clear hx1 hx2 hx3 hx4
  gi_wp2
  go_end0
  exact ⟨⟨_, rfl⟩, xs, by rw [H1.out, yF_nil], H2.out, H3.out⟩

theorem c_truths (pm pv pr : Option Addr) (cm cv cr : Nat) (p : Pc) (w : World) :
    Calls Tryz.prog 62 #[.agg #[.slice pm p.ms.length cm, .slice pv p.mv.length cv, .slice pr p.rs.length cr]] w fun e w' => e = .returned (.func (.func 113) #[] #[.pointer (some ⟨w.heap.size, 0, none⟩)]) ∧
      w.alloc (.cells #[.slice pm p.ms.length cm, .slice pv p.mv.length cv, .slice pr p.rs.length cr] 27) = w' := by
  go_enter Tryz.func62, Tryz.ntmps62
  go_wp2; go_ret; exact ⟨rfl, rfl⟩
end Go.Proofs.YtbknfddaoolagaaGreatDoor
end

section
namespace Go.Proofs.YtbknfddaoolagaaGreatDoor
open Go Go.RowKit Go.Proofs Go.Shelf
set_option linter.unusedVariables false
attribute [local go_sem] Oper.semAt_some imax2 imin2

theorem truths_le {p : Pc} (hp : PieceOk p) : (truthsF p).length ≤ 625 := by
  have key : ∀ (ms : List (Int × Int)), (∀ i, i < ms.length → (gm ms i).2 - (gm ms i).1 ≤ 4) → (prodF ms).length ≤ 5 ^ ms.length := by
    intro ms
    induction ms with
    | nil => intro _; simp [prodF]
    | cons m r ih =>
      intro h; have h0 := h 0 (by simp); have hr := ih (fun i hi => by have := h (i + 1) (by simp; omega); exact this); have h0' : m.2 - m.1 ≤ 4 := h0
      have hlen : ∀ (L : List Int), (L.flatMap fun n => (prodF r).map fun a => n :: a).length = L.length * (prodF r).length := by
        intro L
        induction L with
        | nil => simp
        | cons x L ih2 => rw [List.flatMap_cons, List.length_append, ih2, List.length_map, List.length_cons, Nat.add_mul]; omega
      simp only [prodF]; rw [hlen, rng_len, List.length_cons, Nat.pow_succ, Nat.mul_comm]; exact Nat.mul_le_mul hr (by omega)
  have h1 := key p.ms (fun i hi => (hp.mesh i hi).2.2.2); have h2 : (5 : Nat) ^ p.ms.length ≤ 5 ^ 4 := Nat.pow_le_pow_right (by decide) hp.n4; have h3 : (truthsF p).length ≤ (prodF p.ms).length := by unfold truthsF; exact List.length_filter_le _ _
  omega

set_option maxHeartbeats 1600000 in
set_option maxRecDepth 100000 in
theorem c_Truths (pm pv pr : Option Addr) (cm cv cr : Nat) (p : Pc) (w : World) (hp : RdP w pm pv pr p) (hl : LenOk p) :
    Calls Tryz.prog 24 #[.agg #[.slice pm p.ms.length cm, .slice pv p.mv.length cv, .slice pr p.rs.length cr]] w fun e w' => e = .returned (.tuple #[.int .i64 (if pieceB p = true then ((truthsF p).length : Int) else 0), .int .i64 (if pieceB p = true then 0 else 2)]) ∧ Below w.heap.size w w' := by
  obtain ⟨w1, e1, HS1, k0, k1, k2, b1⟩ := box3 w (.slice pm p.ms.length cm) (.slice pv p.mv.length cv) (.slice pr p.rs.length cr) 27; have HP := Lib.hid (hp.below b1); have HP0 := Lib.hid hp; have HB := Lib.hid b1; have HL := Lib.hid hl; clear b1 hp hl
  rcases h1 : pieceB p with _ | _
  · go_enter Tryz.func24, Tryz.ntmps24
    go_wp2_with fail; refine (c_isPiece pm pv pr cm cv cr p _ HP.out HL.out).mono ?_; rw [h1]; rintro e wn ⟨rfl, bq⟩; replace HB := Lib.hid (HB.out.trans (bq.mono HB.out.size)); clear bq e1; go_wp2; refine bodyPost_ret (v := .tuple #[.int .i64 0, .int .i64 2]) (by simp [results, Tryz.results24, go_sem]) rfl ?_; exact ⟨rfl, HB.out⟩
  · have HPO := Lib.hid (pieceB_iff.1 h1)
    refine (callsIn_wide (n := 6)).1 ?_; refine callsIn_of_wp_marks Tryz.func24 rfl trivial ?_ rfl; simp only [Tryz.ntmps24, List.size_toArray, List.length_cons, List.length_nil, Nat.reduceAdd, Nat.reduceSub, Array.replicate_succ, Array.replicate_zero, List.push_toArray, List.append_toArray, List.nil_append, List.cons_append]
    gi_wp2_with fail
    refine ⟨trivial, ?_⟩; refine (callsIn_wide.2 (c_isPiece pm pv pr cm cv cr p _ HP.out HL.out)).mono ?_; rw [h1]; rintro e w2 ⟨rfl, bq⟩; replace HB := Lib.hid (HB.out.trans (bq.mono HB.out.size)); have k0 := (bq.cell (lt_of_cellq k0)).trans k0; have k1 := (bq.cell (lt_of_cellq k1)).trans k1; have k2 := (bq.cell (lt_of_cellq k2)).trans k2; clear bq e1 h1
    -- the box of the number
    obtain ⟨w3', e3', hz3, x0, f0, b3'⟩ := box1 w2 (.int .i64 0) 3; have kx' := alloc_new w2 (.cells #[.int .i64 0] 3); rw [e3'] at kx'; obtain ⟨w3, s3⟩ : ∃ w3, w3'.setCell ⟨w2.heap.size, 0, none⟩ (.int .i64 0) = w3 := ⟨_, rfl⟩; have f0 := f0.out; have kx : w3.heap[w2.heap.size]? = some (.cells #[.int .i64 0] 3 (0, 0)) := by rw [← s3, heap_setCell_same w3' w2.heap.size 0 _ _ _ kx']; rfl
    have b3 : Below w2.heap.size w2 w3 := by rw [← s3]; exact b3'.setCell (Nat.le_refl _) _
    have hz3' : w3.heap.size = w2.heap.size + 1 := by rw [← s3]; simpa using hz3.out
    have k0 := (b3.cell (lt_of_cellq k0)).trans k0; have k1 := (b3.cell (lt_of_cellq k1)).trans k1; have k2 := (b3.cell (lt_of_cellq k2)).trans k2; have HB3 := Lib.hid (HB.out.trans (b3.mono HB.out.size)); have HKX := Lib.hid kx; have HZ3 := Lib.hid hz3'; have HZ2 := Lib.hid HB.out.size; clear b3 b3' kx kx' hz3 hz3'
    gi_wp2_with fail
    refine ⟨trivial, ?_⟩; refine (callsIn_wide.2 (c_truths pm pv pr cm cv cr p _)).mono ?_; rintro e w4 ⟨rfl, e4⟩
    gi_wp2_with fail
    have hkp : w4.heap[w3.heap.size]? = some (.cells #[.slice pm p.ms.length cm, .slice pv p.mv.length cv, .slice pr p.rs.length cr] 27 (0, 0)) := by rw [← e4]; exact alloc_new _ _
    have hz4 : w4.heap.size = w3.heap.size + 1 := by rw [← e4]; simp
    have hB4 : Below w.heap.size w w4 := by rw [← e4]; exact HB3.out.alloc HB3.out.size _
    have hX4 : w4.heap[w2.heap.size]? = some (.cells #[.int .i64 0] 3 (0, 0)) := by rw [← e4]; exact alloc_old _ _ HKX.out
    have hz3 := HZ3.out; have hz2 := HZ2.out; have hseq := truths_seq 5 (by omega) pm pv pr cm cv cr w3.heap.size w4.heap.size w2.heap.size p w w4 HPO.out HP0.out (Nat.le_refl _) hkp (by omega) (by omega) hz2 hB4; have hN := truths_le HPO.out; have HN := Lib.hid hN; have HZ := Lib.hid (show w.heap.size ≤ w2.heap.size ∧ w2.heap.size < w4.heap.size from ⟨hz2, by omega⟩); clear e4 e3' s3 x0 f0 k0 k1 k2 hkp HKX HB3 HZ3 HZ2 HP hz3 hz4 hz2 hN
    refine wpIn_rangeFunc_mem rfl (by omega) (gf := 113) (lb := #[.pointer (some ⟨w3.heap.size, 0, none⟩)]) rfl trivial (enters_of Tryz.func113 (by kernel_rfl) rfl) hseq (fun h k => h.trans k)
      (fun W l o o' hlz hlo ho _ => KpT.putObj hlz hlo ho) (fun x W l o o' hlo ho hm => hm.putObj hlo ho) (Below.refl _ _) (fun _ => rfl)
      (fun pre W => W.heap[w2.heap.size]? = some (.cells #[.int .i64 (pre.length : Int)] 3 (0, 0)) ∧ Below w.heap.size w W)
      (OwnFrom.and (fun s W W' row hs hg hr => (hg.block _ (block_lt hs) (fun e => by have := (hr _ e.symm).1; have := HZ.out; omega)).trans hs) (ownFrom_below (Nat.le_refl _) hB4.size)) ⟨hX4, hB4⟩
      (fun x a' W => a' = { tmps := #[.agg #[.slice pm p.ms.length cm, .slice pv p.mv.length cv, .slice pr p.rs.length cr], .pointer (some ⟨w.heap.size, 0, none⟩), .int .i64 0, .int .i64 0, .pointer (some ⟨w2.heap.size, 0, none⟩),
        .agg #[.slice pm p.ms.length cm, .slice pv p.mv.length cv, .slice pr p.rs.length cr], .bool true, .bool false, .agg #[.slice pm p.ms.length cm, .slice pv p.mv.length cv, .slice pr p.rs.length cr],
        .func (.func 113) #[] #[.pointer (some ⟨w3.heap.size, 0, none⟩)], tvA x, undef, undef, undef], defers := [] }) (fun x a' s W W' row hs _ _ => hs) ?assign ?body ?done
    case assign =>
      intro l pre x W K hi hm hK; have hK' := hK _ W (KeepsFrom.refl _ _) (KpT.refl _ _ _) hi hm rfl; clear hK hi hm; unfold tvA at hK'; unfold tvE tvA
      gi_wp2
      simp only [List.zip_toArray, List.zip_cons_cons, List.zip_nil_right]; exact hK'
    case body =>
      rintro l pre x a' W ⟨hi, hB⟩ hm rfl hlen; have y0 : W.cell? ⟨w2.heap.size, 0, none⟩ = some (.int .i64 (pre.length : Int)) := by rw [cell_of_row _ _ _ _ _ _ hi]; rfl
      have yf : W.frozen? ⟨w2.heap.size, 0, none⟩ = false := frozen_of_row _ _ _ _ _ hi; have hw : IntKind.i64.wrap ((pre.length : Int) + 1) = (pre.length : Int) + 1 := w64 _ (by have := HN.out; omega) (by have := HN.out; omega); have HI := Lib.hid hi; have HB := Lib.hid hB; clear hi hB hm hlen; unfold tvA
      gi_wp2
      refine ⟨(KeepsOthers.setCell _ _ _).from _, KpT.setCell (KpT.refl _ _ _) _ _, ?_, HB.out.setCell (by have := HZ.out; show w.heap.size ≤ w2.heap.size; omega) _⟩; rw [heap_setCell_same W w2.heap.size 0 _ _ _ HI.out]
      simp
    case done =>
      rintro D xs W hD hS ⟨hi, hB⟩ hm hK; have y0 : W.cell? ⟨w2.heap.size, 0, none⟩ = some (.int .i64 (xs.length : Int)) := by rw [cell_of_row _ _ _ _ _ _ hi]; rfl
      have HI := Lib.hid hi; have HB := Lib.hid hB; have HS := Lib.hid hS; clear hi hB hS hm
      gi_wp2
      refine ⟨by simp, .inl ⟨_, _, rfl, run_takeDeferred hK, ?_⟩⟩; have hl : xs.length = (truthsF p).length := by rw [← HS.out, List.length_map]
      refine ⟨.tuple #[.int .i64 (xs.length : Int), .int .i64 0], ?_, by rw [hl], HB.out.trans (belowK_b (w := w) (Nat.le_refl _) W D _ _ (by have := HZ.out; omega) hK rfl rfl)⟩; simp [results, Tryz.results24, go_sem]
end Go.Proofs.YtbknfddaoolagaaGreatDoor
end
