/-
  The products of a rule: marks among the deferred calls, rows of marks, two rows and what lies beside them.
  The products of a rule, in order and as marks: contract (printed by vf.py).
  The first train, plain; a copy of a train: contract.
  Trains in order: contracts.
  The best of some trains: contract.
  The best of what was found: contracts.
  The products that come near to a fraction, plain.
-/
import Derived.Test.YtchclaipbahiiaaGreatFZT21
import Derived.Test.YtchclaipbahiiaaGreatFZT22
import Derived.Test.YtchclaipbahiiaaGreatFZT23
section
namespace Go.Proofs.YtchclaipbahiiaaGreat
open Go Go.RowKit Go.Proofs Go.Shelf
set_option linter.unusedVariables false
set_option linter.unusedSimpArgs false
theorem BelX.put {X : Nat → Prop} {B : Nat} {a w : World} (h : BelX X B a w) {l : Nat} (hl : X l ∨ B ≤ l) (o : Obj) : BelX X B a (w.putObj l o) := by
  have hg := grownBy_putObj' w l o; refine ⟨hg.os.trans h.os, hg.tape.trans h.tape, hg.output.trans h.output, Nat.le_trans h.size hg.size, fun k hk hx => ?_⟩
  have hne : k ≠ l := fun e => by
    subst e
    rcases hl with hl | hl
    · exact hx hl
    · omega
  exact (World.putObj_heap_other hne).trans (h.block k hk hx)
def marks (Ds : List Nat) : List Deferred := Ds.map fun D => { target := .collected D, args := #[] }
def MarksOk (Ds : List Nat) (w : World) : Prop := Ds.Nodup ∧ ∀ D ∈ Ds, w.heap[D]? = some (.deferred (some []))
theorem leaves_marks {F : Fence} {n : Nat} {P : Program} {fn : Func} {tmps : Array Value} {R : Ending → World → Prop} : ∀ (Ds : List Nat) (w : World), MarksOk Ds w →
    (∀ w', BelX (fun k => k ∈ Ds) w.heap.size w w' → LeavesInM F n P fn tmps R [] .returning w') → LeavesInM F n P fn tmps R (marks Ds) .returning w := by
  intro Ds
  induction Ds with
  | nil => intro w _ h; exact h w (BelX.refl _ _ _)
  | cons D Ds ih =>
    intro w hm h; obtain ⟨hnd, hall⟩ := hm; rw [List.nodup_cons] at hnd; refine ⟨by simp, .inl ⟨D, _, rfl, run_takeDeferred (hall D (by simp)), ?_⟩⟩; refine ih _ ⟨hnd.2, fun E hE => ?_⟩ (fun w' hb => h w' ?_)
    · exact (World.putObj_heap_other (fun e => hnd.1 (by rw [← e]; exact hE))).trans (hall E (by simp [hE]))
    · refine ((BelX.refl (fun k => k ∈ D :: Ds) w.heap.size w).put (l := D) (.inl (by simp)) (.deferred none)).trans ?_
      have h1 := hb.weak (Y := fun k => k ∈ D :: Ds) (fun k _ hk => by simp [hk]); exact h1.mono (by simp)
section
variable {w W W' : World} {B z1 z2 n1 n2 : Nat} {e1 e2 : TypeId} {v1 v2 : Value} {xs1 xs2 : List Value} {ks : List (Nat × Obj)}
theorem Two.put {b : Nat} {o o' : Obj} (h : Two w B e1 z1 v1 n1 xs1 e2 z2 v2 n2 xs2 ((b, o) :: ks) W) (hn : ∀ p ∈ ks, p.1 ≠ b) (hW : ∀ k, k ≠ b → W'.heap[k]? = W.heap[k]?) (ho : W'.heap[b]? = some o') (hb : Below B w W') :
    Two w B e1 z1 v1 n1 xs1 e2 z2 v2 n2 xs2 ((b, o') :: ks) W' := by
  have hh := h.k b o (.head _); refine ⟨own_same h.o1 fun g hg => hW g (fun e => hh.2.1 (by rw [hg, e])), own_same h.o2 fun g hg => hW g (fun e => hh.2.2 (by rw [hg, e])), h.ap, fun c p hm => ?_, hb⟩
  rcases List.mem_cons.1 hm with e | hm
  · injection e with e1 e2
    subst e1 e2; exact ⟨ho, hh.2⟩
  · obtain ⟨k1, k2⟩ := h.k c p (.tail _ hm)
    exact ⟨(hW c (hn _ hm)).trans k1, k2⟩
theorem Two.belX {b : Nat} (h : Two w B e1 z1 v1 n1 xs1 e2 z2 v2 n2 xs2 ks W) (hb : BelX (fun x => x = b) W.heap.size W W') (hB : B ≤ W.heap.size) (h0 : B ≤ b) (h1 : v1.ownBlock ≠ some b) (h2 : v2.ownBlock ≠ some b) (hn : ∀ p ∈ ks, p.1 ≠ b) :
    Two w B e1 z1 v1 n1 xs1 e2 z2 v2 n2 xs2 ks W' := by
  refine ⟨own_same h.o1 fun g hg => hb.block g (h.o1.lt _ hg).2 (fun e => h1 (by rw [hg, e])), own_same h.o2 fun g hg => hb.block g (h.o2.lt _ hg).2 (fun e => h2 (by rw [hg, e])), h.ap, fun c p hm => ?_, h.below.trans ((hb.mono hB).below (Nat.le_refl _) (fun k e => by subst e; exact h0))⟩; obtain ⟨k1, k2⟩ := h.k c p hm; exact ⟨(hb.block c (block_lt k1) (hn _ hm)).trans k1, k2⟩
end
def MkC (N : Nat) (pre : List Int) : Array Value := ((List.range (N + 1)).map fun (x : Nat) => Value.bool (pre.contains (x : Int))).toArray
theorem mkC_get (N : Nat) (pre : List Int) (x : Nat) (h : x ≤ N) : (MkC N pre)[x]? = some (.bool (pre.contains (x : Int))) := by
  unfold MkC; simp [show x < N + 1 by omega]
theorem mkC_set (N : Nat) (pre : List Int) (x : Nat) (h : x ≤ N) : (MkC N pre).setIfInBounds x (.bool true) = MkC N (pre ++ [(x : Int)]) := by
  apply Array.ext'; unfold MkC; simp only [Array.toList_setIfInBounds]; apply List.ext_getElem?; intro j; rw [List.getElem?_set]
  by_cases hj : x = j
  · subst hj
    simp [show x < N + 1 by omega]
  · rw [if_neg hj]
    by_cases hjn : j < N + 1
    · have hji : ¬ (j : Int) = (x : Int) := by omega
      simp [hjn, hji]
    · simp [hjn]
theorem mkC_nil (N : Nat) : MkC N [] = (List.replicate (N + 1) (Value.bool false)).toArray := by
  unfold MkC
  congr 1
  apply List.ext_getElem?; intro j
  by_cases h : j < N + 1
  · simp [h]
  · simp [h]
theorem madeB (n : Nat) : (madeCells #[Value.bool false] n).toList = List.replicate n (.bool false) := made_all _ _ (fun j => by rw [show (#[Value.bool false] : Array Value).size = 1 from rfl, Nat.mod_one]; rfl) n
theorem infBl : (Tryz.prog.info? 4).map (fun i => (i.zero, i.size, i.bytes)) = some (some (.bool false), 1, 1) := by kernel_rfl
set_option maxRecDepth 100000 in
theorem makeLB (n : Nat) (hn : n ≤ 1000000) (w : World) : (Instr.makeSlice 53 (.int .i64 ((n : Int) + 1)) (.int .i64 ((n : Int) + 1))).run Tryz.prog w = .ok (.slice (some ⟨w.heap.size, 0, none⟩) (n + 1) (n + 1)) (w.alloc (.cells (MkC n []) 4)) := by
  obtain ⟨i0, hi0, hz0, hz1, hz2⟩ := info_parts infBl; have h := run_make (P := Tryz.prog) w 53 4 i0 _ Tryz.underlying53 hi0 hz0 .i64 .i64 ((n + 1 : Nat) : Int) ((n + 1 : Nat) : Int) (by omega) (Int.le_refl _) (by rw [hz2]; omega) (by omega); simp only [Int.toNat_natCast, hz1] at h; rw [show ((n + 1 : Nat) : Int) = (n : Int) + 1 by omega] at h; rw [h, mkC_nil, ← madeB]
  simp
  rfl
theorem rep60 (n : Nat) : ∀ k, k ≤ n → prodT (List.replicate n 60) k = 60 ^ k := by
  intro k
  induction k with
  | zero => intro _; rfl
  | succ k ih =>
    intro h; show prodT (List.replicate n 60) k * gi (List.replicate n 60) k = 60 ^ (k + 1); rw [ih (by omega), Int.pow_succ]; unfold gi; rw [List.getD_eq_getElem?_getD, List.getElem?_replicate, if_pos (by omega)]
    rfl
theorem repC_inV (v : Int) (n : Nat) : repC [.int .i64 v] n = inV (List.replicate n v) := by
  induction n with
  | zero => rfl
  | succ n ih => simp only [repC, List.replicate_succ, ih]; rfl
theorem t_power (b : Nat) (n : Nat) (hn : n ≤ 4) (w : World) (hb : w.heap[b]? = some (.cells #[.int .i64 60] 3 (0, 0))) :
    Calls Tryz.prog 75 #[.slice (some ⟨b, 0, none⟩) 1 1, .int .i64 n] w fun e w' => ∃ g, e = .returned (.slice (some ⟨g, 0, none⟩) n n) ∧ RdI w' (some ⟨g, 0, none⟩) (List.replicate n 60) ∧ Below w.heap.size w w' := by
  have key : Calls Tryz.prog 75 #[.slice (some ⟨b, 0, none⟩) 1 1, .int .i64 n] w (RepPost 60 n w) := by
    by_cases h : n = 0
    · subst h; exact t_repeat0 b 0 1 60 w
    · exact t_repeat b 0 1 60 n (by omega) (by omega) w (fun j u hj => by
        rw [add_new, cell_of_row _ _ _ _ _ _ hb]
        cases j with
        | zero => simpa using hj
        | succ j => simp at hj)
  refine key.mono ?_; rintro e w' ⟨g, rfl, hg, hc, hb'⟩; refine ⟨g, rfl, ?_, hb'⟩; rw [repC_inV] at hc
  by_cases h : n = 0
  · subst h; exact .inl rfl
  · exact .inr ⟨g, 0, rfl, fun i hi => by
      rw [Nat.zero_add, cell_of_row _ _ _ _ _ _ hc]; simp only [List.getElem?_toArray]; exact inV_get _ i hi⟩
end Go.Proofs.YtchclaipbahiiaaGreat
end

section
namespace Go.Proofs.YtchclaipbahiiaaGreat
open Go Go.RowKit Go.Proofs Go.Shelf
set_option linter.unusedVariables false
set_option linter.unusedSimpArgs false
attribute [local go_sem] Oper.semAt_some imax2 imin2
def srtTo (t : List Int) (n j : Nat) : List Int := ((List.range j).filter fun (x : Nat) => (prodsL t n).contains (x : Int)).map fun (x : Nat) => (x : Int)
theorem srtTo_all (t : List Int) (n : Nat) : srtTo t n (topN n + 1) = srtF t n := rfl
theorem srtTo_succ (t : List Int) (n j : Nat) : srtTo t n (j + 1) = if (prodsL t n).contains (j : Int) = true then srtTo t n j ++ [(j : Int)] else srtTo t n j := by
  unfold srtTo; rw [List.range_succ, List.filter_append, List.map_append]
  by_cases h : (prodsL t n).contains (j : Int) = true
  · rw [if_pos h]; simp only [List.filter_cons, h, if_true, List.filter_nil, List.map_cons, List.map_nil]
  · rw [if_neg h, List.filter_cons, if_neg h]; simp
theorem srtTo_len (t : List Int) (n j : Nat) : (srtTo t n j).length ≤ j := by
  unfold srtTo; rw [List.length_map]; exact Nat.le_trans (List.length_filter_le _ _) (by simp)
def SrIn (t : List Int) (ks : List (Nat × Obj)) (i : Nat) (v : Value) : Prop :=
  ∃ q c, v = .slice q (srtF t i).length c ∧ (srtF t i = [] ∨ ∃ g cur fr, q = some ⟨g, 0, none⟩ ∧ (g, Obj.cells cur 3 fr) ∈ ks ∧ ∀ j, j < (srtF t i).length → cur[j]? = some (.int .i64 (gi (srtF t i) j)))
def MkIn (t : List Int) (ks : List (Nat × Obj)) (i : Nat) (v : Value) : Prop := ∃ g cp, v = .slice (some ⟨g, 0, none⟩) (topN i + 1) cp ∧ (g, Obj.cells (MkC (topN i) (prodsL t i)) 4 (0, 0)) ∈ ks
def RowsIn (P : Nat → Value → Prop) (k : Nat) (xs : List Value) : Prop := xs.length = k ∧ ∀ i, i < k → ∃ v, xs[i]? = some v ∧ P i v
theorem RowsIn.snoc {P : Nat → Value → Prop} {k : Nat} {xs : List Value} (h : RowsIn P k xs) {v : Value} (hv : P k v) : RowsIn P (k + 1) (xs ++ [v]) := by
  refine ⟨by rw [List.length_append, h.1]; rfl, fun i hi => ?_⟩
  by_cases hk : i < k
  · obtain ⟨u, hu, hp⟩ := h.2 i hk
    exact ⟨u, by rw [List.getElem?_append_left (by rw [h.1]; exact hk)]; exact hu, hp⟩
  · obtain rfl : i = k := by omega
    exact ⟨v, by rw [List.getElem?_append_right (by rw [h.1]; exact Nat.le_refl _), h.1, Nat.sub_self]; rfl, hv⟩
theorem RowsIn.weak {P P' : Nat → Value → Prop} {k : Nat} {xs : List Value} (h : RowsIn P k xs) (hp : ∀ i v, P i v → P' i v) : RowsIn P' k xs :=
  ⟨h.1, fun i hi => by obtain ⟨v, hv, hpv⟩ := h.2 i hi; exact ⟨v, hv, hp i v hpv⟩⟩
theorem SrIn.more {t : List Int} {ks ks' : List (Nat × Obj)} (hs : ∀ p, p ∈ ks → p ∈ ks') {i : Nat} {v : Value} (h : SrIn t ks i v) : SrIn t ks' i v := by
  obtain ⟨q, c, e, h⟩ := h; refine ⟨q, c, e, ?_⟩
  rcases h with h | ⟨g, cur, fr, e1, e2, e3⟩
  · exact .inl h
  · exact .inr ⟨g, cur, fr, e1, hs _ e2, e3⟩
theorem MkIn.more {t : List Int} {ks ks' : List (Nat × Obj)} (hs : ∀ p, p ∈ ks → p ∈ ks') {i : Nat} {v : Value} (h : MkIn t ks i v) : MkIn t ks' i v := by
  obtain ⟨g, cp, e, h⟩ := h; exact ⟨g, cp, e, hs _ h⟩
structure PrK (B : Nat) (t : List Int) (k : Nat) (bI bR bO : Nat) (oI oR : Obj) (Ds : List Nat) (xs1 xs2 : List Value) (ks : List (Nat × Obj)) : Prop where
  nd : Ds.Nodup
  ds : ∀ D ∈ Ds, (D, Obj.deferred (some [])) ∈ ks
  dl : ∀ D ∈ Ds, B ≤ D
  kI : (bI, oI) ∈ ks
  kR : (bR, oR) ∈ ks
  ne : ∀ p ∈ ks, p.1 ≠ bO
  r1 : RowsIn (SrIn t ks) k xs1
  r2 : RowsIn (MkIn t ks) k xs2
def PrepI (a0 a1 a3 a4 : Value) (pr : Nat) (q : Option Addr) (c : Nat) (t : List Int) (w : World) (bI bR bO : Nat) (a : Act) (wr : World) : Prop :=
  ∃ (u4 u5 u6 u7 u8 u9 u17 u18 u19 u20 u21 u22 u23 u24 u25 u26 u27 u28 u29 u30 u31 u32 u33 u34 u35 u36 u37 u38 u39 u40 u41 u42 u43 u44 u45 u46 u47 u48 u49 u50 u51 u52 u53 u54 u55 u56 u57 u58 : Value) (k : Nat) (Ds : List Nat) (v1 v2 : Value) (xs1 xs2 : List Value) (ks : List (Nat × Obj)), a = { tmps := #[.agg #[a0, a1, .int .i64 pr, a3, a4, .slice q t.length c], .pointer (some ⟨bI, 0, none⟩), .pointer (some ⟨bR, 0, none⟩), .pointer (some ⟨bO, 0, none⟩), u4, u5, u6, u7, u8, u9, .agg #[a0, a1, .int .i64 pr, a3, a4, .slice q t.length c], .agg #[a0, a1, .int .i64 pr, a3, a4, .slice q t.length c, .slice none 0 0, .slice none 0 0], .pointer (some ⟨bI, 0, none⟩), .pointer (some ⟨bI, 2, none⟩), .int .i64 pr, .int .i64 ((pr : Int) + 1), .int .i64 k, u17, u18, u19, u20, u21, u22, u23, u24, u25, u26, u27, u28, u29, u30, u31, u32, u33, u34, u35, u36, u37, u38, u39, u40, u41, u42, u43, u44, u45, u46, u47, u48, u49, u50, u51, u52, u53, u54, u55, u56, u57, u58], defers := marks Ds } ∧ k ≤ pr + 1 ∧
    Hid (Two w w.heap.size 23 1 v1 k xs1 53 1 v2 k xs2 ((bO, .cells #[a0, a1, .int .i64 pr, a3, a4, .slice q t.length c, v1, v2] 93 (0, 0)) :: ks) wr) ∧
    Hid (PrK w.heap.size t k bI bR bO (.cells #[a0, a1, .int .i64 pr, a3, a4, .slice q t.length c] 89 (0, 0)) (.cells #[.int .i64 0, .int .i64 0, .int .i64 0, .int .i64 0, .slice none 0 0, .slice none 0 0, .slice none 0 0, .slice none 0 0] 93 (0, 0)) Ds xs1 xs2 ks)
def prepMu (pr : Nat) (a : Act) (_ : World) : Nat := pr + 1 - (intOf (a.tmps.getD 16 undef)).toNat
theorem Two.start {w W : World} {B z1 z2 : Nat} {e1 e2 : TypeId} {ks : List (Nat × Obj)} (hb : Below B w W) (hk : ∀ b o, (b, o) ∈ ks → W.heap[b]? = some o) : Two w B e1 z1 (.slice none 0 0) 0 [] e2 z2 (.slice none 0 0) 0 [] ks W :=
  ⟨World.ownsRow_nil _ _ _ _, World.ownsRow_nil _ _ _ _, fun g h => by simp [Value.ownBlock] at h, fun b o hm => ⟨hk b o hm, by simp [Value.ownBlock], by simp [Value.ownBlock]⟩, hb⟩
theorem Two.add {w W : World} {B z1 z2 n1 n2 : Nat} {e1 e2 : TypeId} {v1 v2 : Value} {xs1 xs2 : List Value} {ks : List (Nat × Obj)} (h : Two w B e1 z1 v1 n1 xs1 e2 z2 v2 n2 xs2 ks W) {b : Nat} {o : Obj} (hk : W.heap[b]? = some o) (h1 : v1.ownBlock ≠ some b) (h2 : v2.ownBlock ≠ some b) : Two w B e1 z1 v1 n1 xs1 e2 z2 v2 n2 xs2 ((b, o) :: ks) W := by
  refine ⟨h.o1, h.o2, h.ap, fun b' o' hm => ?_, h.below⟩
  rcases List.mem_cons.1 hm with e | hm
  · injection e with e1 e2
    subst e1 e2; exact ⟨hk, h1, h2⟩
  · exact h.k b' o' hm
theorem ownFrom_belX {β : Type} {X : Nat → Prop} {n₀ B : Nat} {w₀ : World} (hn : n₀ ≤ w₀.heap.size) (hB : n₀ ≤ B) : OwnFrom B (fun (_ : β) W => BelX X n₀ w₀ W) :=
  fun _ Y Z row hs hg hr => ⟨hg.os.trans hs.os, hg.tape.trans hs.tape, hg.output.trans hs.output, Nat.le_trans hs.size hg.size, fun k hk hx => (hg.block k (by have := hs.size; omega) (fun e => by have := (hr k e.symm).1; omega)).trans (hs.block k hk hx)⟩
def RdSr (w : World) (q : Option Addr) (t : List Int) (n : Nat) : Prop :=
  ∃ b off, q = some ⟨b, off, none⟩ ∧ ∀ i, i < n → ∃ p cp, w.cell? ⟨b, off + i, none⟩ = some (.slice p (srtF t i).length cp) ∧ RdI w p (srtF t i)
theorem RdSr.below {w w' : World} {q : Option Addr} {t : List Int} {n : Nat} (h : RdSr w q t n) (hb : Below w.heap.size w w') : RdSr w' q t n := by
  obtain ⟨b, off, e, hc⟩ := h; refine ⟨b, off, e, fun i hi => ?_⟩; obtain ⟨p, cp, h1, h2⟩ := hc i hi; exact ⟨p, cp, (hb.cell (lt_of_cellq h1)).trans h1, h2.below hb⟩
def PrepPost (a0 a1 a3 a4 : Value) (pr : Nat) (q : Option Addr) (c : Nat) (t : List Int) (w : World) (e : Ending) (w' : World) : Prop :=
  ∃ q1 c1 q2 c2, e = .returned (.agg #[a0, a1, .int .i64 pr, a3, a4, .slice q t.length c, .slice q1 (pr + 1 : Nat) c1, .slice q2 (pr + 1 : Nat) c2]) ∧ RdSr w' q1 t (pr + 1) ∧ RdMk w' q2 t (pr + 1) ∧ Below w.heap.size w w'
theorem infSl : (Tryz.prog.info? 23).map (fun i => (i.zero, i.size, i.bytes)) = some (some (.slice none 0 0), 1, 24) := by kernel_rfl
theorem infSb : (Tryz.prog.info? 53).map (fun i => (i.zero, i.size, i.bytes)) = some (some (.slice none 0 0), 1, 24) := by kernel_rfl
set_option maxRecDepth 100000 in
set_option maxHeartbeats 4000000 in
theorem t_prepared (lo hi se : Int) (p : Option Addr) (nn cap : Nat) (pr : Nat) (q : Option Addr) (c : Nat) (t : List Int) (w : World) (hx : RdI w q t) (ht : Tth t) (hp : pr ≤ 3) :
    Calls Tryz.prog 35 #[.agg #[(.int .i64 lo), (.int .i64 hi), .int .i64 pr, (.int .i64 se), (.slice p nn cap), .slice q t.length c]] w (PrepPost (.int .i64 lo) (.int .i64 hi) (.int .i64 se) (.slice p nn cap) pr q c t w) := by
  obtain ⟨i1, hi1, hy0, hy1, hy2⟩ := info_parts infSl; obtain ⟨i2, hi2, hx0, hx1, hx2⟩ := info_parts infSb; obtain ⟨i0, hi0, hz0, hz1, hz2⟩ := info_parts infI; obtain ⟨w1, e1, HS1, kI, b1⟩ := bx6 w (.int .i64 lo) (.int .i64 hi) (.int .i64 pr) (.int .i64 se) (.slice p nn cap) (.slice q t.length c) 89; obtain ⟨w2, e2, HS2, kR, b2⟩ := bx8 w1 (.int .i64 0) (.int .i64 0) (.int .i64 0) (.int .i64 0) (.slice none 0 0) (.slice none 0 0) (.slice none 0 0) (.slice none 0 0) 93; obtain ⟨wz, e3, HS3, kZ, bz⟩ := bx8 w2 (.int .i64 0) (.int .i64 0) (.int .i64 0) (.int .i64 0) (.slice none 0 0) (.slice none 0 0) (.slice none 0 0) (.slice none 0 0) 93; obtain ⟨y1, y2, y3, y4, y5, y6, y7, w3, s1, s2, s3, s4, s5, s6, s7, s8, ⟨c1, f1⟩, ⟨c2, f2⟩, ⟨c3, f3⟩, ⟨c4, f4⟩, ⟨c5, f5⟩, ⟨c6, f6⟩, ⟨c7, f7⟩, ⟨c8, f8⟩, kO, hkO, HSO, hbO3⟩ := set8 wz w2.heap.size 93 _ _ _ _ _ _ _ _ (.int .i64 lo) (.int .i64 hi) (.int .i64 pr) (.int .i64 se) (.slice p nn cap) (.slice q t.length c) (.slice none 0 0) (.slice none 0 0) kZ
  have b3 : Below w2.heap.size w2 w3 := hbO3 w2 w2.heap.size (Nat.le_refl _) bz; obtain ⟨bI, hbI⟩ : ∃ b, w.heap.size = b := ⟨_, rfl⟩; obtain ⟨bR, hbR⟩ : ∃ b, w1.heap.size = b := ⟨_, rfl⟩; obtain ⟨bO, hbO⟩ : ∃ b, w2.heap.size = b := ⟨_, rfl⟩; obtain ⟨j0, j1, j2, j3, j4, j5⟩ := cells6 kI; have j0 := (b2.cell (lt_of_cellq j0)).trans j0; have j1 := (b2.cell (lt_of_cellq j1)).trans j1; have j2 := (b2.cell (lt_of_cellq j2)).trans j2; have j3 := (b2.cell (lt_of_cellq j3)).trans j3; have j4 := (b2.cell (lt_of_cellq j4)).trans j4; have j5 := (b2.cell (lt_of_cellq j5)).trans j5; have m2 := (b3.cell (lt_of_cellq j2)).trans j2; have kI := (b2.block _ (block_lt kI)).trans kI; have kI := (b3.block _ (block_lt kI)).trans kI; have kR := (b3.block _ (block_lt kR)).trans kR; have hz1 := HS1.out; have hz2 := HS2.out; have hB3 : Below w.heap.size w w3 := b1.trans ((b2.trans (b3.mono b2.size)).mono b1.size); rw [hbI] at kI j0 j1 j2 j3 j4 j5 m2
  rw [hbR] at kR; rw [hbO] at kO s1 s2 s3 s4 s5 s6 s7 s8 c1 c2 c3 c4 c5 c6 c7 c8 f1 f2 f3 f4 f5 f6 f7 f8
  have HT0 := Lib.hid (Two.start (w := w) (B := w.heap.size) (e1 := 23) (e2 := 53) (z1 := 1) (z2 := 1) hB3 (ks := [(bO, .cells #[(.int .i64 lo), (.int .i64 hi), .int .i64 pr, (.int .i64 se), (.slice p nn cap), .slice q t.length c, .slice none 0 0, .slice none 0 0] 93 (0, 0)), (bI, .cells #[(.int .i64 lo), (.int .i64 hi), .int .i64 pr, (.int .i64 se), (.slice p nn cap), .slice q t.length c] 89 (0, 0)),
      (bR, .cells #[.int .i64 0, .int .i64 0, .int .i64 0, .int .i64 0, .slice none 0 0, .slice none 0 0, .slice none 0 0, .slice none 0 0] 93 (0, 0))]) (fun b o hm => by
    simp only [List.mem_cons, List.not_mem_nil, or_false, Prod.mk.injEq] at hm
    rcases hm with ⟨rfl, rfl⟩ | ⟨rfl, rfl⟩ | ⟨rfl, rfl⟩
    · exact kO
    · exact kI
    · exact kR))
  have HK0 := Lib.hid (show PrK w.heap.size t 0 bI bR bO (.cells #[(.int .i64 lo), (.int .i64 hi), .int .i64 pr, (.int .i64 se), (.slice p nn cap), .slice q t.length c] 89 (0, 0)) (.cells #[.int .i64 0, .int .i64 0, .int .i64 0, .int .i64 0, .slice none 0 0, .slice none 0 0, .slice none 0 0, .slice none 0 0] 93 (0, 0)) [] [] [] [(bI, .cells #[(.int .i64 lo), (.int .i64 hi), .int .i64 pr, (.int .i64 se), (.slice p nn cap), .slice q t.length c] 89 (0, 0)),
      (bR, .cells #[.int .i64 0, .int .i64 0, .int .i64 0, .int .i64 0, .slice none 0 0, .slice none 0 0, .slice none 0 0, .slice none 0 0] 93 (0, 0))] from
    ⟨List.nodup_nil, (fun D h => by cases h), (fun D h => by cases h), .head _, .tail _ (.head _), (fun p hm => by
      simp only [List.mem_cons, List.not_mem_nil, or_false] at hm
      rcases hm with rfl | rfl <;> (simp only []; omega)), ⟨rfl, fun i h => by omega⟩, ⟨rfl, fun i h => by omega⟩⟩)
  have HX := Lib.hid hx; have HTT := Lib.hid ht; have HBI := Lib.hid (show w.heap.size ≤ bI ∧ w.heap.size ≤ bR ∧ w.heap.size ≤ bO by omega); clear hx ht b1 b2 b3 bz kI kR kO kZ hkO hbO3 hB3 hz1 hz2; refine (callsIn_wide (n := 6)).1 ?_; refine callsIn_of_wp_marks Tryz.func35 rfl trivial ?_ rfl; simp only [Tryz.ntmps35, List.size_toArray, List.length_cons, List.length_nil, Nat.reduceAdd, Nat.reduceSub, Array.replicate_succ, Array.replicate_zero, List.push_toArray, List.append_toArray, List.nil_append, List.cons_append]; have hwp : IntKind.i64.wrap ((pr : Int) + 1) = (pr : Int) + 1 := w64 _ (by omega) (by omega)
  gi_wp2
  clear e1 e2 e3 j0 j1 j2 j3 j4 j5 m2 hbI hbR hbO s1 s2 s3 s4 s5 s6 s7 s8 c1 c2 c3 c4 c5 c6 c7 c8 f1 f2 f3 f4 f5 f6 f7 f8; refine wpIn_loop (PrepI (.int .i64 lo) (.int .i64 hi) (.int .i64 se) (.slice p nn cap) pr q c t w bI bR bO) (prepMu pr) ?start ?round
  case start => exact ⟨_, _, _, _, _, _, _, _, _, _, _, _, _, _, _, _, _, _, _, _, _, _, _, _, _, _, _, _, _, _, _, _, _, _, _, _, _, _, _, _, _, _, _, _, _, _, _, _, 0, [], _, _, _, _, _, rfl, by omega, HT0, HK0⟩
  case round =>
    rintro a wn ⟨u4, u5, u6, u7, u8, u9, u17, u18, u19, u20, u21, u22, u23, u24, u25, u26, u27, u28, u29, u30, u31, u32, u33, u34, u35, u36, u37, u38, u39, u40, u41, u42, u43, u44, u45, u46, u47, u48, u49, u50, u51, u52, u53, u54, u55, u56, u57, u58, k, Ds, v1, v2, xs1, xs2, ks, rfl, hk, HT, HK⟩
    by_cases hlt : k < pr + 1
    · have hltI : decide ((k : Int) < (pr : Int) + 1) = true := by simp; omega
      obtain ⟨N, hN⟩ : ∃ N, topN k = N := ⟨_, rfl⟩
      have hN6 : N ≤ 216000 := by
        rw [← hN]; exact (show (60 : Nat) ^ k ≤ 60 ^ 3 from Nat.pow_le_pow_right (by decide) (by omega))
      have hNI : (60 : Int) ^ k = (N : Int) := by rw [← hN]; unfold topN; rw [Int.natCast_pow]; rfl
      have HNI := Lib.hid hNI; have HNN := Lib.hid hN; have hwN : IntKind.i64.wrap ((N : Int) + 1) = (N : Int) + 1 := w64 _ (by omega) (by omega); have hmk := makeLB N (by omega); obtain ⟨wA, eA, HSA, _, _, bA⟩ := box1 wn (.int .i64 60) 3; have kA := alloc_new wn (.cells #[.int .i64 60] 3); rw [eA] at kA; have HTA := Lib.hid (HT.out.kept bA HT.out.below.size); have hpow := t_power wn.heap.size k (by omega) wA kA; have HOB := Lib.hid (show ∀ b, wn.heap.size ≤ b → v1.ownBlock ≠ some b ∧ v2.ownBlock ≠ some b from fun b hb => ⟨fun e => by have := (HT.out.o1.lt _ e).2; omega, fun e => by have := (HT.out.o2.lt _ e).2; omega⟩); clear bA kA hNI hN
      gi_wp2_with fail
      refine ⟨trivial, ?_⟩; refine (callsIn_wide.2 hpow).mono ?_; clear hpow; rintro e wB ⟨g, rfl, hrd, bB⟩; have HTB := Lib.hid (HTA.out.kept bB HTA.out.below.size)
      have hpr := t_product (some ⟨g, 0, none⟩) k (List.replicate k 60) wB hrd (by rw [List.length_replicate]; omega) (fun j hj => by
        rw [List.length_replicate] at hj; rw [rep60 k j hj]
        have h1 : (60 : Int) ^ j ≤ 60 ^ k := by
          have h := Int.ofNat_le.2 (Nat.pow_le_pow_right (n := 60) (by decide) hj)
          simpa using h
        have h2 : 0 < (60 : Int) ^ j := Int.pow_pos (by decide); rw [HNI.out] at h1; unfold Mid; omega)
      rw [rep60 k _ (by rw [List.length_replicate]; exact Nat.le_refl _), List.length_replicate, HNI.out] at hpr; have hzB : wn.heap.size < wB.heap.size := by have := HSA.out; have := bB.size; omega
      clear hrd bB
      gi_wp2_with fail
      refine ⟨trivial, ?_⟩; refine (callsIn_wide.2 hpr).mono ?_; clear hpr; rintro e w' ⟨rfl, rfl⟩; obtain ⟨wC, eC⟩ : ∃ wC, wB.alloc (.cells (MkC N []) 4) = wC := ⟨_, rfl⟩; have kC := alloc_new wB (.cells (MkC N []) 4); have hzC : wC.heap.size = wB.heap.size + 1 := by rw [← eC]; simp
      have bC : Below wB.heap.size wB wC := by rw [← eC]; exact below_alloc1 _ _
      rw [eC] at kC; obtain ⟨wD, eD, HSD, x0, xf, bD⟩ := box1 wC (.slice (some ⟨wB.heap.size, 0, none⟩) (N + 1) (N + 1)) 53; have kD := alloc_new wC (.cells #[.slice (some ⟨wB.heap.size, 0, none⟩) (N + 1) (N + 1)] 53); rw [eD] at kD; have hzD := HSD.out; have kC := (bD.block _ (block_lt kC)).trans kC; have HTD := Lib.hid ((HTB.out.kept bC HTB.out.below.size).kept bD (Nat.le_trans HTB.out.below.size bC.size)); obtain ⟨j0, j1, j2, j3, j4, j5⟩ := cells6 (HTD.out.cell (.tail _ HK.out.kI)); obtain ⟨wE, eE⟩ : ∃ wE, wD.alloc (.cells #[(.int .i64 lo), (.int .i64 hi), .int .i64 pr, (.int .i64 se), (.slice p nn cap), .slice q t.length c] 89) = wE := ⟨_, rfl⟩; have kE := alloc_new wD (.cells #[(.int .i64 lo), (.int .i64 hi), .int .i64 pr, (.int .i64 se), (.slice p nn cap), .slice q t.length c] 89); have hzE : wE.heap.size = wD.heap.size + 1 := by rw [← eE]; simp
      have bE : Below wD.heap.size wD wE := by rw [← eE]; exact below_alloc1 _ _
      rw [eE] at kE; obtain ⟨wF, eF⟩ : ∃ wF, wE.alloc (.cells #[.int .i64 k] 3) = wF := ⟨_, rfl⟩; have kF := alloc_new wE (.cells #[.int .i64 k] 3); have hzF : wF.heap.size = wE.heap.size + 1 := by rw [← eF]; simp
      have bF : Below wE.heap.size wE wF := by rw [← eF]; exact below_alloc1 _ _
      rw [eF] at kF; have bDF : Below wD.heap.size wD wF := bE.trans (bF.mono bE.size); have kE := (bF.block _ (block_lt kE)).trans kE; have kD := (bDF.block _ (block_lt kD)).trans kD; have kC := (bDF.block _ (block_lt kC)).trans kC; have f0 : wF.cell? ⟨wE.heap.size, 0, none⟩ = some (.int .i64 k) := by rw [cell_of_row _ _ _ _ _ _ kF]; rfl
      have HTF := Lib.hid (HTD.out.kept bDF HTD.out.below.size); have hcl := t_products (.int .i64 lo) (.int .i64 hi) (.int .i64 pr) (.int .i64 se) (.slice p nn cap) (.slice q t.length c) k wD; rw [eE, eF, show wD.heap.size + 1 = wE.heap.size by omega] at hcl; have hseq := products_seq 5 (by omega) (.int .i64 lo) (.int .i64 hi) (.int .i64 pr) (.int .i64 se) (.slice p nn cap) q c wD.heap.size wE.heap.size wF.heap.size wB.heap.size k t w wF HX.out HTT.out N (by omega) (by rw [HNI.out]; exact Int.le_refl _) (Nat.le_refl _) kE f0 (by omega) (by omega) (by have := HTB.out.below.size; omega) HTF.out.below; have HZ := Lib.hid (show wn.heap.size < wB.heap.size ∧ wB.heap.size < wC.heap.size ∧ wC.heap.size < wF.heap.size from ⟨hzB, by omega, by omega⟩); have HKC := Lib.hid (And.intro kC kD); clear bC bD bE bF bDF kE kF kC kD f0 hzC hzD hzE hzF hzB
      gi_wp2_with fail
      refine ⟨trivial, ?_⟩; refine (callsIn_wide.2 hcl).mono ?_; clear hcl; rintro e w' ⟨rfl, rfl⟩
      gi_wp2_with fail
      refine wpIn_rangeFunc_mem rfl (by omega) (gf := 121) (lb := #[.pointer (some ⟨wD.heap.size, 0, none⟩), .pointer (some ⟨wE.heap.size, 0, none⟩)]) rfl trivial (enters_of Tryz.func121 (by kernel_rfl) rfl) hseq (fun h k => h.trans k)
        (fun W l o o' hlz hlo ho _ => KpT.putObj hlz hlo ho) (fun x W l o o' hlo ho hm => hm) (Below.refl _ _) (fun _ => rfl)
        (fun pre W => W.heap[wB.heap.size]? = some (.cells (MkC N pre) 4 (0, 0)) ∧ BelX (fun x => x = wB.heap.size) wF.heap.size wF W)
        (OwnFrom.and (fun s W W' row hs hg hr => (hg.block _ (block_lt hs) (fun e => by have := (hr _ e.symm).1; have := HZ.out; omega)).trans hs) (ownFrom_belX (Nat.le_refl _) (Nat.le_refl _))) ⟨HKC.out.1, BelX.refl _ _ _⟩
        (fun x a' W => a' = { tmps := #[.agg #[(.int .i64 lo), (.int .i64 hi), .int .i64 pr, (.int .i64 se), (.slice p nn cap), .slice q t.length c], .pointer (some ⟨bI, 0, none⟩), .pointer (some ⟨bR, 0, none⟩), .pointer (some ⟨bO, 0, none⟩), .int .i64 k, .pointer (some ⟨wC.heap.size, 0, none⟩), .int .i64 x, u7, u8, u9, .agg #[(.int .i64 lo), (.int .i64 hi), .int .i64 pr, (.int .i64 se), (.slice p nn cap), .slice q t.length c], .agg #[(.int .i64 lo), (.int .i64 hi), .int .i64 pr, (.int .i64 se), (.slice p nn cap), .slice q t.length c, .slice none 0 0, .slice none 0 0], .pointer (some ⟨bI, 0, none⟩), .pointer (some ⟨bI, 2, none⟩), .int .i64 pr, .int .i64 ((pr : Int) + 1), .int .i64 k, .bool true, .int .i64 k, .slice (some ⟨wn.heap.size, 0, none⟩) 1 1, .int .i64 k, .slice (some ⟨g, 0, none⟩) k k, .int .i64 N, .int .i64 ((N : Int) + 1), .slice (some ⟨wB.heap.size, 0, none⟩) (N + 1) (N + 1), .agg #[(.int .i64 lo), (.int .i64 hi), .int .i64 pr, (.int .i64 se), (.slice p nn cap), .slice q t.length c], .int .i64 k, .func (.func 121) #[] #[.pointer (some ⟨wD.heap.size, 0, none⟩), .pointer (some ⟨wE.heap.size, 0, none⟩)], .int .i64 x, u29, u30, u31, u32, u33, u34, u35, u36, u37, u38, u39, u40, u41, u42, u43, u44, u45, u46, u47, u48, u49, u50, u51, u52, u53, u54, u55, u56, u57, u58], defers := [] }) (fun x a' s W W' row hs _ _ => hs) ?assign ?body ?done
      case assign =>
        intro l pre x W K hi hm hK; have hK' := hK _ W (KeepsFrom.refl _ _) (KpT.refl _ _ _) hi hm rfl; clear hK hi hm; simp only [List.zip_toArray, List.zip_cons_cons, List.zip_nil_right]
        gi_wp2
        exact hK'
      case body =>
        rintro l pre x a' W ⟨hR, hB⟩ hm rfl hlen; obtain ⟨y, rfl⟩ : ∃ y : Nat, x = (y : Int) := ⟨x.toNat, by have := hm.1; omega⟩; have hyN : y ≤ N := by have := hm.2; omega
        have hyI : (y : Int) < (N : Int) + 1 := by omega
        have q0 : W.cell? ⟨wC.heap.size, 0, none⟩ = some (.slice (some ⟨wB.heap.size, 0, none⟩) (N + 1) (N + 1)) := by
          rw [cell_of_row _ _ _ _ _ _ ((hB.block wC.heap.size (by have := HZ.out; omega) (by have := HZ.out; show ¬ (wC.heap.size = wB.heap.size); omega)).trans HKC.out.2)]; rfl
        have y0 : W.cell? ⟨wB.heap.size, y, none⟩ = some (.bool (pre.contains (y : Int))) := by rw [cell_of_row _ _ _ _ _ _ hR]; exact mkC_get N pre y hyN
        have yf : W.frozen? ⟨wB.heap.size, y, none⟩ = false := frozen_of_row _ _ _ _ _ hR; have HI := Lib.hid hR; have HB := Lib.hid hB
        have HF := Lib.hid (show KeepsFrom wF.heap.size W (W.setCell ⟨wB.heap.size, y, none⟩ (.bool true)) ∧ KpT wF.heap.size wB.heap.size W (W.setCell ⟨wB.heap.size, y, none⟩ (.bool true)) ∧ (W.setCell ⟨wB.heap.size, y, none⟩ (.bool true)).heap[wB.heap.size]? = some (.cells (MkC N (pre ++ [(y : Int)])) 4 (0, 0)) ∧ BelX (fun x => x = wB.heap.size) wF.heap.size wF (W.setCell ⟨wB.heap.size, y, none⟩ (.bool true)) from
          ⟨(KeepsOthers.setCell _ _ _).from _, KpT.setCell (KpT.refl _ _ _) _ _, by rw [heap_setCell_same W wB.heap.size y _ _ _ HI.out, mkC_set N pre y hyN], HB.out.setCell (.inl rfl) _⟩)
        clear hR hB hm hlen
        gi_wp2
        exact HF.out
      case done =>
        rintro D xs W hD hS ⟨hR, hB⟩ hm hK; subst hS; have hz := HZ.out
        have hnG : ∀ pp ∈ ((bO, Obj.cells #[(.int .i64 lo), (.int .i64 hi), .int .i64 pr, (.int .i64 se), (.slice p nn cap), .slice q t.length c, v1, v2] 93 (0, 0)) :: ks), pp.1 ≠ wB.heap.size := fun pp hp => by
          have := block_lt (HT.out.k pp.1 pp.2 hp).1; omega
        have hzW := hB.size; have hobG := HOB.out wB.heap.size (by omega); have hobX := HOB.out wC.heap.size (by omega); have hobD := HOB.out D (by omega); have hkx : W.heap[wC.heap.size]? = some (.cells #[.slice (some ⟨wB.heap.size, 0, none⟩) (N + 1) (N + 1)] 53 (0, 0)) := (hB.block wC.heap.size (by omega) (by show ¬ (wC.heap.size = wB.heap.size); omega)).trans HKC.out.2; have hTW := ((((HTF.out.belX hB HTF.out.below.size (by have := HT.out.below.size; omega) hobG.1 hobG.2 hnG).add hR hobG.1 hobG.2).add hkx hobX.1 hobX.2).add hK hobD.1 hobD.2); have HTW := Lib.hid hTW; have q0 : W.cell? ⟨wC.heap.size, 0, none⟩ = some (.slice (some ⟨wB.heap.size, 0, none⟩) (N + 1) (N + 1)) := by rw [cell_of_row _ _ _ _ _ _ hkx]; rfl
        have HMK := Lib.hid (show ∀ W2, Below W.heap.size W W2 → ∀ j : Nat, j ≤ N → W2.cell? ⟨wB.heap.size, j, none⟩ = some (.bool ((prodsL t k).contains (j : Int))) from fun W2 hb j hj => by
          rw [cell_of_row _ _ _ _ _ _ ((hb.block _ (block_lt hR)).trans hR)]; exact mkC_get N _ j hj)
        have HNE := Lib.hid (show (∀ p ∈ ks, p.1 ≠ D) ∧ D ≠ wC.heap.size ∧ D ≠ wB.heap.size ∧ D ≠ bO ∧ wB.heap.size ≠ bO ∧ wC.heap.size ≠ bO from ⟨fun p hp => by
          have := block_lt (HT.out.k p.1 p.2 (.tail _ hp)).1; omega, by omega, by omega, by have := block_lt (HT.out.k bO _ (.head _)).1; omega, by have := block_lt (HT.out.k bO _ (.head _)).1; omega, by have := block_lt (HT.out.k bO _ (.head _)).1; omega⟩)
        have HZD := Lib.hid (show wn.heap.size ≤ W.heap.size by omega); have HZD2 := Lib.hid (show w.heap.size ≤ D by have := HT.out.below.size; omega); clear hR hB hm hK hz hnG hzW hobG hobX hobD hkx hTW hD
        gi_wp2
        gi_loopw [7, 34] (fun a b wr2 => ∃ j m : Nat, b = .int .i64 j ∧ j ≤ N + 1 ∧ m ≤ j ∧ Hid (m = (srtTo t k j).length) ∧ Hid (wr2.ownsRow W.heap.size 3 1 a m (inV (srtTo t k j))) ∧ Hid (Below W.heap.size W wr2)) (fun _ b _ => N + 1 - (intOf b).toNat)
        case atStart => exact ⟨0, 0, rfl, by omega, Nat.le_refl _, Lib.hid rfl, Lib.hid (World.ownsRow_nil _ _ _ _), Lib.hid (Below.refl _ _)⟩
        case round =>
          obtain ⟨j, m, rfl, hj, hm, HML, HOW, HBW⟩ := hrel
          by_cases hlt2 : j < N + 1
          · have ltI2 : decide ((j : Int) < (N : Int) + 1) = true := by simp; omega
            have hjI : (j : Int) < (N : Int) + 1 := by omega
            have hwj : IntKind.i64.wrap ((j : Int) + 1) = (j : Int) + 1 := w64 _ (by omega) (by omega); have d0 := HMK.out wr HBW.out j (by omega); have HSU := Lib.hid (srtTo_succ t k j)
            cases hC : (prodsL t k).contains (j : Int) with
            | false =>
              rw [hC] at d0 HSU; rw [if_neg (by decide)] at HSU; clear hC
              gi_wp2
              go_roundw
              case rel => exact ⟨j + 1, m, by go_num, by omega, by omega, Lib.hid (by rw [HSU.out]; exact HML.out), Lib.hid (by rw [HSU.out]; exact HOW.out), HBW⟩
              case measure => simp [intOf]; omega
            | true =>
              rw [hC] at d0 HSU; rw [if_pos rfl] at HSU; clear hC; have HOA := Lib.hid (show (wr.alloc (.cells #[.int .i64 j] 3)).ownsRow W.heap.size 3 1 u7 m (inV (srtTo t k j)) from HOW.out.alloc _)
              gi_wp2_with (gi_at_builtin; refine wpListIn_append_own _ rfl _ _ 23 rfl W.heap.size 3 i0 _ 1 8 Tryz.underlying23 hi0 hz0 hz1 hz2 rfl (by decide) _ _ _ rfl HOA.out ⟨wr.heap.size, 0, none⟩ 1 1 [.int .i64 j] rfl rfl ?c1 ?c2 ?c3 ?c4 ?c5 ?_)
              case c1 => exact news_of _ _ _
              case c2 => intro u hu; simp at hu; subst hu; rfl
              case c3 => unfold maxLen; omega
              case c4 => omega
              case c5 => have := HBW.out.size; simp; omega
              intro v' wd hown' hgrow _; have HBD := Lib.hid ((HBW.out.alloc HBW.out.size (.cells #[.int .i64 j] 3)).grown hgrow (by have := HBW.out.size; simp; omega) (fun j hj => (HOA.out.lt j hj).1))
              have HON := Lib.hid (show wd.ownsRow W.heap.size 3 1 v' (m + 1) (inV (srtTo t k (j + 1))) by
                rw [HSU.out]; unfold inV; rw [List.map_append]; exact hown')
              clear hown' hgrow
              gi_wp2
              go_roundw
              case rel => exact ⟨j + 1, m + 1, by go_num, by omega, by omega, Lib.hid (by rw [HSU.out, List.length_append, ← HML.out]; rfl), HON, HBD⟩
              case measure => simp [intOf]; omega
          · obtain rfl : j = N + 1 := by omega
            have ltI2 : decide ((N : Int) + 1 < (N : Int) + 1) = false := by simp
            obtain ⟨ga, capl, rfl⟩ := own_any HOW.out; have hbw := HBW.out; have HTS := HTW.out.kept hbw HTW.out.below.size; have HSO := Lib.hid (show srtTo t k (N + 1) = srtF t k by rw [← srtTo_all, HNN.out])
            obtain ⟨ksN, HTN, HSR, HIN⟩ : ∃ ksN, Two w w.heap.size 23 1 v1 k xs1 53 1 v2 k xs2 ksN wr ∧ SrIn t ksN k (.slice ga m capl) ∧
                (∀ x, x ∈ ((D, Obj.deferred (some [])) :: (wC.heap.size, .cells #[.slice (some ⟨wB.heap.size, 0, none⟩) (N + 1) (N + 1)] 53 (0, 0)) :: (wB.heap.size, .cells (MkC N (prodsL t k)) 4 (0, 0)) :: (bO, .cells #[(.int .i64 lo), (.int .i64 hi), .int .i64 pr, (.int .i64 se), (.slice p nn cap), .slice q t.length c, v1, v2] 93 (0, 0)) :: ks) → x ∈ ksN) := by
              rcases HOW.out.2 with ⟨e, h0⟩ | ⟨gg, cap', cur, e, hb, hg, hle, _, hcs, htk⟩
              · refine ⟨_, HTS, ⟨ga, capl, by rw [← HSO.out, ← HML.out], .inl ?_⟩, fun x hx => hx⟩
                rw [← HSO.out]; exact List.length_eq_zero_iff.1 (by rw [← HML.out]; exact h0)
              · injection e with e1 _ e3
                subst e1 e3; have hobg := HOB.out gg (by have := HZD.out; omega); refine ⟨_, HTS.add hg hobg.1 hobg.2, ⟨_, capl, by rw [← HSO.out, ← HML.out], .inr ⟨gg, cur, (0, 0), rfl, .head _, fun i hi' => ?_⟩⟩, fun x hx => .tail _ hx⟩; rw [← HSO.out] at hi' ⊢; have h1 := inV_get (srtTo t k (N + 1)) i hi'; rw [← htk, List.getElem?_take] at h1; rw [Nat.mul_one] at h1; rw [← HML.out] at hi'; rw [if_pos hi'] at h1
                simpa using h1
            have HTN := Lib.hid HTN; have HSR := Lib.hid HSR; have HIN := Lib.hid HIN; clear HTS hbw; have o0 := HTN.out.cell (HIN.out _ (.tail _ (.tail _ (.tail _ (.head _))))); have ox := HTN.out.cell (HIN.out _ (.tail _ (.head _)))
            have HSK := Lib.hid (show ∀ X : World, X.heap[bO]? = some (.cells #[(.int .i64 lo), (.int .i64 hi), .int .i64 pr, (.int .i64 se), (.slice p nn cap), .slice q t.length c, v1, v2] 93 (0, 0)) → X.heap[wC.heap.size]? = some (.cells #[.slice (some ⟨wB.heap.size, 0, none⟩) (N + 1) (N + 1)] 53 (0, 0)) →
              X.cell? ⟨bO, 6, none⟩ = some v1 ∧ X.cell? ⟨bO, 7, none⟩ = some v2 ∧ X.cell? ⟨wC.heap.size, 0, none⟩ = some (.slice (some ⟨wB.heap.size, 0, none⟩) (N + 1) (N + 1)) from fun X h1 h2 => ⟨by rw [cell_of_row _ _ _ _ _ _ h1]; rfl, by rw [cell_of_row _ _ _ _ _ _ h1]; rfl, by rw [cell_of_row _ _ _ _ _ _ h2]; rfl⟩)
            have HMO := Lib.hid (HIN.out _ (.tail _ (.tail _ (.tail _ (.head _))))); have HMX := Lib.hid (HIN.out _ (.tail _ (.head _)))
            have HKN := Lib.hid (show ∀ (y1 y2 : Value), SrIn t ksN k y1 → MkIn t ksN k y2 → ∃ ks', (∀ x, x ∈ ks' → x ∈ ksN) ∧ PrK w.heap.size t (k + 1) bI bR bO (.cells #[(.int .i64 lo), (.int .i64 hi), .int .i64 pr, (.int .i64 se), (.slice p nn cap), .slice q t.length c] 89 (0, 0)) (.cells #[.int .i64 0, .int .i64 0, .int .i64 0, .int .i64 0, .slice none 0 0, .slice none 0 0, .slice none 0 0, .slice none 0 0] 93 (0, 0)) (D :: Ds) (xs1 ++ [y1]) (xs2 ++ [y2]) ks' from fun y1 y2 h1 h2 => by
              have hsub : ∀ x, x ∈ ks → x ∈ ksN.filter (fun x => decide (x.1 ≠ bO)) := fun x hx => List.mem_filter.2 ⟨HIN.out x (.tail _ (.tail _ (.tail _ (.tail _ hx)))), by simpa using HK.out.ne x hx⟩
              have hup : ∀ {g : Nat} {o : Obj}, (g, o) ∈ ksN → g ≠ bO → (g, o) ∈ ksN.filter (fun x => decide (x.1 ≠ bO)) := fun h h' => List.mem_filter.2 ⟨h, by simpa using h'⟩
              have hcell : ∀ {g : Nat} {cur : Array Value} {ty : TypeId} {fr : Nat × Nat}, (g, Obj.cells cur ty fr) ∈ ksN → ty ≠ 93 → g ≠ bO := fun {g} {cur} {ty} {fr} h hty e => by
                have e1 := HTN.out.cell h; rw [e, HTN.out.cell HMO.out] at e1
                cases e1
                exact hty rfl
              refine ⟨ksN.filter (fun x => decide (x.1 ≠ bO)), fun x hx => (List.mem_filter.1 hx).1, List.nodup_cons.2 ⟨fun hm => HNE.out.1 _ (HK.out.ds D hm) rfl, HK.out.nd⟩, ?_, ?_, hsub _ HK.out.kI, hsub _ HK.out.kR, fun x hx => by simpa using (List.mem_filter.1 hx).2, ?_, ?_⟩
              · intro E hE
                rcases List.mem_cons.1 hE with rfl | hE
                · exact hup (HIN.out _ (.head _)) HNE.out.2.2.2.1
                · exact hsub _ (HK.out.ds E hE)
              · intro E hE
                rcases List.mem_cons.1 hE with rfl | hE
                · have := HZD2.out; omega
                · exact HK.out.dl E hE
              · refine (HK.out.r1.weak fun i v h => h.more hsub).snoc ?_
                obtain ⟨q', c', e, h⟩ := h1; refine ⟨q', c', e, h.imp id ?_⟩; rintro ⟨g', cur, fr, e1, e2, e3⟩; exact ⟨g', cur, fr, e1, hup e2 (hcell e2 (by decide)), e3⟩
              · refine (HK.out.r2.weak fun i v h => h.more hsub).snoc ?_
                obtain ⟨g', cp, e, h⟩ := h2; exact ⟨g', cp, e, hup h (hcell h (by decide))⟩)
            have HMI := Lib.hid (show MkIn t ksN k (.slice (some ⟨wB.heap.size, 0, none⟩) (N + 1) (N + 1)) from ⟨_, _, by rw [HNN.out], by rw [HNN.out]; exact HIN.out _ (.tail _ (.tail _ (.head _)))⟩)
            gi_wp2_with fail
            refine wpIn_wide_T (S := fun w' => w'.cell? ⟨bO, 6, none⟩ = some v1 ∧ w'.cell? ⟨bO, 7, none⟩ = some v2 ∧ w'.cell? ⟨wC.heap.size, 0, none⟩ = some (.slice (some ⟨wB.heap.size, 0, none⟩) (N + 1) (N + 1))) (S2 := fun _ => True) (fun i => i == 11 || (i == 12 || i == 13)) (by kernel_rfl) (fun W0 hb0 heq => ?_); have HT0 := Lib.hid (HTN.out.kept hb0 HTN.out.below.size); clear hb0 heq o0 ox; refine tkT 0 rfl (by exact ⟨HSK.out _ (HT0.out.cell HMO.out) (HT0.out.cell HMX.out), trivial⟩) ?_; (try simp only [Act.put, ptL]); refine tkT 1 rfl (by exact ⟨HSK.out _ (HT0.out.cell HMO.out) (HT0.out.cell HMX.out), trivial⟩) ?_; (try simp only [Act.put, ptL]); refine tkT 2 rfl (by exact ⟨HSK.out _ (HT0.out.cell HMO.out) (HT0.out.cell HMX.out), trivial⟩) ?_; (try simp only [Act.put, ptL]); refine tkT 5 rfl (by exact ⟨HSK.out _ (HT0.out.cell HMO.out) (HT0.out.cell HMX.out), trivial⟩) ?_; (try simp only [Act.put, ptL]); refine tkT 6 rfl (by exact ⟨HSK.out _ (HT0.out.cell HMO.out) (HT0.out.cell HMX.out), trivial⟩) ?_; (try simp only [Act.put, ptL]); refine tkT 7 rfl (by exact ⟨HSK.out _ (HT0.out.cell HMO.out) (HT0.out.cell HMX.out), trivial⟩) ?_; (try simp only [Act.put, ptL])
            refine rz2T 3 8 rfl rfl ?_ ?_
            · intro K hK
              go_simp; have HT1 := Lib.hid (HT0.out.alloc HT0.out.below.size #[.slice ga m capl] 23); refine kzS hK (by exact ⟨HSK.out _ (HT1.out.cell (by first | exact HMO.out | exact .tail _ HMO.out | exact .tail _ (.tail _ HMO.out))) (HT1.out.cell (by first | exact HMX.out | exact .tail _ HMX.out | exact .tail _ (.tail _ HMX.out))), trivial⟩) ?_; clear hK K; (try simp only [Act.put, ptL]); obtain ⟨Wl1, e1⟩ : ∃ X, (W0.alloc (.cells #[.slice ga m capl] 23)) = X := ⟨_, rfl⟩; obtain ⟨L1, l1⟩ : ∃ X, W0.heap.size = X := ⟨_, rfl⟩; rw [e1, l1] at HT1
              (try rw [l1]); rw [e1]; clear e1 l1
              refine rz2T 4 8 rfl rfl ?_ ?_
              · intro K hK
                refine step_append_lies _ rfl _ _ 90 rfl w.heap.size 23 i1 _ 1 24 Tryz.underlying90 hi1 hy0 hy1 hy2 rfl (by decide) v1 (k) (xs1) rfl HT1.out.o1 ⟨L1, 0, none⟩ 1 1 [.slice ga m capl] rfl rfl (World.news_of_block (HT1.out.cell (.head _))) (by intro u hu; simp at hu; subst hu; rfl) (by decide) (by unfold maxLen; omega) (by omega) HT1.out.below.size _ rfl ?_; intro g2 cap2 Wa2 hown hgrow hlies _; have HT2 := Lib.hid (HT1.out.grow HT1.out.below.size hown hgrow hlies); clear hown hgrow hlies; refine kzS hK (by exact ⟨HSK.out _ (HT2.out.cell (by first | exact HMO.out | exact .tail _ HMO.out | exact .tail _ (.tail _ HMO.out))) (HT2.out.cell (by first | exact HMX.out | exact .tail _ HMX.out | exact .tail _ (.tail _ HMX.out))), trivial⟩) ?_; clear hK K; (try simp only [Act.put, ptL]); refine tkT 10 rfl (by exact ⟨HSK.out _ (HT2.out.cell (by first | exact HMO.out | exact .tail _ HMO.out | exact .tail _ (.tail _ HMO.out))) (HT2.out.cell (by first | exact HMX.out | exact .tail _ HMX.out | exact .tail _ (.tail _ HMX.out))), trivial⟩) ?_; (try simp only [Act.put, ptL])
                refine rz1T 8 rfl ?_; intro K hK; go_simp; have HT3 := Lib.hid (HT2.out.alloc HT2.out.below.size #[.slice (some ⟨wB.heap.size, 0, none⟩) (N + 1) (N + 1)] 53); refine kzS hK (by exact ⟨HSK.out _ (HT3.out.cell (by first | exact HMO.out | exact .tail _ HMO.out | exact .tail _ (.tail _ HMO.out))) (HT3.out.cell (by first | exact HMX.out | exact .tail _ HMX.out | exact .tail _ (.tail _ HMX.out))), trivial⟩) ?_; clear hK K; (try simp only [Act.put, ptL]); obtain ⟨Wl3, e3⟩ : ∃ X, (Wa2.alloc (.cells #[.slice (some ⟨wB.heap.size, 0, none⟩) (N + 1) (N + 1)] 53)) = X := ⟨_, rfl⟩; obtain ⟨L3, l3⟩ : ∃ X, Wa2.heap.size = X := ⟨_, rfl⟩; rw [e3, l3] at HT3
                (try rw [l3]); rw [e3]; clear e3 l3
                refine rz1T 9 rfl ?_; intro K hK; refine step_append_lies _ rfl _ _ 91 rfl w.heap.size 53 i2 _ 1 24 Tryz.underlying91 hi2 hx0 hx1 hx2 rfl (by decide) v2 (k) (xs2) rfl HT3.out.o2 ⟨L3, 0, none⟩ 1 1 [.slice (some ⟨wB.heap.size, 0, none⟩) (N + 1) (N + 1)] rfl rfl (World.news_of_block (HT3.out.cell (.head _))) (by intro u hu; simp at hu; subst hu; rfl) (by decide) (by unfold maxLen; omega) (by omega) HT3.out.below.size _ rfl ?_; intro g4 cap4 Wa4 hown hgrow hlies _; have HT4 := Lib.hid (HT3.out.swap.grow HT3.out.below.size hown hgrow hlies).swap; clear hown hgrow hlies; refine kzS hK (by exact ⟨HSK.out _ (HT4.out.cell (by first | exact HMO.out | exact .tail _ HMO.out | exact .tail _ (.tail _ HMO.out))) (HT4.out.cell (by first | exact HMX.out | exact .tail _ HMX.out | exact .tail _ (.tail _ HMX.out))), trivial⟩) ?_; clear hK K; (try simp only [Act.put, ptL]); have kO := HT4.out.cell (b := bO) (.tail _ (.tail _ HMO.out))
                obtain ⟨wy, s6, c6, f6, hx6, hk6, HZ6, hb6⟩ := put8_6 Wa4 bO 93 _ _ _ _ _ _ _ _ (.slice (some ⟨g2, 0, none⟩) (k + 1) cap2) kO; obtain ⟨wz, s7, c7, f7, hx7, hk7, HZ7, hb7⟩ := put8_7 wy bO 93 _ _ _ _ _ _ _ _ (.slice (some ⟨g4, 0, none⟩) (k + 1) cap4) hx6; obtain ⟨ksF, hsubF, hPK⟩ := HKN.out _ _ HSR.out HMI.out
                have HTZ := Lib.hid ((HT4.out.sub (ks' := (bO, .cells #[(.int .i64 lo), (.int .i64 hi), .int .i64 pr, (.int .i64 se), (.slice p nn cap), .slice q t.length c, v1, v2] 93 (0, 0)) :: ksF) (fun x hx => by
                  rcases List.mem_cons.1 hx with rfl | hx
                  · exact .tail _ (.tail _ HMO.out)
                  · exact .tail _ (.tail _ (hsubF x hx)))).put hPK.ne (fun k hk => (hk7 k hk).trans (hk6 k hk)) hx7 (hb7 w w.heap.size HBI.out.2.2 (hb6 w w.heap.size HBI.out.2.2 HT4.out.below)))
                have HPK := Lib.hid hPK; clear kO hx6 hk6 hb6 hx7 hk7 hb7 hPK hsubF; refine rz1T 11 rfl ?_; intro K hK; go_simp; refine kzT hK ⟨fun hh => (by cases hh), by exact trivial⟩ ?_; clear hK K; (try simp only [Act.put, ptL]); refine rz1T 12 rfl ?_; intro K hK; go_simp; refine kzT hK ⟨fun hh => (by cases hh), by exact trivial⟩ ?_; clear hK K; (try simp only [Act.put, ptL]); refine rz1T 13 rfl ?_; intro K hK; go_simp; refine kzT hK ⟨fun hh => (by cases hh), by exact trivial⟩ ?_; clear hK K; (try simp only [Act.put, ptL]); refine doneT (by kernel_rfl) ⟨rfl, ?_⟩ _
                gi_wp2
                refine ⟨⟨_, _, _, _, _, _, _, _, _, _, _, _, _, _, _, _, _, _, _, _, _, _, _, _, _, _, _, _, _, _, _, _, _, _, _, _, _, _, _, _, _, _, _, _, _, _, _, _, k + 1, D :: Ds, _, _, _, _, ksF, rfl, by omega, HTZ, HPK⟩, by simp [prepMu, intOf]; omega⟩
              · intro K hK
                go_simp; have HT5 := Lib.hid (HT1.out.alloc HT1.out.below.size #[.slice (some ⟨wB.heap.size, 0, none⟩) (N + 1) (N + 1)] 53); refine kzS hK (by exact ⟨HSK.out _ (HT5.out.cell (by first | exact HMO.out | exact .tail _ HMO.out | exact .tail _ (.tail _ HMO.out))) (HT5.out.cell (by first | exact HMX.out | exact .tail _ HMX.out | exact .tail _ (.tail _ HMX.out))), trivial⟩) ?_; clear hK K; (try simp only [Act.put, ptL]); obtain ⟨Wl5, e5⟩ : ∃ X, (Wl1.alloc (.cells #[.slice (some ⟨wB.heap.size, 0, none⟩) (N + 1) (N + 1)] 53)) = X := ⟨_, rfl⟩; obtain ⟨L5, l5⟩ : ∃ X, Wl1.heap.size = X := ⟨_, rfl⟩; rw [e5, l5] at HT5
                (try rw [l5]); rw [e5]; clear e5 l5
                refine rz1T 4 rfl ?_; intro K hK; refine step_append_lies _ rfl _ _ 90 rfl w.heap.size 23 i1 _ 1 24 Tryz.underlying90 hi1 hy0 hy1 hy2 rfl (by decide) v1 (k) (xs1) rfl HT5.out.o1 ⟨L1, 0, none⟩ 1 1 [.slice ga m capl] rfl rfl (World.news_of_block (HT5.out.cell (.tail _ (.head _)))) (by intro u hu; simp at hu; subst hu; rfl) (by decide) (by unfold maxLen; omega) (by omega) HT5.out.below.size _ rfl ?_; intro g6 cap6 Wa6 hown hgrow hlies _; have HT6 := Lib.hid (HT5.out.grow HT5.out.below.size hown hgrow hlies); clear hown hgrow hlies; refine kzS hK (by exact ⟨HSK.out _ (HT6.out.cell (by first | exact HMO.out | exact .tail _ HMO.out | exact .tail _ (.tail _ HMO.out))) (HT6.out.cell (by first | exact HMX.out | exact .tail _ HMX.out | exact .tail _ (.tail _ HMX.out))), trivial⟩) ?_; clear hK K; (try simp only [Act.put, ptL]); refine tkT 10 rfl (by exact ⟨HSK.out _ (HT6.out.cell (by first | exact HMO.out | exact .tail _ HMO.out | exact .tail _ (.tail _ HMO.out))) (HT6.out.cell (by first | exact HMX.out | exact .tail _ HMX.out | exact .tail _ (.tail _ HMX.out))), trivial⟩) ?_; (try simp only [Act.put, ptL])
                refine rz1T 9 rfl ?_; intro K hK; refine step_append_lies _ rfl _ _ 91 rfl w.heap.size 53 i2 _ 1 24 Tryz.underlying91 hi2 hx0 hx1 hx2 rfl (by decide) v2 (k) (xs2) rfl HT6.out.o2 ⟨L5, 0, none⟩ 1 1 [.slice (some ⟨wB.heap.size, 0, none⟩) (N + 1) (N + 1)] rfl rfl (World.news_of_block (HT6.out.cell (.head _))) (by intro u hu; simp at hu; subst hu; rfl) (by decide) (by unfold maxLen; omega) (by omega) HT6.out.below.size _ rfl ?_; intro g7 cap7 Wa7 hown hgrow hlies _; have HT7 := Lib.hid (HT6.out.swap.grow HT6.out.below.size hown hgrow hlies).swap; clear hown hgrow hlies; refine kzS hK (by exact ⟨HSK.out _ (HT7.out.cell (by first | exact HMO.out | exact .tail _ HMO.out | exact .tail _ (.tail _ HMO.out))) (HT7.out.cell (by first | exact HMX.out | exact .tail _ HMX.out | exact .tail _ (.tail _ HMX.out))), trivial⟩) ?_; clear hK K; (try simp only [Act.put, ptL]); have kO := HT7.out.cell (b := bO) (.tail _ (.tail _ HMO.out))
                obtain ⟨wy, s6, c6, f6, hx6, hk6, HZ6, hb6⟩ := put8_6 Wa7 bO 93 _ _ _ _ _ _ _ _ (.slice (some ⟨g6, 0, none⟩) (k + 1) cap6) kO; obtain ⟨wz, s7, c7, f7, hx7, hk7, HZ7, hb7⟩ := put8_7 wy bO 93 _ _ _ _ _ _ _ _ (.slice (some ⟨g7, 0, none⟩) (k + 1) cap7) hx6; obtain ⟨ksF, hsubF, hPK⟩ := HKN.out _ _ HSR.out HMI.out
                have HTZ := Lib.hid ((HT7.out.sub (ks' := (bO, .cells #[(.int .i64 lo), (.int .i64 hi), .int .i64 pr, (.int .i64 se), (.slice p nn cap), .slice q t.length c, v1, v2] 93 (0, 0)) :: ksF) (fun x hx => by
                  rcases List.mem_cons.1 hx with rfl | hx
                  · exact .tail _ (.tail _ HMO.out)
                  · exact .tail _ (.tail _ (hsubF x hx)))).put hPK.ne (fun k hk => (hk7 k hk).trans (hk6 k hk)) hx7 (hb7 w w.heap.size HBI.out.2.2 (hb6 w w.heap.size HBI.out.2.2 HT7.out.below)))
                have HPK := Lib.hid hPK; clear kO hx6 hk6 hb6 hx7 hk7 hb7 hPK hsubF; refine rz1T 11 rfl ?_; intro K hK; go_simp; refine kzT hK ⟨fun hh => (by cases hh), by exact trivial⟩ ?_; clear hK K; (try simp only [Act.put, ptL]); refine rz1T 12 rfl ?_; intro K hK; go_simp; refine kzT hK ⟨fun hh => (by cases hh), by exact trivial⟩ ?_; clear hK K; (try simp only [Act.put, ptL]); refine rz1T 13 rfl ?_; intro K hK; go_simp; refine kzT hK ⟨fun hh => (by cases hh), by exact trivial⟩ ?_; clear hK K; (try simp only [Act.put, ptL]); refine doneT (by kernel_rfl) ⟨rfl, ?_⟩ _
                gi_wp2
                refine ⟨⟨_, _, _, _, _, _, _, _, _, _, _, _, _, _, _, _, _, _, _, _, _, _, _, _, _, _, _, _, _, _, _, _, _, _, _, _, _, _, _, _, _, _, _, _, _, _, _, _, k + 1, D :: Ds, _, _, _, _, ksF, rfl, by omega, HTZ, HPK⟩, by simp [prepMu, intOf]; omega⟩
            · intro K hK
              go_simp; have HT8 := Lib.hid (HT0.out.alloc HT0.out.below.size #[.slice (some ⟨wB.heap.size, 0, none⟩) (N + 1) (N + 1)] 53); refine kzS hK (by exact ⟨HSK.out _ (HT8.out.cell (by first | exact HMO.out | exact .tail _ HMO.out | exact .tail _ (.tail _ HMO.out))) (HT8.out.cell (by first | exact HMX.out | exact .tail _ HMX.out | exact .tail _ (.tail _ HMX.out))), trivial⟩) ?_; clear hK K; (try simp only [Act.put, ptL]); obtain ⟨Wl8, e8⟩ : ∃ X, (W0.alloc (.cells #[.slice (some ⟨wB.heap.size, 0, none⟩) (N + 1) (N + 1)] 53)) = X := ⟨_, rfl⟩; obtain ⟨L8, l8⟩ : ∃ X, W0.heap.size = X := ⟨_, rfl⟩; rw [e8, l8] at HT8
              (try rw [l8]); rw [e8]; clear e8 l8
              refine rz1T 3 rfl ?_; intro K hK; go_simp; have HT9 := Lib.hid (HT8.out.alloc HT8.out.below.size #[.slice ga m capl] 23); refine kzS hK (by exact ⟨HSK.out _ (HT9.out.cell (by first | exact HMO.out | exact .tail _ HMO.out | exact .tail _ (.tail _ HMO.out))) (HT9.out.cell (by first | exact HMX.out | exact .tail _ HMX.out | exact .tail _ (.tail _ HMX.out))), trivial⟩) ?_; clear hK K; (try simp only [Act.put, ptL]); obtain ⟨Wl9, e9⟩ : ∃ X, (Wl8.alloc (.cells #[.slice ga m capl] 23)) = X := ⟨_, rfl⟩; obtain ⟨L9, l9⟩ : ∃ X, Wl8.heap.size = X := ⟨_, rfl⟩; rw [e9, l9] at HT9
              (try rw [l9]); rw [e9]; clear e9 l9
              refine rz1T 4 rfl ?_; intro K hK; refine step_append_lies _ rfl _ _ 90 rfl w.heap.size 23 i1 _ 1 24 Tryz.underlying90 hi1 hy0 hy1 hy2 rfl (by decide) v1 (k) (xs1) rfl HT9.out.o1 ⟨L9, 0, none⟩ 1 1 [.slice ga m capl] rfl rfl (World.news_of_block (HT9.out.cell (.head _))) (by intro u hu; simp at hu; subst hu; rfl) (by decide) (by unfold maxLen; omega) (by omega) HT9.out.below.size _ rfl ?_; intro g10 cap10 Wa10 hown hgrow hlies _; have HT10 := Lib.hid (HT9.out.grow HT9.out.below.size hown hgrow hlies); clear hown hgrow hlies; refine kzS hK (by exact ⟨HSK.out _ (HT10.out.cell (by first | exact HMO.out | exact .tail _ HMO.out | exact .tail _ (.tail _ HMO.out))) (HT10.out.cell (by first | exact HMX.out | exact .tail _ HMX.out | exact .tail _ (.tail _ HMX.out))), trivial⟩) ?_; clear hK K; (try simp only [Act.put, ptL]); refine tkT 10 rfl (by exact ⟨HSK.out _ (HT10.out.cell (by first | exact HMO.out | exact .tail _ HMO.out | exact .tail _ (.tail _ HMO.out))) (HT10.out.cell (by first | exact HMX.out | exact .tail _ HMX.out | exact .tail _ (.tail _ HMX.out))), trivial⟩) ?_; (try simp only [Act.put, ptL])
              refine rz1T 9 rfl ?_; intro K hK; refine step_append_lies _ rfl _ _ 91 rfl w.heap.size 53 i2 _ 1 24 Tryz.underlying91 hi2 hx0 hx1 hx2 rfl (by decide) v2 (k) (xs2) rfl HT10.out.o2 ⟨L8, 0, none⟩ 1 1 [.slice (some ⟨wB.heap.size, 0, none⟩) (N + 1) (N + 1)] rfl rfl (World.news_of_block (HT10.out.cell (.tail _ (.head _)))) (by intro u hu; simp at hu; subst hu; rfl) (by decide) (by unfold maxLen; omega) (by omega) HT10.out.below.size _ rfl ?_; intro g11 cap11 Wa11 hown hgrow hlies _; have HT11 := Lib.hid (HT10.out.swap.grow HT10.out.below.size hown hgrow hlies).swap; clear hown hgrow hlies; refine kzS hK (by exact ⟨HSK.out _ (HT11.out.cell (by first | exact HMO.out | exact .tail _ HMO.out | exact .tail _ (.tail _ HMO.out))) (HT11.out.cell (by first | exact HMX.out | exact .tail _ HMX.out | exact .tail _ (.tail _ HMX.out))), trivial⟩) ?_; clear hK K; (try simp only [Act.put, ptL]); have kO := HT11.out.cell (b := bO) (.tail _ (.tail _ HMO.out))
              obtain ⟨wy, s6, c6, f6, hx6, hk6, HZ6, hb6⟩ := put8_6 Wa11 bO 93 _ _ _ _ _ _ _ _ (.slice (some ⟨g10, 0, none⟩) (k + 1) cap10) kO; obtain ⟨wz, s7, c7, f7, hx7, hk7, HZ7, hb7⟩ := put8_7 wy bO 93 _ _ _ _ _ _ _ _ (.slice (some ⟨g11, 0, none⟩) (k + 1) cap11) hx6; obtain ⟨ksF, hsubF, hPK⟩ := HKN.out _ _ HSR.out HMI.out
              have HTZ := Lib.hid ((HT11.out.sub (ks' := (bO, .cells #[(.int .i64 lo), (.int .i64 hi), .int .i64 pr, (.int .i64 se), (.slice p nn cap), .slice q t.length c, v1, v2] 93 (0, 0)) :: ksF) (fun x hx => by
                rcases List.mem_cons.1 hx with rfl | hx
                · exact .tail _ (.tail _ HMO.out)
                · exact .tail _ (.tail _ (hsubF x hx)))).put hPK.ne (fun k hk => (hk7 k hk).trans (hk6 k hk)) hx7 (hb7 w w.heap.size HBI.out.2.2 (hb6 w w.heap.size HBI.out.2.2 HT11.out.below)))
              have HPK := Lib.hid hPK; clear kO hx6 hk6 hb6 hx7 hk7 hb7 hPK hsubF; refine rz1T 11 rfl ?_; intro K hK; go_simp; refine kzT hK ⟨fun hh => (by cases hh), by exact trivial⟩ ?_; clear hK K; (try simp only [Act.put, ptL]); refine rz1T 12 rfl ?_; intro K hK; go_simp; refine kzT hK ⟨fun hh => (by cases hh), by exact trivial⟩ ?_; clear hK K; (try simp only [Act.put, ptL]); refine rz1T 13 rfl ?_; intro K hK; go_simp; refine kzT hK ⟨fun hh => (by cases hh), by exact trivial⟩ ?_; clear hK K; (try simp only [Act.put, ptL]); refine doneT (by kernel_rfl) ⟨rfl, ?_⟩ _
              gi_wp2
              refine ⟨⟨_, _, _, _, _, _, _, _, _, _, _, _, _, _, _, _, _, _, _, _, _, _, _, _, _, _, _, _, _, _, _, _, _, _, _, _, _, _, _, _, _, _, _, _, _, _, _, _, k + 1, D :: Ds, _, _, _, _, ksF, rfl, by omega, HTZ, HPK⟩, by simp [prepMu, intOf]; omega⟩
    · have hke : k = pr + 1 := by omega
      have HKE := Lib.hid hke; have hltI : decide ((k : Int) < (pr : Int) + 1) = false := by simp; omega
      obtain ⟨g1, c1, rfl⟩ := own_any HT.out.o1; obtain ⟨g2, c2, rfl⟩ := own_any HT.out.o2; obtain ⟨j0, j1, j2, j3, j4, j5, j6, j7⟩ := cells8 (HT.out.cell (.head _)); obtain ⟨y1, y2, y3, y4, y5, y6, y7, wz, s1, s2, s3, s4, s5, s6, s7, s8, ⟨d1, f1⟩, ⟨d2, f2⟩, ⟨d3, f3⟩, ⟨d4, f4⟩, ⟨d5, f5⟩, ⟨d6, f6⟩, ⟨d7, f7⟩, ⟨d8, f8⟩, kZ, hkZ, HSZ, hbZ⟩ := set8 wn bR 93 _ _ _ _ _ _ _ _ (.int .i64 lo) (.int .i64 hi) (.int .i64 pr) (.int .i64 se) (.slice p nn cap) (.slice q t.length c) (.slice g1 k c1) (.slice g2 k c2) (HT.out.cell (.tail _ HK.out.kR)); have HZZ := Lib.hid (And.intro kZ (And.intro hkZ (hbZ w w.heap.size HBI.out.2.1 HT.out.below))); clear kZ hkZ hbZ hke
      gi_wp2
      clear s1 s2 s3 s4 s5 s6 s7 s8 d1 d2 d3 d4 d5 d6 d7 d8 f1 f2 f3 f4 f5 f6 f7 f8 j0 j1 j2 j3 j4 j5 j6 j7; obtain ⟨kZ, hkZ, hBZ⟩ := HZZ.out
      have hnb : ∀ {b : Nat} {cs : Array Value} {ty : TypeId} {fr : Nat × Nat}, wn.heap[b]? = some (.cells cs ty fr) → b ∉ Ds := fun {b} {cs} {ty} {fr} h hm => by
        have := (HT.out.k b _ (.tail _ (HK.out.ds b hm))).1; rw [h] at this
        cases this
      refine leaves_marks Ds wz ⟨HK.out.nd, fun D hD => (hkZ D (fun e => hnb (HT.out.cell (.tail _ HK.out.kR)) (e ▸ hD))).trans (HT.out.k D _ (.tail _ (HK.out.ds D hD))).1⟩ (fun w' hb => ?_)
      have hsame : ∀ {b : Nat} {cs : Array Value} {ty : TypeId} {fr : Nat × Nat}, wn.heap[b]? = some (.cells cs ty fr) → b ≠ bR → w'.heap[b]? = some (.cells cs ty fr) := fun {b} {cs} {ty} {fr} h hne =>
        ((hb.block b (by have := HSZ.out; have := block_lt h; omega) (hnb h)).trans (hkZ b hne)).trans h
      have kW : w'.heap[bR]? = some (.cells #[(.int .i64 lo), (.int .i64 hi), .int .i64 pr, (.int .i64 se), (.slice p nn cap), .slice q t.length c, .slice g1 k c1, .slice g2 k c2] 93 (0, 0)) := (hb.block bR (block_lt kZ) (hnb (HT.out.cell (.tail _ HK.out.kR)))).trans kZ; obtain ⟨r0, r1, r2, r3, r4, r5, r6, r7⟩ := cells8 kW; have hne1 := HT.out.k bR _ (.tail _ HK.out.kR)
      have ho1 := own_same HT.out.o1 (w' := w') (fun g hg => by
        rcases HT.out.o1.2 with ⟨e, _⟩ | ⟨g', cap', cur, e, _, hh, _⟩
        · rw [e] at hg; simp [Value.ownBlock] at hg
        · rw [e] at hg; simp [Value.ownBlock] at hg
          subst hg; rw [hsame hh (fun e2 => hne1.2.1 (by rw [e, e2]; rfl)), hh])
      have ho2 := own_same HT.out.o2 (w' := w') (fun g hg => by
        rcases HT.out.o2.2 with ⟨e, _⟩ | ⟨g', cap', cur, e, _, hh, _⟩
        · rw [e] at hg; simp [Value.ownBlock] at hg
        · rw [e] at hg; simp [Value.ownBlock] at hg
          subst hg; rw [hsame hh (fun e2 => hne1.2.2 (by rw [e, e2]; rfl)), hh])
      have hne3 : ∀ {g : Nat} {cur : Array Value} {ty : TypeId} {fr : Nat × Nat}, (g, Obj.cells cur ty fr) ∈ ks → ty ≠ 93 → g ≠ bR := fun {g} {cur} {ty} {fr} h hty e => by
        have e1 := HT.out.cell (.tail _ h); rw [e, HT.out.cell (.tail _ HK.out.kR)] at e1
        cases e1
        exact hty rfl
      have hk0 : ¬ k = 0 := by have := HKE.out; omega
      obtain ⟨G1, rfl⟩ : ∃ G, g1 = some ⟨G, 0, none⟩ := by
        rcases HT.out.o1.2 with ⟨_, e⟩ | ⟨g', cap', cur, e, _⟩
        · exact absurd e hk0
        · injection e with e _ _; exact ⟨g', e⟩
      obtain ⟨G2, rfl⟩ : ∃ G, g2 = some ⟨G, 0, none⟩ := by
        rcases HT.out.o2.2 with ⟨_, e⟩ | ⟨g', cap', cur, e, _⟩
        · exact absurd e hk0
        · injection e with e _ _; exact ⟨g', e⟩
      refine ⟨.agg #[(.int .i64 lo), (.int .i64 hi), .int .i64 pr, (.int .i64 se), (.slice p nn cap), .slice q t.length c, .slice (some ⟨G1, 0, none⟩) k c1, .slice (some ⟨G2, 0, none⟩) k c2], by simp [results, Tryz.results35, go_sem, r0, r1, r2, r3, r4, r5, r6, r7], some ⟨G1, 0, none⟩, c1, some ⟨G2, 0, none⟩, c2, by rw [HKE.out], ⟨G1, 0, rfl, fun i hi' => ?_⟩, ⟨G2, 0, rfl, fun i hi' => ?_⟩, ?_⟩
      · obtain ⟨v, hv, qq, cc, rfl, hrow⟩ := HK.out.r1.2 i (by have := HKE.out; omega)
        have hc := ho1.cells (g := G1) rfl i _ hv; rw [add_new] at hc; refine ⟨qq, cc, by rw [Nat.zero_add]; exact hc, ?_⟩
        rcases hrow with h | ⟨g, cur, fr, rfl, hm, hcur⟩
        · exact .inl h
        · exact .inr ⟨g, 0, rfl, fun j hj => by rw [Nat.zero_add, cell_of_row _ _ _ _ _ _ (hsame (HT.out.cell (.tail _ hm)) (hne3 hm (by decide)))]; exact hcur j hj⟩
      · obtain ⟨v, hv, g, cp, rfl, hm⟩ := HK.out.r2.2 i (by have := HKE.out; omega)
        have hc := ho2.cells (g := G2) rfl i _ hv; rw [add_new] at hc; refine ⟨g, cp, by rw [Nat.zero_add]; exact hc, fun x hx => ?_⟩; rw [cell_of_row _ _ _ _ _ _ (hsame (HT.out.cell (.tail _ hm)) (hne3 hm (by decide)))]; exact mkC_get _ _ x hx
      · exact hBZ.trans ((hb.mono (Nat.le_of_eq rfl)).below hBZ.size (fun x hx => HK.out.dl x hx))
end Go.Proofs.YtchclaipbahiiaaGreat
end

section
namespace Go.Proofs.YtchclaipbahiiaaGreat
open Go Go.RowKit Go.Proofs
set_option linter.unusedVariables false
set_option linter.unusedSimpArgs false
attribute [local go_sem] imax2 imin2
theorem eqnLP (a : Option Addr) (l c : Nat) (w : World) : (binOp .eql 34 (.slice a l c) (.slice none 0 0)).run Tryz.prog w = .ok (.bool a.isNone) w := run_eql_slice_nil w 34 99 a l c Tryz.underlying34
theorem neqLP (a : Option Addr) (l c : Nat) (w : World) : (binOp .neq 34 (.slice a l c) (.slice none 0 0)).run Tryz.prog w = .ok (.bool (!a.isNone)) w := run_neq_slice_nil w 34 99 a l c Tryz.underlying34
attribute [local go_sem] eqnLP
set_option maxRecDepth 100000 in
theorem p_Clone_nil (w : World) : Calls Tryz.prog 132 #[.slice none 0 0] w fun e w' => e = .returned (.slice none 0 0) ∧ w = w' := by
  go_enter Tryz.func132, Tryz.ntmps132
  go_wp2; go_ret; exact ⟨rfl, rfl⟩
def PClonePost (xs : List (Int × Int)) (w : World) (e : Ending) (w' : World) : Prop := ∃ v, e = .returned v ∧ w'.ownsRow w.heap.size 99 2 v xs.length (spV xs) ∧ Below w.heap.size w w'
set_option maxHeartbeats 400000 in
set_option maxRecDepth 100000 in
theorem p_Clone (b off cap : Nat) (xs : List (Int × Int)) (w : World) (hx : RdS w (some ⟨b, off, none⟩) xs) (hl : xs.length ≤ 1000000) :
    Calls Tryz.prog 132 #[.slice (some ⟨b, off, none⟩) xs.length cap] w (PClonePost xs w) := by
  have HX := Lib.hid hx; clear hx
  go_enter Tryz.func132, Tryz.ntmps132
  obtain ⟨i0, hi0, hz0, hz1, hz2⟩ := info_parts infPr; have hown : (w.alloc (.cells #[] 99)).ownsRow w.heap.size 99 2 (.slice (some ⟨w.heap.size, 0, none⟩) 0 0) 0 [] := World.ownsRow_made w #[] 0 (Nat.le_refl _) (by unfold maxLen; omega) (by simp)
  have hnews : ∀ j v, (spV xs)[j]? = some v → (w.alloc (.cells #[] 99)).cell? ((⟨b, off, none⟩ : Addr).add j) = some v := by
    intro j v hj
    rcases news_prs HX.out with h | ⟨ad, e, hc⟩
    · have := (List.getElem?_eq_some_iff.1 hj).1
      rw [spV_length, h] at this; omega
    · cases e
      have h1 := hc j v hj; exact ((below_alloc1 w _).cell (lt_of_cellq h1)).trans h1
  have HO := Lib.hid hown; have HNW := Lib.hid hnews; clear hown hnews; go_wp2_with (at_builtin; refine wpList_append_own _ rfl _ _ 34 rfl w.heap.size 99 i0 _ 2 16 Tryz.underlying34 hi0 hz0 hz1 hz2 rfl (by decide) _ 0 [] rfl HO.out ⟨b, off, none⟩ xs.length cap (spV xs) rfl ?c0 HNW.out ?c2 ?c3 ?c4 ?c5 ?_)
  case c0 => exact spV_length xs
  case c2 => exact prs_cells xs
  case c3 => unfold maxLen; omega
  case c4 => omega
  case c5 => simp
  intro v' w1 hown' hgrow _; have HB := Lib.hid ((below_alloc1 w (.cells #[] 99)).grown hgrow (by simp) (fun k hk => by cases hk; exact Nat.le_refl _)); have HR := Lib.hid hown'; clear hown' hgrow; go_wp2; go_ret; exact ⟨v', rfl, by have := HR.out; simpa using this, HB.out⟩
theorem p_Clone_any (p : Option Addr) (cap : Nat) (xs : List (Int × Int)) (w : World) (hx : RdS w p xs) (hl : xs.length ≤ 1000000) (hn : xs = [] → p = none ∧ cap = 0) :
    Calls Tryz.prog 132 #[.slice p xs.length cap] w (PClonePost xs w) := by
  cases xs with
  | nil =>
    obtain ⟨rfl, rfl⟩ := hn rfl; refine (p_Clone_nil w).mono ?_; rintro e w' ⟨rfl, rfl⟩; exact ⟨_, rfl, World.ownsRow_nil _ _ _ _, Below.refl _ _⟩
  | cons x xs =>
    obtain ⟨b, off, rfl, hc⟩ := hx.at (i := 0) (by simp); exact p_Clone b off cap (x :: xs) w hx hl
def fsTo {β : Type} (f : Int → Option β) (t : List Int) (i : Nat) : Option β := (t.take i).findSome? f
theorem fsTo_succ {β : Type} {f : Int → Option β} {t : List Int} {i : Nat} (hi : i < t.length) (h : fsTo f t i = none) : fsTo f t (i + 1) = f (gi t i) := by
  unfold fsTo at h ⊢; rw [List.take_add_one, List.getElem?_eq_getElem hi, List.findSome?_append, h]; unfold gi; rw [List.getD_eq_getElem?_getD, List.getElem?_eq_getElem hi]; simp [List.findSome?]
theorem fsTo_all {β : Type} (f : Int → Option β) (t : List Int) : fsTo f t t.length = t.findSome? f := by unfold fsTo; rw [List.take_length]
theorem fsTo_hit {β : Type} {f : Int → Option β} {t : List Int} {i : Nat} {y : β} (hi : i < t.length) (h : fsTo f t i = none) (hy : f (gi t i) = some y) : t.findSome? f = some y := by
  have h1 := fsTo_succ hi h; rw [hy] at h1; unfold fsTo at h1; rw [← List.take_append_drop (i + 1) t, List.findSome?_append, h1]
  rfl
def fstG (t : List Int) (k : Nat) (now : List (Int × Int)) (left : Int × Int) (a b : Int) : Option (List (Int × Int)) :=
  if now.getLast?.any (fun l => ordB (a, b) l) then none else
    if canF t k (redF (left.1 * b) (left.2 * a)) then fstF t k (now ++ [(a, b)]) (redF (left.1 * b) (left.2 * a)) else none
theorem fstF_succ (t : List Int) (k : Nat) (now : List (Int × Int)) (left : Int × Int) : fstF t (k + 1) now left = t.findSome? fun a => t.findSome? fun b => fstG t k now left a b := rfl
theorem fstG_skip {t : List Int} {k : Nat} {now : List (Int × Int)} {left : Int × Int} {a b : Int} {l : Int × Int} (h : now.getLast? = some l) (ho : ordB (a, b) l = true) : fstG t k now left a b = none := by
  unfold fstG; rw [h, Option.any_some, if_pos ho]
theorem fstG_can {t : List Int} {k : Nat} {now : List (Int × Int)} {left : Int × Int} {a b : Int} (h : now.getLast?.any (fun l => ordB (a, b) l) = false) (hc : canF t k (redF (left.1 * b) (left.2 * a)) = false) : fstG t k now left a b = none := by
  unfold fstG; rw [if_neg (by rw [h]; decide), if_neg (by rw [hc]; decide)]
theorem fstG_go {t : List Int} {k : Nat} {now : List (Int × Int)} {left : Int × Int} {a b : Int} (h : now.getLast?.any (fun l => ordB (a, b) l) = false) (hc : canF t k (redF (left.1 * b) (left.2 * a)) = true) : fstG t k now left a b = fstF t k (now ++ [(a, b)]) (redF (left.1 * b) (left.2 * a)) := by
  unfold fstG; rw [if_neg (by rw [h]; decide), if_pos hc]
theorem fstG_row {t : List Int} {k : Nat} {now : List (Int × Int)} {left : Int × Int} {a : Int} {l : Int × Int} (h : now.getLast? = some l) (ha : a < l.1) : (t.findSome? fun b => fstG t k now left a b) = none := by
  rw [List.findSome?_eq_none_iff]; intro b _; exact fstG_skip h (by unfold ordB; rw [decide_eq_true ha]; rfl)
theorem canF_small {t : List Int} {k : Nat} {x : Int × Int} (h : canF t k x = true) (h1 : 0 ≤ x.1) (h2 : 0 ≤ x.2) : x.1 ≤ topN k ∧ x.2 ≤ topN k := by
  unfold canF at h; rw [List.any_eq_true] at h; obtain ⟨n, _, hn⟩ := h; simp only [Bool.and_eq_true, decide_eq_true_eq] at hn
  have hm : max x.1 x.2 ≤ (n : Int) * max x.1 x.2 := by
    have h0 : 0 ≤ max x.1 x.2 := by omega
    have := Int.mul_le_mul_of_nonneg_right (a := 1) (b := (n : Int)) (c := max x.1 x.2) (by omega) h0; omega
  omega
end Go.Proofs.YtchclaipbahiiaaGreat
end

section
namespace Go.Proofs.YtchclaipbahiiaaGreat
open Go Go.RowKit Go.Proofs
set_option linter.unusedVariables false
set_option linter.unusedSimpArgs false
attribute [local go_sem] imax2 imin2
theorem ordB_iff (a b : Int × Int) : ordB a b = true ↔ a.1 < b.1 ∨ (a.1 = b.1 ∧ a.2 < b.2) := by
  unfold ordB; simp only [Bool.or_eq_true, Bool.and_eq_true, decide_eq_true_eq]
theorem cmpP_zero (a b : Int × Int) : cmpP a b = 0 ↔ (ordB a b = false ∧ ordB b a = false) := by
  have h1 : cmpP a b = 0 ↔ a = b := by
    unfold cmpP
    by_cases h : a.1 = b.1
    · rw [orL, if_neg (by rw [(cmpI_zero _ _).2 h]; decide), orL]
      by_cases h2 : a.2 = b.2
      · rw [if_neg (by rw [(cmpI_zero _ _).2 h2]; decide), orL]
        exact ⟨fun _ => Prod.ext h h2, fun _ => rfl⟩
      · have hc : cmpI a.2 b.2 ≠ 0 := fun hc => h2 ((cmpI_zero _ _).1 hc)
        rw [if_pos hc]; exact ⟨fun e => absurd e hc, fun e => absurd (by rw [e]) h2⟩
    · have hc : cmpI a.1 b.1 ≠ 0 := fun hc => h ((cmpI_zero _ _).1 hc)
      rw [orL, if_pos hc]; exact ⟨fun e => absurd e hc, fun e => absurd (by rw [e]) h⟩
  rw [h1]
  constructor
  · rintro rfl
    constructor <;> (cases hh : ordB a a with
      | false => rfl
      | true => rw [ordB_iff] at hh; omega)
  · rintro ⟨h2, h3⟩
    have e2 : ¬ (a.1 < b.1 ∨ (a.1 = b.1 ∧ a.2 < b.2)) := fun h => by rw [(ordB_iff a b).2 h] at h2; cases h2
    have e3 : ¬ (b.1 < a.1 ∨ (b.1 = a.1 ∧ b.2 < a.2)) := fun h => by rw [(ordB_iff b a).2 h] at h3; cases h3
    exact Prod.ext (by omega) (by omega)
def cmpL' : List (Int × Int) → List (Int × Int) → Int
  | [], [] => 0
  | [], _ :: _ => -1
  | _ :: _, [] => 1
  | a :: r, b :: s => if cmpP a b = 0 then cmpL' r s else cmpP a b
theorem cmpL'_neg : ∀ (a b : List (Int × Int)), decide (cmpL' a b < 0) = trL a b := by
  intro a
  induction a with
  | nil => intro b; cases b <;> rfl
  | cons x r ih =>
    intro b
    cases b with
    | nil => rfl
    | cons y s =>
      unfold cmpL' trL; have hz := cmpP_zero x y; have hn := cmpP_neg x y
      by_cases h : cmpP x y = 0
      · rw [if_pos h, ih, (hz.1 h).1, (hz.1 h).2]; rfl
      · rw [if_neg h, hn]
        cases h1 : ordB x y with
        | true => rfl
        | false =>
          cases h2 : ordB y x with
          | true => rfl
          | false => exact absurd (hz.2 ⟨h1, h2⟩) h
theorem cmpL'_drop {a b : List (Int × Int)} {i : Nat} (ha : i < a.length) (hb : i < b.length) : cmpL' (a.drop i) (b.drop i) = if cmpP (gm a i) (gm b i) = 0 then cmpL' (a.drop (i + 1)) (b.drop (i + 1)) else cmpP (gm a i) (gm b i) := by
  have e1 : a.drop i = gm a i :: a.drop (i + 1) := by
    rw [List.drop_eq_getElem_cons ha]; unfold gm; rw [List.getD_eq_getElem?_getD, List.getElem?_eq_getElem ha]
    rfl
  have e2 : b.drop i = gm b i :: b.drop (i + 1) := by
    rw [List.drop_eq_getElem_cons hb]; unfold gm; rw [List.getD_eq_getElem?_getD, List.getElem?_eq_getElem hb]
    rfl
  rw [e1, e2]
  rfl
set_option maxHeartbeats 1600000 in
set_option maxRecDepth 100000 in
theorem t_cmpTr (p q : Option Addr) (c c' : Nat) (xs ys : List (Int × Int)) (w : World) (hx : RdS w p xs) (hy : RdS w q ys) (hl1 : xs.length ≤ 1000) (hl2 : ys.length ≤ 1000) :
    Calls Tryz.prog 86 #[.slice p xs.length c, .slice q ys.length c', .func (.func 87) #[] #[]] w fun e w' => e = .returned (.int .i64 (cmpL' xs ys)) ∧ Below w.heap.size w w' := by
  have HX := Lib.hid hx; have HY := Lib.hid hy; clear hx hy
  go_enter Tryz.func86, Tryz.ntmps86
  go_wp2
  go_loopw [13] (fun a wr => ∃ i : Nat, i ≤ xs.length ∧ i ≤ ys.length ∧ a = .int .i64 i ∧ Hid (cmpL' xs ys = cmpL' (xs.drop i) (ys.drop i)) ∧ Hid (Below w.heap.size w wr)) (fun a _ => xs.length - (intOf a).toNat)
  case atStart => exact ⟨0, Nat.zero_le _, Nat.zero_le _, rfl, Lib.hid rfl, Lib.hid (Below.refl _ _)⟩
  case round =>
    obtain ⟨i, hi, hi2, rfl, HC, HB⟩ := hrel
    by_cases hlt : i < xs.length
    · have hltI : decide ((i : Int) < (xs.length : Int)) = true := decide_eq_true (by omega)
      have hiI : (i : Int) < (xs.length : Int) := by omega
      have hwi : IntKind.i64.wrap ((i : Int) + 1) = (i : Int) + 1 := w64 _ (by omega) (by omega); obtain ⟨b1, o1, rfl, hc1⟩ := (HX.out.below HB.out).at hlt; obtain ⟨d0, d1⟩ := hc1 i hlt
      by_cases hlt2 : i < ys.length
      · have hlt2I : decide ((i : Int) ≥ (ys.length : Int)) = false := by simp; omega
        have hi2I : (i : Int) < (ys.length : Int) := by omega
        obtain ⟨b2, o2, rfl, hc2⟩ := (HY.out.below HB.out).at hlt2; obtain ⟨e0, e1⟩ := hc2 i hlt2; have HD := Lib.hid (cmpL'_drop hlt hlt2); obtain ⟨X, hX⟩ : ∃ X, gm xs i = X := ⟨_, rfl⟩; obtain ⟨Y, hY⟩ : ∃ Y, gm ys i = Y := ⟨_, rfl⟩; rw [hX] at d0 d1 HD; rw [hY] at e0 e1 HD; clear hc1 hc2 hX hY; obtain ⟨X1, X2⟩ := X; obtain ⟨Y1, Y2⟩ := Y; simp only [] at d0 d1 e0 e1; obtain ⟨w1, a1, HS1, x0, x1, n1⟩ := box2 wr (.int .i64 X1) (.int .i64 X2) 99; obtain ⟨w2, a2, HS2, y0, y1, n2⟩ := box2 w1 (.int .i64 Y1) (.int .i64 Y2) 99; have e0 := (n1.cell (lt_of_cellq e0)).trans e0; have e1 := (n1.cell (lt_of_cellq e1)).trans e1; have x0 := (n2.cell (lt_of_cellq x0)).trans x0; have x1 := (n2.cell (lt_of_cellq x1)).trans x1; have HB2 := Lib.hid (HB.out.trans ((n1.trans (n2.mono n1.size)).mono HB.out.size)); have hio := fun W => t_inOrder X1 X2 Y1 Y2 W
        obtain ⟨CC, hCC⟩ : ∃ C, cmpP (X1, X2) (Y1, Y2) = C := ⟨_, rfl⟩; rw [hCC] at hio HD; have HIO := Lib.hid hio; clear n1 n2 hio hCC
        by_cases hz : CC = 0
        · have hzI : (CC != 0) = false := by simp [hz]
          have HN := Lib.hid (show cmpL' xs ys = cmpL' (xs.drop (i + 1)) (ys.drop (i + 1)) by rw [HC.out, HD.out, if_pos hz]); clear hz; go_wp2_with fail; refine (HIO.out _).mono ?_; rintro e w3 ⟨rfl, b3⟩; have HB3 := Lib.hid (HB2.out.trans (b3.mono HB2.out.size)); clear b3; go_wp2; go_roundw
          case rel => exact ⟨i + 1, by omega, by omega, by go_num, HN, HB3⟩
          case measure => simp [intOf]; omega
        · have hzI : (CC != 0) = true := by simp [hz]
          have HN := Lib.hid (show cmpL' xs ys = CC by rw [HC.out, HD.out, if_neg hz]); go_wp2_with fail; refine (HIO.out _).mono ?_; rintro e w3 ⟨rfl, b3⟩; have HB3 := Lib.hid (HB2.out.trans (b3.mono HB2.out.size)); clear b3; go_wp2; go_ret; exact ⟨by rw [HN.out]; rfl, HB3.out⟩
      · have hlt2I : decide ((i : Int) ≥ (ys.length : Int)) = true := by simp; omega
        have HN := Lib.hid (show cmpL' xs ys = 1 by
          rw [HC.out, List.drop_eq_getElem_cons hlt, List.drop_eq_nil_of_le (show ys.length ≤ i by omega)]; rfl)
        clear hc1; obtain ⟨w1, a1, HS1, x0, x1, n1⟩ := box2 wr (.int .i64 (gm xs i).1) (.int .i64 (gm xs i).2) 99; have HB1 := Lib.hid (HB.out.trans (n1.mono HB.out.size)); clear n1; go_wp2; go_ret; exact ⟨by rw [HN.out]; rfl, HB1.out⟩
    · obtain rfl : i = xs.length := by omega
      have hltI : decide ((xs.length : Int) < (xs.length : Int)) = false := by simp
      by_cases hlt2 : xs.length < ys.length
      · have hlt2I : decide ((xs.length : Int) < (ys.length : Int)) = true := by simp; omega
        have HN := Lib.hid (show cmpL' xs ys = -1 by
          rw [HC.out, List.drop_eq_getElem_cons hlt2, List.drop_eq_nil_of_le (Nat.le_refl _)]; rfl)
        go_wp2; go_ret; exact ⟨by rw [HN.out]; rfl, HB.out⟩
      · have hlt2I : decide ((xs.length : Int) < (ys.length : Int)) = false := by simp; omega
        have HN := Lib.hid (show cmpL' xs ys = 0 by
          rw [HC.out, List.drop_eq_nil_of_le (Nat.le_refl _), List.drop_eq_nil_of_le (show ys.length ≤ xs.length by omega)]; rfl)
        go_wp2; go_ret; exact ⟨by rw [HN.out]; rfl, HB.out⟩
set_option maxRecDepth 100000 in
theorem t_trl (p q : Option Addr) (c c' : Nat) (xs ys : List (Int × Int)) (w : World) (hx : RdS w p xs) (hy : RdS w q ys) (hl1 : xs.length ≤ 1000) (hl2 : ys.length ≤ 1000) :
    Calls Tryz.prog 85 #[.slice p xs.length c, .slice q ys.length c'] w fun e w' => e = .returned (.bool (trL xs ys)) ∧ Below w.heap.size w w' := by
  have h := t_cmpTr p q c c' xs ys w hx hy hl1 hl2; have HN := Lib.hid (cmpL'_neg xs ys); obtain ⟨CC, hCC⟩ : ∃ C, cmpL' xs ys = C := ⟨_, rfl⟩; rw [hCC] at h HN; clear hx hy hCC
  go_enter Tryz.func85, Tryz.ntmps85
  go_wp2_with fail; refine h.mono ?_; rintro e w1 ⟨rfl, b1⟩; have HB := Lib.hid b1; clear h b1; go_wp2; go_ret; exact ⟨by rw [← HN.out]; rfl, HB.out⟩
def bestN {α : Type} (lt : α → α → Bool) (l : List α) (k : Nat) : Option α := bestO lt (l.take k)
theorem bestN_zero {α : Type} (lt : α → α → Bool) (l : List α) : bestN lt l 0 = none := by unfold bestN bestO; rfl
theorem bestN_all {α : Type} (lt : α → α → Bool) (l : List α) : bestN lt l l.length = bestO lt l := by unfold bestN; rw [List.take_length]
theorem bestN_one {α : Type} (lt : α → α → Bool) {l : List α} {x : α} (h : l[0]? = some x) : bestN lt l 1 = some x := by
  cases l with
  | nil => simp at h
  | cons y r => simp at h; subst h; rfl
theorem bestN_succ {α : Type} (lt : α → α → Bool) {l : List α} {k : Nat} {x y : α} (h : l[k]? = some x) (hy : bestN lt l k = some y) : bestN lt l (k + 1) = if lt x y then some x else some y := by
  unfold bestN bestO at *; rw [List.take_add_one, h, List.foldl_append, hy]
  rfl
def gtr (l : List (List (Int × Int))) (i : Nat) : List (Int × Int) := l.getD i []
theorem gtr_of {l : List (List (Int × Int))} {i : Nat} (h : i < l.length) : l[i]? = some (gtr l i) := by unfold gtr; rw [List.getD_eq_getElem?_getD, List.getElem?_eq_getElem h]; rfl
def RdTl (w : World) (p : Option Addr) (ls : List (List (Int × Int))) : Prop :=
  ls = [] ∨ ∃ b off, p = some ⟨b, off, none⟩ ∧ ∀ i, i < ls.length → ∃ q c, w.cell? ⟨b, off + i, none⟩ = some (.slice q (gtr ls i).length c) ∧ RdS w q (gtr ls i)
theorem RdTl.at {w : World} {p : Option Addr} {ls : List (List (Int × Int))} (h : RdTl w p ls) {i : Nat} (hi : i < ls.length) :
    ∃ b off, p = some ⟨b, off, none⟩ ∧ ∀ i, i < ls.length → ∃ q c, w.cell? ⟨b, off + i, none⟩ = some (.slice q (gtr ls i).length c) ∧ RdS w q (gtr ls i) := by
  rcases h with h | h
  · subst h; simp at hi
  · exact h
theorem RdTl.below {w w' : World} {p : Option Addr} {ls : List (List (Int × Int))} (h : RdTl w p ls) (hb : Below w.heap.size w w') : RdTl w' p ls := by
  rcases h with h | ⟨b, off, e, hc⟩
  · exact .inl h
  · refine .inr ⟨b, off, e, fun i hi => ?_⟩
    obtain ⟨q, c, h1, h2⟩ := hc i hi; exact ⟨q, c, (hb.cell (lt_of_cellq h1)).trans h1, h2.below hb⟩
def BtM (o : Option (List (Int × Int))) (v : Value) (W : World) : Prop :=
  match o with
  | none => v = .slice none 0 0
  | some l => ∃ q c, v = .slice q l.length c ∧ RdS W q l ∧ l.length ≤ 1000
theorem BtM.below {o : Option (List (Int × Int))} {v : Value} {W W' : World} (h : BtM o v W) (hb : Below W.heap.size W W') : BtM o v W' := by
  cases o with
  | none => exact h
  | some l => obtain ⟨q, c, e, hr, hl⟩ := h; exact ⟨q, c, e, hr.below hb, hl⟩
def BtPost (o : Option (List (Int × Int))) (w : World) (e : Ending) (w' : World) : Prop := ∃ v, e = .returned (.tuple #[v, .bool o.isSome]) ∧ BtM o v w' ∧ Below w.heap.size w w'
set_option maxHeartbeats 1600000 in
set_option maxRecDepth 100000 in
theorem t_best (p : Option Addr) (c : Nat) (ls : List (List (Int × Int))) (w : World) (hx : RdTl w p ls) (hl : ls.length ≤ 1000000) (hll : ∀ i, i < ls.length → (gtr ls i).length ≤ 1000) :
    Calls Tryz.prog 84 #[.slice p ls.length c, .func (.func 85) #[] #[]] w (BtPost (bestO trL ls) w) := by
  have HX := Lib.hid hx; have HLL := Lib.hid hll; clear hx hll
  go_enter Tryz.func84, Tryz.ntmps84
  go_wp2
  go_loopw [6, 11] (fun v a wr => ∃ k : Nat, k ≤ ls.length ∧ a = .int .i64 k ∧ Hid (BtM (bestN trL ls k) v wr) ∧ Hid (0 < k → ∃ y, bestN trL ls k = some y) ∧ Hid (Below w.heap.size w wr)) (fun _ a _ => ls.length - (intOf a).toNat)
  case atStart => exact ⟨0, Nat.zero_le _, rfl, Lib.hid (by rw [bestN_zero]; rfl), Lib.hid (fun h => by omega), Lib.hid (Below.refl _ _)⟩
  case round =>
    obtain ⟨k, hk, rfl, HM, HY, HB⟩ := hrel
    by_cases hlt : k < ls.length
    · have hltI : decide ((k : Int) < (ls.length : Int)) = true := decide_eq_true (by omega)
      have hkI : (k : Int) < (ls.length : Int) := by omega
      have hwk : IntKind.i64.wrap ((k : Int) + 1) = (k : Int) + 1 := w64 _ (by omega) (by omega); obtain ⟨b, off, rfl, hc⟩ := (HX.out.below HB.out).at hlt; obtain ⟨q, cq, d0, hr⟩ := hc k hlt; have hgx := gtr_of hlt; have hgl := HLL.out k hlt; obtain ⟨x, hxe⟩ : ∃ x, gtr ls k = x := ⟨_, rfl⟩; rw [hxe] at d0 hr hgx hgl; have HR := Lib.hid hr; have HGX := Lib.hid hgx; have HGL := Lib.hid hgl
      by_cases hk0 : k = 0
      · have hkI0 : ((k : Int) == 0) = true := by rw [hk0]; rfl
        have HN := Lib.hid (show bestN trL ls (k + 1) = some x by rw [hk0]; exact bestN_one trL (by rw [← hk0]; exact hgx)); clear hc hxe hr hgx hgl hk0; go_wp2; go_roundw
        case rel => exact ⟨k + 1, by omega, by go_num, Lib.hid (by rw [HN.out]; exact ⟨q, cq, rfl, HR.out, HGL.out⟩), Lib.hid (fun _ => ⟨x, HN.out⟩), HB⟩
        case measure => simp [intOf]; omega
      · have hkI0 : ((k : Int) == 0) = false := by rw [beq_eq_false_iff_ne]; omega
        obtain ⟨y, hy⟩ := HY.out (by omega); have hm := HM.out; rw [hy] at hm; obtain ⟨q2, c2, hve, hr2, hl2⟩ := hm; have HN := Lib.hid (bestN_succ trL hgx hy); have htl := t_trl q q2 cq c2 x y wr hr hr2 hgl hl2; have HR2 := Lib.hid hr2; have HL2 := Lib.hid hl2; subst hve; obtain ⟨n1, hn1⟩ : ∃ n, x.length = n := ⟨_, rfl⟩; obtain ⟨n2, hn2⟩ : ∃ n, y.length = n := ⟨_, rfl⟩; have HN1 := Lib.hid hn1; have HN2 := Lib.hid hn2; rw [hn1] at d0 htl; rw [hn2] at htl ⊢; clear hc hxe hr hgx hgl hk0 hy hr2 hl2 hn1 hn2
        cases hb : trL x y with
        | true =>
          rw [hb] at htl HN; rw [if_pos rfl] at HN; clear hb; go_wp2_with fail; refine htl.mono ?_; clear htl; rintro e w2 ⟨rfl, b2⟩; have HB2 := Lib.hid (HB.out.trans (b2.mono HB.out.size)); have HRN := Lib.hid (HR.out.below b2); clear b2; go_wp2; go_roundw
          case rel => exact ⟨k + 1, by omega, by go_num, Lib.hid (by rw [HN.out]; exact ⟨q, cq, by rw [HN1.out], HRN.out, HGL.out⟩), Lib.hid (fun _ => ⟨x, HN.out⟩), HB2⟩
          case measure => simp [intOf]; omega
        | false =>
          rw [hb] at htl HN; rw [if_neg (by decide)] at HN; clear hb; go_wp2_with fail; refine htl.mono ?_; clear htl; rintro e w2 ⟨rfl, b2⟩; have HB2 := Lib.hid (HB.out.trans (b2.mono HB.out.size)); have HRN := Lib.hid (HR2.out.below b2); clear b2; go_wp2; go_roundw
          case rel => exact ⟨k + 1, by omega, by go_num, Lib.hid (by rw [HN.out]; exact ⟨q2, c2, by rw [HN2.out], HRN.out, HL2.out⟩), Lib.hid (fun _ => ⟨y, HN.out⟩), HB2⟩
          case measure => simp [intOf]; omega
    · obtain rfl : k = ls.length := by omega
      have hltI : decide ((ls.length : Int) < (ls.length : Int)) = false := by simp
      rw [bestN_all] at HM HY
      by_cases hn0 : 0 < ls.length
      · have hn0I : decide ((ls.length : Int) > 0) = true := decide_eq_true (by omega)
        have hn0N : decide (0 < ls.length) = true := decide_eq_true hn0; obtain ⟨y, hy⟩ := HY.out hn0; have hm := HM.out; rw [hy] at hm; obtain ⟨q2, c2, hve, hr2, hl2⟩ := hm; have HYY := Lib.hid hy; have HR2 := Lib.hid hr2; have HL2 := Lib.hid hl2; subst hve; obtain ⟨n2, hn2⟩ : ∃ n, y.length = n := ⟨_, rfl⟩; have HN2 := Lib.hid hn2; rw [hn2]; clear hy hr2 hl2 hn2; go_wp2; refine bodyPost_ret (v := .tuple #[.slice q2 n2 c2, .bool true]) (by simp [results, Tryz.results84, go_sem]) rfl ?_; rw [HYY.out]; exact ⟨_, rfl, ⟨q2, c2, by rw [HN2.out], HR2.out, HL2.out⟩, HB.out⟩
      · have hn0I : decide ((ls.length : Int) > 0) = false := decide_eq_false (by omega)
        have hn0N : decide (0 < ls.length) = false := decide_eq_false hn0
        have HE := Lib.hid (show bestO trL ls = none by
          have h0 : ls = [] := List.length_eq_zero_iff.1 (Nat.eq_zero_of_not_pos hn0); rw [h0]; rfl)
        have hm := HM.out; rw [HE.out] at hm; have hm' : u6 = .slice none 0 0 := hm; subst hm'; clear hm; go_wp2; refine bodyPost_ret (v := .tuple #[.slice none 0 0, .bool false]) (by simp [results, Tryz.results84, go_sem]) rfl ?_; rw [HE.out]; exact ⟨_, rfl, rfl, HB.out⟩
abbrev Fd := Nat × (Int × Int) × List (Int × Int)
def fdLt (a b : Fd) : Bool := decide (cmpF a.2.1 b.2.1 < 0)
def gfd (l : List Fd) (i : Nat) : Fd := l.getD i (0, (0, 0), [])
theorem gfd_of {l : List Fd} {i : Nat} (h : i < l.length) : l[i]? = some (gfd l i) := by unfold gfd; rw [List.getD_eq_getElem?_getD, List.getElem?_eq_getElem h]; rfl
structure FdOk (x : Fd) : Prop where
  a0 : 0 ≤ x.2.1.1
  a1 : x.2.1.1 ≤ 20000000000
  b0 : 0 ≤ x.2.1.2
  b1 : x.2.1.2 ≤ 216000
def RdFd (w : World) (p : Option Addr) (ls : List Fd) : Prop :=
  ls = [] ∨ ∃ b off, p = some ⟨b, off, none⟩ ∧ ∀ i, i < ls.length → ∃ q c, w.cell? ⟨b, off + i * 4, none⟩ = some (.int .i64 (gfd ls i).1) ∧ w.cell? ⟨b, off + i * 4 + 1, none⟩ = some (.int .i64 (gfd ls i).2.1.1) ∧ w.cell? ⟨b, off + i * 4 + 2, none⟩ = some (.int .i64 (gfd ls i).2.1.2) ∧
    w.cell? ⟨b, off + i * 4 + 3, none⟩ = some (.slice q (gfd ls i).2.2.length c) ∧ RdS w q (gfd ls i).2.2
theorem RdFd.at {w : World} {p : Option Addr} {ls : List Fd} (h : RdFd w p ls) {i : Nat} (hi : i < ls.length) :
    ∃ b off, p = some ⟨b, off, none⟩ ∧ ∀ i, i < ls.length → ∃ q c, w.cell? ⟨b, off + i * 4, none⟩ = some (.int .i64 (gfd ls i).1) ∧ w.cell? ⟨b, off + i * 4 + 1, none⟩ = some (.int .i64 (gfd ls i).2.1.1) ∧ w.cell? ⟨b, off + i * 4 + 2, none⟩ = some (.int .i64 (gfd ls i).2.1.2) ∧
      w.cell? ⟨b, off + i * 4 + 3, none⟩ = some (.slice q (gfd ls i).2.2.length c) ∧ RdS w q (gfd ls i).2.2 := by
  rcases h with h | h
  · subst h; simp at hi
  · exact h
set_option maxRecDepth 100000 in
theorem t_farLt (n1 n2 : Int) (f1 f2 g1 g2 : Int) (v1 v2 : Value) (h1 : Mid (f1 * g2)) (h2 : Mid (g1 * f2)) (w : World) :
    Calls Tryz.prog 81 #[.agg #[.int .i64 n1, .int .i64 f1, .int .i64 f2, v1], .agg #[.int .i64 n2, .int .i64 g1, .int .i64 g2, v2]] w fun e w' => e = .returned (.bool (decide (cmpF (f1, f2) (g1, g2) < 0))) ∧ Below w.heap.size w w' := by
  obtain ⟨w1, e1, HS1, k0, k1, k2, k3, b1⟩ := box4 w (.int .i64 n1) (.int .i64 f1) (.int .i64 f2) v1 151; obtain ⟨w2, e2, HS2, q0, q1, q2, q3, b2⟩ := box4 w1 (.int .i64 n2) (.int .i64 g1) (.int .i64 g2) v2 151; have k1 := (b2.cell (lt_of_cellq k1)).trans k1; have k2 := (b2.cell (lt_of_cellq k2)).trans k2; have HB := Lib.hid (b1.trans (b2.mono b1.size)); have hc := fun W => t_compare f1 f2 g1 g2 h1 h2 W
  obtain ⟨C, hC⟩ : ∃ C, cmpF (f1, f2) (g1, g2) = C := ⟨_, rfl⟩; rw [hC] at hc ⊢; have HC := Lib.hid hc; clear b1 b2 hc hC h1 h2 k0 k3 q0 q3
  go_enter Tryz.func81, Tryz.ntmps81
  go_wp2_with fail; refine (HC.out _).mono ?_; rintro e w3 ⟨rfl, b3⟩; have HB3 := Lib.hid (HB.out.trans (b3.mono HB.out.size)); clear b3; go_wp2; go_ret; exact ⟨rfl, HB3.out⟩
def FoM (w : World) (bO : Nat) (o : Option Fd) (W : World) : Prop :=
  match o with
  | none => W.heap[bO]? = some (.cells #[.int .i64 0, .int .i64 0, .int .i64 0, .slice none 0 0] 151 (0, 0))
  | some x => ∃ q c, W.heap[bO]? = some (.cells #[.int .i64 x.1, .int .i64 x.2.1.1, .int .i64 x.2.1.2, .slice q x.2.2.length c] 151 (0, 0)) ∧ RdS w q x.2.2
theorem FoM.kept {w : World} {bO : Nat} {o : Option Fd} {W W' : World} (h : FoM w bO o W) (hb : W'.heap[bO]? = W.heap[bO]?) : FoM w bO o W' := by
  cases o with
  | none => exact hb.trans h
  | some x => obtain ⟨q, c, h1, h2⟩ := h; exact ⟨q, c, hb.trans h1, h2⟩
theorem FoM.cells {w : World} {bO : Nat} {o : Option Fd} {W : World} (h : FoM w bO o W) : ∃ v0 v1 v2 v3, W.heap[bO]? = some (.cells #[v0, v1, v2, v3] 151 (0, 0)) := by
  cases o with
  | none => exact ⟨_, _, _, _, h⟩
  | some x => obtain ⟨q, c, h1, _⟩ := h; exact ⟨_, _, _, _, h1⟩
def BfPost (o : Option Fd) (w : World) (e : Ending) (w' : World) : Prop :=
  (match o with
    | none => e = .returned (.tuple #[.agg #[.int .i64 0, .int .i64 0, .int .i64 0, .slice none 0 0], .bool false])
    | some x => ∃ q c, e = .returned (.tuple #[.agg #[.int .i64 x.1, .int .i64 x.2.1.1, .int .i64 x.2.1.2, .slice q x.2.2.length c], .bool true]) ∧ RdS w' q x.2.2) ∧ Below w.heap.size w w'
set_option maxHeartbeats 3200000 in
set_option maxRecDepth 100000 in
theorem t_bestF (p : Option Addr) (c : Nat) (ls : List Fd) (w : World) (hx : RdFd w p ls) (hl : ls.length ≤ 1000000) (hll : ∀ i, i < ls.length → FdOk (gfd ls i)) :
    Calls Tryz.prog 80 #[.slice p ls.length c, .func (.func 81) #[] #[]] w (BfPost (bestO fdLt ls) w) := by
  obtain ⟨w1, e1, HS1, r0, r1, r2, r3, b1⟩ := box4 w (.int .i64 0) (.int .i64 0) (.int .i64 0) (.slice none 0 0) 151; have kR := alloc_new w (.cells #[.int .i64 0, .int .i64 0, .int .i64 0, .slice none 0 0] 151); rw [e1] at kR; obtain ⟨w2, e2, HS2, o0, o1, o2, o3, b2⟩ := box4 w1 (.int .i64 0) (.int .i64 0) (.int .i64 0) (.slice none 0 0) 151; have kO := alloc_new w1 (.cells #[.int .i64 0, .int .i64 0, .int .i64 0, .slice none 0 0] 151); rw [e2] at kO; have kR := (b2.block _ (block_lt kR)).trans kR; obtain ⟨bR, hbR⟩ : ∃ x, w.heap.size = x := ⟨_, rfl⟩; obtain ⟨bO, hbO⟩ : ∃ x, w1.heap.size = x := ⟨_, rfl⟩; have HNB := Lib.hid (show w.heap.size ≤ bR ∧ w.heap.size ≤ bO ∧ bO ≠ bR from by have := HS1.out; omega); rw [hbR] at kR r0 r1 r2 r3; rw [hbO] at kO o0 o1 o2 o3; have HX := Lib.hid hx; have HLL := Lib.hid hll; have HB2 := Lib.hid (b1.trans (b2.mono b1.size)); have HR2 := Lib.hid kR; have HO2 := Lib.hid (show FoM w bO (bestN fdLt ls 0) w2 by rw [bestN_zero]; exact kO)
  clear hx hll b1 b2 kR kO
  go_enter Tryz.func80, Tryz.ntmps80
  go_wp2; clear e1 e2 hbR hbO r0 r1 r2 r3 o0 o1 o2 o3
  go_loopw [11] (fun a wr => ∃ k : Nat, k ≤ ls.length ∧ a = .int .i64 k ∧ Hid (FoM w bO (bestN fdLt ls k) wr) ∧ Hid (wr.heap[bR]? = some (.cells #[.int .i64 0, .int .i64 0, .int .i64 0, .slice none 0 0] 151 (0, 0))) ∧ Hid (0 < k → ∃ y, bestN fdLt ls k = some y ∧ FdOk y) ∧ Hid (Below w.heap.size w wr)) (fun a _ => ls.length - (intOf a).toNat)
  case atStart => exact ⟨0, Nat.zero_le _, rfl, HO2, HR2, Lib.hid (fun h => by omega), HB2⟩
  case round =>
    obtain ⟨k, hk, rfl, HM, HR, HY, HB⟩ := hrel
    by_cases hlt : k < ls.length
    · have hltI : decide ((k : Int) < (ls.length : Int)) = true := decide_eq_true (by omega)
      have hkI : (k : Int) < (ls.length : Int) := by omega
      have hwk : IntKind.i64.wrap ((k : Int) + 1) = (k : Int) + 1 := w64 _ (by omega) (by omega); obtain ⟨b, off, rfl, hc⟩ := HX.out.at hlt; obtain ⟨q, cq, d0, d1, d2, d3, hr⟩ := hc k hlt; have d0 := (HB.out.cell (lt_of_cellq d0)).trans d0; have d1 := (HB.out.cell (lt_of_cellq d1)).trans d1; have d2 := (HB.out.cell (lt_of_cellq d2)).trans d2; have d3 := (HB.out.cell (lt_of_cellq d3)).trans d3; have hgx := gfd_of hlt; have hok := HLL.out k hlt; obtain ⟨x, hxe⟩ : ∃ x, gfd ls k = x := ⟨_, rfl⟩; rw [hxe] at d0 d1 d2 d3 hr hgx hok; obtain ⟨xn, ⟨xf, xg⟩, xl⟩ := x; simp only [] at d0 d1 d2 d3 hr; have HRX := Lib.hid hr; have HGX := Lib.hid hgx; have HOK := Lib.hid hok; obtain ⟨nl, hnl⟩ : ∃ n, xl.length = n := ⟨_, rfl⟩; have HNL := Lib.hid hnl; rw [hnl] at d3; obtain ⟨w3, e3, HS3, x0, x1, x2, x3, b3⟩ := box4 wr (.int .i64 xn) (.int .i64 xf) (.int .i64 xg) (.slice q nl cq) 151; have kx := alloc_new wr (.cells #[.int .i64 xn, .int .i64 xf, .int .i64 xg, .slice q nl cq] 151)
      rw [e3] at kx; have HM3 := Lib.hid (HM.out.kept (b3.block bO (by obtain ⟨_, _, _, _, h⟩ := HM.out.cells; exact block_lt h))); have HR3 := Lib.hid ((b3.block bR (block_lt HR.out)).trans HR.out); have HB3 := Lib.hid (HB.out.trans (b3.mono HB.out.size)); have HXO := Lib.hid (show wr.heap.size ≠ bO from fun e => by obtain ⟨_, _, _, _, h⟩ := HM.out.cells; have := block_lt h; omega); clear hc hr hgx hok b3 hnl
      by_cases hk0 : k = 0
      · have hkI0 : ((k : Int) == 0) = true := by rw [hk0]; rfl
        have HN := Lib.hid (show bestN fdLt ls (k + 1) = some (xn, (xf, xg), xl) by rw [hk0]; exact bestN_one fdLt (by rw [← hk0]; exact HGX.out)); obtain ⟨z0, z1, z2, z3, hz⟩ := HM3.out.cells; obtain ⟨v1, v2, v3, v4, s1, s2, s3, s4, ⟨c0, f0⟩, ⟨c1, f1⟩, ⟨c2, f2⟩, ⟨c3, f3⟩, hx4, hxk, HZ, hxb⟩ := set4 w3 bO 151 _ _ _ _ (.int .i64 xn) (.int .i64 xf) (.int .i64 xg) (.slice q nl cq) hz; have HBN := Lib.hid (hxb w w.heap.size HNB.out.2.1 HB3.out); have HRN := Lib.hid ((hxk bR (fun e => HNB.out.2.2 e.symm)).trans HR3.out); have HXN := Lib.hid hx4; clear hk0 hxe hxb hxk hx4 hz kx; go_wp2; go_roundw
        case rel => exact ⟨k + 1, by omega, by go_num, Lib.hid (by rw [HN.out]; exact ⟨q, cq, by rw [HNL.out]; exact HXN.out, HRX.out⟩), HRN, Lib.hid (fun _ => ⟨_, HN.out, HOK.out⟩), HBN⟩
        case measure => simp [intOf]; omega
      · have hkI0 : ((k : Int) == 0) = false := by rw [beq_eq_false_iff_ne]; omega
        obtain ⟨⟨yn, ⟨yf, yg⟩, yl⟩, hy, hyok⟩ := HY.out (by omega); have hm := HM3.out; rw [hy] at hm; obtain ⟨q2, c2', hve, hr2⟩ := hm; simp only [] at hve hr2; have HN := Lib.hid (bestN_succ fdLt HGX.out hy)
        have hmid : ∀ a b : Int, 0 ≤ a → a ≤ 20000000000 → 0 ≤ b → b ≤ 216000 → Mid (a * b) := fun a b a0 a1 b0 b1 => by
          have h1 : 0 ≤ a * b := Int.mul_nonneg a0 b0; have h2 : a * b ≤ 20000000000 * 216000 := Int.le_trans (Int.mul_le_mul_of_nonneg_right a1 b0) (Int.mul_le_mul_of_nonneg_left b1 (by decide)); unfold Mid; omega
        have htl := t_farLt xn yn xf xg yf yg (.slice q nl cq) (.slice q2 yl.length c2') (hmid _ _ HOK.out.a0 HOK.out.a1 hyok.b0 hyok.b1) (hmid _ _ hyok.a0 hyok.a1 HOK.out.b0 HOK.out.b1) w3; have HYO := Lib.hid hyok; have HR2Y := Lib.hid hr2; obtain ⟨y0, y1, y2, y3⟩ := cells4 hve; obtain ⟨ny, hny⟩ : ∃ n, yl.length = n := ⟨_, rfl⟩; have HNY := Lib.hid hny; rw [hny] at htl y3 hve; have HVE := Lib.hid hve; have HKX := Lib.hid kx; clear hxe hk0 hy hyok hr2 hny hmid hve kx
        cases hb : decide (cmpF (xf, xg) (yf, yg) < 0) with
        | true =>
          rw [hb] at htl; rw [show fdLt (xn, (xf, xg), xl) (yn, (yf, yg), yl) = true from hb, if_pos rfl] at HN; clear hb; go_wp2_with fail; refine htl.mono ?_; clear htl; rintro e w4 ⟨rfl, b4⟩; have hve4 := (b4.block bO (block_lt HVE.out)).trans HVE.out; obtain ⟨x0, x1, x2, x3⟩ := cells4 ((b4.block _ (block_lt HKX.out)).trans HKX.out); obtain ⟨v1, v2, v3, v4, s1, s2, s3, s4, ⟨c0, f0⟩, ⟨c1, f1⟩, ⟨c2, f2⟩, ⟨c3, f3⟩, hx4, hxk, HZ, hxb⟩ := set4 w4 bO 151 _ _ _ _ (.int .i64 xn) (.int .i64 xf) (.int .i64 xg) (.slice q nl cq) hve4; have HBN := Lib.hid (hxb w w.heap.size HNB.out.2.1 (HB3.out.trans (b4.mono HB3.out.size))); have HRN := Lib.hid ((hxk bR (fun e => HNB.out.2.2 e.symm)).trans ((b4.block bR (block_lt HR3.out)).trans HR3.out)); have HXN := Lib.hid hx4; clear b4 hve4 hxb hxk hx4 y0 y1 y2 y3; go_wp2; go_roundw
          case rel => exact ⟨k + 1, by omega, by go_num, Lib.hid (by rw [HN.out]; exact ⟨q, cq, by rw [HNL.out]; exact HXN.out, HRX.out⟩), HRN, Lib.hid (fun _ => ⟨_, HN.out, HOK.out⟩), HBN⟩
          case measure => simp [intOf]; omega
        | false =>
          rw [hb] at htl; rw [show fdLt (xn, (xf, xg), xl) (yn, (yf, yg), yl) = false from hb, if_neg (by decide)] at HN; clear hb; go_wp2_with fail; refine htl.mono ?_; clear htl; rintro e w4 ⟨rfl, b4⟩; have HVN := Lib.hid ((b4.block bO (block_lt HVE.out)).trans HVE.out); have HBN := Lib.hid (HB3.out.trans (b4.mono HB3.out.size)); have HRN := Lib.hid ((b4.block bR (block_lt HR3.out)).trans HR3.out); clear b4 y0 y1 y2 y3; go_wp2; go_roundw
          case rel => exact ⟨k + 1, by omega, by go_num, Lib.hid (by rw [HN.out]; exact ⟨q2, c2', by rw [HNY.out]; exact HVN.out, HR2Y.out⟩), HRN, Lib.hid (fun _ => ⟨_, HN.out, HYO.out⟩), HBN⟩
          case measure => simp [intOf]; omega
    · obtain rfl : k = ls.length := by omega
      have hltI : decide ((ls.length : Int) < (ls.length : Int)) = false := by simp
      rw [bestN_all] at HM HY
      by_cases hn0 : 0 < ls.length
      · have hn0I : decide ((ls.length : Int) > 0) = true := decide_eq_true (by omega)
        have hn0N : decide (0 < ls.length) = true := decide_eq_true hn0; obtain ⟨⟨yn, ⟨yf, yg⟩, yl⟩, hy, hyok⟩ := HY.out hn0; have hm := HM.out; rw [hy] at hm; obtain ⟨q2, c2', hve, hr2⟩ := hm; simp only [] at hve hr2; have HYY := Lib.hid hy; obtain ⟨y0, y1, y2, y3⟩ := cells4 hve; obtain ⟨ny, hny⟩ : ∃ n, yl.length = n := ⟨_, rfl⟩; have HNY := Lib.hid hny; rw [hny] at y3; obtain ⟨v1, v2, v3, v4, s1, s2, s3, s4, ⟨c0, f0⟩, ⟨c1, f1⟩, ⟨c2, f2⟩, ⟨c3, f3⟩, hx4, hxk, HZ, hxb⟩ := set4 wr bR 151 _ _ _ _ (.int .i64 yn) (.int .i64 yf) (.int .i64 yg) (.slice q2 ny c2') HR.out; obtain ⟨g0, g1, g2, g3⟩ := cells4 hx4; have HBN := Lib.hid (hxb w w.heap.size HNB.out.1 HB.out); have HRY := Lib.hid (hr2.below HBN.out); clear hy hyok hr2 hny hve hxb hxk hx4; go_wp2; refine bodyPost_ret (v := .tuple #[.agg #[.int .i64 yn, .int .i64 yf, .int .i64 yg, .slice q2 ny c2'], .bool true]) ?_ rfl ?_
        · simp [results, Tryz.results80, go_sem, g0, g1, g2, g3]
        · rw [HYY.out]
          exact ⟨⟨q2, c2', by simp only [HNY.out], HRY.out⟩, HBN.out⟩
      · have hn0I : decide ((ls.length : Int) > 0) = false := decide_eq_false (by omega)
        have hn0N : decide (0 < ls.length) = false := decide_eq_false hn0
        have HE := Lib.hid (show bestO fdLt ls = none by
          have h0 : ls = [] := List.length_eq_zero_iff.1 (Nat.eq_zero_of_not_pos hn0); rw [h0]; rfl)
        have hm := HM.out; rw [HE.out] at hm; have hve : wr.heap[bO]? = some (.cells #[.int .i64 0, .int .i64 0, .int .i64 0, .slice none 0 0] 151 (0, 0)) := hm; obtain ⟨y0, y1, y2, y3⟩ := cells4 hve; obtain ⟨v1, v2, v3, v4, s1, s2, s3, s4, ⟨c0, f0⟩, ⟨c1, f1⟩, ⟨c2, f2⟩, ⟨c3, f3⟩, hx4, hxk, HZ, hxb⟩ := set4 wr bR 151 _ _ _ _ (.int .i64 0) (.int .i64 0) (.int .i64 0) (.slice none 0 0) HR.out; obtain ⟨g0, g1, g2, g3⟩ := cells4 hx4; have HBN := Lib.hid (hxb w w.heap.size HNB.out.1 HB.out); clear hm hve hxb hxk hx4; go_wp2; refine bodyPost_ret (v := .tuple #[.agg #[.int .i64 0, .int .i64 0, .int .i64 0, .slice none 0 0], .bool false]) ?_ rfl ?_
        · simp [results, Tryz.results80, go_sem, g0, g1, g2, g3]
        · rw [HE.out]
          exact ⟨rfl, HBN.out⟩
end Go.Proofs.YtchclaipbahiiaaGreat
end

section
namespace Go.Proofs.YtchclaipbahiiaaGreat
open Go Go.RowKit Go.Proofs
set_option linter.unusedVariables false
structure SrtOk (all : List Int) : Prop where
  len : all.length ≤ 216001
  one : ∀ i, i < all.length → 1 ≤ gi all i ∧ gi all i ≤ 216000
  mono : ∀ i j, i ≤ j → j < all.length → gi all i ≤ gi all j
theorem gi_of {l : List Int} {i : Nat} (h : i < l.length) : gi l i = l[i] := by unfold gi; rw [List.getD_eq_getElem?_getD, List.getElem?_eq_getElem h]; rfl
theorem srt_ok {t : List Int} (ht : Tth t) {n : Nat} (hn : n ≤ 3) : SrtOk (srtF t n) := by
  have h6 : topN n ≤ 216000 := show (60 : Nat) ^ n ≤ 60 ^ 3 from Nat.pow_le_pow_right (by decide) hn
  have hp : (srtF t n).Pairwise (· < ·) := by
    unfold srtF; rw [List.pairwise_map]; refine List.Pairwise.imp (fun {a b} h => ?_) (List.Pairwise.filter _ List.pairwise_lt_range); exact Int.ofNat_lt.2 h
  refine ⟨?_, fun i hi => ?_, fun i j hij hj => ?_⟩
  · have := srtTo_len t n (topN n + 1)
    rw [srtTo_all] at this; omega
  · rw [gi_of hi]
    have hm := List.getElem_mem hi; unfold srtF at hm; obtain ⟨x, hx, e⟩ := List.mem_map.1 hm; obtain ⟨h1, h2⟩ := List.mem_filter.1 hx; have h3 := List.mem_range.1 h1; have h4 : (x : Int) ∈ prodsL t n := by simpa using h2
    have h5 := prdF_in ht (M := (60 : Int) ^ n) n 0 1 (Int.le_refl _) (by rw [Int.one_mul]; exact Int.le_refl _) (x : Int) h4; rw [show (srtF t n)[i] = (x : Int) from e.symm]; omega
  · rw [gi_of hj, gi_of (by omega)]
    by_cases h : i = j
    · subst h; exact Int.le_refl _
    · exact Int.le_of_lt (List.pairwise_iff_getElem.1 hp i j (by omega) hj (by omega))
structure NrOk (k : Nat) (st : List (Int × Int) × (Int × Int)) : Prop where
  len : st.1.length ≤ k
  a0 : 0 ≤ st.2.1
  a1 : st.2.1 ≤ 20000000000
  b0 : 0 ≤ st.2.2
  b1 : st.2.2 ≤ 216000
theorem nearS_out {f : Int × Int} {dr : Int} {all : List Int} {st : List (Int × Int) × (Int × Int)} {i : Int} (h : inB i 0 ((all.length : Int) - 1) = false) : nearS f dr all st i = st := by unfold nearS; rw [if_pos h]
theorem nearS_new {f : Int × Int} {dr : Int} {all : List Int} {st : List (Int × Int) × (Int × Int)} {i : Int} (h : inB i 0 ((all.length : Int) - 1) = true) {x d : Int × Int} (hx : redF dr (gi all i.toNat) = x) (hd : dstF x f = d) (hc : st.1 = [] ∨ cmpF d st.2 < 0) : nearS f dr all st i = ([x], d) := by
  unfold nearS; rw [if_neg (by rw [h]; decide)]; simp only [hx, hd, if_pos hc]; rw [if_pos ⟨by unfold cmpF; exact Int.sub_self _, rfl⟩]
  rfl
theorem nearS_add {f : Int × Int} {dr : Int} {all : List Int} {st : List (Int × Int) × (Int × Int)} {i : Int} (h : inB i 0 ((all.length : Int) - 1) = true) {x d : Int × Int} (hx : redF dr (gi all i.toNat) = x) (hd : dstF x f = d) (hc : ¬ (st.1 = [] ∨ cmpF d st.2 < 0)) (h0 : cmpF d st.2 = 0) (hn : st.1.contains x = false) : nearS f dr all st i = (st.1 ++ [x], st.2) := by
  unfold nearS; rw [if_neg (by rw [h]; decide)]; simp only [hx, hd, if_neg hc]; rw [if_pos ⟨h0, hn⟩]
theorem nearS_same {f : Int × Int} {dr : Int} {all : List Int} {st : List (Int × Int) × (Int × Int)} {i : Int} (h : inB i 0 ((all.length : Int) - 1) = true) {x d : Int × Int} (hx : redF dr (gi all i.toNat) = x) (hd : dstF x f = d) (hc : ¬ (st.1 = [] ∨ cmpF d st.2 < 0)) (h0 : ¬ (cmpF d st.2 = 0 ∧ st.1.contains x = false)) : nearS f dr all st i = st := by
  unfold nearS; rw [if_neg (by rw [h]; decide)]; simp only [hx, hd, if_neg hc]; rw [if_neg h0]
def nearTo (f : Int × Int) (all : List Int) (k : Nat) : List (Int × Int) × (Int × Int) := (all.take k).foldl (nearD f all) ([], (0, 0))
theorem nearTo_succ (f : Int × Int) (all : List Int) {k : Nat} (h : k < all.length) : nearTo f all (k + 1) = nearD f all (nearTo f all k) (gi all k) := by
  unfold nearTo; rw [List.take_add_one, List.getElem?_eq_getElem h, gi_of h, List.foldl_append]
  rfl
theorem nearTo_all (f : Int × Int) (all : List Int) : nearTo f all all.length = nearFr all f := by unfold nearTo nearFr; rw [List.take_length]
def nearJ (f : Int × Int) (all : List Int) (st : List (Int × Int) × (Int × Int)) (dr : Int) (a : Nat) (j : Nat) : List (Int × Int) × (Int × Int) :=
  if j = 0 then st else if j = 1 then nearS f dr all st ((a : Int) - 1) else nearS f dr all (nearS f dr all st ((a : Int) - 1)) (a : Int)
theorem nearJ_two (f : Int × Int) (all : List Int) (st : List (Int × Int) × (Int × Int)) (dr : Int) : nearJ f all st dr (atN all f.1 (dr * f.2)) 2 = nearD f all st dr := rfl
theorem nearJ_succ (f : Int × Int) (all : List Int) (st : List (Int × Int) × (Int × Int)) (dr : Int) (a j : Nat) (h : j < 2) : nearJ f all st dr a (j + 1) = nearS f dr all (nearJ f all st dr a j) (if j = 0 then (a : Int) - 1 else (a : Int)) := by
  have : j = 0 ∨ j = 1 := by omega
  rcases this with rfl | rfl <;> rfl
theorem red_in {n d : Int} (hn : 1 ≤ n ∧ n ≤ 216000) (hd : 1 ≤ d ∧ d ≤ 216000) : (1 ≤ (redF n d).1 ∧ (redF n d).1 ≤ 216000) ∧ (1 ≤ (redF n d).2 ∧ (redF n d).2 ≤ 216000) := by
  obtain ⟨a, rfl⟩ : ∃ a : Nat, n = a := ⟨n.toNat, by omega⟩; obtain ⟨b, rfl⟩ : ∃ b : Nat, d = b := ⟨d.toNat, by omega⟩; rw [redF_nat]; have ha : 0 < a := by omega
  have hb : 0 < b := by omega
  have h1 : Nat.gcd a b ≤ a := Nat.le_of_dvd ha (Nat.gcd_dvd_left a b); have h2 : Nat.gcd a b ≤ b := Nat.le_of_dvd hb (Nat.gcd_dvd_right a b); have h0 : 0 < Nat.gcd a b := Nat.gcd_pos_of_pos_left b ha; have e1 : 0 < a / Nat.gcd a b := Nat.div_pos h1 h0; have e2 : 0 < b / Nat.gcd a b := Nat.div_pos h2 h0; have e3 : a / Nat.gcd a b ≤ a := Nat.div_le_self _ _; have e4 : b / Nat.gcd a b ≤ b := Nat.div_le_self _ _; simp only []; omega
theorem dst_in {x f : Int × Int} (h1 : 1 ≤ x.1 ∧ x.1 ≤ 216000) (h2 : 1 ≤ x.2 ∧ x.2 ≤ 216000) (h3 : 0 ≤ f.1 ∧ f.1 ≤ 50000) (h4 : 1 ≤ f.2 ∧ f.2 ≤ 50000) : 0 ≤ (dstF x f).1 ∧ (dstF x f).1 ≤ 20000000000 ∧ (dstF x f).2 = x.2 := by
  unfold dstF cmpF; have a1 : 0 ≤ x.1 * f.2 := Int.mul_nonneg (by omega) (by omega); have a2 : x.1 * f.2 ≤ 216000 * 50000 := Int.le_trans (Int.mul_le_mul_of_nonneg_right h1.2 (by omega)) (Int.mul_le_mul_of_nonneg_left h4.2 (by decide)); have a3 : 0 ≤ f.1 * x.2 := Int.mul_nonneg (by omega) (by omega); have a4 : f.1 * x.2 ≤ 50000 * 216000 := Int.le_trans (Int.mul_le_mul_of_nonneg_right h3.2 (by omega)) (Int.mul_le_mul_of_nonneg_left h2.2 (by decide)); refine ⟨?_, ?_, rfl⟩
  · show 0 ≤ max (x.1 * f.2 - f.1 * x.2) (-(x.1 * f.2 - f.1 * x.2))
    rw [Int.max_def]; split <;> omega
  · show max (x.1 * f.2 - f.1 * x.2) (-(x.1 * f.2 - f.1 * x.2)) ≤ _
    rw [Int.max_def]; split <;> omega
end Go.Proofs.YtchclaipbahiiaaGreat
end
