/-
  The map of what was found: its keys are spots (three numbers); it holds, of each spot that it holds, the right number.
  The heights that a step can have beside another height: an iterator.
  How many changes there are at least from a spot on: a recursion with a memory.
  Regions within a round of a loop over a function: what holds of a plain walk of such a region (no defer statement in it) holds there.
  How many changes there are at least from a spot on: each step by the next one.
  The first cam in lexicographic order: a closure that calls itself; plain laws first.
  The closure of the search, where some steps are set already.
-/
import Derived.Test.YtncfgkhbenmpoaaGreatDoorGd
import Derived.Test.YtncfgkhbenmpoaaGreatDoorGa
import Derived.Laws.StructEq
import Derived.Maps.OwnIn
import Derived.RangeFuncNested
import Derived.Sort.BigQuietIn
import Derived.StillTailTactics
import Derived.Deep.RegionHeld3
import Derived.Deep.AppendLies
section
namespace Go.Proofs.YtncfgkhbenmpoaaGreatDoor
open Go Go.RowKit Go.Proofs
set_option linter.unusedVariables false

def spotV (i h f : Int) : Value := .agg #[.int .i64 i, .int .i64 h, .int .i64 f]
def MapOk (w : World) (m : Nat) (G : Int → Int → Int → Int) : Prop :=
  ∃ es clk, w.heap[m]? = some (.map es clk) ∧ ∀ e ∈ es.toList, ∃ i h f, e.key = spotV i h f ∧ e.val = .int .i64 (G i h f)

theorem spotV_inj {i h f a b c : Int} (e : spotV i h f = spotV a b c) : i = a ∧ h = b ∧ f = c := by simpa [spotV] using e
theorem eq146 (i h f i' h' f' : Int) (w : World) : (Op.equal 146 (spotV i h f) (spotV i' h' f')).run Tryz.prog w = .ok (decide (i = i' ∧ h = h' ∧ f = f')) w := by
  unfold spotV Op.equal
  by_cases h1 : i = i' <;> by_cases h2 : h = h' <;> by_cases h3 : f = f' <;> simp [go_sem, Op.maxDepth, h1, h2, h3]
theorem check146 (em : Bool) (i h f : Int) (w : World) : (Instr.checkKey em 10000 146 (spotV i h f)).run Tryz.prog w = .ok () w := by kernel_rfl
theorem stays146 (i h f : Int) (w : World) : (Instr.keyThatStays (spotV i h f) (spotV i h f)).run Tryz.prog w = .ok (spotV i h f) w := by
  unfold Instr.keyThatStays spotV
  simp [Instr.sameBits, go_sem]
theorem find146 (i h f : Int) (w : World) (es : List MapEntry) : ∀ n, (∀ e ∈ es, ∃ i h f, e.key = spotV i h f) →
    ((Instr.findAsking 146 (spotV i h f) es n).run Tryz.prog w = .ok none w ∧ ∀ e ∈ es, e.key ≠ spotV i h f) ∨ ∃ j e, (Instr.findAsking 146 (spotV i h f) es n).run Tryz.prog w = .ok (some (n + j, e.val)) w ∧ es[j]? = some e ∧ e.key = spotV i h f := by
  induction es with
  | nil => intro n _; exact .inl ⟨rfl, fun e he => by cases he⟩
  | cons e es ih =>
    intro n he
    obtain ⟨a, b, c, hk⟩ := he e (by simp)
    by_cases hq : i = a ∧ h = b ∧ f = c
    · obtain ⟨rfl, rfl, rfl⟩ := hq
      refine .inr ⟨0, e, ?_, rfl, hk⟩
      unfold Instr.findAsking
      rw [hk]
      simp [go_sem, eq146]
    · have hrun : (Instr.findAsking 146 (spotV i h f) (e :: es) n).run Tryz.prog w = (Instr.findAsking 146 (spotV i h f) es (n + 1)).run Tryz.prog w := by
        conv => lhs; unfold Instr.findAsking
        rw [hk]
        simp [go_sem, eq146, hq]
      have hne : e.key ≠ spotV i h f := by
        rw [hk]; intro hh
        obtain ⟨h1, h2, h3⟩ := spotV_inj hh
        exact hq ⟨h1.symm, h2.symm, h3.symm⟩
      rw [hrun]
      rcases ih (n + 1) (fun e' h' => he e' (by simp [h'])) with ⟨h1, h2⟩ | ⟨j, e', h1, h2, h3⟩
      · refine .inl ⟨h1, fun e' h' => ?_⟩
        rcases List.mem_cons.1 h' with rfl | h'
        · exact hne
        · exact h2 e' h'
      · exact .inr ⟨j + 1, e', by rw [h1, show n + 1 + j = n + (j + 1) by omega], by simpa using h2, h3⟩
theorem under146 : Tryz.prog.underlying 146 = some (.struct (Tryz.prog.fieldsOf 146)) := by kernel_rfl
theorem u146 (w : World) : (underlying 146).run Tryz.prog w = .ok (.struct (Tryz.prog.fieldsOf 146)) w := run_underlying under146 w
theorem findKey146 (i h f : Int) (w : World) (es : List MapEntry) (he : ∀ e ∈ es, ∃ i h f, e.key = spotV i h f) :
    ((Instr.findKey 146 (spotV i h f) es).run Tryz.prog w = .ok none w ∧ ∀ e ∈ es, e.key ≠ spotV i h f) ∨ ∃ j e, (Instr.findKey 146 (spotV i h f) es).run Tryz.prog w = .ok (some (j, e.val)) w ∧ es[j]? = some e ∧ e.key = spotV i h f := by
  cases es with
  | nil => exact .inl ⟨by unfold Instr.findKey; simp only [Sem.run_bind, u146, Result.andThen]; rfl, fun e he => by cases he⟩
  | cons e es =>
    have hrun : (Instr.findKey 146 (spotV i h f) (e :: es)).run Tryz.prog w = (Instr.findAsking 146 (spotV i h f) (e :: es)).run Tryz.prog w := by
      obtain ⟨a, b, c, hk⟩ := he e (by simp)
      unfold Instr.findKey
      simp only [Sem.run_bind, u146, Result.andThen]
      rfl
    rw [hrun]
    rcases find146 i h f w (e :: es) 0 he with h1 | ⟨j, e', h1, h2⟩
    · exact .inl h1
    · exact .inr ⟨j, e', by rw [h1]; simp, h2⟩
theorem under108 : Tryz.prog.underlying 108 = some (.map 146 3) := by kernel_rfl
theorem u108 (w : World) : (underlying 108).run Tryz.prog w = .ok (.map 146 3) w := run_underlying under108 w

theorem look_met {w : World} {m : Nat} {G : Int → Int → Int → Int} (ok : MapOk w m G) (i h f : Int) :
    (Instr.lookup 108 (.map (some m)) (spotV i h f) true).run Tryz.prog w = .ok (.tuple #[.int .i64 0, .bool false]) w ∨
    (Instr.lookup 108 (.map (some m)) (spotV i h f) true).run Tryz.prog w = .ok (.tuple #[.int .i64 (G i h f), .bool true]) w := by
  obtain ⟨es, clk, hm, he⟩ := ok
  have hz : (zeroValue 3).run Tryz.prog w = .ok (.int .i64 0) w := by kernel_rfl
  have hg : (getObj m).run Tryz.prog w = .ok (.map es clk) w := by simp [getObj, Sem.run, hm]
  rcases findKey146 i h f w es.toList (fun e h' => by obtain ⟨a, b, c, h1, _⟩ := he e h'; exact ⟨a, b, c, h1⟩) with ⟨h1, _⟩ | ⟨j, e, h1, h2, h3⟩
  · left
    unfold Instr.lookup
    simp only [Sem.run_bind, u108, Result.andThen, hg, Sem.run_pure, check146, h1, hz]
    rfl
  · right
    obtain ⟨a, b, c, hk, hv⟩ := he e (List.mem_of_getElem? h2)
    have hv' : e.val = .int .i64 (G i h f) := by
      rw [hv]
      rw [h3] at hk
      obtain ⟨rfl, rfl, rfl⟩ := spotV_inj hk
      rfl
    unfold Instr.lookup
    simp only [Sem.run_bind, u108, Result.andThen, hg, Sem.run_pure, check146, h1, hv']
    rfl

theorem upd_met {w : World} {m : Nat} {G : Int → Int → Int → Int} (ok : MapOk w m G) (i h f : Int) :
    ∃ es clk, (Instr.mapUpdate 108 (.map (some m)) (spotV i h f) (.int .i64 (G i h f))).run Tryz.prog w = .ok () (w.putObj m (.map es clk)) ∧ MapOk (w.putObj m (.map es clk)) m G := by
  obtain ⟨es, clk, hm, he⟩ := ok
  have hlt : m < w.heap.size := (Array.getElem?_eq_some_iff.1 hm).1
  have hs : ∀ o, (setObj m o).run Tryz.prog w = .ok () (w.putObj m o) := fun o => by simp [setObj, Sem.run, hm, World.putObj]
  have hg : (getObj m).run Tryz.prog w = .ok (.map es clk) w := by simp [getObj, Sem.run, hm]
  rcases findKey146 i h f w es.toList (fun e h' => by obtain ⟨a, b, c, h1, _⟩ := he e h'; exact ⟨a, b, c, h1⟩) with ⟨h1, _⟩ | ⟨j, e, h1, h2, h3⟩
  · refine ⟨es.push { key := spotV i h f, val := .int .i64 (G i h f), born := clk }, clk + 1, ?_, ⟨_, _, World.putObj_heap_same hlt, ?_⟩⟩
    · unfold Instr.mapUpdate
      simp only [Sem.run_bind, u108, Result.andThen, hg, check146, h1, hs]
    · intro e he'
      rw [Array.toList_push, List.mem_append] at he'
      rcases he' with h' | h'
      · exact he e h'
      · simp only [List.mem_singleton] at h'
        subst h'
        exact ⟨i, h, f, rfl, rfl⟩
  · have hj : es[j]? = some e := by rw [← h2]; simp
    refine ⟨es.modify j fun e => { e with key := spotV i h f, val := .int .i64 (G i h f) }, clk, ?_, ⟨_, _, World.putObj_heap_same hlt, ?_⟩⟩
    · unfold Instr.mapUpdate
      simp only [Sem.run_bind, u108, Result.andThen, hg, check146, h1, hj, h3, stays146, hs, Option.map_some, Option.getD_some]
    · intro e' he'
      rw [Array.toList_modify] at he'
      obtain ⟨k, hk⟩ := List.mem_iff_getElem?.1 he'
      rw [List.getElem?_modify] at hk
      cases hek : es.toList[k]? with
      | none => rw [hek] at hk; simp at hk
      | some e0 =>
        by_cases hjk : j = k
        · simp [hjk, hek] at hk; subst hk; exact ⟨i, h, f, rfl, rfl⟩
        · simp [hjk, hek] at hk; subst hk; exact he _ (List.mem_of_getElem? hek)
theorem map_new (w : World) (G : Int → Int → Int → Int) : MapOk (w.alloc (.map #[] 0)) w.heap.size G := ⟨#[], 0, World.alloc_heap_new w _, fun e he => by simp at he⟩

section
variable {F : Fence} {nF : Nat} {w : World} {ops : Array Oper} {rest : List Oper} {o : Oper} {a : Act} {Q : Exit → Act → World → Prop}
theorem wpListIn_look_met (hg : o.guard = none) (m x : Operand) (hop : o.op = Op.lookup 108 m x true) {M : Nat} {G : Int → Int → Int → Int} (hm : a.eval m = .map (some M)) (ok : MapOk w M G) (i h f : Int) (hx : a.eval x = spotV i h f)
    (h1 : wpListIn F nF Tryz.prog ops Q rest (a.put o.dst (.tuple #[.int .i64 0, .bool false])) w) (h2 : wpListIn F nF Tryz.prog ops Q rest (a.put o.dst (.tuple #[.int .i64 (G i h f), .bool true])) w) :
    wpListIn F nF Tryz.prog ops Q (o :: rest) a w := by
  refine wpListIn_plain hg fun K' hK' => ?_
  unfold Oper.wpIn
  refine ⟨by simp [Oper.about, hop], ?_⟩
  rw [Oper.semAt_plain F _ _ (by rw [hop]; intro c hc'; cases hc')]
  rcases look_met ok i h f with hrun | hrun
  · simp [execOp, hop, hm, hx, hrun, Result.andThen]
    exact hK' _ _ h1
  · simp [execOp, hop, hm, hx, hrun, Result.andThen]
    exact hK' _ _ h2
theorem wpListIn_upd_met (hg : o.guard = none) (m x v : Operand) (hop : o.op = Op.mapUpdate 108 m x v) {M : Nat} {G : Int → Int → Int → Int} (hm : a.eval m = .map (some M)) (ok : MapOk w M G) (i h f : Int) (hx : a.eval x = spotV i h f) (hv : a.eval v = .int .i64 (G i h f))
    (hK : ∀ es clk, MapOk (w.putObj M (.map es clk)) M G → wpListIn F nF Tryz.prog ops Q rest (a.put o.dst undef) (w.putObj M (.map es clk))) :
    wpListIn F nF Tryz.prog ops Q (o :: rest) a w := by
  refine wpListIn_plain hg fun K' hK' => ?_
  obtain ⟨es, clk, hrun, ok'⟩ := upd_met ok i h f
  unfold Oper.wpIn
  refine ⟨by simp [Oper.about, hop], ?_⟩
  rw [Oper.semAt_plain F _ _ (by rw [hop]; intro c hc'; cases hc')]
  simp [execOp, hop, hm, hx, hv, hrun, Result.andThen]
  exact hK' _ _ (hK es clk ok')
end

/-! ### what a call may turn: some old blocks, and new ones -/
structure BelX (X : Nat → Prop) (B : Nat) (w w' : World) : Prop where
  os : w'.os = w.os
  tape : w'.tape = w.tape
  output : w'.output = w.output
  size : w.heap.size ≤ w'.heap.size
  block : ∀ k, k < B → ¬ X k → w'.heap[k]? = w.heap[k]?
theorem belX_of {X : Nat → Prop} {B : Nat} {w w' : World} (h : Below B w w') : BelX X B w w' := ⟨h.os, h.tape, h.output, h.size, fun k hk _ => h.block k hk⟩
theorem BelX.refl (X : Nat → Prop) (B : Nat) (w : World) : BelX X B w w := belX_of (Below.refl _ _)
theorem BelX.trans {X : Nat → Prop} {B : Nat} {a b c : World} (h : BelX X B a b) (k : BelX X B b c) : BelX X B a c :=
  ⟨k.os.trans h.os, k.tape.trans h.tape, k.output.trans h.output, Nat.le_trans h.size k.size, fun i hi hx => (k.block i hi hx).trans (h.block i hi hx)⟩
theorem BelX.mono {X : Nat → Prop} {B B' : Nat} {w w' : World} (h : BelX X B w w') (hB : B' ≤ B) : BelX X B' w w' := ⟨h.os, h.tape, h.output, h.size, fun k hk hx => h.block k (Nat.lt_of_lt_of_le hk hB) hx⟩
theorem BelX.weak {X Y : Nat → Prop} {B : Nat} {w w' : World} (h : BelX X B w w') (hXY : ∀ k, k < B → X k → Y k) : BelX Y B w w' := ⟨h.os, h.tape, h.output, h.size, fun k hk hx => h.block k hk (fun hh => hx (hXY k hk hh))⟩
theorem BelX.cell {X : Nat → Prop} {B : Nat} {w w' : World} (h : BelX X B w w') {p : Addr} (hp : p.block < B) (hx : ¬ X p.block) : w'.cell? p = w.cell? p := World.cell?_of_block (w := w) (h.block p.block hp hx)
theorem BelX.frozen {X : Nat → Prop} {B : Nat} {w w' : World} (h : BelX X B w w') {p : Addr} (hp : p.block < B) (hx : ¬ X p.block) : w'.frozen? p = w.frozen? p := World.frozen?_of_block (w := w) (h.block p.block hp hx)
theorem BelX.below {X : Nat → Prop} {B B' : Nat} {w w' : World} (h : BelX X B w w') (hB : B' ≤ B) (hX : ∀ k, X k → B' ≤ k) : Below B' w w' :=
  ⟨h.os, h.tape, h.output, h.size, fun k hk => h.block k (by omega) (fun hx => by have := hX k hx; omega)⟩
theorem BelX.put {X : Nat → Prop} {B : Nat} {a w : World} (h : BelX X B a w) {l : Nat} (hl : X l ∨ B ≤ l) (o : Obj) : BelX X B a (w.putObj l o) :=
  ⟨h.os, h.tape, h.output, by have := h.size; simpa using this, fun k hk hx => (World.putObj_heap_other (fun e => by subst e; rcases hl with hl | hl; exact hx hl; omega)).trans (h.block k hk hx)⟩
theorem BelX.setCell {X : Nat → Prop} {B : Nat} {a w : World} (h : BelX X B a w) {p : Addr} (hl : X p.block ∨ B ≤ p.block) (v : Value) : BelX X B a (w.setCell p v) :=
  ⟨h.os, h.tape, h.output, by have := h.size; simpa using this, fun k hk hx => (Below.heap_setCell w p v k (fun e => by subst e; rcases hl with hl | hl; exact hx hl; omega)).trans (h.block k hk hx)⟩
theorem belX_t {X : Nat → Prop} {n₀ : Nat} {A B C : World} (h : BelX X n₀ A B) (k : BelX X n₀ B C) : BelX X n₀ A C := h.trans k
theorem belX_b {X : Nat → Prop} {n₀ : Nat} {w : World} (hn : n₀ ≤ w.heap.size) (W : World) (l : Nat) (o o' : Obj) (hl : w.heap.size ≤ l) (h : W.heap[l]? = some o) (_ : o.isCells = false) (_ : o.isWalk = false) : BelX X n₀ W (W.putObj l o') :=
  (BelX.refl X n₀ W).put (.inr (by omega)) o'
theorem ownFrom_belX {β : Type} {X : Nat → Prop} {n₀ B : Nat} {w₀ : World} (hn : n₀ ≤ w₀.heap.size) (hB : n₀ ≤ B) : OwnFrom B (fun (_ : β) W => BelX X n₀ w₀ W) :=
  fun _ Y Z row hs hg hr => ⟨hg.os.trans hs.os, hg.tape.trans hs.tape, hg.output.trans hs.output, Nat.le_trans hs.size hg.size, fun k hk hx => (hg.block k (by have := hs.size; omega) (fun e => by have := (hr k e.symm).1; omega)).trans (hs.block k hk hx)⟩
theorem MapOk.keep {w w' : World} {m : Nat} {G : Int → Int → Int → Int} (h : MapOk w m G) (e : w'.heap[m]? = w.heap[m]?) : MapOk w' m G := by
  obtain ⟨es, clk, hm, he⟩ := h
  exact ⟨es, clk, e.trans hm, he⟩
theorem MapOk.lt {w : World} {m : Nat} {G : Int → Int → Int → Int} (h : MapOk w m G) : m < w.heap.size := by
  obtain ⟨es, clk, hm, he⟩ := h
  exact (Array.getElem?_eq_some_iff.1 hm).1
theorem MapOk.below {w w' : World} {m : Nat} {G : Int → Int → Int → Int} (h : MapOk w m G) (hb : Below w.heap.size w w') : MapOk w' m G := h.keep (hb.block m h.lt)
theorem MapOk.own {β : Type} {m B : Nat} {G : Int → Int → Int → Int} (hB : m < B) : OwnFrom B (fun (_ : β) W => MapOk W m G) :=
  fun _ Y Z row hs hg hr => hs.keep (hg.block m hs.lt (fun e => by have := (hr m e.symm).1; omega))
/-- what holds cells is no map -/
theorem MapOk.ne {w : World} {m : Nat} {G : Int → Int → Int → Int} (h : MapOk w m G) {p : Addr} {v : Value} (hc : w.cell? p = some v) : p.block ≠ m := by
  obtain ⟨es, clk, hm, he⟩ := h
  intro e
  unfold World.cell? at hc
  rw [e, hm] at hc
  simp at hc
end Go.Proofs.YtncfgkhbenmpoaaGreatDoor
end

section
namespace Go.Proofs.YtncfgkhbenmpoaaGreatDoor
open Go Go.RowKit Go.Proofs Go.Shelf
set_option linter.unusedVariables false
attribute [local go_sem] Oper.semAt_some imax2 imin2

theorem rng_length (a b : Int) : (rng a b).length = (b - a + 1).toNat := by simp [rng]
theorem rng_take (a b : Int) (k : Nat) (h : k < (b - a + 1).toNat) : (rng a b).take (k + 1) = (rng a b).take k ++ [a + (k : Int)] := by
  rw [List.take_succ_eq_append_getElem (by rw [rng_length]; exact h)]
  congr 1
  simp [rng]

/-- a height -/
def Ht : Type := { x : Int // 0 ≤ x ∧ x ≤ 30 }
def htL (xs : List Ht) : List Int := xs.map (·.1)

set_option maxRecDepth 100000 in
set_option maxHeartbeats 1000000 in
theorem c163 (n : Nat) (hn : 2 ≤ n) (l Bs Bt Bh : Nat) (sl : Int) (q : Option Addr) (cap : Nat) (ss : List (Int × Int)) (i : Nat) (h : Int) (hi : i < ss.length) (hsp : 0 ≤ (gs ss i).1 ∧ (gs ss i).1 ≤ 30 ∧ -30 ≤ (gs ss i).2 ∧ (gs ss i).2 ≤ 30) (hsl : 0 ≤ sl ∧ sl ≤ 30) (hh : 0 ≤ h ∧ h ≤ 30) (hlen : ss.length ≤ 1000) (L U : Int) (hL : max (gs ss i).1 (h - sl) = L) (hU : min (gs ss i).2 (h + sl) = U)
    (J Jx : List Ht → World → Prop) (W : World)
    (hJ : AbidesFrom W.heap.size J)
    (hY : ∀ pre x W1, J pre W1 → pre.length < (rng L U).length → YieldAt Fence.wide (n - 1) Tryz.prog l #[.int .i64 x.1] W1 fun e W' =>
      (e = .returned (.bool true) ∧ J (pre ++ [x]) W' ∧ True) ∨ (e = .returned (.bool false) ∧ Jx (pre ++ [x]) W'))
    (k2 : W.cell? ⟨Bs, 2, none⟩ = some (.int .i64 sl)) (k4 : W.cell? ⟨Bs, 4, none⟩ = some (.slice q ss.length cap)) (kt : W.cell? ⟨Bt, 0, none⟩ = some (.int .i64 i)) (kh : W.cell? ⟨Bh, 0, none⟩ = some (.int .i64 h)) (hx : RdS W q ss) (h0 : J [] W) :
    CallsIn Fence.wide n Tryz.prog 163 #[.func (.yield l) #[] #[], .pointer (some ⟨Bs, 0, none⟩), .pointer (some ⟨Bt, 0, none⟩), .pointer (some ⟨Bh, 0, none⟩)] W fun e W' => (∃ v, e = .returned v) ∧
      ((∃ ys, htL ys = rng L U ∧ J ys W') ∨ (∃ pre, True ∧ Jx pre W')) := by
  obtain ⟨b, off, rfl, hc⟩ := hx.at hi
  obtain ⟨e1, e2⟩ := hc i hi
  obtain ⟨hs1, hs2, hs3, hs4⟩ := hsp
  obtain ⟨hl1, hl2⟩ := hsl
  obtain ⟨hh1, hh2⟩ := hh
  have HJ := Lib.hid hJ
  have HY := Lib.hid hY
  have HJ0 := Lib.hid h0
  have HL := Lib.hid hL
  have HU := Lib.hid hU
  have hLb : 0 ≤ L ∧ L ≤ 30 := by omega
  have hUb : -30 ≤ U ∧ U ≤ 30 := by omega
  obtain ⟨hLb1, hLb2⟩ := hLb
  obtain ⟨hUb1, hUb2⟩ := hUb
  have hw1 : IntKind.i64.wrap (h - sl) = h - sl := w64 _ (by omega) (by omega)
  have hw2 : IntKind.i64.wrap (h + sl) = h + sl := w64 _ (by omega) (by omega)
  have hmx : Tryz.prog.follows .mixedOrders = true := by kernel_rfl
  clear hc hx hJ hY h0 hL hU
  refine callsIn_of_wp Tryz.func163 rfl trivial ?_ rfl
  simp only [Tryz.ntmps163, List.size_toArray, List.length_cons, List.length_nil, Nat.reduceAdd, Nat.reduceSub, Array.replicate_succ, Array.replicate_zero, List.push_toArray, List.append_toArray, List.nil_append, List.cons_append]
  gi_wp2
  gi_big_quiet_th_o (fail)
  gi_wp2
  clear k2 k4 kt kh e1 e2 hw1 hw2
  rw [HL.out, HU.out]
  clear HL HU
  have HJw := Lib.hid (HJ.out _ W (W.drewN nq) none HJ0.out ⟨rfl, rfl, rfl, Nat.le_refl _, fun _ _ _ => rfl⟩ (fun r e => by cases e))
  clear HJ0
  gi_loopw [7] (fun v wr => ∃ k : Nat, k ≤ (U - L + 1).toNat ∧ v = .int .i64 (L + k) ∧ Hid (∃ pre, htL pre = (rng L U).take k ∧ J pre wr)) (fun v _ => (U + 1 - intOf v).toNat)
  case atStart => exact ⟨0, Nat.zero_le _, by simp, Lib.hid ⟨[], rfl, HJw.out⟩⟩
  case round =>
    obtain ⟨k, hk, rfl, HJS⟩ := hrel
    by_cases hlt : k < (U - L + 1).toNat
    · have hle : L + (k : Int) ≤ U := by omega
      obtain ⟨pre, hpe, hJp⟩ := HJS.out
      have hpl : pre.length = k := by have := congrArg List.length hpe; rw [List.length_take, rng_length] at this; simp [htL] at this; omega
      obtain ⟨x, hxe⟩ : ∃ x : Ht, x.1 = L + (k : Int) := ⟨⟨L + (k : Int), by omega, by omega⟩, rfl⟩
      obtain ⟨fn, tmps, assign, body, hy, hR⟩ := HY.out pre x wr hJp (by rw [hpl, rng_length]; exact hlt)
      rw [hxe] at hy
      have HXE := Lib.hid hxe
      have HPE := Lib.hid hpe
      clear hpe hJp hpl HJS hxe
      have HR := Lib.hid hR
      have hd : 1 ≤ n - 1 := by omega
      clear hR
      gi_wp2_with fail
      refine ⟨fun _ => (by omega), ?_⟩
      refine HR.out.mono ?_
      intro e W3 h3
      obtain ⟨bb, rfl, HB3⟩ : ∃ bb : Bool, e = .returned (.bool bb) ∧ Hid ((bb = true ∧ J (pre ++ [x]) W3) ∨ (bb = false ∧ Jx (pre ++ [x]) W3)) := by
        rcases h3 with ⟨h, h', _⟩ | ⟨h, h'⟩
        · exact ⟨true, h, Lib.hid (.inl ⟨rfl, h'⟩)⟩
        · exact ⟨false, h, Lib.hid (.inr ⟨rfl, h'⟩)⟩
      clear h3 HR hy
      rcases HB3.out with ⟨rfl, hJ3⟩ | ⟨rfl, hJ3⟩
      · have HJ3 := Lib.hid hJ3
        clear hJ3 HB3
        gi_wp2
        go_roundw
        case rel => exact ⟨k + 1, by omega, by congr 1; omega, Lib.hid ⟨_, by rw [rng_take L U k hlt, ← HPE.out, ← HXE.out]; simp [htL], HJ3.out⟩⟩
        case measure => simp [intOf]; omega
      · have HJ3 := Lib.hid hJ3
        clear hJ3 HB3
        gi_wp2
        refine bodyPost_ret (results_none rfl _ _ _) rfl ?_
        exact ⟨⟨_, rfl⟩, .inr ⟨_, trivial, HJ3.out⟩⟩
    · obtain rfl : k = (U - L + 1).toNat := by omega
      have hgt : ¬ L + (((U - L + 1).toNat : Nat) : Int) ≤ U := by omega
      obtain ⟨pre, hpe, hJp⟩ := HJS.out
      rw [List.take_of_length_le (by rw [rng_length]; omega)] at hpe
      have HJ3 := Lib.hid hJp
      have HPE := Lib.hid hpe
      clear HJS hpe hJp
      gi_wp2
      go_end0
      exact ⟨⟨_, rfl⟩, .inl ⟨_, HPE.out, HJ3.out⟩⟩
/-- the iterator's contract, at whatever the loop keeps -/
theorem heights_stops (n : Nat) (hn : 2 ≤ n) (Bs Bt Bh : Nat) (sl : Int) (q : Option Addr) (cap : Nat) (ss : List (Int × Int)) (i : Nat) (h : Int) (hi : i < ss.length) (hsp : 0 ≤ (gs ss i).1 ∧ (gs ss i).1 ≤ 30 ∧ -30 ≤ (gs ss i).2 ∧ (gs ss i).2 ≤ 30) (hsl : 0 ≤ sl ∧ sl ≤ 30) (hh : 0 ≤ h ∧ h ≤ 30) (hlen : ss.length ≤ 1000) (L U : Int) (hL : max (gs ss i).1 (h - sl) = L) (hU : min (gs ss i).2 (h + sl) = U) (w : World)
    (k2 : w.cell? ⟨Bs, 2, none⟩ = some (.int .i64 sl)) (k4 : w.cell? ⟨Bs, 4, none⟩ = some (.slice q ss.length cap)) (kt : w.cell? ⟨Bt, 0, none⟩ = some (.int .i64 i)) (kh : w.cell? ⟨Bh, 0, none⟩ = some (.int .i64 h)) (hx : RdS w q ss) :
    SeqStopsK Fence.wide n Tryz.prog 163 #[.pointer (some ⟨Bs, 0, none⟩), .pointer (some ⟨Bt, 0, none⟩), .pointer (some ⟨Bh, 0, none⟩)] (fun x : Ht => #[Value.int .i64 x.1]) (fun _ _ => True) (fun ys => htL ys = rng L U)
      (fun _ => True) (rng L U).length w := fun l J Jx W hW hJ hJx hY h0 =>
  c163 n hn l Bs Bt Bh sl q cap ss i h hi hsp hsl hh hlen L U hL hU J Jx W hJ hY ((hW.cell (lt_of_cellq k2)).trans k2) ((hW.cell (lt_of_cellq k4)).trans k4) ((hW.cell (lt_of_cellq kt)).trans kt) ((hW.cell (lt_of_cellq kh)).trans kh) (hx.below hW) h0
theorem c151 (lo hi sl ch : Int) (q : Option Addr) (len cap m : Nat) (i h : Int) (w : World) :
    Calls Tryz.prog 151 #[.agg #[.int .i64 lo, .int .i64 hi, .int .i64 sl, .int .i64 ch, .slice q len cap, .map (some m)], .int .i64 i, .int .i64 h] w fun e w' =>
      e = .returned (.func (.func 163) #[] #[.pointer (some ⟨w.heap.size, 0, none⟩), .pointer (some ⟨w.heap.size + 1, 0, none⟩), .pointer (some ⟨w.heap.size + 1 + 1, 0, none⟩)]) ∧
      ((w.alloc (.cells #[.int .i64 lo, .int .i64 hi, .int .i64 sl, .int .i64 ch, .slice q len cap, .map (some m)] 110)).alloc (.cells #[.int .i64 i] 3)).alloc (.cells #[.int .i64 h] 3) = w' := by
  go_enter Tryz.func151, Tryz.ntmps151
  go_wp2
  go_ret
  exact ⟨rfl, rfl⟩
end Go.Proofs.YtncfgkhbenmpoaaGreatDoor
end

section
namespace Go.Proofs.YtncfgkhbenmpoaaGreatDoor
open Go Go.RowKit Go.Proofs Go.Shelf
set_option linter.unusedVariables false
attribute [local go_sem] Oper.semAt_some imax2 imin2

def SpOk (ss : List (Int × Int)) : Prop := ∀ i, i < ss.length → 0 ≤ (gs ss i).1 ∧ (gs ss i).1 ≤ 30 ∧ -30 ≤ (gs ss i).2 ∧ (gs ss i).2 ≤ 30
def restG (sl : Int) (ss : List (Int × Int)) (i h f : Int) : Int := restF sl (ss.drop (i.toNat + 1)) h f
theorem restG_range (sl : Int) (ss : List (Int × Int)) (i h f : Int) : 0 ≤ restG sl ss i h f ∧ restG sl ss i h f ≤ 1000 := restF_range _ _ _ _
theorem gs_spn (ss : List (Int × Int)) (i : Nat) : gs ss i = spn ss i := rfl
theorem restG_last (sl : Int) (ss : List (Int × Int)) (i : Nat) (h f : Int) (hi : i + 1 = ss.length) : restG sl ss i h f = if h - f > sl ∨ f - h > sl then 1000 else cost h f := by
  unfold restG
  rw [List.drop_eq_nil_of_le (by omega)]; rfl
/-- the least so far -/
def restTo (sl : Int) (ss : List (Int × Int)) (i : Nat) (h f : Int) (pre : List Int) : Int := pre.foldl (fun acc n => min acc (restG sl ss ((i : Int) + 1) n f + cost h n)) 1000
theorem restTo_snoc (sl : Int) (ss : List (Int × Int)) (i : Nat) (h f : Int) (pre : List Int) (x : Int) : restTo sl ss i h f (pre ++ [x]) = min (restTo sl ss i h f pre) (restG sl ss ((i : Int) + 1) x f + cost h x) := by
  unfold restTo; rw [List.foldl_append]; rfl
theorem restTo_range (sl : Int) (ss : List (Int × Int)) (i : Nat) (h f : Int) (pre : List Int) : 0 ≤ restTo sl ss i h f pre ∧ restTo sl ss i h f pre ≤ 1000 := by
  unfold restTo
  refine ⟨?_, (foldl_min_le _ _ _).1⟩
  rcases foldl_min_attained (fun n => restG sl ss ((i : Int) + 1) n f + cost h n) pre 1000 with e | ⟨x, _, e⟩
  · rw [e]; omega
  · rw [e]; have := restG_range sl ss ((i : Int) + 1) x f; have := cost_range h x; omega
theorem restG_next (sl : Int) (ss : List (Int × Int)) (i : Nat) (h f : Int) (hi : i + 1 < ss.length) (L U : Int) (hL : max (gs ss (i + 1)).1 (h - sl) = L) (hU : min (gs ss (i + 1)).2 (h + sl) = U) :
    restTo sl ss i h f (rng L U) = restG sl ss i h f := by
  subst hL hU
  unfold restTo restG
  rw [show ((i : Int) + 1).toNat = i + 1 by omega, Int.toNat_natCast, drop_cons ss (i + 1) hi]
  rw [gs_spn]
  obtain ⟨l, u, e⟩ : ∃ l u, spn ss (i + 1) = (l, u) := ⟨_, _, rfl⟩
  rw [e]; rfl
theorem keepsFrom_belX {X : Nat → Prop} {B : Nat} {W W' : World} (h : BelX X W.heap.size W W') (hX : ∀ k, X k → k < B) : KeepsFrom B W W' :=
  ⟨h.size, fun k o hB hk _ => (h.block k (Array.getElem?_eq_some_iff.1 hk).1 (fun hx => by have := hX k hx; omega)).trans hk⟩
theorem RdS.keep {X : Nat → Prop} {B : Nat} {w w' : World} {p : Option Addr} {ss : List (Int × Int)} (h : RdS w p ss) (hb : BelX X B w w') (hB : ∀ a, p = some a → a.block < B ∧ ¬ X a.block) : RdS w' p ss := by
  rcases h with h | ⟨b, off, rfl, hc⟩
  · exact .inl h
  · have hb' := hB _ rfl
    refine .inr ⟨b, off, rfl, fun i hi => ?_⟩
    obtain ⟨h1, h2⟩ := hc i hi
    exact ⟨(hb.cell (p := ⟨b, off + i * 2, none⟩) hb'.1 hb'.2).trans h1, (hb.cell (p := ⟨b, off + i * 2 + 1, none⟩) hb'.1 hb'.2).trans h2⟩
theorem RdS.blk {w : World} {p : Option Addr} {ss : List (Int × Int)} (h : RdS w p ss) (h0 : 0 < ss.length) : ∀ a, p = some a → a.block < w.heap.size ∧ ∃ v, w.cell? ⟨a.block, a.off, none⟩ = some v := by
  intro a ha
  obtain ⟨b, off, rfl, hc⟩ := h.at h0
  cases ha
  have := (hc 0 h0).1
  exact ⟨lt_of_cellq this, _, this⟩

/-- a struct of six numbers that is boxed -/
theorem box6 (w : World) (a b c d e f : Value) (t : TypeId) : ∃ w0, w.alloc (.cells #[a, b, c, d, e, f] t) = w0 ∧ Hid (w0.heap.size = w.heap.size + 1) ∧
    w0.cell? ⟨w.heap.size, 0, none⟩ = some a ∧ w0.cell? ⟨w.heap.size, 1, none⟩ = some b ∧ w0.cell? ⟨w.heap.size, 2, none⟩ = some c ∧ w0.cell? ⟨w.heap.size, 3, none⟩ = some d ∧ w0.cell? ⟨w.heap.size, 4, none⟩ = some e ∧ w0.cell? ⟨w.heap.size, 5, none⟩ = some f ∧ Below w.heap.size w w0 :=
  ⟨_, rfl, Lib.hid (by simp), by rw [at_new]; rfl, by rw [at_new]; rfl, by rw [at_new]; rfl, by rw [at_new]; rfl, by rw [at_new]; rfl, by rw [at_new]; rfl, below_alloc1 _ _⟩

/-- one number that is boxed -/
theorem box1 (w : World) (a : Value) (t : TypeId) : ∃ w0, w.alloc (.cells #[a] t) = w0 ∧ Hid (w0.heap.size = w.heap.size + 1) ∧
    w0.cell? ⟨w.heap.size, 0, none⟩ = some a ∧ Hid (w0.frozen? ⟨w.heap.size, 0, none⟩ = false) ∧ Below w.heap.size w w0 :=
  ⟨_, rfl, Lib.hid (by simp), by rw [at_new]; rfl, Lib.hid (frozen_of_row _ _ 0 _ _ (alloc_new w (.cells #[a] t))), below_alloc1 _ _⟩

def RestPost (sl : Int) (ss : List (Int × Int)) (m : Nat) (i : Nat) (h f : Int) (w : World) (e : Ending) (w' : World) : Prop :=
  e = .returned (.int .i64 (restG sl ss i h f)) ∧ MapOk w' m (restG sl ss) ∧ BelX (fun k => k = m) w.heap.size w w'

set_option maxRecDepth 100000 in
set_option maxHeartbeats 1000000 in
theorem c130_last (lo hi sl ch : Int) (q : Option Addr) (cap m : Nat) (ss : List (Int × Int)) (i : Nat) (h f : Int) (w : World) (hi' : i + 1 = ss.length) (hlen : ss.length ≤ 1000) (hsl : 0 ≤ sl ∧ sl ≤ 30) (hh : 0 ≤ h ∧ h ≤ 30) (hf : 0 ≤ f ∧ f ≤ 30) (hm : MapOk w m (restG sl ss)) :
    Calls Tryz.prog 130 #[.agg #[.int .i64 lo, .int .i64 hi, .int .i64 sl, .int .i64 ch, .slice q ss.length cap, .map (some m)], .agg #[.int .i64 i, .int .i64 h, .int .i64 f]] w (RestPost sl ss m i h f w) := by
  obtain ⟨w0, e0, HS0, a0, a1, a2, a3, a4, a5, b0⟩ := box6 w (.int .i64 lo) (.int .i64 hi) (.int .i64 sl) (.int .i64 ch) (.slice q ss.length cap) (.map (some m)) 110
  obtain ⟨w1, e1, HS1, k0, k1, k2, b1⟩ := box3 w0 (.int .i64 i) (.int .i64 h) (.int .i64 f) 146
  have c2 := (b1.cell (lt_of_cellq a2)).trans a2
  have c4 := (b1.cell (lt_of_cellq a4)).trans a4
  have HB := Lib.hid (b0.trans (b1.mono b0.size))
  have HM := Lib.hid (hm.below HB.out)
  have HR := Lib.hid (restG_last sl ss i h f hi')
  have hlast : ((i : Int) == (ss.length : Int) - 1) = true := by simp; omega
  obtain ⟨hsl1, hsl2⟩ := hsl
  obtain ⟨hh1, hh2⟩ := hh
  obtain ⟨hf1, hf2⟩ := hf
  have hlen0 : (0 : Int) ≤ (ss.length : Int) - 1 := by omega
  clear hm a0 a1 a2 a3 a4 a5 b0 b1 hi'
  have h112 := c112 (h - f) w1 (by omega)
  have h129 := c129 h f w1
  have hs := sizeF_range (h - f)
  by_cases hfar : h - f > sl ∨ f - h > sl
  · have hgt : sizeF (h - f) > sl := by omega
    have hgt' : decide (sizeF (h - f) > sl) = true := by simp; omega
    have HR2 := Lib.hid (HR.out.trans (if_pos hfar))
    clear hfar hs
    go_enter Tryz.func130, Tryz.ntmps130
    go_wp2
    refine wp_region_quiet_lit (by kernel_rfl) (by kernel_rfl) ?_; (repeat (first | ((with_reducible apply wq_ix Tryz.underlying24 sz3); (focus rfl); (focus rfl); (focus rfl); (focus omega); (try simp only [Nat.mul_one]); go_frame) | ((with_reducible apply wq_ix Tryz.underlying37 sz50); (focus rfl); (focus rfl); (focus rfl); (focus omega); (try simp only [Nat.mul_one]); go_frame) | ((with_reducible apply wq_ix Tryz.underlying35 sz47); (focus rfl); (focus rfl); (focus rfl); (focus omega); (try simp only [Nat.mul_one]); go_frame) | ((with_reducible apply wq_ix Tryz.underlying90 sz24); (focus rfl); (focus rfl); (focus rfl); (focus omega); (try simp only [Nat.mul_one]); go_frame) | ((with_reducible apply wq_ld ag3); (focus rfl); (focus rfl); (focus (rintro _ ⟨_, rfl⟩; first | exact k1 | exact k2 | exact c2)); go_frame) | ((with_reducible apply wq_ld ag24); (focus rfl); (focus rfl); (focus (rintro _ ⟨_, rfl⟩; first | exact k1 | exact k2 | exact c2)); go_frame) | ((with_reducible apply wq_ld ag37); (focus rfl); (focus rfl); (focus (rintro _ ⟨_, rfl⟩; first | exact k1 | exact k2 | exact c2)); go_frame) | ((with_reducible apply wq_ld ag90); (focus rfl); (focus rfl); (focus (rintro _ ⟨_, rfl⟩; first | exact k1 | exact k2 | exact c2)); go_frame) | ((with_reducible apply wq_ld ag35); (focus rfl); (focus rfl); (focus (rintro _ ⟨_, rfl⟩; first | exact k1 | exact k2 | exact c2)); go_frame) | ((with_reducible apply wq_add); (focus rfl); (focus rfl); (focus rfl); (focus omega); (focus omega); go_frame) | ((with_reducible apply wq_sub); (focus rfl); (focus rfl); (focus rfl); (focus omega); (focus omega); go_frame) | ((with_reducible apply wq_mul); (focus rfl); (focus rfl); (focus rfl); (focus omega); (focus omega); go_frame) | ((with_reducible apply wq_rem); (focus rfl); (focus rfl); (focus rfl); (focus omega); (focus omega); go_frame) | ((with_reducible apply wq_eql); (focus rfl); (focus rfl); (focus rfl); go_frame) | ((with_reducible apply wq_neq); (focus rfl); (focus rfl); (focus rfl); go_frame) | ((with_reducible apply wq_lss); (focus rfl); (focus rfl); (focus rfl); go_frame) | ((with_reducible apply wq_leq); (focus rfl); (focus rfl); (focus rfl); go_frame) | ((with_reducible apply wq_gtr); (focus rfl); (focus rfl); (focus rfl); go_frame) | ((with_reducible apply wq_geq); (focus rfl); (focus rfl); (focus rfl); go_frame) | ((with_reducible apply wq_max2); (focus rfl); (focus rfl); (focus rfl); go_frame) | ((with_reducible apply wq_min2); (focus rfl); (focus rfl); (focus rfl); go_frame) | ((with_reducible apply wq_max3); (focus rfl); (focus rfl); (focus rfl); (focus rfl); go_frame) | ((with_reducible apply wq_min3); (focus rfl); (focus rfl); (focus rfl); (focus rfl); go_frame) | go_big_quiet_step ((exact Calls.quiet_of_same ((c112 (h - f) _ (by omega)).mono fun e w' hq => ⟨hq.1, hq.2.symm⟩))))); refine wpQuiet_nil ?_; rintro _ ⟨nq, rfl⟩
    go_wp2
    go_ret
    exact ⟨by rw [HR2.out]; rfl, HM.out.keep rfl, belX_of (below_drewN HB.out _)⟩
  · have hgt : ¬ sizeF (h - f) > sl := by omega
    have hgt' : decide (sizeF (h - f) > sl) = false := by simp; omega
    have HR2 := Lib.hid (HR.out.trans (if_neg hfar))
    clear hfar hs
    go_enter Tryz.func130, Tryz.ntmps130
    go_wp2
    refine wp_region_quiet_lit (by kernel_rfl) (by kernel_rfl) ?_; (repeat (first | ((with_reducible apply wq_ix Tryz.underlying24 sz3); (focus rfl); (focus rfl); (focus rfl); (focus omega); (try simp only [Nat.mul_one]); go_frame) | ((with_reducible apply wq_ix Tryz.underlying37 sz50); (focus rfl); (focus rfl); (focus rfl); (focus omega); (try simp only [Nat.mul_one]); go_frame) | ((with_reducible apply wq_ix Tryz.underlying35 sz47); (focus rfl); (focus rfl); (focus rfl); (focus omega); (try simp only [Nat.mul_one]); go_frame) | ((with_reducible apply wq_ix Tryz.underlying90 sz24); (focus rfl); (focus rfl); (focus rfl); (focus omega); (try simp only [Nat.mul_one]); go_frame) | ((with_reducible apply wq_ld ag3); (focus rfl); (focus rfl); (focus (rintro _ ⟨_, rfl⟩; first | exact k1 | exact k2 | exact c2)); go_frame) | ((with_reducible apply wq_ld ag24); (focus rfl); (focus rfl); (focus (rintro _ ⟨_, rfl⟩; first | exact k1 | exact k2 | exact c2)); go_frame) | ((with_reducible apply wq_ld ag37); (focus rfl); (focus rfl); (focus (rintro _ ⟨_, rfl⟩; first | exact k1 | exact k2 | exact c2)); go_frame) | ((with_reducible apply wq_ld ag90); (focus rfl); (focus rfl); (focus (rintro _ ⟨_, rfl⟩; first | exact k1 | exact k2 | exact c2)); go_frame) | ((with_reducible apply wq_ld ag35); (focus rfl); (focus rfl); (focus (rintro _ ⟨_, rfl⟩; first | exact k1 | exact k2 | exact c2)); go_frame) | ((with_reducible apply wq_add); (focus rfl); (focus rfl); (focus rfl); (focus omega); (focus omega); go_frame) | ((with_reducible apply wq_sub); (focus rfl); (focus rfl); (focus rfl); (focus omega); (focus omega); go_frame) | ((with_reducible apply wq_mul); (focus rfl); (focus rfl); (focus rfl); (focus omega); (focus omega); go_frame) | ((with_reducible apply wq_rem); (focus rfl); (focus rfl); (focus rfl); (focus omega); (focus omega); go_frame) | ((with_reducible apply wq_eql); (focus rfl); (focus rfl); (focus rfl); go_frame) | ((with_reducible apply wq_neq); (focus rfl); (focus rfl); (focus rfl); go_frame) | ((with_reducible apply wq_lss); (focus rfl); (focus rfl); (focus rfl); go_frame) | ((with_reducible apply wq_leq); (focus rfl); (focus rfl); (focus rfl); go_frame) | ((with_reducible apply wq_gtr); (focus rfl); (focus rfl); (focus rfl); go_frame) | ((with_reducible apply wq_geq); (focus rfl); (focus rfl); (focus rfl); go_frame) | ((with_reducible apply wq_max2); (focus rfl); (focus rfl); (focus rfl); go_frame) | ((with_reducible apply wq_min2); (focus rfl); (focus rfl); (focus rfl); go_frame) | ((with_reducible apply wq_max3); (focus rfl); (focus rfl); (focus rfl); (focus rfl); go_frame) | ((with_reducible apply wq_min3); (focus rfl); (focus rfl); (focus rfl); (focus rfl); go_frame) | go_big_quiet_step ((exact Calls.quiet_of_same ((c112 (h - f) _ (by omega)).mono fun e w' hq => ⟨hq.1, hq.2.symm⟩))))); refine wpQuiet_nil ?_; rintro _ ⟨nq, rfl⟩
    go_wp2_with fail
    refine (c129 h f _).mono ?_
    rintro e w' ⟨rfl, rfl⟩
    go_wp2
    go_ret
    exact ⟨by rw [HR2.out]; rfl, HM.out.keep rfl, belX_of (below_drewN HB.out _)⟩
end Go.Proofs.YtncfgkhbenmpoaaGreatDoor
end

section
namespace Go.Proofs.YtncfgkhbenmpoaaGreatDoor
open Go Go.RowKit Go.Proofs Go.Shelf
set_option linter.unusedVariables false

section
variable {P : Program} {ops : Array Oper} {Q : Exit → Act → World → Prop} {l n : Nat}

def noDefer (ops : Array Oper) : Bool := ops.all fun o => match o.op with | .defer _ => false | _ => true
theorem noDefer_at {o : Oper} {i : Nat} (h : noDefer ops = true) (hi : ops[i]? = some o) : ∀ c, o.op ≠ .defer c := by
  intro c hc
  unfold noDefer at h
  rw [Array.all_eq_true] at h
  obtain ⟨hlt, he⟩ := Array.getElem?_eq_some_iff.1 hi
  have := h i hlt
  rw [he, hc] at this
  cases this
theorem oper_round {o : Oper} {a : Act} {w : World} {K : Act → World → Prop} (hnd : ∀ c, o.op ≠ .defer c) (h : o.wp P a w K Q) : o.wpIn (Fence.wide.inRound l) n P a w K Q := by
  refine ⟨fun _ _ => trivial, ?_⟩
  rw [Oper.semAt_plain _ _ _ hnd]
  unfold Oper.wp at h
  generalize (execOp a.eval o).run P w = r at h ⊢
  cases r with
  | ok x w' =>
    cases x with
    | value v => exact h
    | skip => exact h
    | defer d => exact h
    | enter f args => exact ⟨(fun hh => by cases hh), callsIn_wide.2 h⟩
    | row row args =>
      refine ⟨(fun hh => by cases hh), ?_⟩
      intro c cs _
      obtain ⟨v, w'', h1, h2⟩ := h c cs
      exact ⟨v, w'', h1, stepsIn_wide.2 h2⟩
    | round => exact h.elim
    | _ => exact h.elim
  | halt x w' => cases x <;> first | exact h | exact h.elim
theorem wpAny_round (hlo : ¬ LetsOut Q) (hnd : noDefer ops = true) : ∀ (fuel : Nat) (listed : Array Bool) (a : Act) (w : World), wpAny P .any ops Q fuel listed a w → wpAnyIn (Fence.wide.inRound l) n P .any ops Q fuel listed a w := by
  intro fuel
  induction fuel with
  | zero => intro listed a w h; exact h
  | succ fuel ih =>
    intro listed a w h
    refine ⟨h.1, fun i hi => ?_⟩
    have h2 := h.2 i hi
    unfold wpOp at h2
    unfold wpOpIn
    cases ho : ops[i]? with
    | none => rw [ho] at h2; exact ih _ _ _ h2
    | some o =>
      rw [ho] at h2
      simp only at h2 ⊢
      have hm : ∀ a w, wpAny P .any ops Q fuel (listed.setIfInBounds i true) a w → wpAnyIn (Fence.wide.inRound l) n P .any ops Q fuel (listed.setIfInBounds i true) a w := fun a w hh => ih _ _ _ hh
      split
      · rename_i hw
        rw [if_pos hw] at h2
        rcases h2 with h2 | h2
        rotate_left
        · exact absurd h2.2 hlo
        refine oper_round (noDefer_at hnd ho) ?_
        exact Oper.wp_mono hm h2
      · rename_i hw
        rw [if_neg hw] at h2
        exact ⟨fun _ _ => trivial, hm _ _ h2⟩

/-- reads and quiet calls ahead of one tail -/
theorem wpIn_round_still_tail {id : Nat} {a : Act} {w : World} {os : List Oper} (k : Nat) (hlo : ¬ LetsOut Q) (hnd : noDefer os.toArray = true) (hm : P.follows .mixedOrders = true) (hB : Region.lexTailB .any os.toArray k = true)
    (h : wpStill P os.toArray { w with drawn := w.drawn + 1 } (fun a' => wpList P os.toArray Q (os.drop k) a' { w with drawn := w.drawn + 1 }) (os.take k) a) : (Code.region id os.toArray true).wpIn (Fence.wide.inRound l) n P Q a w := by
  simp only [Region.lexTailB, Bool.and_eq_true, decide_eq_true_eq] at hB
  obtain ⟨⟨⟨⟨hsel, hn⟩, hs⟩, hc⟩, hlex⟩ := hB
  have htl : (os.take k).length = k := by have : k < os.length := by simpa using hn
                                          simp; omega
  have hdl : (os.drop k).length = os.toArray.size - k := by simp
  have inv0 : HeadInv .any os.toArray k (Array.replicate os.toArray.size false) :=
    ⟨by simp, fun j oj _ hl => (by rw [getD_replicate_false] at hl; cases hl), fun t _ ht => getD_in (by simpa using ht) (getD_replicate_false _ _)⟩
  have H := wpAnyL_lex (md := .any) (g := os.toArray.size - k) hsel hs hc hn (os.take k) 0 _ a (fun j hj => by rw [htl] at hj; simp [hj]) (by simpa using htl) inv0 (by rw [htl]; exact hlex) h
  have H2 := wpAny_of_head (Q' := Q) (g := os.toArray.size - k) (fun listed a' hL => by
    have := wpAny_of_seq (md := .any) (Q' := Q) (os.drop k) k listed a' { w with drawn := w.drawn + 1 } (fun j => by simp [List.getElem?_drop]) (by rw [hdl]; exact hL.1) hL.2
    rwa [hdl] at this) _ _ _ H
  rw [htl, show k + (os.toArray.size - k) = os.toArray.size by omega] at H2
  exact wpIn_region_any hm (wpAny_round hlo hnd _ _ _ _ H2)
end
end Go.Proofs.YtncfgkhbenmpoaaGreatDoor
end

section
namespace Go.Proofs.YtncfgkhbenmpoaaGreatDoor
open Go Go.RowKit Go.Proofs Go.Shelf
set_option linter.unusedVariables false
attribute [local go_sem] Oper.semAt_some imax2 imin2

set_option maxRecDepth 100000 in
set_option maxHeartbeats 2000000 in
theorem c130 (lo hi sl ch : Int) (q : Option Addr) (cap m : Nat) (ss : List (Int × Int)) (hlen : ss.length ≤ 1000) (hsl : 0 ≤ sl ∧ sl ≤ 30) (hsp : SpOk ss) : ∀ (r i : Nat) (h f : Int) (w : World), i + 1 + r = ss.length → 0 ≤ h ∧ h ≤ 30 → 0 ≤ f ∧ f ≤ 30 → RdS w q ss → MapOk w m (restG sl ss) →
    Calls Tryz.prog 130 #[.agg #[.int .i64 lo, .int .i64 hi, .int .i64 sl, .int .i64 ch, .slice q ss.length cap, .map (some m)], .agg #[.int .i64 i, .int .i64 h, .int .i64 f]] w (RestPost sl ss m i h f w) := by
  intro r
  induction r with
  | zero => intro i h f w hr hh hf hx hm; exact c130_last lo hi sl ch q cap m ss i h f w hr hlen hsl hh hf hm
  | succ r ih =>
    intro i h f w hr hh hf hx hm
    have IH := Lib.hid ih
    clear ih
    obtain ⟨w0, e0, HS0, a0, a1, a2, a3, a4, a5, b0⟩ := box6 w (.int .i64 lo) (.int .i64 hi) (.int .i64 sl) (.int .i64 ch) (.slice q ss.length cap) (.map (some m)) 110
    obtain ⟨w1, e1, HS1, k0, k1, k2, b1⟩ := box3 w0 (.int .i64 i) (.int .i64 h) (.int .i64 f) 146
    have c0 := (b1.cell (lt_of_cellq a0)).trans a0
    have c1 := (b1.cell (lt_of_cellq a1)).trans a1
    have c2 := (b1.cell (lt_of_cellq a2)).trans a2
    have c3 := (b1.cell (lt_of_cellq a3)).trans a3
    have c4 := (b1.cell (lt_of_cellq a4)).trans a4
    have c5 := (b1.cell (lt_of_cellq a5)).trans a5
    have HB := Lib.hid (b0.trans (b1.mono b0.size))
    have HM := Lib.hid (hm.below HB.out)
    have HX := Lib.hid (hx.below HB.out)
    have HMW := Lib.hid hm.lt
    have HXW := Lib.hid (show ∀ a, q = some a → a.block < w.heap.size ∧ a.block ≠ m from fun a ha => by obtain ⟨h1, v, hv⟩ := hx.blk (by omega) a ha; exact ⟨h1, hm.ne (p := ⟨a.block, a.off, none⟩) hv⟩)
    have HI := Lib.hid (show i + 1 < ss.length by omega)
    have HR := Lib.hid hr
    have HLN := Lib.hid hlen
    have HSL := Lib.hid hsl
    have HSP := Lib.hid hsp
    have HH := Lib.hid hh
    have HF := Lib.hid hf
    have hz0 : w.heap.size < w1.heap.size := by have h1 := HS0.out; have h2 := HS1.out; omega
    have hz1 : w0.heap.size < w1.heap.size := by have h2 := HS1.out; omega
    have hlast : ((i : Int) == (ss.length : Int) - 1) = false := by simp; omega
    have hlen0 : (0 : Int) ≤ (ss.length : Int) - 1 := by omega
    have hi1 : (i : Int) + 1 ≤ 1000 := by omega
    clear hm a0 a1 a2 a3 a4 a5 b0 b1 hr hx hsl hsp hh hf
    rcases look_met HM.out i h f with hk | hk
    rotate_left
    · unfold spotV at hk
      go_enter Tryz.func130, Tryz.ntmps130
      go_wp2
      go_ret
      exact ⟨rfl, HM.out, belX_of HB.out⟩
    · unfold spotV at hk
      obtain ⟨w2, e2, HS2, o0, HO, b2⟩ := box1 w1 (.int .i64 1000) 3
      obtain ⟨w3, e3, HS3, s0, s1, s2, s3, s4, s5, b3⟩ := box6 w2 (.int .i64 lo) (.int .i64 hi) (.int .i64 sl) (.int .i64 ch) (.slice q ss.length cap) (.map (some m)) 110
      obtain ⟨w4, e4, HS4, t0, _, b4⟩ := box1 w3 (.int .i64 ((i : Int) + 1)) 3
      obtain ⟨w5, e5, HS5, u0, _, b5⟩ := box1 w4 (.int .i64 h) 3
      have E3 := Lib.hid e3
      have E4 := Lib.hid e4
      have E5 := Lib.hid e5
      have c0 := (b2.cell (lt_of_cellq c0)).trans c0
      have c1 := (b2.cell (lt_of_cellq c1)).trans c1
      have c2 := (b2.cell (lt_of_cellq c2)).trans c2
      have c3 := (b2.cell (lt_of_cellq c3)).trans c3
      have c4' := (b2.cell (lt_of_cellq c4)).trans c4
      have c5' := (b2.cell (lt_of_cellq c5)).trans c5
      have k0' := (b2.cell (lt_of_cellq k0)).trans k0
      have k1' := (b2.cell (lt_of_cellq k1)).trans k1
      have k2' := (b2.cell (lt_of_cellq k2)).trans k2
      have B25 := Lib.hid (b3.trans ((b4.trans (b5.mono b4.size)).mono b3.size))
      have B15 := Lib.hid (b2.trans (B25.out.mono b2.size))
      have S0 := Lib.hid ((b4.trans (b5.mono b4.size)).cell (lt_of_cellq s2) |>.trans s2)
      have S4 := Lib.hid ((b4.trans (b5.mono b4.size)).cell (lt_of_cellq s4) |>.trans s4)
      have T0 := Lib.hid ((b5.cell (lt_of_cellq t0)).trans t0)
      have U0 := Lib.hid u0
      have O0 := Lib.hid o0
      clear e3 e4 e5 s0 s1 s2 s3 s4 s5 t0 u0 b2 b3 b4 b5 o0
      refine (callsIn_wide (n := 6)).1 ?_
      refine callsIn_of_wp_marks Tryz.func130 rfl trivial ?_ rfl
      simp only [Tryz.ntmps130, List.size_toArray, List.length_cons, List.length_nil, Nat.reduceAdd, Nat.reduceSub, Array.replicate_succ, Array.replicate_zero, List.push_toArray, List.append_toArray, List.nil_append, List.cons_append]
      gi_wp2_with fail
      refine ⟨trivial, ?_⟩
      refine (callsIn_wide.2 (c151 lo hi sl ch q ss.length cap m ((i : Int) + 1) h _)).mono ?_
      rintro e w' ⟨rfl, hw⟩
      rw [E3.out, E4.out, E5.out] at hw
      subst hw
      clear e0 e1 e2 E3 E4 E5 hk
      gi_wp2_with fail
      obtain ⟨L, hL⟩ : ∃ L, max (gs ss (i + 1)).1 (h - sl) = L := ⟨_, rfl⟩
      obtain ⟨U, hU⟩ : ∃ U, min (gs ss (i + 1)).2 (h + sl) = U := ⟨_, rfl⟩
      have HG := Lib.hid (restG_next sl ss i h f HI.out L U hL hU)
      have hT0 : w5.cell? ⟨w2.heap.size + 1, 0, none⟩ = some (.int .i64 ((i + 1 : Nat) : Int)) := by
        have := T0.out
        rw [HS3.out] at this
        rw [this]; congr 2
      have hU0 : w5.cell? ⟨w2.heap.size + 1 + 1, 0, none⟩ = some (.int .i64 h) := by
        have := U0.out
        rw [HS4.out, HS3.out] at this
        exact this
      have hseq := heights_stops 5 (by omega) w2.heap.size (w2.heap.size + 1) (w2.heap.size + 1 + 1) sl q cap ss (i + 1) h HI.out (HSP.out (i + 1) HI.out) HSL.out HH.out hlen L U hL hU w5 S0.out S4.out hT0 hU0 (HX.out.below B15.out)
      have hO0 := (B25.out.cell (lt_of_cellq O0.out)).trans O0.out
      have hOf := (B25.out.frozen (p := ⟨w1.heap.size, 0, none⟩) (lt_of_cellq O0.out)).trans HO.out
      have HZ := Lib.hid (show w1.heap.size < w5.heap.size by have := lt_of_cellq hO0; exact this)
      have HSEQ := Lib.hid hseq
      have HC := Lib.hid (show (∃ n, n = 0) by exact ⟨0, rfl⟩)
      have hLU : True := trivial
      refine wpIn_rangeFunc_ownG rfl (by omega) (gf := 163) (lb := #[.pointer (some ⟨w2.heap.size, 0, none⟩), .pointer (some ⟨w2.heap.size + 1, 0, none⟩), .pointer (some ⟨w2.heap.size + 1 + 1, 0, none⟩)]) rfl trivial (enters_of Tryz.func163 (by kernel_rfl) rfl)
        hseq (fun _ _ => trivial) (fun _ _ _ _ _ _ _ _ => trivial) (Below.refl _ _) (fun _ => rfl)
        (fun pre W => (W.cell? ⟨w1.heap.size, 0, none⟩ = some (.int .i64 (restTo sl ss i h f (htL pre))) ∧ W.frozen? ⟨w1.heap.size, 0, none⟩ = false) ∧ MapOk W m (restG sl ss) ∧ BelX (fun k => k = m ∨ k = w1.heap.size) w5.heap.size w5 W)
        (fun c pre W => False)
        (OwnFrom.and (Own.from (fun s A B row hs hg hr => ⟨cell_kept hs.1 hg hr, (frozen_kept hs.1 hg hr).trans hs.2⟩) _) (OwnFrom.and (MapOk.own (by have h1 := HMW.out; have h2 := B15.out.size; have h3 := HB.out.size; omega)) (ownFrom_belX (Nat.le_refl _) (Nat.le_refl _))))
        (fun c => fun s A B row hs hg hr => hs)
        ⟨⟨hO0, hOf⟩, HM.out.below B15.out, BelX.refl _ _ _⟩
        ?a1 ?assign ?body ?done ?stop
      case assign =>
        intro l x W K hK
        gi_wp2
        exact hK
      case stop => intro D c pre W hD _ hI; exact hI.elim
      case body =>
        rintro l pre x W ⟨⟨hcO, hfO⟩, hM, hB⟩ _
        have hd : 1 ≤ 4 := by omega
        have hmx : Tryz.prog.follows .mixedOrders = true := by kernel_rfl
        have hz2 := HZ.out
        have hmw := HMW.out
        have carry : ∀ {p : Addr} {v : Value}, p.block < w1.heap.size → p.block ≠ m → w2.cell? p = some v → W.cell? p = some v := fun {p} {v} h1 h2 hc =>
          (hB.cell (by omega) (by omega)).trans ((B25.out.cell (lt_of_cellq hc)).trans hc)
        have q0 := carry (by show w.heap.size < _; omega) (by show w.heap.size ≠ m; omega) c0
        have q1 := carry (by show w.heap.size < _; omega) (by show w.heap.size ≠ m; omega) c1
        have q2 := carry (by show w.heap.size < _; omega) (by show w.heap.size ≠ m; omega) c2
        have q3 := carry (by show w.heap.size < _; omega) (by show w.heap.size ≠ m; omega) c3
        have q4 := carry (by show w.heap.size < _; omega) (by show w.heap.size ≠ m; omega) c4'
        have q5 := carry (by show w.heap.size < _; omega) (by show w.heap.size ≠ m; omega) c5'
        have p0 := carry (by show w0.heap.size < _; omega) (by show w0.heap.size ≠ m; have := HS0.out; omega) k0'
        have p1 := carry (by show w0.heap.size < _; omega) (by show w0.heap.size ≠ m; have := HS0.out; omega) k1'
        have p2 := carry (by show w0.heap.size < _; omega) (by show w0.heap.size ≠ m; have := HS0.out; omega) k2'
        have hWs := hB.size
        have hxW : RdS W q ss := (HX.out.below B15.out).keep hB (fun a ha => by have := HXW.out a ha; have := HB.out.size; exact ⟨by omega, by omega⟩)
        have hIH := IH.out (i + 1) x.1 f W (by have := HR.out; omega) x.2 HF.out hxW hM
        rw [show ((i + 1 : Nat) : Int) = (i : Int) + 1 by omega] at hIH
        have HIH := Lib.hid hIH
        have HCO := Lib.hid hcO
        have HFO := Lib.hid hfO
        have HBW := Lib.hid hB
        have HP1 := Lib.hid p1
        clear carry hcO hfO hB c0 c1 c2 c3 c4 c5 c4' c5' k0 k1 k2 k0' k1' k2' hxW hIH hM HB HX B15
        gi_wp2_with fail
        refine ⟨trivial, ?_⟩
        refine (CallsIn.inRound l (callsIn_wide.2 HIH.out)).mono ?_
        rintro e w' ⟨rfl, hM', hB'⟩
        have z1 := (hB'.cell (p := ⟨w1.heap.size, 0, none⟩) (by show w1.heap.size < _; omega) (by show w1.heap.size ≠ m; omega)).trans HCO.out
        have z2 := (hB'.frozen (p := ⟨w1.heap.size, 0, none⟩) (by show w1.heap.size < _; omega) (by show w1.heap.size ≠ m; omega)).trans HFO.out
        have z3 := (hB'.cell (p := ⟨w0.heap.size, 1, none⟩) (by show w0.heap.size < _; omega) (by show w0.heap.size ≠ m; have := HS0.out; omega)).trans HP1.out
        have r1 := restG_range sl ss ((i : Int) + 1) x.1 f
        have r2 := cost_range h x.1
        have r3 := restTo_range sl ss i h f (htL pre)
        have hw : IntKind.i64.wrap (restG sl ss ((i : Int) + 1) x.1 f + cost h x.1) = restG sl ss ((i : Int) + 1) x.1 f + cost h x.1 := w64 _ (by omega) (by omega)
        have HSN := Lib.hid (restTo_snoc sl ss i h f (htL pre) x.1)
        have HM' := Lib.hid hM'
        have HB' := Lib.hid hB'
        clear q0 q1 q2 q3 q4 q5 p0 p1 p2 hM' hB' HIH HP1 HFO HCO
        gi_wp2_with fail
        refine wpIn_round_still_tail 8 (by rintro ⟨_, _, hq⟩; exact hq) (by kernel_rfl) (by kernel_rfl) (by kernel_rfl) ?_
        simp only [List.take_succ_cons, List.take_zero, List.drop_succ_cons, List.drop_zero]
        repeat (first | still_step | still_call ((c129 _ _ _).mono fun e w' hq => ⟨hq.1, hq.2.symm⟩))
        try refine wpStill_nil ?_
        go_wp2
        have hWw := HB'.out.size
        refine ⟨((keepsFrom_belX HB'.out (fun k hk => by subst hk; omega)).trans ((KeepsOthers.setCell _ _ _).from _)).trans ((KeepsOthers.drew _).from _), trivial, ⟨?_, ?_⟩, ?_, ?_⟩
        · show (w'.setCell _ _).cell? _ = _
          rw [World.cell?_setCell_same' _ _ _ (by rw [z1]; rfl), show htL (pre ++ [x]) = htL pre ++ [x.1] by simp [htL], HSN.out]
        · show (w'.setCell _ _).frozen? _ = _
          rw [World.frozen?_setCell]; exact z2
        · refine HM'.out.keep ?_
          show (w'.setCell _ _).heap[m]? = _
          exact Below.heap_setCell _ _ _ _ (by show m ≠ w1.heap.size; omega)
        · have h1 : BelX (fun k => k = m ∨ k = w1.heap.size) w5.heap.size w5 w' := HBW.out.trans ((HB'.out.mono hWs).weak (fun k _ hk => .inl hk))
          have h2 := h1.setCell (p := ⟨w1.heap.size, 0, none⟩) (.inl (.inr rfl)) (.int .i64 (min (restTo sl ss i h f (htL pre)) (restG sl ss ((i : Int) + 1) x.1 f + cost h x.1)))
          exact ⟨h2.os, h2.tape, h2.output, h2.size, h2.block⟩
      case done =>
        rintro D ys W hD hys ⟨⟨hcO, hfO⟩, hM, hB⟩ hK
        rw [hys, HG.out] at hcO
        have hz2 := HZ.out
        have hmw := HMW.out
        have carry : ∀ {p : Addr} {v : Value}, p.block < w1.heap.size → p.block ≠ m → w2.cell? p = some v → W.cell? p = some v := fun {p} {v} h1 h2 hc =>
          (hB.cell (by omega) (by omega)).trans ((B25.out.cell (lt_of_cellq hc)).trans hc)
        have q5 := carry (by show w.heap.size < _; omega) (by show w.heap.size ≠ m; omega) c5'
        have p0 := carry (by show w0.heap.size < _; omega) (by show w0.heap.size ≠ m; have := HS0.out; omega) k0'
        have p1 := carry (by show w0.heap.size < _; omega) (by show w0.heap.size ≠ m; have := HS0.out; omega) k1'
        have p2 := carry (by show w0.heap.size < _; omega) (by show w0.heap.size ≠ m; have := HS0.out; omega) k2'
        obtain ⟨es, clk, hrun, hM2⟩ := upd_met hM i h f
        unfold spotV at hrun
        have HM2 := Lib.hid hM2
        have HBW := Lib.hid hB
        have HKK := Lib.hid hK
        have hcO2 : (W.putObj m (.map es clk)).cell? ⟨w1.heap.size, 0, none⟩ = some (.int .i64 (restG sl ss i h f)) :=
          (World.cell?_of_block (World.putObj_heap_other (by show w1.heap.size ≠ m; omega))).trans hcO
        have hmD : m ≠ D := by have := B15.out.size; have := HB.out.size; omega
        clear carry hM hM2 hB hK hfO
        gi_wp2
        have hK' : (W.putObj m (.map es clk)).heap[D]? = some (.deferred (some [])) := (World.putObj_heap_other (fun e => hmD e.symm)).trans HKK.out
        refine ⟨by simp, .inl ⟨_, _, rfl, run_takeDeferred hK', ?_⟩⟩
        refine ⟨.int .i64 (restG sl ss i h f), ?_, rfl, ?_, ?_⟩
        · simp [results, Tryz.results130, go_sem]
        · exact HM2.out.keep (World.putObj_heap_other hmD)
        · have h1 : BelX (fun k => k = m) w.heap.size w W := (belX_of (HB.out.trans (B15.out.mono HB.out.size))).trans ((HBW.out.mono (by have := B15.out.size; have := HB.out.size; omega)).weak (fun k hk hx => by rcases hx with hx | hx; exact hx; omega))
          exact (h1.put (.inl rfl) _).put (.inr (by have := B15.out.size; have := HB.out.size; omega)) _
end Go.Proofs.YtncfgkhbenmpoaaGreatDoor
end

section
namespace Go.Proofs.YtncfgkhbenmpoaaGreatDoor
open Go Go.RowKit Go.Proofs Go.Shelf
set_option linter.unusedVariables false
attribute [local go_sem] imax2 imin2

/-- the first way on from the steps that are set already -/
def wayOut (sl : Int) (ss : List (Int × Int)) (xs : List Int) (left : Int) : Option (List Int) :=
  if xs = [] then camF sl left ss else (walkF sl (gi xs 0) (ss.drop xs.length) (gi xs (xs.length - 1)) left).map (xs ++ ·)
/-- what is tried with one height -/
def tryG (sl : Int) (ss : List (Int × Int)) (xs : List Int) (left n : Int) : Option (List Int) :=
  if restG sl ss xs.length n (gi xs 0) + cost (gi xs (xs.length - 1)) n > left then none else wayOut sl ss (xs ++ [n]) (left - cost (gi xs (xs.length - 1)) n)
theorem gi_snoc_last (xs : List Int) (n : Int) : gi (xs ++ [n]) ((xs ++ [n]).length - 1) = n := by unfold gi; simp
theorem gi_snoc (xs : List Int) (n : Int) (i : Nat) (h : i < xs.length) : gi (xs ++ [n]) i = gi xs i := by unfold gi; rw [List.getD_eq_getElem?_getD, List.getD_eq_getElem?_getD, List.getElem?_append_left h]
theorem wayOut_end (sl : Int) (ss : List (Int × Int)) (xs : List Int) (left : Int) (hx : 0 < xs.length) (hl : xs.length = ss.length) : wayOut sl ss xs left = some xs := by
  have hne : xs ≠ [] := by intro h; rw [h] at hx; simp at hx
  unfold wayOut
  rw [if_neg hne, List.drop_eq_nil_of_le (by omega)]
  simp [walkF]
theorem wayOut_step (sl : Int) (ss : List (Int × Int)) (xs : List Int) (left : Int) (hx : 0 < xs.length) (hl : xs.length < ss.length) (L U : Int)
    (hL : max (gs ss xs.length).1 (gi xs (xs.length - 1) - sl) = L) (hU : min (gs ss xs.length).2 (gi xs (xs.length - 1) + sl) = U) :
    wayOut sl ss xs left = (rng L U).findSome? (tryG sl ss xs left) := by
  subst hL hU
  have hne : xs ≠ [] := by intro h; rw [h] at hx; simp at hx
  unfold wayOut
  rw [if_neg hne, drop_cons ss xs.length hl, gs_spn]
  obtain ⟨l, u, e⟩ : ∃ l u, spn ss xs.length = (l, u) := ⟨_, _, rfl⟩
  rw [e]
  simp only [walkF]
  have key : ∀ n, (if restF sl (ss.drop (xs.length + 1)) n (gi xs 0) + cost (gi xs (xs.length - 1)) n > left then none else (walkF sl (gi xs 0) (ss.drop (xs.length + 1)) n (left - cost (gi xs (xs.length - 1)) n)).map (n :: ·)).map (xs ++ ·) = tryG sl ss xs left n := by
    intro n
    unfold tryG
    have hr : restG sl ss xs.length n (gi xs 0) = restF sl (ss.drop (xs.length + 1)) n (gi xs 0) := by unfold restG; rw [Int.toNat_natCast]
    rw [hr]
    by_cases h : restF sl (ss.drop (xs.length + 1)) n (gi xs 0) + cost (gi xs (xs.length - 1)) n > left
    · rw [if_pos h, if_pos h]; rfl
    · rw [if_neg h, if_neg h]
      unfold wayOut
      rw [if_neg (by simp), gi_snoc_last, gi_snoc xs n 0 hx, List.length_append, List.length_singleton]
      rw [Option.map_map]
      congr 1
      funext t
      simp
  generalize rng (max l (gi xs (xs.length - 1) - sl)) (min u (gi xs (xs.length - 1) + sl)) = rs
  induction rs with
  | nil => rfl
  | cons r rs ih =>
    rw [List.findSome?_cons, List.findSome?_cons, ← key r]
    cases (if restF sl (ss.drop (xs.length + 1)) r (gi xs 0) + cost (gi xs (xs.length - 1)) r > left then none else (walkF sl (gi xs 0) (ss.drop (xs.length + 1)) r (left - cost (gi xs (xs.length - 1)) r)).map (r :: ·)) with
    | none => exact ih
    | some v => rfl
/-- with nothing set -/
def tryG0 (sl : Int) (ss : List (Int × Int)) (left n : Int) : Option (List Int) := if restG sl ss 0 n n + 0 > left then none else wayOut sl ss [n] (left - 0)
theorem wayOut_step0 (sl : Int) (ss : List (Int × Int)) (left : Int) (hl : 0 < ss.length) : wayOut sl ss [] left = (rng (gs ss 0).1 (gs ss 0).2).findSome? (tryG0 sl ss left) := by
  unfold wayOut
  rw [if_pos rfl]
  cases ss with
  | nil => simp at hl
  | cons s ss =>
    obtain ⟨l, u⟩ := s
    simp only [camF, show gs ((l, u) :: ss) 0 = (l, u) from rfl]
    congr 1
    funext n
    have hr : restG sl ((l, u) :: ss) 0 n n = restF sl ss n n := rfl
    unfold tryG0 wayOut
    rw [hr, if_neg (show ¬ [n] = [] by simp), Int.add_zero, Int.sub_zero]
    rfl
theorem find_none {α : Type} {g : Int → Option α} {L : Int} : ∀ (k : Nat), (∀ x, L ≤ x → x < L + k → g x = none) → (rng L (L + k - 1)).findSome? g = none := by
  intro k h
  exact rng_findSome_none fun x h1 h2 => h x h1 (by omega)
end Go.Proofs.YtncfgkhbenmpoaaGreatDoor
end

section
namespace Go.Proofs.YtncfgkhbenmpoaaGreatDoor
open Go Go.RowKit Go.Proofs Go.Shelf
set_option linter.unusedVariables false
attribute [local go_sem] imax2 imin2

/-- what the closure has captured, and what lies behind it -/
structure WalkCtx (lo hi sl ch : Int) (q : Option Addr) (cap m : Nat) (ss : List (Int × Int)) (Bo Bs Bw : Nat) (w : World) : Prop where
  c0 : w.cell? ⟨Bs, 0, none⟩ = some (.int .i64 lo)
  c1 : w.cell? ⟨Bs, 1, none⟩ = some (.int .i64 hi)
  c2 : w.cell? ⟨Bs, 2, none⟩ = some (.int .i64 sl)
  c3 : w.cell? ⟨Bs, 3, none⟩ = some (.int .i64 ch)
  c4 : w.cell? ⟨Bs, 4, none⟩ = some (.slice q ss.length cap)
  c5 : w.cell? ⟨Bs, 5, none⟩ = some (.map (some m))
  cw : w.cell? ⟨Bw, 0, none⟩ = some (.func (.func 128) #[] #[.pointer (some ⟨Bs, 0, none⟩), .pointer (some ⟨Bo, 0, none⟩), .pointer (some ⟨Bw, 0, none⟩)])
  co : ∃ v, w.cell? ⟨Bo, 0, none⟩ = some v
  fo : w.frozen? ⟨Bo, 0, none⟩ = false
  rs : RdS w q ss
  hm : MapOk w m (restG sl ss)
  sw : Bs ≠ Bo ∧ Bw ≠ Bo ∧ Bo ≠ m ∧ Bs ≠ m ∧ Bw ≠ m
  qb : ∀ a, q = some a → a.block < w.heap.size ∧ a.block ≠ m ∧ a.block ≠ Bo
theorem WalkCtx.keep {lo hi sl ch : Int} {q : Option Addr} {cap m : Nat} {ss : List (Int × Int)} {Bo Bs Bw : Nat} {w w' : World} (h : WalkCtx lo hi sl ch q cap m ss Bo Bs Bw w)
    (hb : BelX (fun k => k = m ∨ k = Bo) w.heap.size w w') (hm : MapOk w' m (restG sl ss)) (ho : w'.heap[Bo]? = w.heap[Bo]?) : WalkCtx lo hi sl ch q cap m ss Bo Bs Bw w' := by
  obtain ⟨s1, s2, s3, s4, s5⟩ := h.sw
  have go : ∀ {p : Addr} {v : Value}, w.cell? p = some v → p.block ≠ m → p.block ≠ Bo → w'.cell? p = some v := fun {p} {v} hc h1 h2 => (hb.cell (lt_of_cellq hc) (by omega)).trans hc
  refine ⟨go h.c0 s4 s1, go h.c1 s4 s1, go h.c2 s4 s1, go h.c3 s4 s1, go h.c4 s4 s1, go h.c5 s4 s1, go h.cw s5 s2, ?_, ?_, h.rs.keep hb (fun a ha => ⟨(h.qb a ha).1, by have := h.qb a ha; omega⟩), hm, h.sw, fun a ha => ⟨Nat.lt_of_lt_of_le (h.qb a ha).1 hb.size, (h.qb a ha).2⟩⟩
  · obtain ⟨v, hv⟩ := h.co; exact ⟨v, (World.cell?_of_block (w := w) ho).trans hv⟩
  · exact (World.frozen?_of_block (w := w) ho).trans h.fo
theorem WalkCtx.below {lo hi sl ch : Int} {q : Option Addr} {cap m : Nat} {ss : List (Int × Int)} {Bo Bs Bw : Nat} {w w' : World} (h : WalkCtx lo hi sl ch q cap m ss Bo Bs Bw w)
    (hb : Below w.heap.size w w') : WalkCtx lo hi sl ch q cap m ss Bo Bs Bw w' := by
  refine h.keep (belX_of hb) (h.hm.below hb) (hb.block Bo ?_)
  obtain ⟨v, hv⟩ := h.co
  exact lt_of_cellq hv
theorem RdI.keep {X : Nat → Prop} {B : Nat} {w w' : World} {p : Option Addr} {xs : List Int} (h : RdI w p xs) (hb : BelX X B w w') (hB : ∀ a, p = some a → a.block < B ∧ ¬ X a.block) : RdI w' p xs := by
  rcases h with h | ⟨b, off, rfl, hc⟩
  · exact .inl h
  · have hb' := hB _ rfl
    exact .inr ⟨b, off, rfl, fun i hi => (hb.cell (p := ⟨b, off + i, none⟩) hb'.1 hb'.2).trans (hc i hi)⟩

def WalkRes (lo hi sl ch : Int) (q : Option Addr) (cap m : Nat) (ss : List (Int × Int)) (Bo Bs Bw : Nat) (xs : List Int) (left : Int) (w : World) (bb : Bool) (w' : World) : Prop :=
  ((bb = false ∧ wayOut sl ss xs left = none) ∨ (bb = true ∧ ∃ l, wayOut sl ss xs left = some l ∧ ∃ p c, w'.cell? ⟨Bo, 0, none⟩ = some (.slice p l.length c) ∧ RdI w' p l)) ∧
    WalkCtx lo hi sl ch q cap m ss Bo Bs Bw w' ∧ BelX (fun k => k = m ∨ k = Bo) w.heap.size w w'
def WalkPost (lo hi sl ch : Int) (q : Option Addr) (cap m : Nat) (ss : List (Int × Int)) (Bo Bs Bw : Nat) (xs : List Int) (left : Int) (w : World) (e : Ending) (w' : World) : Prop :=
  ∃ bb : Bool, e = .returned (.bool bb) ∧ WalkRes lo hi sl ch q cap m ss Bo Bs Bw xs left w bb w'

set_option maxRecDepth 100000 in
set_option maxHeartbeats 1000000 in
theorem c128_end (lo hi sl ch : Int) (q : Option Addr) (cap m : Nat) (ss : List (Int × Int)) (Bo Bs Bw : Nat) (hlen : ss.length ≤ 1000) (xs : List Int) (left : Int) (p : Option Addr) (cap' : Nat) (w : World) (hl : xs.length = ss.length) (h0 : 0 < xs.length)
    (hx : RdI w p xs) (hp : ∀ a, p = some a → a.block ≠ Bo) (hc : WalkCtx lo hi sl ch q cap m ss Bo Bs Bw w) :
    Calls Tryz.prog 128 #[.slice p xs.length cap', .int .i64 left, .pointer (some ⟨Bs, 0, none⟩), .pointer (some ⟨Bo, 0, none⟩), .pointer (some ⟨Bw, 0, none⟩)] w (WalkPost lo hi sl ch q cap m ss Bo Bs Bw xs left w) := by
  obtain ⟨v, ho⟩ := hc.co
  have fo := hc.fo
  have c4 := hc.c4
  have HC := Lib.hid hc
  have HW := Lib.hid (wayOut_end sl ss xs left h0 hl)
  have HX := Lib.hid hx
  have HP := Lib.hid hp
  have ht : ((xs.length : Int) == (ss.length : Int)) = true := by simp [hl]
  obtain ⟨b, off, hpe, hcc⟩ := hx.at h0
  have HPE := Lib.hid hpe
  clear hl hc hx hp hpe hcc
  go_enter Tryz.func128, Tryz.ntmps128
  go_wp2
  go_ret
  have hne : b ≠ Bo := HP.out _ HPE.out
  have hb : BelX (fun k => k = m ∨ k = Bo) w.heap.size w (w.setCell ⟨Bo, 0, none⟩ (.slice p xs.length cap')) := (BelX.refl _ _ _).setCell (.inl (.inr rfl)) _
  obtain ⟨s1, s2, s3, s4, s5⟩ := HC.out.sw
  refine ⟨true, rfl, .inr ⟨rfl, xs, HW.out, p, cap', World.cell?_setCell_same' _ _ _ (by rw [ho]; rfl), ?_⟩, ?_, hb⟩
  · refine HX.out.keep ((BelX.refl (fun k => k = Bo) w.heap.size w).setCell (.inl rfl) _) (fun a ha => ⟨?_, ?_⟩)
    · obtain ⟨b', off', e, hcc⟩ := HX.out.at h0
      rw [ha] at e; cases e
      exact lt_of_cellq (hcc 0 h0)
    · exact HP.out a ha
  · have go : ∀ {pp : Addr} {u : Value}, w.cell? pp = some u → pp.block ≠ Bo → (w.setCell ⟨Bo, 0, none⟩ (.slice p xs.length cap')).cell? pp = some u := fun {pp} {u} hc h2 =>
      (World.cell?_of_block (w := w) (Below.heap_setCell _ _ _ _ h2)).trans hc
    have hh := HC.out
    refine ⟨go hh.c0 s1, go hh.c1 s1, go hh.c2 s1, go hh.c3 s1, go hh.c4 s1, go hh.c5 s1, go hh.cw s2, ⟨_, World.cell?_setCell_same' _ _ _ (by rw [ho]; rfl)⟩, ?_, hh.rs.keep hb (fun a ha => ⟨(hh.qb a ha).1, by have := hh.qb a ha; omega⟩), hh.hm.keep (Below.heap_setCell _ _ _ _ (fun e => s3 e.symm)), hh.sw, fun a ha => ⟨Nat.lt_of_lt_of_le (hh.qb a ha).1 hb.size, (hh.qb a ha).2⟩⟩
    rw [World.frozen?_setCell]; exact hh.fo

set_option maxRecDepth 100000 in
set_option maxHeartbeats 2000000 in
theorem c128_pos (lo hi sl ch : Int) (q : Option Addr) (cap m : Nat) (ss : List (Int × Int)) (Bo Bs Bw : Nat) (hlen : ss.length ≤ 1000) (hsl : 0 ≤ sl ∧ sl ≤ 30) (hsp : SpOk ss) : ∀ (r : Nat) (xs : List Int) (left : Int) (p : Option Addr) (cap' : Nat) (w : World), xs.length + r = ss.length → 0 < xs.length →
    (∀ j, j < xs.length → 0 ≤ gi xs j ∧ gi xs j ≤ 30) → 0 ≤ left ∧ left < 1000 → RdI w p xs → (∀ a, p = some a → a.block ≠ Bo) → WalkCtx lo hi sl ch q cap m ss Bo Bs Bw w →
    Calls Tryz.prog 128 #[.slice p xs.length cap', .int .i64 left, .pointer (some ⟨Bs, 0, none⟩), .pointer (some ⟨Bo, 0, none⟩), .pointer (some ⟨Bw, 0, none⟩)] w (WalkPost lo hi sl ch q cap m ss Bo Bs Bw xs left w) := by
  intro r
  induction r with
  | zero => intro xs left p cap' w hr h0 hxs hleft hx hp hc; exact c128_end lo hi sl ch q cap m ss Bo Bs Bw hlen xs left p cap' w (by omega) h0 hx hp hc
  | succ r ih =>
    intro xs left p cap' w hr h0 hxs hleft hx hp hc
    have IH := Lib.hid ih
    clear ih
    obtain ⟨b, off, hpe, hcc⟩ := hx.at h0
    subst hpe
    obtain ⟨b', off', hqe, hcs⟩ := hc.rs.at (i := xs.length) (by omega)
    subst hqe
    obtain ⟨e1, e2⟩ := hcs xs.length (by omega)
    have e3 := hcc (xs.length - 1) (by omega)
    have hlast := hxs (xs.length - 1) (by omega)
    have hspan := hsp xs.length (by omega)
    have HSPAN := Lib.hid hspan
    have c4 := hc.c4
    have c2 := hc.c2
    have HC := Lib.hid hc
    have HX := Lib.hid hx
    have HP := Lib.hid hp
    have HXS := Lib.hid hxs
    have HI := Lib.hid (show xs.length < ss.length by omega)
    have HR := Lib.hid hr
    have HSL := Lib.hid hsl
    have HSP := Lib.hid hsp
    have HL := Lib.hid hleft
    have HLAST := Lib.hid hlast
    have hxl : xs.length ≤ 1000 := by omega
    have ht : ((xs.length : Int) == (ss.length : Int)) = false := by simp; omega
    have hlt0 : xs.length < ss.length := by omega
    obtain ⟨L, hL⟩ : ∃ L, max (gs ss xs.length).1 (gi xs (xs.length - 1) - sl) = L := ⟨_, rfl⟩
    obtain ⟨U, hU⟩ : ∃ U, min (gs ss xs.length).2 (gi xs (xs.length - 1) + sl) = U := ⟨_, rfl⟩
    have HW := Lib.hid (wayOut_step sl ss xs left h0 HI.out L U hL hU)
    have hLb : 0 ≤ L := by omega
    have hLb2 : L ≤ 30 := by omega
    have hUb : U ≤ 30 := by omega
    have hUb2 : -30 ≤ U := by omega
    have HL1 := Lib.hid hL
    have HU1 := Lib.hid hU
    have HM : (xs.length : Int) - 1 = ((xs.length - 1 : Nat) : Int) := by omega
    obtain ⟨hsl1, hsl2⟩ := hsl
    obtain ⟨hla1, hla2⟩ := hlast
    obtain ⟨hs1, hs2, hs3, hs4⟩ := hspan
    clear hcc hcs hc hx hp hxs hr hsp hleft hL hU
    go_enter Tryz.func128, Tryz.ntmps128
    go_wp2
    refine wp_region_quiet_lit (by kernel_rfl) (by kernel_rfl) ?_; (repeat (first | ((with_reducible apply wq_ix Tryz.underlying24 sz3); (focus rfl); (focus rfl); (focus rfl); (focus omega); (try simp only [Nat.mul_one]); go_frame) | ((with_reducible apply wq_ix Tryz.underlying37 sz50); (focus rfl); (focus rfl); (focus rfl); (focus omega); (try simp only [Nat.mul_one]); go_frame) | ((with_reducible apply wq_ix Tryz.underlying35 sz47); (focus rfl); (focus rfl); (focus rfl); (focus omega); (try simp only [Nat.mul_one]); go_frame) | ((with_reducible apply wq_ix Tryz.underlying90 sz24); (focus rfl); (focus rfl); (focus rfl); (focus omega); (try simp only [Nat.mul_one]); go_frame) | ((with_reducible apply wq_ld ag3); (focus rfl); (focus rfl); (focus (rintro _ ⟨_, rfl⟩; first | exact c4 | exact e1 | exact e2)); go_frame) | ((with_reducible apply wq_ld ag24); (focus rfl); (focus rfl); (focus (rintro _ ⟨_, rfl⟩; first | exact c4 | exact e1 | exact e2)); go_frame) | ((with_reducible apply wq_ld ag37); (focus rfl); (focus rfl); (focus (rintro _ ⟨_, rfl⟩; first | exact c4 | exact e1 | exact e2)); go_frame) | ((with_reducible apply wq_ld ag90); (focus rfl); (focus rfl); (focus (rintro _ ⟨_, rfl⟩; first | exact c4 | exact e1 | exact e2)); go_frame) | ((with_reducible apply wq_ld ag35); (focus rfl); (focus rfl); (focus (rintro _ ⟨_, rfl⟩; first | exact c4 | exact e1 | exact e2)); go_frame) | ((with_reducible apply wq_add); (focus rfl); (focus rfl); (focus rfl); (focus omega); (focus omega); go_frame) | ((with_reducible apply wq_sub); (focus rfl); (focus rfl); (focus rfl); (focus omega); (focus omega); go_frame) | ((with_reducible apply wq_mul); (focus rfl); (focus rfl); (focus rfl); (focus omega); (focus omega); go_frame) | ((with_reducible apply wq_rem); (focus rfl); (focus rfl); (focus rfl); (focus omega); (focus omega); go_frame) | ((with_reducible apply wq_eql); (focus rfl); (focus rfl); (focus rfl); go_frame) | ((with_reducible apply wq_neq); (focus rfl); (focus rfl); (focus rfl); go_frame) | ((with_reducible apply wq_lss); (focus rfl); (focus rfl); (focus rfl); go_frame) | ((with_reducible apply wq_leq); (focus rfl); (focus rfl); (focus rfl); go_frame) | ((with_reducible apply wq_gtr); (focus rfl); (focus rfl); (focus rfl); go_frame) | ((with_reducible apply wq_geq); (focus rfl); (focus rfl); (focus rfl); go_frame) | ((with_reducible apply wq_max2); (focus rfl); (focus rfl); (focus rfl); go_frame) | ((with_reducible apply wq_min2); (focus rfl); (focus rfl); (focus rfl); go_frame) | ((with_reducible apply wq_max3); (focus rfl); (focus rfl); (focus rfl); (focus rfl); go_frame) | ((with_reducible apply wq_min3); (focus rfl); (focus rfl); (focus rfl); (focus rfl); go_frame) | go_big_quiet_step (fail))); refine wpQuiet_nil ?_; rintro _ ⟨nq, rfl⟩
    go_wp2
    refine wp_region_quiet_lit (by kernel_rfl) (by kernel_rfl) ?_; (repeat (first | (rw [HM]) | ((with_reducible apply wq_ix Tryz.underlying24 sz3); (focus rfl); (focus rfl); (focus rfl); (focus omega); (try simp only [Nat.mul_one]); go_frame) | ((with_reducible apply wq_ix Tryz.underlying37 sz50); (focus rfl); (focus rfl); (focus rfl); (focus omega); (try simp only [Nat.mul_one]); go_frame) | ((with_reducible apply wq_ix Tryz.underlying35 sz47); (focus rfl); (focus rfl); (focus rfl); (focus omega); (try simp only [Nat.mul_one]); go_frame) | ((with_reducible apply wq_ix Tryz.underlying90 sz24); (focus rfl); (focus rfl); (focus rfl); (focus omega); (try simp only [Nat.mul_one]); go_frame) | ((with_reducible apply wq_ld ag3); (focus rfl); (focus rfl); (focus (rintro _ ⟨_, rfl⟩; first | exact c2 | exact e3)); go_frame) | ((with_reducible apply wq_ld ag24); (focus rfl); (focus rfl); (focus (rintro _ ⟨_, rfl⟩; first | exact c2 | exact e3)); go_frame) | ((with_reducible apply wq_ld ag37); (focus rfl); (focus rfl); (focus (rintro _ ⟨_, rfl⟩; first | exact c2 | exact e3)); go_frame) | ((with_reducible apply wq_ld ag90); (focus rfl); (focus rfl); (focus (rintro _ ⟨_, rfl⟩; first | exact c2 | exact e3)); go_frame) | ((with_reducible apply wq_ld ag35); (focus rfl); (focus rfl); (focus (rintro _ ⟨_, rfl⟩; first | exact c2 | exact e3)); go_frame) | ((with_reducible apply wq_add); (focus rfl); (focus rfl); (focus rfl); (focus omega); (focus omega); go_frame) | ((with_reducible apply wq_sub); (focus rfl); (focus rfl); (focus rfl); (focus omega); (focus omega); go_frame) | ((with_reducible apply wq_mul); (focus rfl); (focus rfl); (focus rfl); (focus omega); (focus omega); go_frame) | ((with_reducible apply wq_rem); (focus rfl); (focus rfl); (focus rfl); (focus omega); (focus omega); go_frame) | ((with_reducible apply wq_eql); (focus rfl); (focus rfl); (focus rfl); go_frame) | ((with_reducible apply wq_neq); (focus rfl); (focus rfl); (focus rfl); go_frame) | ((with_reducible apply wq_lss); (focus rfl); (focus rfl); (focus rfl); go_frame) | ((with_reducible apply wq_leq); (focus rfl); (focus rfl); (focus rfl); go_frame) | ((with_reducible apply wq_gtr); (focus rfl); (focus rfl); (focus rfl); go_frame) | ((with_reducible apply wq_geq); (focus rfl); (focus rfl); (focus rfl); go_frame) | ((with_reducible apply wq_max2); (focus rfl); (focus rfl); (focus rfl); go_frame) | ((with_reducible apply wq_min2); (focus rfl); (focus rfl); (focus rfl); go_frame) | ((with_reducible apply wq_max3); (focus rfl); (focus rfl); (focus rfl); (focus rfl); go_frame) | ((with_reducible apply wq_min3); (focus rfl); (focus rfl); (focus rfl); (focus rfl); go_frame) | go_big_quiet_step (fail))); refine wpQuiet_nil ?_; rintro _ ⟨nq, rfl⟩
    go_wp2
    rw [HL1.out, HU1.out]
    clear HL1 HU1 e1 e2 c2 c4 HM
    go_loopw [11] (fun v wr => ∃ k : Nat, k ≤ (U - L + 1).toNat ∧ v = .int .i64 (L + k) ∧ Hid (∀ x, L ≤ x → x < L + k → tryG sl ss xs left x = none) ∧ Hid (WalkCtx lo hi sl ch (some ⟨b', off', none⟩) cap m ss Bo Bs Bw wr) ∧ Hid (BelX (fun k => k = m ∨ k = Bo) w.heap.size w wr)) (fun v _ => (U + 1 - intOf v).toNat)
    case atStart => exact ⟨0, Nat.zero_le _, by simp, Lib.hid (fun x h1 h2 => by omega), Lib.hid (HC.out.below ⟨rfl, rfl, rfl, Nat.le_refl _, fun _ _ => rfl⟩), Lib.hid (belX_of ⟨rfl, rfl, rfl, Nat.le_refl _, fun _ _ => rfl⟩)⟩
    case round =>
      obtain ⟨k, hk, rfl, HN, HCr, HB⟩ := hrel
      by_cases hlt : k < (U - L + 1).toNat
      · have hle : L + (k : Int) ≤ U := by omega
        obtain ⟨n, hn⟩ : ∃ n, n = L + (k : Int) := ⟨_, rfl⟩
        have hn0 : 0 ≤ n := by omega
        have hn30 : n ≤ 30 := by omega
        have hnU : n ≤ U := by omega
        have hHP := HP.out _ rfl
        have hbm := HC.out.hm.ne e3
        have hblt := lt_of_cellq e3
        simp only at hHP hbm hblt
        have hxr : RdI wr (some ⟨b, off, none⟩) xs := HX.out.keep HB.out (fun a ha => by cases ha; exact ⟨hblt, by show ¬ (b = m ∨ b = Bo); omega⟩)
        obtain ⟨_, _, hee, hcc⟩ := hxr.at h0
        cases hee
        have f0 := hcc 0 h0
        have f1 := hcc (xs.length - 1) (by omega)
        have d0 := HCr.out.c0
        have d1 := HCr.out.c1
        have d2 := HCr.out.c2
        have d3 := HCr.out.c3
        have d4 := HCr.out.c4
        have d5 := HCr.out.c5
        have dw := HCr.out.cw
        have HM : (xs.length : Int) - 1 = ((xs.length - 1 : Nat) : Int) := by omega
        have hfirst := HXS.out 0 h0
        have hrest := c130 lo hi sl ch (some ⟨b', off', none⟩) cap m ss hlen HSL.out HSP.out r xs.length n (gi xs 0) 
        have HREST := Lib.hid hrest
        have HXR := Lib.hid hxr
        have HF0 : off + 0 = off := rfl
        rw [HF0] at f0
        rw [← hn]
        have HNE := Lib.hid hn
        clear hcc hxr hrest hn hHP hbm hblt HF0
        go_wp2
        refine wp_region_quiet_lit (by kernel_rfl) (by kernel_rfl) ?_; (repeat (first | (rw [HM]) | ((with_reducible apply wq_ix Tryz.underlying24 sz3); (focus rfl); (focus rfl); (focus rfl); (focus omega); (try simp only [Nat.mul_one]); go_frame) | ((with_reducible apply wq_ix Tryz.underlying37 sz50); (focus rfl); (focus rfl); (focus rfl); (focus omega); (try simp only [Nat.mul_one]); go_frame) | ((with_reducible apply wq_ix Tryz.underlying35 sz47); (focus rfl); (focus rfl); (focus rfl); (focus omega); (try simp only [Nat.mul_one]); go_frame) | ((with_reducible apply wq_ix Tryz.underlying90 sz24); (focus rfl); (focus rfl); (focus rfl); (focus omega); (try simp only [Nat.mul_one]); go_frame) | ((with_reducible apply wq_ld ag3); (focus rfl); (focus rfl); (focus (rintro _ ⟨_, rfl⟩; first | exact f0 | exact f1)); go_frame) | ((with_reducible apply wq_ld ag24); (focus rfl); (focus rfl); (focus (rintro _ ⟨_, rfl⟩; first | exact f0 | exact f1)); go_frame) | ((with_reducible apply wq_ld ag37); (focus rfl); (focus rfl); (focus (rintro _ ⟨_, rfl⟩; first | exact f0 | exact f1)); go_frame) | ((with_reducible apply wq_ld ag90); (focus rfl); (focus rfl); (focus (rintro _ ⟨_, rfl⟩; first | exact f0 | exact f1)); go_frame) | ((with_reducible apply wq_ld ag35); (focus rfl); (focus rfl); (focus (rintro _ ⟨_, rfl⟩; first | exact f0 | exact f1)); go_frame) | ((with_reducible apply wq_add); (focus rfl); (focus rfl); (focus rfl); (focus omega); (focus omega); go_frame) | ((with_reducible apply wq_sub); (focus rfl); (focus rfl); (focus rfl); (focus omega); (focus omega); go_frame) | ((with_reducible apply wq_mul); (focus rfl); (focus rfl); (focus rfl); (focus omega); (focus omega); go_frame) | ((with_reducible apply wq_rem); (focus rfl); (focus rfl); (focus rfl); (focus omega); (focus omega); go_frame) | ((with_reducible apply wq_eql); (focus rfl); (focus rfl); (focus rfl); go_frame) | ((with_reducible apply wq_neq); (focus rfl); (focus rfl); (focus rfl); go_frame) | ((with_reducible apply wq_lss); (focus rfl); (focus rfl); (focus rfl); go_frame) | ((with_reducible apply wq_leq); (focus rfl); (focus rfl); (focus rfl); go_frame) | ((with_reducible apply wq_gtr); (focus rfl); (focus rfl); (focus rfl); go_frame) | ((with_reducible apply wq_geq); (focus rfl); (focus rfl); (focus rfl); go_frame) | ((with_reducible apply wq_max2); (focus rfl); (focus rfl); (focus rfl); go_frame) | ((with_reducible apply wq_min2); (focus rfl); (focus rfl); (focus rfl); go_frame) | ((with_reducible apply wq_max3); (focus rfl); (focus rfl); (focus rfl); (focus rfl); go_frame) | ((with_reducible apply wq_min3); (focus rfl); (focus rfl); (focus rfl); (focus rfl); go_frame) | go_big_quiet_step ((exact Calls.quiet_of_same ((c129 _ _ _).mono fun e w' hq => ⟨hq.1, hq.2.symm⟩))))); refine wpQuiet_nil ?_; rintro _ ⟨nq, rfl⟩
        go_wp2_with fail
        have hbd : Below wr.heap.size wr (wr.drewN nq) := below_drewN (Below.refl _ _) nq
        refine (HREST.out (wr.drewN nq) (by have := HR.out; omega) ⟨hn0, hn30⟩ hfirst (HCr.out.below hbd).rs (HCr.out.below hbd).hm).mono ?_
        rintro e w2 ⟨rfl, hM2, hB2⟩
        have hB2 : BelX (fun k => k = m) wr.heap.size wr w2 := (belX_of hbd).trans hB2
        have hBow : Bo < wr.heap.size := by obtain ⟨v, hv⟩ := HCr.out.co; exact lt_of_cellq hv
        have hC2 : WalkCtx lo hi sl ch (some ⟨b', off', none⟩) cap m ss Bo Bs Bw w2 := HCr.out.keep (hB2.weak (fun k _ hk => .inl hk)) hM2 (hB2.block Bo hBow HC.out.sw.2.2.1)
        have HX2 := Lib.hid (HXR.out.keep hB2 (fun a ha => by cases ha; exact ⟨lt_of_cellq f0, (HCr.out.hm.ne f0)⟩))
        have HB2 := Lib.hid (HB.out.trans ((hB2.mono HB.out.size).weak (fun k _ hk => .inl hk)))
        have HC2 := Lib.hid hC2
        have r1 := restG_range sl ss xs.length n (gi xs 0)
        have r2 := cost_range (gi xs (xs.length - 1)) n
        clear hM2 hB2 hC2 hBow hbd d0 d1 d2 d3 d4 d5 dw f0 f1 HREST HM HXR
        by_cases hgt : restG sl ss xs.length n (gi xs 0) + cost (gi xs (xs.length - 1)) n > left
        · have hgt' : decide (restG sl ss xs.length n (gi xs 0) + cost (gi xs (xs.length - 1)) n > left) = true := by simp; omega
          have HT := Lib.hid (show tryG sl ss xs left n = none from if_pos hgt)
          go_wp2
          go_roundw
          case rel =>
            refine ⟨k + 1, by omega, by rw [HNE.out]; congr 1; omega, Lib.hid fun x h1 h2 => ?_, HC2, HB2⟩
            by_cases hxn : x = n
            · rw [hxn]; exact HT.out
            · have := HNE.out; exact HN.out x h1 (by omega)
          case measure => have := HNE.out; simp [intOf]; omega
        · have hgt' : decide (restG sl ss xs.length n (gi xs 0) + cost (gi xs (xs.length - 1)) n > left) = false := by simp; omega
          have HT := Lib.hid (show tryG sl ss xs left n = wayOut sl ss (xs ++ [n]) (left - cost (gi xs (xs.length - 1)) n) from if_neg hgt)
          have dw := HC2.out.cw
          have hl1 : 0 ≤ left := HL.out.1
          have hl2 : left < 1000 := HL.out.2
          have hsub : IntKind.i64.wrap (left - cost (gi xs (xs.length - 1)) n) = left - cost (gi xs (xs.length - 1)) n := w64 _ (by omega) (by omega)
          have hxl6 : xs.length ≤ 1000000 := by omega
          have hxl7 : xs.length + 1 ≤ maxLen := by unfold maxLen; omega
          have hxl8 : (xs.length + 1) * 8 ≤ 140737488355328 := by omega
          obtain ⟨i0, hi0, hz0, hz1, hz2⟩ := info_parts info3
          go_wp2
          have hbw := lt_of_cellq dw
          simp only at hbw
          have hih : ∀ (g c : Nat) (w4 : World), RdI w4 (some ⟨g, 0, none⟩) (xs ++ [n]) → g ≠ Bo → WalkCtx lo hi sl ch (some ⟨b', off', none⟩) cap m ss Bo Bs Bw w4 →
              Calls Tryz.prog 128 #[.slice (some ⟨g, 0, none⟩) (xs.length + 1) c, .int .i64 (left - cost (gi xs (xs.length - 1)) n), .pointer (some ⟨Bs, 0, none⟩), .pointer (some ⟨Bo, 0, none⟩), .pointer (some ⟨Bw, 0, none⟩)] w4
                (WalkPost lo hi sl ch (some ⟨b', off', none⟩) cap m ss Bo Bs Bw (xs ++ [n]) (left - cost (gi xs (xs.length - 1)) n) w4) := by
            intro g c w4 h1 h2 h3
            have := IH.out (xs ++ [n]) (left - cost (gi xs (xs.length - 1)) n) (some ⟨g, 0, none⟩) c w4 (by have := HR.out; simp; omega) (by simp) ?_ (by omega) h1 (fun a ha => by cases ha; exact h2) h3
            · rw [show (xs ++ [n]).length = xs.length + 1 by simp] at this; exact this
            · intro j hj
              rcases Nat.lt_or_ge j xs.length with h | h
              · rw [gi_snoc xs n j h]; exact HXS.out j h
              · have : j = xs.length := by simp at hj; omega
                rw [this]; unfold gi; simp; omega
          have HIH := Lib.hid hih
          have hap : ∀ (wx w1 : World) (v : Value) (g c base : Nat), Below w2.heap.size w2 wx → w2.heap.size ≤ base → wx.grownBy w1 v.ownBlock → (∀ j, v.ownBlock = some j → base ≤ j) → w1.ownsRow base 3 1 (.slice (some ⟨g, 0, none⟩) (xs.length + 1) c) (xs.length + 1) (inV xs ++ [.int .i64 n]) →
              RdI w1 (some ⟨g, 0, none⟩) (xs ++ [n]) ∧ g ≠ Bo ∧ WalkCtx lo hi sl ch (some ⟨b', off', none⟩) cap m ss Bo Bs Bw w1 ∧ Below w2.heap.size w2 w1 := by
            intro wx w1 v g c base bx hbs hgr hj hown
            have hb1 : Below w2.heap.size w2 w1 := bx.grown hgr bx.size (fun j h => by have := hj j h; omega)
            have hrd : RdI w1 (some ⟨g, 0, none⟩) (xs ++ [n]) := by
              obtain ⟨p, c', he, hr⟩ := rd_of_own (xs := xs ++ [n]) (by rw [inV_append, List.length_append]; exact hown)
              simp only [Value.slice.injEq] at he
              obtain ⟨h1, _, _⟩ := he
              rw [h1]; exact hr
            refine ⟨hrd, ?_, HC2.out.below hb1, hb1⟩
            have h1 := (hown.lt g rfl).1
            obtain ⟨u, hu⟩ := HC2.out.co
            have := lt_of_cellq hu
            simp only at this
            omega
          have HAP := Lib.hid hap
          clear hih hap
          go_region_held3 (fun w' => w'.cell? ⟨Bw, 0, none⟩ = some (.func (.func 128) #[] #[.pointer (some ⟨Bs, 0, none⟩), .pointer (some ⟨Bo, 0, none⟩), .pointer (some ⟨Bw, 0, none⟩)]))
            (first | exact dw | exact dwc | exact dw1 | exact dw3 | exact ((below_alloc1 _ _).cell (lt_of_cellq dw)).trans dw | exact ((below_alloc1 _ _).cell (lt_of_cellq dwc)).trans dwc)
            (first
              | (go_at_call 131; refine (c131 b off cap' xs _ (HX2.out.below ((Below.refl _ _).drew)) hxl6).mono ?_; rintro e wc ⟨vc, rfl, hoc, hbc⟩
                 have bwc : Below w2.heap.size w2 wc := ⟨hbc.os, hbc.tape, hbc.output, hbc.size, hbc.block⟩
                 have dwc := (bwc.cell (lt_of_cellq dw)).trans dw
                 have tokA : True := trivial)
              | (go_at_call 131; refine (c131 b off cap' xs _ (HX2.out.below (((Below.refl _ _).alloc (Nat.le_refl _) _).drew)) hxl6).mono ?_; rintro e wc ⟨vc, rfl, hoc, hbc⟩
                 have bwc : Below w2.heap.size w2 wc := (below_alloc1 w2 _).trans (Below.mono ⟨hbc.os, hbc.tape, hbc.output, hbc.size, hbc.block⟩ (by simp))
                 have dwc := (bwc.cell (lt_of_cellq dw)).trans dw
                 have hbc' : Below (w2.alloc (.cells #[.int .i64 n] 3)).heap.size (w2.alloc (.cells #[.int .i64 n] 3)) wc := ⟨hbc.os, hbc.tape, hbc.output, hbc.size, hbc.block⟩
                 have nwb : ∀ j u, [Value.int .i64 n][j]? = some u → wc.cell? ((⟨w2.heap.size, 0, none⟩ : Addr).add j) = some u := fun j u hj => (hbc'.cell (lt_of_cellq (news_of w2 [.int .i64 n] 3 j u hj))).trans (news_of w2 [.int .i64 n] 3 j u hj)
                 have tokB : True := trivial)
              | (have _t := tokA
                 refine step_append_lies _ (by rfl) _ _ _ (by rfl) _ 3 i0 _ 1 8 Tryz.underlying24 hi0 hz0 hz1 hz2 rfl (by omega) vc xs.length (inV xs) (by rfl) (hoc.alloc _) ⟨wc.heap.size, 0, none⟩ 1 1 [.int .i64 n] (by rfl) (by rfl) (news_of _ _ _) (by simp [Value.oneCell']) (by omega) hxl7 hxl8 (by have := bwc.size; simp; omega) _ rfl ?_
                 intro gg capn w1 hown1 hgrow hat hltg
                 obtain ⟨hx1, hg1, hc1, hb1⟩ := HAP.out _ w1 vc gg capn _ (bwc.alloc bwc.size _) (Nat.le_refl _) hgrow (fun j h => (hoc.lt j h).1) hown1
                 have dw1 := hc1.cw)
              | (have _t := tokB
                 refine step_append_lies _ (by rfl) _ _ _ (by rfl) _ 3 i0 _ 1 8 Tryz.underlying24 hi0 hz0 hz1 hz2 rfl (by omega) vc xs.length (inV xs) (by rfl) hoc ⟨w2.heap.size, 0, none⟩ 1 1 [.int .i64 n] (by rfl) (by rfl) nwb (by simp [Value.oneCell']) (by omega) hxl7 hxl8 (by have := hbc.size; simpa using this) _ rfl ?_
                 intro gg capn w1 hown1 hgrow hat hltg
                 obtain ⟨hx1, hg1, hc1, hb1⟩ := HAP.out _ w1 vc gg capn _ bwc (by simp) hgrow (fun j h => (hoc.lt j h).1) hown1
                 have dw1 := hc1.cw)
              | (go_at_call 128; refine (HIH.out gg capn _ hx1 hg1 hc1).mono ?_; rintro e w3 ⟨bb, rfl, h3⟩
                 have dw3 := h3.2.1.cw))
          all_goals
            have HB3 := Lib.hid (HB2.out.trans (((belX_of hb1).trans (h3.2.2.mono hb1.size)).mono HB2.out.size))
            have H3 := Lib.hid h3
            clear h3 hb1 hx1 hg1 hc1 dw dw1 dwc dw3 hown1 hgrow hat hltg hoc hbc bwc HIH HAP hbw
            cases bb
            · have hnone : wayOut sl ss (xs ++ [n]) (left - cost (gi xs (xs.length - 1)) n) = none := by
                rcases H3.out.1 with ⟨_, h⟩ | ⟨h, _⟩
                · exact h
                · cases h
              have HT2 := Lib.hid (HT.out.trans hnone)
              clear hnone
              go_wp2
              go_roundw
              case rel =>
                refine ⟨k + 1, by omega, by rw [HNE.out]; congr 1; omega, Lib.hid fun x h1 h2 => ?_, Lib.hid H3.out.2.1, HB3⟩
                by_cases hxn : x = n
                · rw [hxn]; exact HT2.out
                · have := HNE.out; exact HN.out x h1 (by omega)
              case measure => have := HNE.out; simp [intOf]; omega
            · have hsome : ∃ l, wayOut sl ss (xs ++ [n]) (left - cost (gi xs (xs.length - 1)) n) = some l ∧ ∃ p c, w3.cell? ⟨Bo, 0, none⟩ = some (.slice p l.length c) ∧ RdI w3 p l := by
                rcases H3.out.1 with ⟨h, _⟩ | ⟨_, h⟩
                · cases h
                · exact h
              have HS := Lib.hid hsome
              clear hsome
              go_wp2
              go_ret
              obtain ⟨l, h1, h2⟩ := HS.out
              refine ⟨true, rfl, .inr ⟨rfl, l, ?_, h2⟩, H3.out.2.1, HB3.out⟩
              rw [HW.out]
              have hne := HNE.out
              exact rng_findSome _ L U n l rfl (by omega) (by omega) (HT.out.trans h1) (fun x h1 h2 => HN.out x h1 (by omega))
      · obtain rfl : k = (U - L + 1).toNat := by omega
        have hgtU : ¬ L + (((U - L + 1).toNat : Nat) : Int) ≤ U := by omega
        have HNO := Lib.hid (show wayOut sl ss xs left = none by
          rw [HW.out]
          exact rng_findSome_none fun x h1 h2 => HN.out x h1 (by omega))
        go_wp2
        go_ret
        exact ⟨false, rfl, .inl ⟨rfl, HNO.out⟩, HCr.out, HB.out⟩
end Go.Proofs.YtncfgkhbenmpoaaGreatDoor
end
