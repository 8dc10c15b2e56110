/-
  A drawn region whose head keeps to a class of worlds (reads, calls that leave all old blocks as they were), and whose tail has but one order (a store at the end).
  The references' bands: whether two heights may be neighbors; whether a height is one of a step.
  Rows of numbers that a call makes, one block a row; the fewest changes from each height on, in plain words.
  The fewest changes from each height on (After): the walk.
  The references' spans around a want; their first cam with some first height.
  Plain laws of feet: followers, and the cam for a foot.
  Plain laws of the nearest cam.
  The references' first cam with some first height: the walk.
  The references' nearest cam: the walk.
-/
import Derived.Test.YtncfgkhbenmpoaaGreatDoorGe
import Derived.StillTailTactics
import Derived.Test.YtncfgkhbenmpoaaGreatDoorGg
import Derived.Deep.Cut
import Derived.Test.YtncfgkhbenmpoaaGreatDoorGc
import Derived.Deep.AppendLies
import Derived.Deep.RegionLaw
import Derived.Test.YtncfgkhbenmpoaaGreatDoorGb
import Derived.Test.YtncfgkhbenmpoaaGreatDoorGf
import Derived.Test.YtncfgkhbenmpoaaGreatDoorGa
section
namespace Go.Proofs.YtncfgkhbenmpoaaGreatDoor
open Go Go.RowKit Go.Proofs
set_option linter.unusedVariables false
section
variable {P : Program} {ops : Array Oper} {md : Region.Mode} {C : World → Prop}

/-- so many picks, all of them of the head; then what is asked of the tail -/
def picks (P : Program) (md : Region.Mode) (ops : Array Oper) (C : World → Prop) (n : Nat) (T : Array Bool → Act → Prop) : Nat → Array Bool → Act → Prop
  | 0, d, a => T d a
  | k + 1, d, a => Region.ready md ops d ≠ [] ∧ ∀ i, i ∈ Region.ready md ops d → i < n ∧ qOp P ops C i (picks P md ops C n T k (d.setIfInBounds i true)) a

theorem any_of_picks {n g : Nat} {T : Array Bool → Act → Prop} {E : Exit → Act → World → Prop} (hT : ∀ d a w, C w → T d a → wpAny P md ops E g d a w) (k : Nat) :
    ∀ d a w, C w → picks P md ops C n T k d a → wpAny P md ops E (k + g) d a w := by
  induction k with
  | zero => intro d a w hw h; rw [Nat.zero_add]; exact hT d a w hw h
  | succ k ih =>
    intro d a w hw h
    rw [Nat.succ_add]
    refine ⟨fun e => absurd e h.1, fun i hi => ?_⟩
    exact wpOp_of_qOp hw (fun a' w' hw' ha => ih _ a' w' hw' ha) (h.2 i hi).2

/-- no operation of the tail comes up while one of the head is left -/
theorem head_only {n : Nat} (hs : Region.sinkB md ops n = true) (hc : Region.chainB md ops n = true) (hn : n < ops.size) {d : Array Bool} (inv : HeadInv md ops n d) {i : Nat} (hi : i ∈ Region.ready md ops d) (hin : i < n) :
    ∀ j ∈ Region.ready md ops d, j < n := by
  intro j hj
  rcases Nat.lt_or_ge j n with h | h
  · exact h
  · exact absurd hj (tail_waits hs hc hn inv _ i rfl hin (mem_ready.1 hi).1 j h)
theorem not_on {d : Array Bool} {i j : Nat} {oj : Oper} (hi : i ∈ Region.ready md ops d) (hall : ∀ e ∈ oj.after, Region.binds md e = true → d.getD e.on true = true) : ∀ e ∈ oj.after, Region.binds md e = true → e.on ≠ i := by
  intro e he hb heq
  have h1 := hall e he hb
  rw [heq, (mem_ready.1 hi).1] at h1
  cases h1
theorem picks_first {n i : Nat} {oi : Oper} {v : Value} {T : Array Bool → Act → Prop} (hoi : ops[i]? = some oi) (hsel : ∀ (j : Nat) (o : Oper) cs b, ops[j]? = some o → o.op ≠ .select cs b)
    (hs : Region.sinkB md ops n = true) (hc : Region.chainB md ops n = true) (hn : n < ops.size) (hin : i < n) (hT : ∀ d a, T d a → ∀ j ∈ Region.ready md ops d, n ≤ j) (k : Nat) :
    ∀ (d : Array Bool) (a : Act), HeadInv md ops n d → (∀ j oj, ops[j]? = some oj → j ≠ i → d.getD j true = false → (∀ e ∈ oj.after, Region.binds md e = true → e.on ≠ i) → oi.apart ops oj = true) →
      i ∈ Region.ready md ops d → YieldsIn P ops C oi v a → picks P md ops C n T k (d.setIfInBounds i true) (a.put oi.dst v) → picks P md ops C n T (k + 1) d a := by
  induction k with
  | zero =>
    intro d a inv _ hr hy H
    refine ⟨fun e => (by rw [e] at hr; cases hr), fun j hj => ⟨head_only hs hc hn inv hr hin j hj, ?_⟩⟩
    by_cases e : j = i
    · subst e; exact hy.qOp hoi H
    · have h1 := hT _ _ H j (ready_mono hj e)
      have h2 := head_only hs hc hn inv hr hin j hj
      omega
  | succ k ih =>
    intro d a inv hfree hr hy H
    refine ⟨fun e => (by rw [e] at hr; cases hr), fun j hj => ⟨head_only hs hc hn inv hr hin j hj, ?_⟩⟩
    by_cases e : j = i
    · subst e; exact hy.qOp hoi H
    · obtain ⟨hu, oj, hoj, hall⟩ := mem_ready.1 hj
      have hno : ∀ e ∈ oj.after, Region.binds md e = true → e.on ≠ i := by
        intro e' he hb heq
        have h1 := hall e' he hb
        rw [heq, getD_both (mem_ready.1 hr).1] at h1
        cases h1
      have h2 := qOp_put hoj (hfree j oj hoj e hu hno) (fun cs b => hsel i oi cs b hoi) (fun cs b => hsel j oj cs b hoj) hy (H.2 j (ready_mono hj e)).2
      refine qOp_mono (fun a' h3 => ?_) h2
      refine ih _ a' (inv.set hj (head_only hs hc hn inv hr hin j hj)) (fun m om hm hmi hun hno' => ?_) (ready_mono hr (Ne.symm e)) h3.1 ?_
      · refine hfree m om hm hmi ?_ hno'
        by_cases hjm : j = m
        · subst hjm; exact hu
        · rwa [getD_set_ne true hjm] at hun
      · rw [Array.setIfInBounds_comm _ _ e]; exact h3.2
theorem picks_lex {n g : Nat} {Q : Act → Prop} (hsel : Region.noSelect ops = true) (hs : Region.sinkB md ops n = true) (hc : Region.chainB md ops n = true) (hn : n < ops.size) (l : List Oper) :
    ∀ (k : Nat) (d : Array Bool) (a : Act), (∀ j, j < l.length → l[j]? = ops[k + j]?) → k + l.length = n → HeadInv md ops n d → Region.lexHead md ops g l.length k d = true → wpQuiet P ops C Q l a →
    picks P md ops C n (fun d' a' => Region.seqB md ops g n d' = true ∧ Q a') l.length d a := by
  induction l with
  | nil =>
    intro k d a _ hk _ hB h
    obtain rfl : k = n := by simpa using hk
    exact ⟨hB, h⟩
  | cons o l ih =>
    intro k d a hl hk inv hB h
    have h0 : ops[k]? = some o := (hl 0 (by simp)).symm
    rw [List.length_cons] at hk
    simp only [List.length_cons, Region.lexHead, Bool.and_eq_true] at hB
    have hr : k ∈ Region.ready md ops d := by simpa using hB.1.1
    obtain ⟨v, hy, hK⟩ := yieldsIn_of_qOp (K := wpQuiet P ops C Q l) h0 (by unfold qOp; simp only [h0]; exact h)
    refine picks_first h0 (Region.noSelect_spec hsel) hs hc hn (by omega) (fun d' a' hL => seqB_ready hL.1) l.length d a inv (Region.free_spec h0 hB.1.2) hr hy ?_
    exact ih (k + 1) _ _ (fun j hj => by have := hl (j + 1) (by simp; omega); rw [show k + 1 + j = k + (j + 1) by omega]; simpa using this) (by omega) (inv.set hr (by omega)) hB.2 hK
theorem wp_region_below_tail {id : Nat} {Q : Exit → Act → World → Prop} {a : Act} {w : World} {l : List Oper} (n : Nat) (hm : P.follows .mixedOrders = true) (hB : Region.lexTailB .any l.toArray n = true)
    (h : wpQuiet P l.toArray (fun w' => Below w.heap.size w w') (fun a' => ∀ w', Below w.heap.size w w' → wpList P l.toArray Q (l.drop n) a' w') (l.take n) a) : (Code.region id l.toArray true).wp P Q a w := by
  simp only [Region.lexTailB, Bool.and_eq_true, decide_eq_true_eq] at hB
  obtain ⟨⟨⟨⟨hsel, hn⟩, hs⟩, hc⟩, hlex⟩ := hB
  have hsz : l.toArray.size = l.length := by simp
  have htl : (l.take n).length = n := by rw [List.length_take]; omega
  have inv0 : HeadInv .any l.toArray n (Array.replicate l.toArray.size false) := by
    refine ⟨by simp, fun j oj _ hl => ?_, fun t _ ht => getD_in (by simpa using ht) (getD_replicate_false _ _)⟩
    rw [getD_replicate_false] at hl; cases hl
  have H := picks_lex (md := .any) (g := l.toArray.size - n) hsel hs hc hn (l.take n) 0 _ a (fun j hj => by
    have hj' : j < n := by omega
    simp [hj']) (by omega) inv0 (by rw [htl]; exact hlex) h
  refine wp_region_any hm ?_
  have K := any_of_picks (E := Q) (g := l.toArray.size - n) (fun d a' w' hw' hL => by
    have := wpAny_of_seq (md := .any) (Q' := Q) (l.drop n) n d a' w' (fun j => by simp [List.getElem?_drop]) (by rw [List.length_drop, ← hsz]; exact hL.1) (hL.2 w' hw')
    rwa [List.length_drop, ← hsz] at this) _ _ _ { w with drawn := w.drawn + 1 } ⟨rfl, rfl, rfl, Nat.le_refl _, fun _ _ => rfl⟩ H
  rw [htl, show n + (l.toArray.size - n) = l.toArray.size by omega] at K
  exact K
end
/-! ### the address of a field, in a quiet walk -/
theorem wq_fa {C : World → Prop} {ops : Array Oper} {Q : Act → Prop} {rest : List Oper} {a : Act} {d : Nat} {x : Operand} {t ty : TypeId} {pos : String} {af : Array Edge} {g : Option (Nat × Bool)} {k off : Nat}
    (hr : ∀ (b : Nat) (w : World), (Instr.fieldAt t (.pointer (some ⟨b, 0, none⟩)) k).run Tryz.prog w = .ok (.pointer (some ⟨b, off, none⟩)) w)
    (hw : Region.wanted ⟨some d, .fieldAddr t x k, ty, pos, af, g⟩ (yielded ops a.tmps) = true) {b : Nat} (hx : a.eval x = .pointer (some ⟨b, 0, none⟩))
    (hk : wpQuiet Tryz.prog ops C Q rest (a.put (some d) (.pointer (some ⟨b, off, none⟩)))) : wpQuiet Tryz.prog ops C Q (⟨some d, .fieldAddr t x k, ty, pos, af, g⟩ :: rest) a :=
  wq hw (q_val (o := ⟨some d, .fieldAddr t x k, ty, pos, af, g⟩) (.pointer (some ⟨b, off, none⟩)) (fun w _ => by
    have h := hr b w
    unfold execOp; dsimp only; rw [hx]
    simp only [Sem.run_bind, h, Result.andThen]; rfl) hk)
theorem fa118_0 (b : Nat) (w : World) : (Instr.fieldAt 118 (.pointer (some ⟨b, 0, none⟩)) 0).run Tryz.prog w = .ok (.pointer (some ⟨b, 0, none⟩)) w := by kernel_rfl
theorem fa118_1 (b : Nat) (w : World) : (Instr.fieldAt 118 (.pointer (some ⟨b, 0, none⟩)) 1).run Tryz.prog w = .ok (.pointer (some ⟨b, 4, none⟩)) w := by kernel_rfl
theorem fa118_2 (b : Nat) (w : World) : (Instr.fieldAt 118 (.pointer (some ⟨b, 0, none⟩)) 2).run Tryz.prog w = .ok (.pointer (some ⟨b, 5, none⟩)) w := by kernel_rfl
theorem fa23_0 (b : Nat) (w : World) : (Instr.fieldAt 23 (.pointer (some ⟨b, 0, none⟩)) 0).run Tryz.prog w = .ok (.pointer (some ⟨b, 0, none⟩)) w := by kernel_rfl
theorem fa23_1 (b : Nat) (w : World) : (Instr.fieldAt 23 (.pointer (some ⟨b, 0, none⟩)) 1).run Tryz.prog w = .ok (.pointer (some ⟨b, 1, none⟩)) w := by kernel_rfl
theorem fa23_2 (b : Nat) (w : World) : (Instr.fieldAt 23 (.pointer (some ⟨b, 0, none⟩)) 2).run Tryz.prog w = .ok (.pointer (some ⟨b, 2, none⟩)) w := by kernel_rfl
theorem fa23_3 (b : Nat) (w : World) : (Instr.fieldAt 23 (.pointer (some ⟨b, 0, none⟩)) 3).run Tryz.prog w = .ok (.pointer (some ⟨b, 3, none⟩)) w := by kernel_rfl
theorem fa61_0 (b : Nat) (w : World) : (Instr.fieldAt 61 (.pointer (some ⟨b, 0, none⟩)) 0).run Tryz.prog w = .ok (.pointer (some ⟨b, 0, none⟩)) w := by kernel_rfl
theorem fa61_1 (b : Nat) (w : World) : (Instr.fieldAt 61 (.pointer (some ⟨b, 0, none⟩)) 1).run Tryz.prog w = .ok (.pointer (some ⟨b, 1, none⟩)) w := by kernel_rfl
end Go.Proofs.YtncfgkhbenmpoaaGreatDoor
end

section
namespace Go.Proofs.YtncfgkhbenmpoaaGreatDoor
open Go Go.RowKit Go.Proofs
set_option linter.unusedVariables false
attribute [local go_sem] imax2 imin2

set_option maxRecDepth 100000 in
theorem c132 (lo hi sl ch a b : Int) (w : World) (hs : 0 ≤ sl ∧ sl ≤ 30) (ha : 0 ≤ a ∧ a ≤ 30) (hb : 0 ≤ b ∧ b ≤ 30) :
    Calls Tryz.prog 132 #[.agg #[.int .i64 lo, .int .i64 hi, .int .i64 sl, .int .i64 ch], .int .i64 a, .int .i64 b] w fun e w' => e = .returned (.int .i64 (chgd sl a b)) ∧ Below w.heap.size w w' := by
  obtain ⟨w0, e0, HS0, k0, k1, k2, k3, b0⟩ := box4 w (.int .i64 lo) (.int .i64 hi) (.int .i64 sl) (.int .i64 ch) 23
  by_cases h : a = b
  · have he : (a == b) = true := by simp [h]
    have HC := Lib.hid (show chgd sl a b = 0 by unfold chgd; rw [if_pos h])
    clear h
    go_enter Tryz.func132, Tryz.ntmps132
    go_wp2
    go_ret
    exact ⟨by rw [HC.out]; rfl, b0⟩
  · have he : (a == b) = false := by simp [h]
    have hw1 : IntKind.i64.wrap (a - b) = a - b := w64 _ (by omega) (by omega)
    have hw2 : IntKind.i64.wrap (-sl) = -sl := w64 _ (by omega) (by omega)
    have h87 := c87 (a - b) (-sl) sl w0
    cases hi : inB (a - b) (-sl) sl with
    | true =>
      have HC := Lib.hid (show chgd sl a b = 1 by unfold chgd inB at *; rw [if_neg h, if_pos (by simpa using hi)])
      rw [hi] at h87
      clear h hi
      go_enter Tryz.func132, Tryz.ntmps132
      go_wp2_with fail
      refine h87.mono ?_
      rintro e w' ⟨rfl, rfl⟩
      go_wp2
      go_ret
      exact ⟨by rw [HC.out]; rfl, b0⟩
    | false =>
      have HC := Lib.hid (show chgd sl a b = 1000 by unfold chgd inB at *; rw [if_neg h, if_neg (by simpa using hi)])
      rw [hi] at h87
      clear h hi
      go_enter Tryz.func132, Tryz.ntmps132
      go_wp2_with fail
      refine h87.mono ?_
      rintro e w' ⟨rfl, rfl⟩
      go_wp2
      go_ret
      exact ⟨by rw [HC.out]; rfl, b0⟩
/-- a height of a step, by bands -/
def witB (lo hi f : Int) (ss : List (Int × Int)) (i : Nat) (h : Int) : Bool := insB lo hi (spn ss i) h && (decide (0 < i) || h == f)
set_option maxRecDepth 100000 in
set_option maxHeartbeats 400000 in
theorem c138 (lo hi sl ch f : Int) (q : Option Addr) (cap : Nat) (ss : List (Int × Int)) (i : Nat) (hi' : i < ss.length) (h : Int) (w : World) (hx : RdS w q ss) :
    Calls Tryz.prog 138 #[.agg #[.int .i64 lo, .int .i64 hi, .int .i64 sl, .int .i64 ch, .slice q ss.length cap, .int .i64 f], .int .i64 i, .int .i64 h] w fun e w' => e = .returned (.bool (witB lo hi f ss i h)) ∧ Below w.heap.size w w' := by
  obtain ⟨w0, e0, HS0, k0, k1, k2, k3, k4, k5, b0⟩ := box6 w (.int .i64 lo) (.int .i64 hi) (.int .i64 sl) (.int .i64 ch) (.slice q ss.length cap) (.int .i64 f) 118
  have HX := Lib.hid (hx.below b0)
  obtain ⟨b, off, rfl, hc⟩ := HX.out.at hi'
  have e1 := (hc i hi').1
  have e2 := (hc i hi').2
  rw [gs_spn] at e1 e2
  have hltI : decide ((i : Int) < (ss.length : Int)) = true := by simp; omega
  clear hc hx
  obtain ⟨l, hl⟩ : ∃ l, (spn ss i).1 = l := ⟨_, rfl⟩
  obtain ⟨u, hu⟩ : ∃ u, (spn ss i).2 = u := ⟨_, rfl⟩
  rw [hl] at e1
  rw [hu] at e2
  have HW := Lib.hid (show witB lo hi f ss i h = (inB h (max l lo) (min u hi) && (decide (0 < i) || h == f)) by unfold witB insB inB; rw [hl, hu])
  clear hl hu
  obtain ⟨w1, e3, HS1, j0, j1, b1⟩ := box2 w0 (.int .i64 l) (.int .i64 u) 50
  have r0 := (b1.cell (lt_of_cellq k0)).trans k0
  have r1 := (b1.cell (lt_of_cellq k1)).trans k1
  have r5 := (b1.cell (lt_of_cellq k5)).trans k5
  have HB := Lib.hid (b0.trans (b1.mono b0.size))
  have h87 := c87 h (max l lo) (min u hi) w1
  clear b1
  cases hb : inB h (max l lo) (min u hi) with
  | false =>
    have HW2 := Lib.hid (show witB lo hi f ss i h = false by rw [HW.out, hb]; rfl)
    rw [hb] at h87
    clear hb
    go_enter Tryz.func138, Tryz.ntmps138
    go_wp2_with fail
    refine h87.mono ?_
    rintro e w' ⟨rfl, rfl⟩
    go_wp2
    go_ret
    exact ⟨by rw [HW2.out]; rfl, HB.out⟩
  | true =>
    rw [hb] at h87
    rcases Nat.eq_zero_or_pos i with rfl | hp
    case inr =>
      have hpI : ¬ i = 0 := by omega
      have HW2 := Lib.hid (show witB lo hi f ss i h = true by rw [HW.out, hb, decide_eq_true hp]; rfl)
      clear hb hp
      go_enter Tryz.func138, Tryz.ntmps138
      go_wp2_with fail
      refine h87.mono ?_
      rintro e w' ⟨rfl, rfl⟩
      go_wp2
      go_ret
      exact ⟨by rw [HW2.out]; rfl, HB.out⟩
    case inl =>
      simp only [Nat.zero_mul, Nat.add_zero] at e1 e2
      have HW2 := Lib.hid (show witB lo hi f ss 0 h = (h == f) by rw [HW.out, hb]; rfl)
      clear hb
      go_enter Tryz.func138, Tryz.ntmps138
      go_wp2_with fail
      refine h87.mono ?_
      rintro e w' ⟨rfl, rfl⟩
      go_wp2
      go_ret
      exact ⟨by rw [HW2.out]; rfl, HB.out⟩
end Go.Proofs.YtncfgkhbenmpoaaGreatDoor
end

section
namespace Go.Proofs.YtncfgkhbenmpoaaGreatDoor
open Go Go.RowKit Go.Proofs
set_option linter.unusedVariables false

theorem info24 : (Tryz.prog.info? 24).map (fun i => (i.zero, i.size, i.bytes)) = some (some (.slice none 0 0), 1, 24) := by kernel_rfl
theorem made24 (n : Nat) : (madeCells #[Value.slice none 0 0] n).toList = List.replicate n (.slice none 0 0) := by
  rw [made_all _ (.slice none 0 0) (fun j => by simp [Nat.mod_one]) n]
set_option maxRecDepth 100000 in
theorem make90 (n : Nat) (hn : n ≤ 1000) (w : World) : (Instr.makeSlice 90 (.int .i64 (n : Int)) (.int .i64 (n : Int))).run Tryz.prog w = .ok (.slice (some ⟨w.heap.size, 0, none⟩) n n) (w.alloc (.cells (List.replicate n (.slice none 0 0)).toArray 24)) := by
  obtain ⟨i0, hi0, hz0, hz1, hz2⟩ := info_parts info24
  have h := run_make (P := Tryz.prog) w 90 24 i0 _ Tryz.underlying90 hi0 hz0 .i64 .i64 (n : Int) (n : Int) (by omega) (Int.le_refl _) (by rw [hz2]; omega) (by omega)
  simp only [Int.toNat_natCast, hz1] at h
  rw [h]
  congr 3
  rw [← made24 n]
  simp
  rfl
def z31 : List Int := List.replicate 31 0
theorem make31 (w : World) : (Instr.makeSlice 24 (.int .i64 31) (.int .i64 31)).run Tryz.prog w = .ok (.slice (some ⟨w.heap.size, 0, none⟩) 31 31) (w.alloc (.cells (inV z31).toArray 3)) := by
  have h := make24 31 (by omega) w
  rw [repC_int] at h
  exact h

/-- rows of 31 numbers: of some steps -/
structure MatOk (w : World) (N n lo hi : Nat) (f : Nat → List Int) (B : Nat) : Prop where
  row : ∃ cs : List Value, w.heap[N]? = some (.cells cs.toArray 24 (0, 0)) ∧ cs.length = n ∧ ∀ j, lo ≤ j → j < hi → ∃ g, cs[j]? = some (.slice (some ⟨g, 0, none⟩) 31 31) ∧ N < g ∧ g < B ∧ RowI w g (f j)
  lt : N < B
theorem MatOk.keep {w w' : World} {N n lo hi : Nat} {f : Nat → List Int} {B : Nat} (h : MatOk w N n lo hi f B) (hk : ∀ k, k < B → w'.heap[k]? = w.heap[k]?) : MatOk w' N n lo hi f B := by
  obtain ⟨⟨cs, h1, h2, h3⟩, hl⟩ := h
  refine ⟨⟨cs, (hk N hl).trans h1, h2, fun j hj1 hj2 => ?_⟩, hl⟩
  obtain ⟨g, g1, g2, g3, g4⟩ := h3 j hj1 hj2
  exact ⟨g, g1, g2, g3, g4.keep (hk g g3)⟩
theorem MatOk.below {w w' : World} {N n lo hi : Nat} {f : Nat → List Int} {B : Nat} (h : MatOk w N n lo hi f B) (hb : Below B w w') : MatOk w' N n lo hi f B := h.keep hb.block
theorem MatOk.mono {w : World} {N n lo hi : Nat} {f : Nat → List Int} {B B' : Nat} (h : MatOk w N n lo hi f B) (hB : B ≤ B') : MatOk w N n lo hi f B' := by
  obtain ⟨⟨cs, h1, h2, h3⟩, hl⟩ := h
  refine ⟨⟨cs, h1, h2, fun j hj1 hj2 => ?_⟩, by omega⟩
  obtain ⟨g, g1, g2, g3, g4⟩ := h3 j hj1 hj2
  exact ⟨g, g1, g2, by omega, g4⟩
theorem MatOk.at {w : World} {N n lo hi : Nat} {f : Nat → List Int} {B : Nat} (h : MatOk w N n lo hi f B) {j : Nat} (h1 : lo ≤ j) (h2 : j < hi) : ∃ g, w.cell? ⟨N, j, none⟩ = some (.slice (some ⟨g, 0, none⟩) 31 31) ∧ N < g ∧ g < B ∧ RowI w g (f j) := by
  obtain ⟨⟨cs, c1, c2, c3⟩, hl⟩ := h
  obtain ⟨g, g1, g2, g3, g4⟩ := c3 j h1 h2
  exact ⟨g, cell_of_list c1 g1, g2, g3, g4⟩
/-- a row more: its block is the last one, and its slice has been stored -/
theorem MatOk.new {w : World} {N n lo hi : Nat} {f : Nat → List Int} {B : Nat} (h : MatOk w N n lo hi f B) (hB : B ≤ w.heap.size) {i : Nat} (hi' : i < n) (ho : ¬ (lo ≤ i ∧ i < hi)) (o : Obj) :
    ∃ wA w1, w.alloc o = wA ∧ wA.setCell ⟨N, i, none⟩ (.slice (some ⟨w.heap.size, 0, none⟩) 31 31) = w1 ∧ MatOk w1 N n lo hi f w.heap.size ∧ w1.cell? ⟨N, i, none⟩ = some (.slice (some ⟨w.heap.size, 0, none⟩) 31 31) ∧
      w1.heap[w.heap.size]? = some o ∧ Hid (w1.heap.size = w.heap.size + 1) ∧ Below N w w1 ∧ wA.frozen? ⟨N, i, none⟩ = false ∧ (∃ v, wA.cell? ⟨N, i, none⟩ = some v) ∧ (∀ k, k < w.heap.size → k ≠ N → w1.heap[k]? = w.heap[k]?) := by
  obtain ⟨⟨cs, c1, c2, c3⟩, hl⟩ := h
  have c1' := alloc_old w o c1
  refine ⟨_, _, rfl, rfl, ⟨⟨cs.set i (.slice (some ⟨w.heap.size, 0, none⟩) 31 31), ?_, by simp [c2], fun j hj1 hj2 => ?_⟩, by omega⟩, ?_, ?_, Lib.hid (by simp), ?_, frozen_of_row _ _ i _ _ c1', ?_, fun k hk hne => ?_⟩
  · have := heap_setCell_same (w.alloc o) N i _ _ (.slice (some ⟨w.heap.size, 0, none⟩) 31 31) c1'
    rw [this]; simp
  · obtain ⟨g, g1, g2, g3, g4⟩ := c3 j hj1 hj2
    refine ⟨g, ?_, g2, by omega, g4.keep ?_⟩
    · have hne : i ≠ j := fun e => by subst e; exact ho ⟨hj1, hj2⟩
      rw [List.getElem?_set_ne hne]; exact g1
    · rw [Below.heap_setCell _ _ _ g (by show g ≠ N; omega)]
      have := g4.lt
      show (w.heap.push _)[g]? = _
      rw [Array.getElem?_push_lt this, Array.getElem?_eq_getElem this]
  · refine cell_of_list (t := 24) (cur := cs.set i (.slice (some ⟨w.heap.size, 0, none⟩) 31 31)) ?_ (by simp [c2, hi'])
    have := heap_setCell_same (w.alloc o) N i _ _ (.slice (some ⟨w.heap.size, 0, none⟩) 31 31) c1'
    rw [this]; simp
  · rw [Below.heap_setCell _ _ _ w.heap.size (by show w.heap.size ≠ N; omega)]
    exact alloc_new w o
  · exact ((Below.refl N w).alloc (by omega) o).setCell (Nat.le_refl _) _
  · exact ⟨cs[i]'(by omega), cell_of_list c1' (by simp)⟩
  · rw [Below.heap_setCell _ _ _ k (by show k ≠ N; omega)]
    show (w.heap.push _)[k]? = _
    rw [Array.getElem?_push_lt hk, Array.getElem?_eq_getElem hk]

/-- a row that was filled joins those below it -/
theorem MatOk.cons {w : World} {N n i hi : Nat} {f : Nat → List Int} {g : Nat} (h : MatOk w N n (i + 1) hi f g) (hc : w.cell? ⟨N, i, none⟩ = some (.slice (some ⟨g, 0, none⟩) 31 31)) (hr : RowI w g (f i)) : MatOk w N n i hi f w.heap.size := by
  obtain ⟨⟨cs, c1, c2, c3⟩, hl⟩ := h
  have hg := hr.lt
  refine ⟨⟨cs, c1, c2, fun j hj1 hj2 => ?_⟩, by omega⟩
  by_cases e : j = i
  · subst e
    refine ⟨g, ?_, hl, hg, hr⟩
    unfold World.cell? at hc
    rw [c1] at hc
    simpa using hc
  · obtain ⟨g', g1, g2, g3, g4⟩ := c3 j (by omega) hj2
    exact ⟨g', g1, g2, by omega, g4⟩
/-- a row that was filled joins those above it -/
theorem MatOk.snoc {w : World} {N n i lo : Nat} {f : Nat → List Int} {g : Nat} (h : MatOk w N n lo i f g) (hc : w.cell? ⟨N, i, none⟩ = some (.slice (some ⟨g, 0, none⟩) 31 31)) (hr : RowI w g (f i)) : MatOk w N n lo (i + 1) f w.heap.size := by
  obtain ⟨⟨cs, c1, c2, c3⟩, hl⟩ := h
  have hg := hr.lt
  refine ⟨⟨cs, c1, c2, fun j hj1 hj2 => ?_⟩, by omega⟩
  by_cases e : j = i
  · subst e
    refine ⟨g, ?_, hl, hg, hr⟩
    unfold World.cell? at hc
    rw [c1] at hc
    simpa using hc
  · obtain ⟨g', g1, g2, g3, g4⟩ := c3 j hj1 (by omega)
    exact ⟨g', g1, g2, by omega, g4⟩
/-! ### the fewest changes from each height on -/
theorem rng30 : rng 0 30 = (List.range 31).map fun (k : Nat) => (k : Int) := by
  unfold rng
  simp
def aftX (lo hi sl f : Int) (ss : List (Int × Int)) (i : Nat) (h : Int) : Nat → Int
  | 0 => 1000
  | k + 1 => min (aftX lo hi sl f ss i h k) (chgd sl h k + aft0 lo hi sl f ss (i + 1) k)
theorem aftX_fold (lo hi sl f : Int) (ss : List (Int × Int)) (i : Nat) (h : Int) : ∀ k : Nat, ((List.range k).map fun (k : Nat) => (k : Int)).foldl (fun acc x => min acc (chgd sl h x + aft0 lo hi sl f ss (i + 1) x)) 1000 = aftX lo hi sl f ss i h k := by
  intro k
  induction k with
  | zero => rfl
  | succ k ih => rw [List.range_succ, List.map_append, List.foldl_append, ih]; rfl
theorem aft0_range (lo hi sl f : Int) (ss : List (Int × Int)) (i : Nat) (h : Int) : 0 ≤ aft0 lo hi sl f ss i h ∧ aft0 lo hi sl f ss i h ≤ 1000 := by
  unfold aft0; split
  · omega
  · exact aftF_range _ _ _ _ _ _
theorem aftX_range (lo hi sl f : Int) (ss : List (Int × Int)) (i : Nat) (h : Int) : ∀ k, 0 ≤ aftX lo hi sl f ss i h k ∧ aftX lo hi sl f ss i h k ≤ 1000 := by
  intro k
  induction k with
  | zero => simp [aftX]
  | succ k ih =>
    simp only [aftX]
    have := chgd_range sl h k
    have := aft0_range lo hi sl f ss (i + 1) k
    omega
theorem aft0_out {lo hi sl f : Int} {ss : List (Int × Int)} {i : Nat} {h : Int} (hi' : i < ss.length) (hw : witB lo hi f ss i h = false) : aft0 lo hi sl f ss i h = 1000 := by
  unfold aft0 witB at *
  by_cases hc : i = 0 ∧ h ≠ f
  · rw [if_pos hc]
  · rw [if_neg hc, drop_cons ss i hi']
    have hin : ¬ insB lo hi (spn ss i) h = true := by
      intro hh
      rw [hh, Bool.true_and] at hw
      simp only [Bool.or_eq_false_iff, decide_eq_false_iff_not, beq_eq_false_iff_ne] at hw
      exact hc ⟨by omega, hw.2⟩
    unfold aftF
    rw [if_neg hin]
theorem aft0_in {lo hi sl f : Int} {ss : List (Int × Int)} {i : Nat} {h : Int} (hi' : i < ss.length) (hw : witB lo hi f ss i h = true) : aft0 lo hi sl f ss i h = if i + 1 = ss.length then chgd sl h f else aftX lo hi sl f ss i h 31 := by
  unfold aft0 witB at *
  rw [Bool.and_eq_true] at hw
  have hc : ¬ (i = 0 ∧ h ≠ f) := by
    rintro ⟨h1, h2⟩
    subst h1
    simp [h2] at hw
  rw [if_neg hc, drop_cons ss i hi']
  unfold aftF
  rw [if_pos hw.1]
  by_cases e : i + 1 = ss.length
  · rw [if_pos e, List.drop_eq_nil_of_le (by omega)]
  · rw [if_neg e, drop_cons ss (i + 1) (by omega)]
    simp only
    rw [rng30, ← aftX_fold]
    congr 1
    funext acc x
    unfold aft0
    rw [if_neg (by omega), drop_cons ss (i + 1) (by omega)]
def rowA (g : Nat → Int) (h : Nat) (v : Int) : List Int := (List.range 31).map fun j => if j < h then g j else if j = h then v else 0
def rowW (g : Nat → Int) : List Int := (List.range 31).map g
@[simp] theorem rowA_length (g : Nat → Int) (h : Nat) (v : Int) : (rowA g h v).length = 31 := by simp [rowA]
@[simp] theorem rowW_length (g : Nat → Int) : (rowW g).length = 31 := by simp [rowW]
theorem gi_rowA (g : Nat → Int) (h : Nat) (v : Int) (j : Nat) (hj : j < 31) : gi (rowA g h v) j = if j < h then g j else if j = h then v else 0 := gi_map31 _ j hj
theorem gi_rowW (g : Nat → Int) (j : Nat) (hj : j < 31) : gi (rowW g) j = g j := gi_map31 _ j hj
theorem rowA_set (g : Nat → Int) (h : Nat) (v v' : Int) (hh : h < 31) : (rowA g h v).set h v' = rowA g h v' := by
  refine ext31 (by simp) (by simp) (fun j hj => ?_)
  rw [gi_set _ _ _ (by simpa using hh), gi_rowA _ _ _ _ hj, gi_rowA _ _ _ _ hj]
  by_cases e : h = j
  · subst e; simp
  · rw [if_neg e]
    have : ¬ j = h := fun e' => e e'.symm
    simp [this]
theorem rowA_next (g : Nat → Int) (h : Nat) (v : Int) (hv : v = g h) : rowA g h v = rowA g (h + 1) 0 := by
  refine ext31 (by simp) (by simp) (fun j hj => ?_)
  rw [gi_rowA _ _ _ _ hj, gi_rowA _ _ _ _ hj]
  by_cases e : j = h
  · subst e; simp [hv]
  · by_cases e2 : j < h
    · rw [if_pos e2, if_pos (by omega)]
    · rw [if_neg e2, if_neg e, if_neg (by omega)]; split <;> rfl
theorem rowA_all (g : Nat → Int) : rowA g 31 0 = rowW g := by
  refine ext31 (by simp) (by simp) (fun j hj => ?_)
  rw [gi_rowA _ _ _ _ hj, gi_rowW _ _ hj, if_pos hj]
theorem rowA_zero (g : Nat → Int) : rowA g 0 0 = z31 := by
  refine ext31 (by simp) (by simp [z31]) (fun j hj => ?_)
  rw [gi_rowA _ _ _ _ hj, if_neg (by omega)]
  unfold gi z31
  rw [List.getD_eq_getElem?_getD, List.getElem?_replicate, if_pos hj]
  split <;> rfl
def aftG (lo hi sl f : Int) (ss : List (Int × Int)) (i : Nat) : Nat → Int := fun h => aft0 lo hi sl f ss i h
def aftL (lo hi sl f : Int) (ss : List (Int × Int)) (i : Nat) : List Int := rowW (aftG lo hi sl f ss i)
theorem bcells4 {w w' : World} {b : Nat} {v0 v1 v2 v3 : Value} (h0 : w.cell? ⟨b, 0, none⟩ = some v0) (h1 : w.cell? ⟨b, 1, none⟩ = some v1) (h2 : w.cell? ⟨b, 2, none⟩ = some v2) (h3 : w.cell? ⟨b, 3, none⟩ = some v3) (hb : Below w.heap.size w w') :
    ∀ j v, [v0, v1, v2, v3][j]? = some v → w'.cell? ((⟨b, 0, none⟩ : Addr).add j) = some v := by
  intro j v hj
  rw [add_new]
  match j, hj with
  | 0, hj => simp at hj; subst hj; exact (hb.cell (lt_of_cellq h0)).trans h0
  | 1, hj => simp at hj; subst hj; exact (hb.cell (lt_of_cellq h1)).trans h1
  | 2, hj => simp at hj; subst hj; exact (hb.cell (lt_of_cellq h2)).trans h2
  | 3, hj => simp at hj; subst hj; exact (hb.cell (lt_of_cellq h3)).trans h3
  | j + 4, hj => simp at hj
end Go.Proofs.YtncfgkhbenmpoaaGreatDoor
end

section
namespace Go.Proofs.YtncfgkhbenmpoaaGreatDoor
open Go Go.RowKit Go.Proofs
set_option linter.unusedVariables false
attribute [local go_sem] imax2 imin2

def AfterPost (lo hi sl f : Int) (ss : List (Int × Int)) (w : World) (e : Ending) (w' : World) : Prop :=
  ∃ N, e = .returned (.slice (some ⟨N, 0, none⟩) ss.length ss.length) ∧ w.heap.size ≤ N ∧ MatOk w' N ss.length 0 ss.length (aftL lo hi sl f ss) w'.heap.size ∧ Below w.heap.size w w'

set_option maxRecDepth 100000 in
set_option maxHeartbeats 1000000 in
theorem c99 (lo hi sl ch f : Int) (q : Option Addr) (cap : Nat) (ss : List (Int × Int)) (hlen : ss.length ≤ 1000) (hsl : 0 ≤ sl ∧ sl ≤ 30) (hf : 0 ≤ f ∧ f ≤ 30) (w : World) (hx : RdS w q ss) :
    Calls Tryz.prog 99 #[.agg #[.int .i64 lo, .int .i64 hi, .int .i64 sl, .int .i64 ch, .slice q ss.length cap, .int .i64 f]] w (AfterPost lo hi sl f ss w) := by
  obtain ⟨w0, e0, HS0, k0, k1, k2, k3, k4, k5, b0⟩ := box6 w (.int .i64 lo) (.int .i64 hi) (.int .i64 sl) (.int .i64 ch) (.slice q ss.length cap) (.int .i64 f) 118
  have HX0 := Lib.hid (hx.below b0)
  have HB0 := Lib.hid b0
  have hmk := make90 ss.length hlen w0
  obtain ⟨w1, e1, HS1⟩ : ∃ w1, w0.alloc (.cells (List.replicate ss.length (.slice none 0 0)).toArray 24) = w1 ∧ Hid (w1.heap.size = w0.heap.size + 1) := ⟨_, rfl, Lib.hid (by simp)⟩
  have hb1 := below_alloc1 w0 (.cells (List.replicate ss.length (.slice none 0 0)).toArray 24)
  have hN0 := alloc_new w0 (.cells (List.replicate ss.length (.slice none 0 0)).toArray 24)
  rw [e1] at hb1 hN0 hmk
  have HB1 := Lib.hid hb1
  have HM1 := Lib.hid (show MatOk w1 w0.heap.size ss.length ss.length ss.length (aftL lo hi sl f ss) w1.heap.size from ⟨⟨_, hN0, by simp, fun j h1 h2 => by omega⟩, by have := HS1.out; omega⟩)
  have hbl := lt_of_cellq k0
  have HBL := Lib.hid (show w.heap.size < w0.heap.size from hbl)
  clear hb1 hN0 e1 hbl hx b0
  go_enter Tryz.func99, Tryz.ntmps99
  go_wp2
  clear e0 hmk
  go_loopw [5] (fun i wr => ∃ m : Nat, m ≤ ss.length ∧ i = .int .i64 ((m : Int) - 1) ∧ Hid (MatOk wr w0.heap.size ss.length m ss.length (aftL lo hi sl f ss) wr.heap.size) ∧ Hid (Below w0.heap.size w1 wr)) (fun i _ => (intOf i + 1).toNat)
  case atStart => exact ⟨ss.length, Nat.le_refl _, rfl, HM1, Lib.hid (Below.refl _ _)⟩
  case round =>
    obtain ⟨m, hm, rfl, HM, HB⟩ := hrel
    cases m with
    | zero =>
      go_wp2
      go_ret
      exact ⟨w0.heap.size, rfl, by have := HBL.out; omega, HM.out, HB0.out.trans ((HB1.out.trans HB.out).mono HB0.out.size)⟩
    | succ i =>
      have hidx : ((i + 1 : Nat) : Int) - 1 = (i : Int) := by omega
      rw [hidx]
      have hi' : i < ss.length := by omega
      have hge : decide ((0 : Int) ≤ (i : Int)) = true := by simp
      have hltI : decide ((i : Int) < (ss.length : Int)) = true := by simp; omega
      have hm31 := make31 wr
      obtain ⟨wA, w2, eA, e2, HM2, c2, hrow2, HS2, HB2, fz2, ⟨v2, cv2⟩, HO2⟩ := HM.out.new (Nat.le_refl _) hi' (by omega) (.cells (inV z31).toArray 3)
      rw [eA] at hm31
      clear eA
      have HT2 := Lib.hid ((HB1.out.trans HB.out).trans HB2)
      have HB12 := Lib.hid (HB.out.trans HB2)
      have HM2' := Lib.hid HM2
      have hNg := HM2.lt
      have HR2 := Lib.hid (show RowI w2 wr.heap.size (rowA (aftG lo hi sl f ss i) 0 0) from by rw [rowA_zero]; exact hrow2)
      have C2 := Lib.hid c2
      clear HM2 hrow2 HB2 HO2 c2
      generalize wr.heap.size = g at *
      go_wp2
      clear e2 fz2 cv2 hm31
      go_loopw [6] (fun j wx => ∃ h : Nat, h ≤ 31 ∧ j = .int .i64 h ∧ Hid (RowI wx g (rowA (aftG lo hi sl f ss i) h 0)) ∧ Hid (Below g w2 wx)) (fun j _ => 31 - (intOf j).toNat)
      case atStart => exact ⟨0, by omega, rfl, HR2, Lib.hid (Below.refl _ _)⟩
      case round =>
        rename_i wo
        obtain ⟨h, hh, rfl, HR, HBg⟩ := hrel
        by_cases hlt : h < 31
        · have hle : decide ((h : Int) ≤ 30) = true := by simp; omega
          have hltJ : decide ((h : Int) < 31) = true := by simp; omega
          have cN := (HBg.out.cell (p := ⟨w0.heap.size, i, none⟩) hNg).trans C2.out
          have cg := HR.out.at (i := h) (by simpa using hlt)
          have fg := HR.out.fz h
          obtain ⟨ws, es⟩ : ∃ ws, wr.setCell ⟨g, h, none⟩ (.int .i64 1000) = ws := ⟨_, rfl⟩
          have HRs := HR.out.set h 1000
          have HBs := HBg.out.setCell (p := ⟨g, h, none⟩) (Nat.le_refl _) (.int .i64 1000)
          rw [es] at HRs HBs
          rw [rowA_set _ _ _ _ hlt] at HRs
          have HTs := HT2.out.trans (HBs.mono (by omega))
          have t0 := (HTs.cell (lt_of_cellq k0)).trans k0
          have t1 := (HTs.cell (lt_of_cellq k1)).trans k1
          have t2 := (HTs.cell (lt_of_cellq k2)).trans k2
          have t3 := (HTs.cell (lt_of_cellq k3)).trans k3
          have t4 := (HTs.cell (lt_of_cellq k4)).trans k4
          have t5 := (HTs.cell (lt_of_cellq k5)).trans k5
          obtain ⟨bw, hbw⟩ : ∃ bw, witB lo hi f ss i h = bw := ⟨_, rfl⟩
          have h138 := c138 lo hi sl ch f q cap ss i hi' h ws (HX0.out.below HTs)
          rw [hbw] at h138
          have HBW := Lib.hid hbw
          have HRS := Lib.hid HRs
          have HBS := Lib.hid HBs
          clear HRs HBs HTs hbw
          go_wp2_with fail
          refine h138.mono ?_
          rintro e w3 ⟨rfl, hb3⟩
          have hgs : g < ws.heap.size := HRS.out.lt
          have HR3 := Lib.hid (HRS.out.keep (hb3.block g hgs))
          have HB3 := Lib.hid (HBS.out.trans (hb3.mono (by omega)))
          have v0 := (hb3.cell (lt_of_cellq t0)).trans t0
          have v1 := (hb3.cell (lt_of_cellq t1)).trans t1
          have v2 := (hb3.cell (lt_of_cellq t2)).trans t2
          have v3 := (hb3.cell (lt_of_cellq t3)).trans t3
          have v5 := (hb3.cell (lt_of_cellq t5)).trans t5
          clear t0 t1 t2 t3 t4 t5 h138 es cN cg fg hb3 hgs
          cases bw with
          | false =>
            have HG := Lib.hid (show aftG lo hi sl f ss i h = 1000 from aft0_out hi' HBW.out)
            go_wp2
            go_roundw
            case rel => exact ⟨h + 1, by omega, by go_num, Lib.hid (by rw [← rowA_next _ _ (1000 : Int) HG.out.symm]; exact HR3.out), HB3⟩
            case measure => simp [intOf]; omega
          | true =>
            by_cases hlast : i + 1 = ss.length
            · have heq : ((i : Int) == (ss.length : Int) - 1) = true := by simp; omega
              have HG := Lib.hid (show chgd sl h f = aftG lo hi sl f ss i h by unfold aftG; rw [aft0_in hi' HBW.out, if_pos hlast])
              have cN := (HB3.out.cell (p := ⟨w0.heap.size, i, none⟩) hNg).trans C2.out
              rw [← Nat.zero_add i] at cN
              clear hlast
              go_wp2
              refine wp_region_below_tail 12 (by kernel_rfl) (by kernel_rfl) ?_; simp only [List.take_succ_cons, List.take_zero, List.drop_succ_cons, List.drop_zero]; (repeat (first | ((with_reducible apply wq_fa fa118_0); (focus rfl); (focus rfl); go_frame) | ((with_reducible apply wq_fa fa118_1); (focus rfl); (focus rfl); go_frame) | ((with_reducible apply wq_fa fa118_2); (focus rfl); (focus rfl); go_frame) | ((with_reducible apply wq_fa fa23_0); (focus rfl); (focus rfl); go_frame) | ((with_reducible apply wq_fa fa23_1); (focus rfl); (focus rfl); go_frame) | ((with_reducible apply wq_fa fa23_2); (focus rfl); (focus rfl); go_frame) | ((with_reducible apply wq_fa fa23_3); (focus rfl); (focus rfl); go_frame) | ((with_reducible apply wq_fa fa61_0); (focus rfl); (focus rfl); go_frame) | ((with_reducible apply wq_fa fa61_1); (focus rfl); (focus rfl); go_frame) | ((with_reducible refine wq_lda ag23 sz23 ?_ ?_ ?_ (fun _ hbq => bcells4 v0 v1 v2 v3 hbq) ?_); (focus rfl); (focus rfl); (focus rfl); go_frame) | ((with_reducible apply wq_ix Tryz.underlying24 sz3); (focus rfl); (focus rfl); (focus rfl); (focus omega); (try simp only [Nat.mul_one]); go_frame) | ((with_reducible apply wq_ix Tryz.underlying37 sz50); (focus rfl); (focus rfl); (focus rfl); (focus omega); (try simp only [Nat.mul_one]); go_frame) | ((with_reducible apply wq_ix Tryz.underlying35 sz47); (focus rfl); (focus rfl); (focus rfl); (focus omega); (try simp only [Nat.mul_one]); go_frame) | ((with_reducible apply wq_ix Tryz.underlying90 sz24); (focus rfl); (focus rfl); (focus rfl); (focus omega); (try simp only [Nat.mul_one]); go_frame) | ((with_reducible apply wq_ld ag3); (focus rfl); (focus rfl); (focus (intro _ hbq; first | exact (hbq.cell (lt_of_cellq cN)).trans cN | exact (hbq.cell (lt_of_cellq v5)).trans v5)); go_frame) | ((with_reducible apply wq_ld ag24); (focus rfl); (focus rfl); (focus (intro _ hbq; first | exact (hbq.cell (lt_of_cellq cN)).trans cN | exact (hbq.cell (lt_of_cellq v5)).trans v5)); go_frame) | ((with_reducible apply wq_ld ag37); (focus rfl); (focus rfl); (focus (intro _ hbq; first | exact (hbq.cell (lt_of_cellq cN)).trans cN | exact (hbq.cell (lt_of_cellq v5)).trans v5)); go_frame) | ((with_reducible apply wq_ld ag90); (focus rfl); (focus rfl); (focus (intro _ hbq; first | exact (hbq.cell (lt_of_cellq cN)).trans cN | exact (hbq.cell (lt_of_cellq v5)).trans v5)); go_frame) | ((with_reducible apply wq_ld ag35); (focus rfl); (focus rfl); (focus (intro _ hbq; first | exact (hbq.cell (lt_of_cellq cN)).trans cN | exact (hbq.cell (lt_of_cellq v5)).trans v5)); go_frame) | ((with_reducible apply wq_add); (focus rfl); (focus rfl); (focus rfl); (focus omega); (focus omega); go_frame) | ((with_reducible apply wq_sub); (focus rfl); (focus rfl); (focus rfl); (focus omega); (focus omega); go_frame) | ((with_reducible apply wq_mul); (focus rfl); (focus rfl); (focus rfl); (focus omega); (focus omega); go_frame) | ((with_reducible apply wq_rem); (focus rfl); (focus rfl); (focus rfl); (focus omega); (focus omega); go_frame) | ((with_reducible apply wq_eql); (focus rfl); (focus rfl); (focus rfl); go_frame) | ((with_reducible apply wq_neq); (focus rfl); (focus rfl); (focus rfl); go_frame) | ((with_reducible apply wq_lss); (focus rfl); (focus rfl); (focus rfl); go_frame) | ((with_reducible apply wq_leq); (focus rfl); (focus rfl); (focus rfl); go_frame) | ((with_reducible apply wq_gtr); (focus rfl); (focus rfl); (focus rfl); go_frame) | ((with_reducible apply wq_geq); (focus rfl); (focus rfl); (focus rfl); go_frame) | ((with_reducible apply wq_max2); (focus rfl); (focus rfl); (focus rfl); go_frame) | ((with_reducible apply wq_min2); (focus rfl); (focus rfl); (focus rfl); go_frame) | ((with_reducible apply wq_max3); (focus rfl); (focus rfl); (focus rfl); (focus rfl); go_frame) | ((with_reducible apply wq_min3); (focus rfl); (focus rfl); (focus rfl); (focus rfl); go_frame) | ((with_reducible apply wq_neq50); (focus rfl); (focus rfl); (focus rfl); go_frame) | go_big_quiet_step ((intro hbq; exact calls_below hbq (c132 lo hi sl ch _ _ _ hsl (by omega) hf))))); refine wpQuiet_nil ?_; intro wq hbq
              have hg3 := HR3.out.lt
              have HRq := HR3.out.keep (hbq.block g hg3)
              have cq := HRq.at (i := h) (by simpa using hlt)
              have fq := HRq.fz h
              have HR4 := Lib.hid (HRq.set h (chgd sl h f))
              have HB4 := Lib.hid ((HB3.out.trans (hbq.mono (by omega))).setCell (p := ⟨g, h, none⟩) (Nat.le_refl _) (.int .i64 (chgd sl h f)))
              rw [Nat.zero_add] at cN
              clear hbq HRq v0 v1 v2 v3 v5 cN hg3
              go_wp2
              go_roundw
              case rel => exact ⟨h + 1, by omega, by go_num, Lib.hid (by rw [← rowA_next _ _ (chgd sl h f) HG.out]; have := HR4.out; rwa [rowA_set _ _ _ _ hlt] at this), HB4⟩
              case measure => simp [intOf]; omega
            · have heq : ((i : Int) == (ss.length : Int) - 1) = false := by simp; omega
              have HG := Lib.hid (show aftX lo hi sl f ss i h 31 = aftG lo hi sl f ss i h by unfold aftG; rw [aft0_in hi' HBW.out, if_neg hlast])
              have hi2 : i + 1 < ss.length := by omega
              have HK := Lib.hid (show (w3.cell? ⟨w.heap.size, 0, none⟩ = some (.int .i64 lo) ∧ w3.cell? ⟨w.heap.size, 1, none⟩ = some (.int .i64 hi)) ∧ (w3.cell? ⟨w.heap.size, 2, none⟩ = some (.int .i64 sl) ∧ w3.cell? ⟨w.heap.size, 3, none⟩ = some (.int .i64 ch)) from ⟨⟨v0, v1⟩, v2, v3⟩)
              have HWg := Lib.hid (show w.heap.size < g by have := HBL.out; omega)
              clear hlast v0 v1 v2 v3 v5
              go_wp2
              go_loopw [7] (fun x wy => ∃ k : Nat, k ≤ 31 ∧ x = .int .i64 k ∧ Hid (RowI wy g (rowA (aftG lo hi sl f ss i) h (aftX lo hi sl f ss i h k))) ∧ Hid (Below g w3 wy)) (fun x _ => 31 - (intOf x).toNat)
              case atStart => exact ⟨0, by omega, rfl, HR3, Lib.hid (Below.refl _ _)⟩
              case round =>
                rename_i wh
                obtain ⟨k, hk, rfl, HRk, HBk⟩ := hrel
                by_cases hkl : k < 31
                · have hle2 : decide ((k : Int) ≤ 30) = true := by simp; omega
                  have hltK : decide ((k : Int) < 31) = true := by simp; omega
                  have en : (i : Int) + 1 = ((i + 1 : Nat) : Int) := by omega
                  have HBa := HB3.out.trans HBk.out
                  have cN := (HBa.cell (p := ⟨w0.heap.size, i, none⟩) hNg).trans C2.out
                  obtain ⟨g1, cN1, _, _, hr1⟩ := (HM2'.out.below HBa).at (j := i + 1) (Nat.le_refl _) hi2
                  have cg := HRk.out.at (i := h) (by simpa using hlt)
                  have c1 := hr1.at (i := k) (by unfold aftL; simpa using hkl)
                  rw [gi_rowA _ _ _ _ hlt, if_neg (by omega), if_pos rfl] at cg
                  unfold aftL at c1
                  rw [gi_rowW _ _ hkl] at c1
                  unfold aftG at c1
                  have hX := aftX_range lo hi sl f ss i h k
                  have hA := aft0_range lo hi sl f ss (i + 1) k
                  have hC := chgd_range sl h k
                  have HST := Lib.hid (show aftX lo hi sl f ss i h (k + 1) = min (aftX lo hi sl f ss i h k) (chgd sl h k + aft0 lo hi sl f ss (i + 1) k) from rfl)
                  obtain ⟨X, hXe⟩ : ∃ X, aftX lo hi sl f ss i h k = X := ⟨_, rfl⟩
                  obtain ⟨A, hAe⟩ : ∃ A, aft0 lo hi sl f ss (i + 1) k = A := ⟨_, rfl⟩
                  rw [hXe] at cg hX HST
                  rw [hAe] at c1 hA HST
                  have v0 := (HBk.out.cell (p := ⟨w.heap.size, 0, none⟩) HWg.out).trans HK.out.1.1
                  have v1 := (HBk.out.cell (p := ⟨w.heap.size, 1, none⟩) HWg.out).trans HK.out.1.2
                  have v2 := (HBk.out.cell (p := ⟨w.heap.size, 2, none⟩) HWg.out).trans HK.out.2.1
                  have v3 := (HBk.out.cell (p := ⟨w.heap.size, 3, none⟩) HWg.out).trans HK.out.2.2
                  rw [← Nat.zero_add i] at cN
                  rw [← Nat.zero_add (i + 1)] at cN1
                  rw [← Nat.zero_add h] at cg
                  rw [← Nat.zero_add k] at c1
                  clear HBa hXe hAe hr1
                  go_wp2
                  refine wp_region_below_tail 28 (by kernel_rfl) (by kernel_rfl) ?_; simp only [List.take_succ_cons, List.take_zero, List.drop_succ_cons, List.drop_zero]; (repeat (first | ((with_reducible apply wq_fa fa118_0); (focus rfl); (focus rfl); go_frame) | ((with_reducible apply wq_fa fa118_1); (focus rfl); (focus rfl); go_frame) | ((with_reducible apply wq_fa fa118_2); (focus rfl); (focus rfl); go_frame) | ((with_reducible apply wq_fa fa23_0); (focus rfl); (focus rfl); go_frame) | ((with_reducible apply wq_fa fa23_1); (focus rfl); (focus rfl); go_frame) | ((with_reducible apply wq_fa fa23_2); (focus rfl); (focus rfl); go_frame) | ((with_reducible apply wq_fa fa23_3); (focus rfl); (focus rfl); go_frame) | ((with_reducible apply wq_fa fa61_0); (focus rfl); (focus rfl); go_frame) | ((with_reducible apply wq_fa fa61_1); (focus rfl); (focus rfl); go_frame) | ((with_reducible refine wq_lda ag23 sz23 ?_ ?_ ?_ (fun _ hbq => bcells4 v0 v1 v2 v3 hbq) ?_); (focus rfl); (focus rfl); (focus rfl); go_frame) | (rw [en]) | ((with_reducible apply wq_ix Tryz.underlying24 sz3); (focus rfl); (focus rfl); (focus rfl); (focus omega); (try simp only [Nat.mul_one]); go_frame) | ((with_reducible apply wq_ix Tryz.underlying37 sz50); (focus rfl); (focus rfl); (focus rfl); (focus omega); (try simp only [Nat.mul_one]); go_frame) | ((with_reducible apply wq_ix Tryz.underlying35 sz47); (focus rfl); (focus rfl); (focus rfl); (focus omega); (try simp only [Nat.mul_one]); go_frame) | ((with_reducible apply wq_ix Tryz.underlying90 sz24); (focus rfl); (focus rfl); (focus rfl); (focus omega); (try simp only [Nat.mul_one]); go_frame) | ((with_reducible apply wq_ld ag3); (focus rfl); (focus rfl); (focus (intro _ hbq; first | exact (hbq.cell (lt_of_cellq cN)).trans cN | exact (hbq.cell (lt_of_cellq cN1)).trans cN1 | exact (hbq.cell (lt_of_cellq cg)).trans cg | exact (hbq.cell (lt_of_cellq c1)).trans c1)); go_frame) | ((with_reducible apply wq_ld ag24); (focus rfl); (focus rfl); (focus (intro _ hbq; first | exact (hbq.cell (lt_of_cellq cN)).trans cN | exact (hbq.cell (lt_of_cellq cN1)).trans cN1 | exact (hbq.cell (lt_of_cellq cg)).trans cg | exact (hbq.cell (lt_of_cellq c1)).trans c1)); go_frame) | ((with_reducible apply wq_ld ag37); (focus rfl); (focus rfl); (focus (intro _ hbq; first | exact (hbq.cell (lt_of_cellq cN)).trans cN | exact (hbq.cell (lt_of_cellq cN1)).trans cN1 | exact (hbq.cell (lt_of_cellq cg)).trans cg | exact (hbq.cell (lt_of_cellq c1)).trans c1)); go_frame) | ((with_reducible apply wq_ld ag90); (focus rfl); (focus rfl); (focus (intro _ hbq; first | exact (hbq.cell (lt_of_cellq cN)).trans cN | exact (hbq.cell (lt_of_cellq cN1)).trans cN1 | exact (hbq.cell (lt_of_cellq cg)).trans cg | exact (hbq.cell (lt_of_cellq c1)).trans c1)); go_frame) | ((with_reducible apply wq_ld ag35); (focus rfl); (focus rfl); (focus (intro _ hbq; first | exact (hbq.cell (lt_of_cellq cN)).trans cN | exact (hbq.cell (lt_of_cellq cN1)).trans cN1 | exact (hbq.cell (lt_of_cellq cg)).trans cg | exact (hbq.cell (lt_of_cellq c1)).trans c1)); go_frame) | ((with_reducible apply wq_add); (focus rfl); (focus rfl); (focus rfl); (focus omega); (focus omega); go_frame) | ((with_reducible apply wq_sub); (focus rfl); (focus rfl); (focus rfl); (focus omega); (focus omega); go_frame) | ((with_reducible apply wq_mul); (focus rfl); (focus rfl); (focus rfl); (focus omega); (focus omega); go_frame) | ((with_reducible apply wq_rem); (focus rfl); (focus rfl); (focus rfl); (focus omega); (focus omega); go_frame) | ((with_reducible apply wq_eql); (focus rfl); (focus rfl); (focus rfl); go_frame) | ((with_reducible apply wq_neq); (focus rfl); (focus rfl); (focus rfl); go_frame) | ((with_reducible apply wq_lss); (focus rfl); (focus rfl); (focus rfl); go_frame) | ((with_reducible apply wq_leq); (focus rfl); (focus rfl); (focus rfl); go_frame) | ((with_reducible apply wq_gtr); (focus rfl); (focus rfl); (focus rfl); go_frame) | ((with_reducible apply wq_geq); (focus rfl); (focus rfl); (focus rfl); go_frame) | ((with_reducible apply wq_max2); (focus rfl); (focus rfl); (focus rfl); go_frame) | ((with_reducible apply wq_min2); (focus rfl); (focus rfl); (focus rfl); go_frame) | ((with_reducible apply wq_max3); (focus rfl); (focus rfl); (focus rfl); (focus rfl); go_frame) | ((with_reducible apply wq_min3); (focus rfl); (focus rfl); (focus rfl); (focus rfl); go_frame) | ((with_reducible apply wq_neq50); (focus rfl); (focus rfl); (focus rfl); go_frame) | go_big_quiet_step ((intro hbq; exact calls_below hbq (c132 lo hi sl ch _ _ _ hsl (by omega) (by omega)))))); refine wpQuiet_nil ?_; intro wq hbq
                  have hg3 := HRk.out.lt
                  have HRq := HRk.out.keep (hbq.block g hg3)
                  have fq := HRq.fz h
                  have cq := HRq.at (i := h) (by simpa using hlt)
                  have HR4 := Lib.hid (HRq.set h (min X (chgd sl h k + A)))
                  have HB4 := Lib.hid ((HBk.out.trans (hbq.mono (by omega))).setCell (p := ⟨g, h, none⟩) (Nat.le_refl _) (.int .i64 (min X (chgd sl h k + A))))
                  clear hbq HRq v0 v1 v2 v3 cN cN1 cg c1 hg3
                  go_wp2
                  go_roundw
                  case rel => exact ⟨k + 1, by omega, by go_num, Lib.hid (by rw [HST.out]; have := HR4.out; rwa [rowA_set _ _ _ _ hlt] at this), HB4⟩
                  case measure => simp [intOf]; omega
                · obtain rfl : k = 31 := by omega
                  go_wp2
                  go_roundw
                  case rel => exact ⟨h + 1, by omega, by go_num, Lib.hid (by rw [← rowA_next _ _ _ HG.out]; exact HRk.out), Lib.hid (HB3.out.trans HBk.out)⟩
                  case measure => simp [intOf]; omega
        · obtain rfl : h = 31 := by omega
          have HRa := Lib.hid (show RowI wr g (aftL lo hi sl f ss i) by have := HR.out; rwa [rowA_all] at this)
          have HMa := Lib.hid ((HM2'.out.below HBg.out).cons ((HBg.out.cell (p := ⟨w0.heap.size, i, none⟩) hNg).trans C2.out) HRa.out)
          have HBa := Lib.hid (HB12.out.trans (HBg.out.mono (by omega)))
          go_wp2
          go_roundw
          case rel => exact ⟨i, by omega, rfl, HMa, HBa⟩
          case measure => simp [intOf]
end Go.Proofs.YtncfgkhbenmpoaaGreatDoor
end

section
namespace Go.Proofs.YtncfgkhbenmpoaaGreatDoor
open Go Go.RowKit Go.Proofs
set_option linter.unusedVariables false
attribute [local go_sem] imax2 imin2

theorem aroundF_length (want : List Int) (off : Int) : (aroundF want off).length = want.length := by simp [aroundF]
theorem aroundF_take (want : List Int) (off : Int) (k : Nat) (h : k < want.length) : aroundF (want.take (k + 1)) off = aroundF (want.take k) off ++ [(gi want k - off, gi want k + off)] := by
  unfold aroundF gi
  rw [List.take_succ_eq_append_getElem h, List.map_append]
  congr 1; simp [h]
def AroundPost (want : List Int) (off : Int) (w : World) (e : Ending) (w' : World) : Prop :=
  ∃ p cap, e = .returned (.slice p (aroundF want off).length cap) ∧ RdS w' p (aroundF want off) ∧ Below w.heap.size w w'
set_option maxHeartbeats 400000 in
set_option maxRecDepth 100000 in
theorem c89 (q : Option Addr) (cap : Nat) (want : List Int) (off : Int) (w : World) (hx : RdI w q want) (h1 : camB want = true) (h2 : -1000 ≤ off ∧ off ≤ 1000) :
    Calls Tryz.prog 89 #[.slice q want.length cap, .int .i64 off] w (AroundPost want off w) := by
  have HX := Lib.hid hx
  have H1 := Lib.hid h1
  have hl := (camB_parts h1).2.1
  obtain ⟨he1, he2⟩ := h2
  clear hx h1
  obtain ⟨i0, hi0, hz0, hz1, hz2⟩ := info_parts info50
  go_enter Tryz.func89, Tryz.ntmps89
  go_wp2
  go_loopw [5, 6] (fun v i wr => ∃ k : Nat, k ≤ want.length ∧ i = .int .i64 k ∧ wr.ownsRow w.heap.size 50 2 v k (spV (aroundF (want.take k) off)) ∧ Below w.heap.size w wr) (fun _ i _ => want.length - (intOf i).toNat)
  case atStart => exact ⟨0, by omega, rfl, World.ownsRow_nil _ _ _ _, Below.refl _ _⟩
  case round =>
    obtain ⟨k, hk, rfl, hown, hnx⟩ := hrel
    have HO := Lib.hid hown
    have HN := Lib.hid hnx
    by_cases hlt : k < want.length
    · have hltI : decide ((k : Int) < (want.length : Int)) = true := by simp; omega
      obtain ⟨b, o, rfl, hc⟩ := (HX.out.below hnx).at hlt
      have e1 := hc k hlt
      have b1 := camB_at H1.out hlt
      have HT := Lib.hid (aroundF_take want off k hlt)
      clear hc hown hnx
      have hw1 : IntKind.i64.wrap (gi want k - off) = gi want k - off := w64 _ (by omega) (by omega)
      have hw2 : IntKind.i64.wrap (gi want k + off) = gi want k + off := w64 _ (by omega) (by omega)
      go_wp2
      go_region_law (refine step_append_lies _ rfl _ _ 37 rfl w.heap.size 50 i0 _ 2 16 Tryz.underlying37 hi0 hz0 hz1 hz2 rfl (by decide) _ _ _ rfl (HO.out.alloc _) ⟨wr.heap.size, 0, none⟩ 1 1 [.int .i64 (gi want k - off), .int .i64 (gi want k + off)] rfl rfl (fun j u hj => by exact news_of wr _ 50 j u hj) (by intro u hu; simp at hu; rcases hu with rfl | rfl <;> rfl) (by decide) (by unfold maxLen; omega) (by omega) (by have := HN.out.size; simp; omega) _ rfl ?_; intro g cap3 w1 hown' hgrow _ _)
      all_goals
        have hlt' := HO.out.lt
        have HN' := Lib.hid (HN.out.trans (((Below.refl w.heap.size wr).alloc HN.out.size _).drew.grown hgrow (by have := HN.out.size; simp; omega) (fun j hj => (hlt' j hj).1)))
        have HO' := Lib.hid hown'
        clear hown' hgrow hlt'
        go_wp2
        go_roundw
        case rel =>
          refine ⟨k + 1, by omega, by go_num, ?_, HN'.out⟩
          have := HO'.out
          rw [HT.out, spV_append]
          exact this
        case measure => simp [intOf]; omega
    · obtain rfl : k = want.length := by omega
      have hltI : decide ((want.length : Int) < (want.length : Int)) = false := by simp
      go_wp2
      obtain ⟨pp, cc, rfl, hrd⟩ := rds_of_own (ss := aroundF want off) (by have := hown; rw [List.take_length] at this; rw [aroundF_length]; exact this)
      go_ret
      exact ⟨pp, cc, by rw [aroundF_length] at *; rfl, hrd, hnx⟩
end Go.Proofs.YtncfgkhbenmpoaaGreatDoor
end

section
namespace Go.Proofs.YtncfgkhbenmpoaaGreatDoor
open Go Go.RowKit Go.Proofs
set_option linter.unusedVariables false

theorem gi_ext' {xs ys : List Int} (hl : xs.length = ys.length) (h : ∀ j, j < xs.length → gi xs j = gi ys j) : xs = ys := by
  apply List.ext_getElem hl
  intro i h1 h2
  have := h i h1
  unfold gi at this
  simpa [h1, h2] using this
theorem carveAt_turn (want : List Int) (f : Nat) (e b : Int) (h : 0 < want.length) : carveAt (turnF want b) f e = turnF (carveAt want f e) b := by
  refine gi_ext' (by simp) (fun j hj => ?_)
  simp only [carveAt_length, turnF_length] at hj
  rw [gi_carveAt _ _ _ _ (by simpa using hj), gi_turnF _ _ _ (by simpa using hj), cg_carveAt _ _ _ h, mn_turnF want b h]
theorem carveOk_turn (want : List Int) (f : Nat) (e b : Int) (h : 0 < want.length) : carveOk (turnF want b) f e = carveOk want f e := by
  rw [Bool.eq_iff_iff, carveOk_iff _ _ _ (by simpa using h), carveOk_iff _ _ _ h]
  have key : ∀ z, (cg (turnF want b) z - e ≤ mx (carveAt (turnF want b) f e) z f) ↔ (cg want (z + b) - e ≤ mx (carveAt want f e) (z + b) f) := by
    intro z
    rw [cg_turnF want b h, carveAt_turn want f e b h, mx_turnF _ _ (by simpa using h)]
  constructor
  · intro h1 z
    have := (key (z - b)).1 (h1 (z - b))
    rwa [show z - b + b = z by omega] at this
  · intro h1 z
    exact (key z).2 (h1 (z + b))
theorem errTo_le (xs ys : List Int) (B : Int) (hB : 0 ≤ B) : ∀ k, errTo xs ys k ≤ B ↔ ∀ j, j < k → gi xs j - gi ys j ≤ B ∧ gi ys j - gi xs j ≤ B := by
  intro k
  induction k with
  | zero => simp [errTo, hB]
  | succ k ih =>
    simp only [errTo]
    have hs := sizeF_range (gi xs k - gi ys k)
    constructor
    · intro h j hj
      rcases Nat.lt_or_ge j k with h1 | h1
      · exact (ih.1 (by omega)) j h1
      · obtain rfl : j = k := by omega
        omega
    · intro h
      have h1 := ih.2 (fun j hj => h j (by omega))
      have h2 := h k (by omega)
      omega
theorem errTo_nonneg (xs ys : List Int) : ∀ k, 0 ≤ errTo xs ys k := by
  intro k
  induction k with
  | zero => simp [errTo]
  | succ k ih => simp only [errTo]; omega
/-- the error of a follower, said around the list -/
theorem err_around (cam want : List Int) (f : Nat) (h : 0 < want.length) (hl : cam.length = want.length) (B : Int) (hB : 0 ≤ B) :
    errTo (followF cam f) want want.length ≤ B ↔ ∀ z : Int, mx cam z f - cg want z ≤ B ∧ cg want z - mx cam z f ≤ B := by
  rw [errTo_le _ _ _ hB]
  have hc : 0 < cam.length := by omega
  constructor
  · intro h1 z
    have h2 := h1 (z % want.length).toNat (cg_lt want h z)
    have e1 : gi (followF cam f) (z % want.length).toNat = mx cam z f := by
      have := cg_followF cam f hc z
      unfold cg at this
      rw [followF_length, hl] at this
      exact this
    rw [e1] at h2
    exact h2
  · intro h1 j hj
    have h2 := h1 j
    rw [cg_nat want j hj] at h2
    rw [gi_followF cam f j (by omega)]
    exact h2
/-- the cam for a want and a foot has the least error, and is the highest one that has it -/
theorem carve_law (want : List Int) (f er : Nat) (hw : camB want = true) (h1 : carveOk want f er = true) (h2 : ∀ k : Nat, k < er → carveOk want f k = false) :
    errTo (followF (carveAt want f er) f) want want.length = er ∧ ∀ other : List Int, camB other = true → other.length = want.length →
      (er : Int) ≤ errTo (followF other f) want want.length ∧ (errTo (followF other f) want want.length = er → ∀ j, j < want.length → gi other j ≤ gi (carveAt want f er) j) := by
  have hl := camB_parts hw
  have h0 : 0 < want.length := by omega
  have least : ∀ cam : List Int, cam.length = want.length → (∀ x ∈ cam, x ≤ 30) → (er : Int) ≤ errTo (followF cam f) want want.length := by
    intro cam hc h30
    have hn := errTo_nonneg (followF cam f) want want.length
    obtain ⟨n, hn'⟩ : ∃ n : Nat, errTo (followF cam f) want want.length = n := ⟨(errTo (followF cam f) want want.length).toNat, by omega⟩
    rw [hn']
    have hb := (carve_best want cam f n h0 hc h30 ((err_around cam want f h0 hc n (by omega)).1 (by omega))).2
    rcases Nat.lt_or_ge n er with h | h
    · rw [h2 n h] at hb; cases hb
    · omega
  have hcb := (camB_iff _).1 (camB_carve want f er hw (by omega))
  constructor
  · apply Int.le_antisymm
    · refine (err_around _ _ _ h0 (by simp) er (by omega)).2 (fun z => ⟨carve_above want f er h0 z, ?_⟩)
      have := (carveOk_iff want f er h0).1 h1 z
      omega
    · exact least _ (by simp) (fun x hx => (hcb.2.2 x hx).2)
  · intro other ho hl2
    have h30 : ∀ x ∈ other, x ≤ 30 := fun x hx => (((camB_iff _).1 ho).2.2 x hx).2
    refine ⟨least other hl2 h30, fun he j hj => ?_⟩
    have := (carve_best want other f er h0 hl2 h30 ((err_around other want f h0 hl2 er (by omega)).1 (by omega))).1 j
    rwa [cg_nat other j (by omega), cg_nat _ j (by simpa using hj)] at this
/-! ### followers -/
theorem follow_ge (xs : List Int) (f i : Nat) (h : i < xs.length) : gi xs i ≤ gi (followF xs f) i := by
  rw [gi_followF xs f i h]
  have := mx_ge xs i f 0 (by omega) (by omega)
  rwa [Int.add_zero, cg_nat xs i h] at this
theorem maxTo_le (xs : List Int) (B : Int) (k : Nat) (hk : 1 ≤ k) (h : ∀ j, j < k → gi xs j ≤ B) : maxTo xs k ≤ B := by
  obtain ⟨j, hj, e⟩ := maxTo_at xs k hk
  rw [e]; exact h j hj
theorem max_follow (xs : List Int) (f : Nat) (h : 0 < xs.length) : maxTo (followF xs f) xs.length = maxTo xs xs.length := by
  apply Int.le_antisymm
  · refine maxTo_le _ _ _ (by omega) (fun j hj => ?_)
    rw [gi_followF xs f j hj]
    obtain ⟨k, _, _, e⟩ := mx_at xs j f
    rw [e]
    exact maxTo_ge xs xs.length _ (cg_lt xs h _)
  · refine maxTo_le _ _ _ (by omega) (fun j hj => ?_)
    exact Int.le_trans (follow_ge xs f j hj) (maxTo_ge _ _ _ hj)
theorem camB_follow (xs : List Int) (f : Nat) (h : camB xs = true) : camB (followF xs f) = true := by
  rw [camB_iff] at h ⊢
  refine ⟨by simpa using h.1, by simpa using h.2.1, fun x hx => ?_⟩
  unfold followF at hx
  rw [List.mem_map] at hx
  obtain ⟨i, hi, rfl⟩ := hx
  obtain ⟨k, _, _, e⟩ := mx_at xs i f
  rw [e]
  exact h.2.2 _ (cg_mem xs (by omega) _)
theorem camB_turn (xs : List Int) (b : Int) (h : camB xs = true) : camB (turnF xs b) = true := by
  rw [camB_iff] at h ⊢
  refine ⟨by simpa using h.1, by simpa using h.2.1, fun x hx => ?_⟩
  unfold turnF at hx
  rw [List.mem_map] at hx
  obtain ⟨i, hi, rfl⟩ := hx
  exact h.2.2 _ (cg_mem xs (by omega) _)
theorem follow_mono (xs ys : List Int) (f : Nat) (h0 : 0 < xs.length) (hl : ys.length = xs.length) (h : ∀ j, j < xs.length → gi xs j ≤ gi ys j) : ∀ j, j < xs.length → gi (followF xs f) j ≤ gi (followF ys f) j := by
  intro j hj
  rw [gi_followF xs f j hj, gi_followF ys f j (by omega)]
  refine mx_mono xs ys j (fun z => ?_) f
  unfold cg
  rw [hl]
  exact h _ (cg_lt xs h0 z)
theorem follow_broad (xs : List Int) (f g : Nat) : ∀ j, j < xs.length → gi (followF xs f) j ≤ gi (followF xs (f + g)) j := by
  intro j hj
  rw [gi_followF xs f j hj, gi_followF xs (f + g) j hj]
  exact mx_le_mx xs j f (f + g) (by omega)
end Go.Proofs.YtncfgkhbenmpoaaGreatDoor
end

section
namespace Go.Proofs.YtncfgkhbenmpoaaGreatDoor
open Go Go.RowKit Go.Proofs
set_option linter.unusedVariables false

/-- a cam that fits a rule -/
structure FitR (lo hi sl ch : Int) (xs : List Int) : Prop where
  ins : ∀ i, i < xs.length → lo ≤ gi xs i ∧ gi xs i ≤ hi
  near : ∀ i, i < xs.length → gi xs i - gi xs ((i + 1) % xs.length) ≤ sl ∧ gi xs ((i + 1) % xs.length) - gi xs i ≤ sl
  few : chP xs xs.length ≤ ch
theorem spn_nearF (lo hi : Int) (want : List Int) (e : Int) (i : Nat) (h : i < want.length) : spn (nearF lo hi want e) i = (max lo (gi want i - e), min hi (gi want i + e)) := by
  unfold spn nearF gi; simp [h]
theorem fit_near {lo hi sl ch : Int} {want xs : List Int} {e : Int} : FitS sl ch (nearF lo hi want e) xs ↔ FitR lo hi sl ch xs ∧ xs.length = want.length ∧ ∀ j, j < xs.length → gi xs j - gi want j ≤ e ∧ gi want j - gi xs j ≤ e := by
  constructor
  · intro h
    have hl : xs.length = want.length := by have := h.len; simpa [nearF] using this
    have hi' : ∀ j, j < xs.length → (lo ≤ gi xs j ∧ gi xs j ≤ hi) ∧ (gi xs j - gi want j ≤ e ∧ gi want j - gi xs j ≤ e) := by
      intro j hj
      have := h.ins j hj
      rw [spn_nearF lo hi want e j (by omega)] at this
      simp only at this
      omega
    exact ⟨⟨fun j hj => (hi' j hj).1, h.near, h.few⟩, hl, fun j hj => (hi' j hj).2⟩
  · rintro ⟨h1, h2, h3⟩
    refine ⟨by simp [nearF, h2], fun j hj => ?_, h1.near, h1.few⟩
    rw [spn_nearF lo hi want e j (by omega)]
    have a := h1.ins j hj
    have b := h3 j hj
    simp only
    omega
theorem okF_iff {lo hi sl ch : Int} (hch : ch < 1000) {want : List Int} (h0 : 0 < want.length) (e : Int) : okF lo hi sl ch want e = true ↔ ∃ xs, FitS sl ch (nearF lo hi want e) xs := by
  unfold okF
  match want, h0 with
  | x :: r, _ =>
    constructor
    · intro h
      obtain ⟨xs, hx⟩ := Option.isSome_iff_exists.1 h
      exact ⟨xs, (cam_fits hch (s := (max lo (x - e), min hi (x + e))) (ss := nearF lo hi r e) hx).1⟩
    · rintro ⟨xs, hx⟩
      exact cam_some hch (s := (max lo (x - e), min hi (x + e))) (ss := nearF lo hi r e) hx
theorem leastF_spec {ok : Int → Bool} (hm : ∀ e e', e ≤ e' → ok e = true → ok e' = true) : ∀ (k : Nat) (e : Int), ok (e + k) = true → ok (leastF ok k e) = true ∧ e ≤ leastF ok k e ∧ leastF ok k e ≤ e + k ∧ ∀ x, e ≤ x → x < leastF ok k e → ok x = false := by
  intro k
  induction k with
  | zero => intro e h; exact ⟨by simpa [leastF] using h, by simp [leastF], by simp [leastF], fun x h1 h2 => by simp only [leastF] at h2; omega⟩
  | succ k ih =>
    intro e h
    simp only [leastF]
    cases hk : ok e with
    | true => exact ⟨by simpa using hk, by simp, by simp; omega, fun x h1 h2 => by simp at h2; omega⟩
    | false =>
      have h' := ih (e + 1) (by rw [show e + 1 + (k : Int) = e + ((k + 1 : Nat) : Int) by omega]; exact h)
      simp only [Bool.false_eq_true, if_false]
      refine ⟨h'.1, by omega, by omega, fun x h1 h2 => ?_⟩
      by_cases hx : x = e
      · rw [hx]; exact hk
      · exact h'.2.2.2 x (by omega) h2
theorem rule_parts {lo hi sl ch : Int} (h : ruleB lo hi sl ch = true) : (0 ≤ lo ∧ lo ≤ hi ∧ hi ≤ 30) ∧ (0 ≤ sl ∧ sl ≤ 30) ∧ (0 ≤ ch ∧ ch ≤ 24) := by
  unfold ruleB inB at h
  simp only [Bool.and_eq_true, decide_eq_true_eq] at h
  omega
/-- the nearest cam: it fits, has its error, and no other one that fits has a lesser error, nor the same one if it comes before -/
theorem nearest_law {lo hi sl ch : Int} {want : List Int} (hr : ruleB lo hi sl ch = true) (hw : camB want = true) :
    FitR lo hi sl ch (nearestF lo hi sl ch want).1 ∧ (nearestF lo hi sl ch want).1.length = want.length ∧ camB (nearestF lo hi sl ch want).1 = true ∧
    errTo (nearestF lo hi sl ch want).1 want want.length = (nearestF lo hi sl ch want).2 ∧ 0 ≤ (nearestF lo hi sl ch want).2 ∧
    ∀ ys, FitR lo hi sl ch ys → ys.length = want.length → (nearestF lo hi sl ch want).2 ≤ errTo ys want want.length ∧ (errTo ys want want.length = (nearestF lo hi sl ch want).2 → lexLe (nearestF lo hi sl ch want).1 ys) := by
  have hp := rule_parts hr
  have hc := camB_parts hw
  have h0 : 0 < want.length := by omega
  have h30 := okF_30 (lo := lo) (hi := hi) (sl := sl) (ch := ch) (want := want) (by omega) (by omega) (by omega) (by omega) (by omega) (by omega) ((camB_iff _).1 hw).2.2
  have hs := leastF_spec (ok := okF lo hi sl ch want) (fun e e' he h => okF_mono (by omega) he h) 30 0 (by simpa using h30)
  unfold nearestF
  dsimp only
  generalize leastF (okF lo hi sl ch want) 30 0 = e at hs
  obtain ⟨h1, h2, h3, h4⟩ := hs
  obtain ⟨xs, hx⟩ := Option.isSome_iff_exists.1 (show (camF sl ch (nearF lo hi want e)).isSome = true from h1)
  have hfit : FitS sl ch (nearF lo hi want e) xs ∧ ∀ ys, FitS sl ch (nearF lo hi want e) ys → lexLe xs ys := by
    match want, h0 with
    | x :: r, _ => exact cam_fits (by omega) (s := (max lo (x - e), min hi (x + e))) (ss := nearF lo hi r e) hx
  rw [hx]
  simp only [Option.getD_some]
  have hf := fit_near.1 hfit.1
  have hle : ∀ ys, FitR lo hi sl ch ys → ys.length = want.length → e ≤ errTo ys want want.length := by
    intro ys hy hl
    have hn := errTo_nonneg ys want want.length
    by_cases hlt : errTo ys want want.length < e
    · exfalso
      have hb := h4 _ hn hlt
      have := (okF_iff (lo := lo) (hi := hi) (sl := sl) (ch := ch) (by omega) h0 (errTo ys want want.length)).2 ⟨ys, fit_near.2 ⟨hy, hl, by rw [hl]; exact (errTo_le ys want _ hn _).1 (Int.le_refl _)⟩⟩
      rw [hb] at this; cases this
    · omega
  refine ⟨hf.1, hf.2.1, ?_, ?_, h2, fun ys hy hl => ⟨hle ys hy hl, fun he => hfit.2 ys (fit_near.2 ⟨hy, hl, by rw [hl]; exact (errTo_le ys want _ h2 _).1 (by omega)⟩)⟩⟩
  · rw [camB_iff]
    refine ⟨by omega, by omega, fun x hx => ?_⟩
    obtain ⟨i, hi', rfl⟩ := List.mem_iff_getElem.1 hx
    have := hf.1.ins i hi'
    unfold gi at this
    rw [List.getD_eq_getElem?_getD, List.getElem?_eq_getElem hi'] at this
    simp only [Option.getD_some] at this
    omega
  · apply Int.le_antisymm
    · exact (errTo_le _ _ _ h2 _).2 (by rw [← hf.2.1]; exact hf.2.2)
    · exact hle xs hf.1 hf.2.1
/-! ### before, in lexicographic order -/
def befB : List Int → List Int → Bool
  | x :: xs, y :: ys => if x = y then befB xs ys else decide (x < y)
  | [], _ :: _ => true
  | _, [] => false
theorem bef_lex : ∀ (xs ys : List Int), xs.length = ys.length → befB ys xs = true → ¬ lexLe xs ys := by
  intro xs
  induction xs with
  | nil => intro ys hl h; cases ys with
    | nil => simp [befB] at h
    | cons y ys => simp at hl
  | cons x xs ih =>
    intro ys hl h
    cases ys with
    | nil => simp at hl
    | cons y ys =>
      simp only [befB] at h
      intro hlex
      simp only [lexLe] at hlex
      by_cases e : y = x
      · rw [if_pos e] at h
        rcases hlex with h1 | ⟨_, h1⟩
        · omega
        · exact ih ys (by simpa using hl) h h1
      · rw [if_neg e, decide_eq_true_eq] at h
        rcases hlex with h1 | ⟨h1, _⟩
        · omega
        · exact e h1.symm
/-! ### a cam that is turned -/
def csum (g : Int → Int) (a : Int) : Nat → Int
  | 0 => 0
  | k + 1 => csum g a k + g (a + k)
theorem csum_next (g : Int → Int) (a : Int) : ∀ k, csum g (a + 1) k = csum g a (k + 1) - g a := by
  intro k
  induction k with
  | zero => simp [csum]
  | succ k ih =>
    rw [show csum g (a + 1) (k + 1) = csum g (a + 1) k + g (a + 1 + k) from rfl, ih, show csum g a (k + 1 + 1) = csum g a (k + 1) + g (a + ((k + 1 : Nat) : Int)) from rfl, show a + 1 + (k : Int) = a + ((k + 1 : Nat) : Int) by omega]
    omega
theorem csum_shift (g : Int → Int) (n : Nat) (hg : ∀ z, g (z + n) = g z) : ∀ b : Nat, csum g b n = csum g 0 n := by
  intro b
  induction b with
  | zero => rfl
  | succ b ih =>
    rw [show ((b + 1 : Nat) : Int) = (b : Int) + 1 by omega, csum_next, show csum g b (n + 1) = csum g b n + g (b + n) from rfl, hg, ih]
    omega
theorem chP_csum (xs : List Int) (h0 : 0 < xs.length) : ∀ k, k ≤ xs.length → chP xs k = csum (fun z => cost (cg xs z) (cg xs (z + 1))) 0 k := by
  intro k
  induction k with
  | zero => intro _; rfl
  | succ k ih =>
    intro hk
    simp only [chP, csum]
    rw [ih (by omega), Int.zero_add, cg_nat xs k (by omega)]
    congr 2
theorem chP_turn (xs : List Int) (h0 : 0 < xs.length) (b : Nat) : chP (turnF xs b) xs.length = chP xs xs.length := by
  have e := chP_csum (turnF xs b) (by simpa using h0) xs.length (by simp)
  rw [e, chP_csum xs h0 _ (Nat.le_refl _)]
  have hs := csum_shift (fun z => cost (cg xs z) (cg xs (z + 1))) xs.length (fun z => by
    have e1 := cg_add xs z 1
    have e2 := cg_add xs (z + 1) 1
    simp only [Int.one_mul] at e1 e2
    show cost (cg xs (z + xs.length)) (cg xs (z + xs.length + 1)) = _
    rw [show z + (xs.length : Int) + 1 = z + 1 + xs.length by omega, e1, e2]) b
  rw [← hs]
  have key : ∀ k, csum (fun z => cost (cg (turnF xs b) z) (cg (turnF xs b) (z + 1))) 0 k = csum (fun z => cost (cg xs z) (cg xs (z + 1))) b k := by
    intro k
    induction k with
    | zero => rfl
    | succ k ih =>
      simp only [csum, ih]
      rw [cg_turnF xs b h0, cg_turnF xs b h0, show (0 : Int) + (k : Int) + b = b + k by omega, show (0 : Int) + (k : Int) + 1 + b = b + k + 1 by omega]
  exact key _
theorem fit_turn {lo hi sl ch : Int} {xs : List Int} (b : Nat) (h0 : 0 < xs.length) (h : FitR lo hi sl ch xs) : FitR lo hi sl ch (turnF xs b) := by
  refine ⟨fun i hi' => ?_, fun i hi' => ?_, by rw [turnF_length, chP_turn xs h0]; exact h.few⟩
  · rw [turnF_length] at hi'
    rw [gi_turnF xs b i hi']
    exact h.ins _ (cg_lt xs h0 _)
  · have e0 := gi_turnF xs b i (by simpa using hi')
    rw [turnF_length] at hi' ⊢
    rw [e0, gi_turnF xs b _ (Nat.mod_lt _ h0)]
    have hn := h.near (((i : Int) + b) % (xs.length : Int)).toNat (cg_lt xs h0 _)
    have e1 : cg xs (((i + 1) % xs.length : Nat) + (b : Int)) = gi xs (((((i : Int) + b) % (xs.length : Int)).toNat + 1) % xs.length) := by
      unfold cg
      congr 1
      rw [show ((i : Int) + (b : Int)) = ((i + b : Nat) : Int) by omega, ← Int.natCast_emod, Int.toNat_natCast, ← Int.natCast_add, ← Int.natCast_emod, Int.toNat_natCast, Nat.mod_add_mod, Nat.mod_add_mod]
      congr 1; omega
    rw [e1]
    exact hn
theorem err_turn (xs want : List Int) (b : Nat) (hl : xs.length = want.length) (h0 : 0 < xs.length) (B : Int) (hB : 0 ≤ B) (h : ∀ j, j < want.length → gi xs j - gi want j ≤ B ∧ gi want j - gi xs j ≤ B) : errTo (turnF xs b) (turnF want b) want.length ≤ B := by
  refine (errTo_le _ _ _ hB _).2 (fun j hj => ?_)
  rw [gi_turnF xs b j (by omega), gi_turnF want b j hj]
  unfold cg
  rw [hl]
  exact h _ (cg_lt want (by omega) _)
theorem turn_back (xs : List Int) (b : Nat) (hb : b ≤ xs.length) (h0 : 0 < xs.length) : turnF (turnF xs b) (xs.length - b : Nat) = xs := by
  refine gi_ext' (by simp) (fun j hj => ?_)
  simp only [turnF_length] at hj
  rw [gi_turnF _ _ j (by simpa using hj), cg_turnF xs b h0]
  have := cg_add xs j 1
  rw [show (j : Int) + ((xs.length - b : Nat) : Int) + (b : Int) = j + 1 * xs.length by omega, this, cg_nat xs j hj]
/-- a want that is turned has a nearest cam with the same error -/
theorem nearest_turn_le {lo hi sl ch : Int} {want : List Int} (hr : ruleB lo hi sl ch = true) (hw : camB want = true) (b : Nat) : (nearestF lo hi sl ch (turnF want b)).2 ≤ (nearestF lo hi sl ch want).2 := by
  have h1 := nearest_law hr hw
  have h2 := nearest_law hr (camB_turn want b hw)
  have hc := camB_parts hw
  obtain ⟨f1, f2, f3, f4, f5, f6⟩ := h1
  have hx0 : 0 < (nearestF lo hi sl ch want).1.length := by omega
  have h3 := (h2.2.2.2.2.2 _ (fit_turn b hx0 f1) (by simp [f2])).1
  have h4 := err_turn (nearestF lo hi sl ch want).1 want b f2 hx0 (nearestF lo hi sl ch want).2 f5 ((errTo_le _ _ _ f5 _).1 (by omega))
  rw [turnF_length] at h3
  omega
theorem nearest_turn {lo hi sl ch : Int} {want : List Int} (hr : ruleB lo hi sl ch = true) (hw : camB want = true) (b : Nat) (hb : b ≤ want.length) : (nearestF lo hi sl ch (turnF want b)).2 = (nearestF lo hi sl ch want).2 := by
  apply Int.le_antisymm
  · exact nearest_turn_le hr hw b
  · have := nearest_turn_le hr (camB_turn want b hw) (want.length - b)
    rw [turn_back want b hb (by have := camB_parts hw; omega)] at this
    exact this
/-- a wider rule never makes the error greater -/
theorem nearest_more {lo hi sl ch : Int} {want : List Int} (hr : ruleB lo hi sl ch = true) (hw : camB want = true) (m : Int) (hm : 0 ≤ m) :
    ruleB (max 0 (lo - m)) (min 30 (hi + m)) (min 30 (sl + m)) (min 24 (ch + m)) = true ∧ (nearestF (max 0 (lo - m)) (min 30 (hi + m)) (min 30 (sl + m)) (min 24 (ch + m)) want).2 ≤ (nearestF lo hi sl ch want).2 := by
  have hp := rule_parts hr
  have hr2 : ruleB (max 0 (lo - m)) (min 30 (hi + m)) (min 30 (sl + m)) (min 24 (ch + m)) = true := by
    unfold ruleB inB
    simp only [Bool.and_eq_true, decide_eq_true_eq]
    omega
  refine ⟨hr2, ?_⟩
  obtain ⟨f1, f2, f3, f4, f5, f6⟩ := nearest_law hr hw
  have hc := camB_parts hw
  have h3 := (nearest_law hr2 hw).2.2.2.2.2 (nearestF lo hi sl ch want).1 ⟨fun i hi' => by have := f1.ins i hi'; omega, fun i hi' => by
    have a := f1.near i hi'
    have b := f1.ins i hi'
    have c := f1.ins ((i + 1) % (nearestF lo hi sl ch want).1.length) (Nat.mod_lt _ (by omega))
    omega, by
    have a := f1.few
    have b := chP_le (nearestF lo hi sl ch want).1 (nearestF lo hi sl ch want).1.length
    omega⟩ f2
  omega
end Go.Proofs.YtncfgkhbenmpoaaGreatDoor
end

section
namespace Go.Proofs.YtncfgkhbenmpoaaGreatDoor
open Go Go.RowKit Go.Proofs
set_option linter.unusedVariables false
attribute [local go_sem] imax2 imin2

/-- one step of the references' way on -/
theorem pick_next {lo hi sl f : Int} (hsl : 0 ≤ sl) (hlo : 0 ≤ lo) (hhi : hi ≤ 30) (s : Int × Int) (ss : List (Int × Int)) (last left : Int) (hl : left < 1000) (h : restF sl (clip lo hi (s :: ss)) last f ≤ left) :
    ∃ n : Nat, n ≤ 30 ∧ chgd sl last n + aftF lo hi sl f (s :: ss) n ≤ left ∧ (∀ x : Nat, x < n → ¬ chgd sl last x + aftF lo hi sl f (s :: ss) x ≤ left) ∧
      pickF lo hi sl f (s :: ss) last left = (n : Int) :: pickF lo hi sl f ss n (left - chgd sl last n) ∧ restF sl (clip lo hi ss) n f ≤ left - chgd sl last n ∧ 0 ≤ left - chgd sl last n := by
  have hex : ∃ x, (max (max s.1 lo) (last - sl) ≤ x ∧ x ≤ min (min s.2 hi) (last + sl)) ∧ restF sl (clip lo hi ss) x f + cost last x ≤ left := by
    simp only [clip, List.map_cons, restF] at h
    rcases foldl_min_attained (fun n => restF sl (ss.map fun s => (max s.1 lo, min s.2 hi)) n f + cost last n) (rng (max (max s.1 lo) (last - sl)) (min (min s.2 hi) (last + sl))) 1000 with h' | ⟨x, hx, h'⟩
    · omega
    · rw [h'] at h
      rw [mem_rng] at hx
      exact ⟨x, hx, h⟩
  obtain ⟨x, hx, hxl⟩ := hex
  rcases rng_least (p := fun h => decide (chgd sl last h + aftF lo hi sl f (s :: ss) h ≤ left)) _ 0 30 rfl with hn | ⟨n, h1, h2, h3, h4⟩
  · have := hn x (by omega) (by omega)
    simp only [decide_eq_false_iff_not] at this
    exact absurd ((pick_step hsl hlo hhi s ss last left x hl).2 ⟨hx, hxl⟩) this
  · have e1 := rng_find _ 0 30 n rfl h1 h2 h3 h4
    have h3' := (pick_step hsl hlo hhi s ss last left n hl).1 (by simpa using h3)
    have hnear : chgd sl last n = cost last n := chgd_near (by omega) (by omega)
    have hr := restF_range sl (clip lo hi ss) n f
    obtain ⟨m, rfl⟩ : ∃ m : Nat, n = m := ⟨n.toNat, by omega⟩
    refine ⟨m, by omega, by simpa using h3, fun y hy => ?_, ?_, by omega, by omega⟩
    · have := h4 y (by omega) (by omega)
      simpa using this
    · simp only [pickF]
      rw [e1]
theorem gi_left1 (xs ys : List Int) (i : Nat) (h : i < xs.length) : gi (xs ++ ys) i = gi xs i := by
  unfold gi; rw [List.getD_eq_getElem?_getD, List.getElem?_append_left h, ← List.getD_eq_getElem?_getD]
theorem gi_left2 (xs : List Int) (x : Int) : gi (xs ++ [x]) xs.length = x := by
  unfold gi; rw [List.getD_eq_getElem?_getD, List.getElem?_append_right (Nat.le_refl _), Nat.sub_self]; rfl
structure PickI (lo hi sl f ch : Int) (ss : List (Int × Int)) (i : Nat) (pre : List Int) (left : Int) : Prop where
  len : pre.length = i
  all : f :: pickF lo hi sl f (ss.drop 1) f ch = pre ++ pickF lo hi sl f (ss.drop i) (gi pre (i - 1)) left
  rest : restF sl (clip lo hi (ss.drop i)) (gi pre (i - 1)) f ≤ left
  l0 : 0 ≤ left
  l1 : left < 1000
  hs : ∀ j, j < pre.length → 0 ≤ gi pre j ∧ gi pre j ≤ 30
theorem PickI.next {lo hi sl f ch : Int} {ss : List (Int × Int)} {k : Nat} {pre : List Int} {left : Int} (hsl : 0 ≤ sl) (hlo : 0 ≤ lo) (hhi : hi ≤ 30) (h : PickI lo hi sl f ch ss k pre left) (hk : 1 ≤ k) (hlt : k < ss.length) :
    ∃ n : Nat, n ≤ 30 ∧ chgd sl (gi pre (k - 1)) n + aft0 lo hi sl f ss k n ≤ left ∧ (∀ x : Nat, x < n → ¬ chgd sl (gi pre (k - 1)) x + aft0 lo hi sl f ss k x ≤ left) ∧
      PickI lo hi sl f ch ss (k + 1) (pre ++ [(n : Int)]) (left - chgd sl (gi pre (k - 1)) n) := by
  have hd := drop_cons ss k hlt
  have hr := h.rest
  have ha := h.all
  rw [hd] at hr ha
  have e0 : ∀ x : Nat, aft0 lo hi sl f ss k x = aftF lo hi sl f (spn ss k :: ss.drop (k + 1)) x := by
    intro x
    unfold aft0
    rw [if_neg (by omega), hd]
  obtain ⟨n, h1, h2, h3, h4, h5, h6⟩ := pick_next hsl hlo hhi (spn ss k) (ss.drop (k + 1)) (gi pre (k - 1)) left h.l1 hr
  have hc := chgd_range sl (gi pre (k - 1)) n
  have hl := h.l1
  have hln := h.len
  have hg : gi (pre ++ [(n : Int)]) (k + 1 - 1) = n := by rw [Nat.add_sub_cancel, ← hln]; exact gi_left2 pre n
  refine ⟨n, h1, by rw [e0]; exact h2, fun x hx => by rw [e0]; exact h3 x hx, ⟨by simp [hln], ?_, ?_, h6, by omega, fun j hj => ?_⟩⟩
  · rw [ha, h4, hg, List.append_assoc]; rfl
  · rw [hg]; exact h5
  · simp only [List.length_append, List.length_cons, List.length_nil] at hj
    rcases Nat.lt_or_ge j pre.length with h7 | h7
    · rw [gi_left1 _ _ _ h7]; exact h.hs j h7
    · obtain rfl : j = pre.length := by omega
      rw [gi_left2]; omega
def FirstPost (lo hi sl ch f : Int) (ss : List (Int × Int)) (w : World) (e : Ending) (w' : World) : Prop :=
  (∃ v bb, e = .returned (.tuple #[v, .bool bb]) ∧ ((bb = false ∧ firstF lo hi sl ch f ss = none) ∨ (bb = true ∧ ∃ l, firstF lo hi sl ch f ss = some l ∧ ∃ p c, v = .slice p l.length c ∧ RdI w' p l))) ∧ Below w.heap.size w w'
theorem inV_snoc (xs : List Int) (x : Int) : inV (xs ++ [x]) = inV xs ++ [.int .i64 x] := by simp [inV]
theorem own_one (w : World) (base : Nat) (hb : base ≤ w.heap.size) (x : Int) : (w.alloc (.cells #[.int .i64 x] 3)).ownsRow base 3 1 (.slice (some ⟨w.heap.size, 0, none⟩) 1 1) 1 (inV [x]) :=
  ⟨by simp [inV], .inr ⟨w.heap.size, 1, #[.int .i64 x], rfl, hb, alloc_new w _, Nat.le_refl _, by unfold maxLen; omega, rfl, rfl⟩⟩

theorem firstF_aft (lo hi sl ch f : Int) (ss : List (Int × Int)) (h0 : 1 ≤ ss.length) : firstF lo hi sl ch f ss = if aft0 lo hi sl f ss 0 f > ch then none else some (f :: pickF lo hi sl f (ss.drop 1) f ch) := by
  cases ss with
  | nil => simp at h0
  | cons s r =>
    have e : aft0 lo hi sl f (s :: r) 0 f = aftF lo hi sl f (s :: r) f := by unfold aft0; rw [if_neg (by simp)]; rfl
    rw [e]; rfl
theorem aft0_rest {lo hi sl f : Int} (hsl : 0 ≤ sl) (hlo : 0 ≤ lo) (hhi : hi ≤ 30) (ss : List (Int × Int)) (h0 : 1 ≤ ss.length) (ch : Int) (hch : ch < 1000) (h : ¬ aft0 lo hi sl f ss 0 f > ch) : restF sl (clip lo hi (ss.drop 1)) f f ≤ ch := by
  cases ss with
  | nil => simp at h0
  | cons s r =>
    have e : aft0 lo hi sl f (s :: r) 0 f = aftF lo hi sl f (s :: r) f := by unfold aft0; rw [if_neg (by simp)]; rfl
    rw [e] at h
    by_cases ht : insB lo hi s f = true
    · rw [aft_rest f hsl hlo hhi r s f ht] at h
      exact Int.not_lt.1 h
    · have : aftF lo hi sl f (s :: r) f = 1000 := by unfold aftF; rw [if_neg ht]
      omega
set_option maxRecDepth 100000 in
set_option maxHeartbeats 1000000 in
theorem c88 (lo hi sl ch : Int) (f : Nat) (q : Option Addr) (cap : Nat) (ss : List (Int × Int)) (hr : ruleB lo hi sl ch = true) (h0 : 1 ≤ ss.length) (hlen : ss.length ≤ 1000) (hf : f ≤ 30) (hfl : lo ≤ f ∧ f ≤ hi) (w : World) (hx : RdS w q ss) :
    Calls Tryz.prog 88 #[.agg #[.int .i64 lo, .int .i64 hi, .int .i64 sl, .int .i64 ch, .slice q ss.length cap, .int .i64 f]] w (FirstPost lo hi sl ch f ss w) := by
  have hrp := rule_parts hr
  have hsl : 0 ≤ sl ∧ sl ≤ 30 := hrp.2.1
  obtain ⟨w0, e0, HS0, k0, k1, k2, k3, k4, k5, b0⟩ := box6 w (.int .i64 lo) (.int .i64 hi) (.int .i64 sl) (.int .i64 ch) (.slice q ss.length cap) (.int .i64 f) 118
  have HX0 := Lib.hid (hx.below b0)
  have HB0 := Lib.hid b0
  have HRP := Lib.hid hrp
  obtain ⟨i0, hi0, hz0, hz1, hz2⟩ := info_parts info3
  have h99 := c99 lo hi sl ch f q cap ss hlen hsl (by omega) w0 HX0.out
  clear hx b0 hr hrp
  go_enter Tryz.func88, Tryz.ntmps88
  go_wp2_with fail
  refine h99.mono ?_
  rintro e w1 ⟨N, rfl, hN, hM, hb1⟩
  have HM := Lib.hid hM
  have HB1 := Lib.hid hb1
  have r0 := (hb1.cell (lt_of_cellq k0)).trans k0
  have r1 := (hb1.cell (lt_of_cellq k1)).trans k1
  have r2 := (hb1.cell (lt_of_cellq k2)).trans k2
  have r3 := (hb1.cell (lt_of_cellq k3)).trans k3
  have r4 := (hb1.cell (lt_of_cellq k4)).trans k4
  have r5 := (hb1.cell (lt_of_cellq k5)).trans k5
  obtain ⟨g0, cN, _, _, hr0⟩ := hM.at (j := 0) (Nat.le_refl _) h0
  have cg := hr0.at (i := f) (by unfold aftL; simp; omega)
  unfold aftL at cg
  rw [gi_rowW _ _ (by omega)] at cg
  unfold aftG at cg
  have hA := aft0_range lo hi sl f ss 0 f
  have HF := Lib.hid (firstF_aft lo hi sl ch f ss h0)
  have HR0 := Lib.hid (fun (h : ¬ aft0 lo hi sl f ss 0 f > ch) => aft0_rest (lo := lo) (hi := hi) (sl := sl) (f := f) hsl.1 HRP.out.1.1 HRP.out.1.2.2 ss h0 ch (by have := HRP.out; omega) h)
  obtain ⟨A0, hA0⟩ : ∃ A0, aft0 lo hi sl f ss 0 f = A0 := ⟨_, rfl⟩
  rw [hA0] at hA HF cg HR0
  have cg' : w1.cell? ⟨g0, 0 + f, none⟩ = some (.int .i64 A0) := by rw [Nat.zero_add]; exact cg
  have hltI : (0 : Int) < (ss.length : Int) := by omega
  clear k0 k1 k2 k3 k4 k5 hM hb1 hr0 e0 h99 cg hA0
  go_wp2
  refine wp_region_quiet_lit (by kernel_rfl) (by kernel_rfl) ?_; (repeat (first | ((with_reducible apply wq_ix Tryz.underlying24 sz3); (focus rfl); (focus rfl); (focus rfl); (focus omega); (try simp only [Nat.mul_one]); go_frame) | ((with_reducible apply wq_ix Tryz.underlying37 sz50); (focus rfl); (focus rfl); (focus rfl); (focus omega); (try simp only [Nat.mul_one]); go_frame) | ((with_reducible apply wq_ix Tryz.underlying35 sz47); (focus rfl); (focus rfl); (focus rfl); (focus omega); (try simp only [Nat.mul_one]); go_frame) | ((with_reducible apply wq_ix Tryz.underlying90 sz24); (focus rfl); (focus rfl); (focus rfl); (focus omega); (try simp only [Nat.mul_one]); go_frame) | ((with_reducible apply wq_ld ag3); (focus rfl); (focus rfl); (focus (rintro _ ⟨_, rfl⟩; first | exact cN | exact r5 | exact cg' | exact r3)); go_frame) | ((with_reducible apply wq_ld ag24); (focus rfl); (focus rfl); (focus (rintro _ ⟨_, rfl⟩; first | exact cN | exact r5 | exact cg' | exact r3)); go_frame) | ((with_reducible apply wq_ld ag37); (focus rfl); (focus rfl); (focus (rintro _ ⟨_, rfl⟩; first | exact cN | exact r5 | exact cg' | exact r3)); go_frame) | ((with_reducible apply wq_ld ag90); (focus rfl); (focus rfl); (focus (rintro _ ⟨_, rfl⟩; first | exact cN | exact r5 | exact cg' | exact r3)); go_frame) | ((with_reducible apply wq_ld ag35); (focus rfl); (focus rfl); (focus (rintro _ ⟨_, rfl⟩; first | exact cN | exact r5 | exact cg' | exact r3)); go_frame) | ((with_reducible apply wq_add); (focus rfl); (focus rfl); (focus rfl); (focus omega); (focus omega); go_frame) | ((with_reducible apply wq_sub); (focus rfl); (focus rfl); (focus rfl); (focus omega); (focus omega); go_frame) | ((with_reducible apply wq_mul); (focus rfl); (focus rfl); (focus rfl); (focus omega); (focus omega); go_frame) | ((with_reducible apply wq_rem); (focus rfl); (focus rfl); (focus rfl); (focus omega); (focus omega); go_frame) | ((with_reducible apply wq_eql); (focus rfl); (focus rfl); (focus rfl); go_frame) | ((with_reducible apply wq_neq); (focus rfl); (focus rfl); (focus rfl); go_frame) | ((with_reducible apply wq_lss); (focus rfl); (focus rfl); (focus rfl); go_frame) | ((with_reducible apply wq_leq); (focus rfl); (focus rfl); (focus rfl); go_frame) | ((with_reducible apply wq_gtr); (focus rfl); (focus rfl); (focus rfl); go_frame) | ((with_reducible apply wq_geq); (focus rfl); (focus rfl); (focus rfl); go_frame) | ((with_reducible apply wq_max2); (focus rfl); (focus rfl); (focus rfl); go_frame) | ((with_reducible apply wq_min2); (focus rfl); (focus rfl); (focus rfl); go_frame) | ((with_reducible apply wq_max3); (focus rfl); (focus rfl); (focus rfl); (focus rfl); go_frame) | ((with_reducible apply wq_min3); (focus rfl); (focus rfl); (focus rfl); (focus rfl); go_frame) | go_big_quiet_step (fail))); refine wpQuiet_nil ?_; rintro _ ⟨nq, rfl⟩
  by_cases hgt : A0 > ch
  · have hgI : decide (A0 > ch) = true := by simpa using hgt
    have HN := Lib.hid (show firstF lo hi sl ch f ss = none by rw [HF.out, if_pos hgt])
    go_wp2
    go_ret2
    exact ⟨⟨_, _, rfl, .inl ⟨rfl, HN.out⟩⟩, below_drewN (HB0.out.trans (HB1.out.mono HB0.out.size)) nq⟩
  · have hgI : decide (A0 > ch) = false := by simpa using hgt
    have HS := Lib.hid (show firstF lo hi sl ch f ss = some ((f : Int) :: pickF lo hi sl f (ss.drop 1) f ch) by rw [HF.out, if_neg hgt])
    have HM2 := Lib.hid (show MatOk (w1.drewN nq) N ss.length 0 ss.length (aftL lo hi sl f ss) (w1.drewN nq).heap.size from HM.out.keep (fun _ _ => rfl))
    have HB2 := Lib.hid (below_drewN HB1.out nq)
    have hs5 : (w1.drewN nq).cell? ⟨w.heap.size, 5, none⟩ = some (.int .i64 f) := r5
    have ht0 : (w1.drewN nq).cell? ⟨w.heap.size, 0, none⟩ = some (.int .i64 lo) := r0
    have ht1 : (w1.drewN nq).cell? ⟨w.heap.size, 1, none⟩ = some (.int .i64 hi) := r1
    have ht2 : (w1.drewN nq).cell? ⟨w.heap.size, 2, none⟩ = some (.int .i64 sl) := r2
    have ht3 : (w1.drewN nq).cell? ⟨w.heap.size, 3, none⟩ = some (.int .i64 ch) := r3
    have ht4 : (w1.drewN nq).cell? ⟨w.heap.size, 4, none⟩ = some (.slice q ss.length cap) := r4
    clear r0 r1 r2 r3 r4 r5 cN cg' HM HB1
    generalize w1.drewN nq = w2 at *
    obtain ⟨w3, e3⟩ : ∃ w3, w2.alloc (.cells #[.int .i64 f] 3) = w3 := ⟨_, rfl⟩
    have hown0 := own_one w2 w2.heap.size (Nat.le_refl _) (f : Int)
    have hb3 := below_alloc1 w2 (.cells #[.int .i64 f] 3)
    rw [e3] at hown0 hb3
    have HO0 := Lib.hid hown0
    have HB3 := Lib.hid hb3
    have v0 := (hb3.cell (lt_of_cellq ht0)).trans ht0
    have v1 := (hb3.cell (lt_of_cellq ht1)).trans ht1
    have v2 := (hb3.cell (lt_of_cellq ht2)).trans ht2
    have v3 := (hb3.cell (lt_of_cellq ht3)).trans ht3
    have v4 := (hb3.cell (lt_of_cellq ht4)).trans ht4
    have HP0 := Lib.hid (show PickI lo hi sl f ch ss 1 [(f : Int)] ch from ⟨rfl, rfl, HR0.out (Int.not_lt.1 hgt), HRP.out.2.2.1, by have := HRP.out; omega, fun j hj => by
      have : j = 0 := by simpa using hj
      subst this
      show 0 ≤ (f : Int) ∧ (f : Int) ≤ 30; omega⟩)
    clear hown0 hA hb3
    go_wp2
    clear hgI hgt e3 v0 v1 v2 v3 v4 hs5
    go_loopw [5, 6, 7] (fun v l i wr => ∃ (k : Nat) (pre : List Int) (left : Int), 1 ≤ k ∧ k ≤ ss.length ∧ i = .int .i64 k ∧ l = .int .i64 left ∧ Hid (PickI lo hi sl f ch ss k pre left) ∧ Hid (wr.ownsRow w2.heap.size 3 1 v k (inV pre)) ∧ Hid (Below w2.heap.size w2 wr)) (fun _ _ i _ => ss.length - (intOf i).toNat)
    case atStart => exact ⟨1, [(f : Int)], ch, Nat.le_refl _, h0, rfl, rfl, HP0, HO0, HB3⟩
    case round =>
      obtain ⟨k, pre, left, hk1, hk, rfl, rfl, HP, HO, HBw⟩ := hrel
      have v0' := (HBw.out.cell (lt_of_cellq ht0)).trans ht0
      have v1' := (HBw.out.cell (lt_of_cellq ht1)).trans ht1
      have v2' := (HBw.out.cell (lt_of_cellq ht2)).trans ht2
      have v3' := (HBw.out.cell (lt_of_cellq ht3)).trans ht3
      have v4' := (HBw.out.cell (lt_of_cellq ht4)).trans ht4
      by_cases hlt : k < ss.length
      · have hltJ : decide ((k : Int) < (ss.length : Int)) = true := by simp; omega
        obtain ⟨p, hp⟩ : ∃ p, k = p + 1 := ⟨k - 1, by omega⟩
        have en : (k : Int) - 1 = (p : Int) := by omega
        have HP1 := Lib.hid (show k - 1 = p by omega)
        obtain ⟨nn, n30, hle, hmin, hnext⟩ := HP.out.next hsl.1 HRP.out.1.1 HRP.out.1.2.2 hk1 hlt
        rw [HP1.out] at hle hmin hnext
        have HNX := Lib.hid hnext
        have HMIN := Lib.hid hmin
        have hp2 : p < pre.length := by have := HP.out.len; omega
        obtain ⟨g, cp, rfl, hwg, hgw⟩ := HO.out.form (by omega)
        have cl := HO.out.cells (g := g) rfl p _ (inV_get pre p hp2)
        rw [add_new] at cl
        have hla := HP.out.hs p hp2
        obtain ⟨la, hlae⟩ : ∃ la, gi pre p = la := ⟨_, rfl⟩
        rw [hlae] at cl hla hle
        have HLA := Lib.hid hlae
        have HPK := Lib.hid hp
        have hl0 := HP.out.l0
        have hl1 := HP.out.l1
        have HLT := Lib.hid hlt
        have HG := Lib.hid hgw
        have hpk : p < k := by omega
        have HLE := Lib.hid hle
        clear hnext hmin hp2 hlae hp hwg hgw hle
        go_wp2
        go_loopw [5, 6, 9] (fun v l j wx => ∃ j' : Nat, j' ≤ nn ∧ j = .int .i64 j' ∧ v = .slice (some ⟨g, 0, none⟩) k cp ∧ l = .int .i64 left ∧ Hid (Below wr.heap.size wr wx)) (fun _ _ j _ => 31 - (intOf j).toNat)
        case atStart => exact ⟨0, Nat.zero_le _, rfl, rfl, rfl, Lib.hid (Below.refl _ _)⟩
        case round =>
          rename_i wo
          obtain ⟨j, hj, rfl, rfl, rfl, HBx⟩ := hrel
          have hle30 : decide ((j : Int) ≤ 30) = true := by simp; omega
          have HBt := Lib.hid (HBw.out.trans (HBx.out.mono HBw.out.size))
          have r0 := (HBt.out.cell (lt_of_cellq ht0)).trans ht0
          have r1 := (HBt.out.cell (lt_of_cellq ht1)).trans ht1
          have r2 := (HBt.out.cell (lt_of_cellq ht2)).trans ht2
          have r3 := (HBt.out.cell (lt_of_cellq ht3)).trans ht3
          have hjk : k < ss.length := HLT.out
          obtain ⟨gk, cN, _, _, hrk⟩ := (HM2.out.below HBt.out).at (j := k) (Nat.zero_le _) hjk
          have cg := hrk.at (i := j) (by unfold aftL; simp; omega)
          unfold aftL at cg
          rw [gi_rowW _ _ (by omega)] at cg
          unfold aftG at cg
          have hA := aft0_range lo hi sl f ss k j
          have hC := chgd_range sl la j
          have cN' : wr.cell? ⟨N, 0 + k, none⟩ = some (.slice (some ⟨gk, 0, none⟩) 31 31) := by rw [Nat.zero_add]; exact cN
          have cg' : wr.cell? ⟨gk, 0 + j, none⟩ = some (.int .i64 (aft0 lo hi sl f ss k j)) := by rw [Nat.zero_add]; exact cg
          clear cN cg hrk
          by_cases hjn : j < nn
          · have hno := HMIN.out j hjn
            rw [HLA.out] at hno
            obtain ⟨A, hAe⟩ : ∃ A, aft0 lo hi sl f ss k j = A := ⟨_, rfl⟩
            rw [hAe] at hno hA cg'
            clear hAe
            go_wp2
            refine wp_region_quiet_below (by kernel_rfl) (by kernel_rfl) ?_; (repeat (first | ((with_reducible apply wq_fa fa118_0); (focus rfl); (focus rfl); go_frame) | ((with_reducible apply wq_fa fa118_1); (focus rfl); (focus rfl); go_frame) | ((with_reducible apply wq_fa fa118_2); (focus rfl); (focus rfl); go_frame) | ((with_reducible apply wq_fa fa23_0); (focus rfl); (focus rfl); go_frame) | ((with_reducible apply wq_fa fa23_1); (focus rfl); (focus rfl); go_frame) | ((with_reducible apply wq_fa fa23_2); (focus rfl); (focus rfl); go_frame) | ((with_reducible apply wq_fa fa23_3); (focus rfl); (focus rfl); go_frame) | ((with_reducible apply wq_fa fa61_0); (focus rfl); (focus rfl); go_frame) | ((with_reducible apply wq_fa fa61_1); (focus rfl); (focus rfl); go_frame) | ((with_reducible refine wq_lda ag23 sz23 ?_ ?_ ?_ (fun _ hbq => bcells4 r0 r1 r2 r3 hbq) ?_); (focus rfl); (focus rfl); (focus rfl); go_frame) | ((with_reducible apply wq_ix Tryz.underlying24 sz3); (focus rfl); (focus rfl); (focus rfl); (focus omega); (try simp only [Nat.mul_one]); go_frame) | ((with_reducible apply wq_ix Tryz.underlying37 sz50); (focus rfl); (focus rfl); (focus rfl); (focus omega); (try simp only [Nat.mul_one]); go_frame) | ((with_reducible apply wq_ix Tryz.underlying35 sz47); (focus rfl); (focus rfl); (focus rfl); (focus omega); (try simp only [Nat.mul_one]); go_frame) | ((with_reducible apply wq_ix Tryz.underlying90 sz24); (focus rfl); (focus rfl); (focus rfl); (focus omega); (try simp only [Nat.mul_one]); go_frame) | ((with_reducible apply wq_ld ag3); (focus rfl); (focus rfl); (focus (intro _ hbq; first | exact (hbq.cell (lt_of_cellq cN')).trans cN' | exact (hbq.cell (lt_of_cellq cg')).trans cg')); go_frame) | ((with_reducible apply wq_ld ag24); (focus rfl); (focus rfl); (focus (intro _ hbq; first | exact (hbq.cell (lt_of_cellq cN')).trans cN' | exact (hbq.cell (lt_of_cellq cg')).trans cg')); go_frame) | ((with_reducible apply wq_ld ag37); (focus rfl); (focus rfl); (focus (intro _ hbq; first | exact (hbq.cell (lt_of_cellq cN')).trans cN' | exact (hbq.cell (lt_of_cellq cg')).trans cg')); go_frame) | ((with_reducible apply wq_ld ag90); (focus rfl); (focus rfl); (focus (intro _ hbq; first | exact (hbq.cell (lt_of_cellq cN')).trans cN' | exact (hbq.cell (lt_of_cellq cg')).trans cg')); go_frame) | ((with_reducible apply wq_ld ag35); (focus rfl); (focus rfl); (focus (intro _ hbq; first | exact (hbq.cell (lt_of_cellq cN')).trans cN' | exact (hbq.cell (lt_of_cellq cg')).trans cg')); go_frame) | ((with_reducible apply wq_add); (focus rfl); (focus rfl); (focus rfl); (focus omega); (focus omega); go_frame) | ((with_reducible apply wq_sub); (focus rfl); (focus rfl); (focus rfl); (focus omega); (focus omega); go_frame) | ((with_reducible apply wq_mul); (focus rfl); (focus rfl); (focus rfl); (focus omega); (focus omega); go_frame) | ((with_reducible apply wq_rem); (focus rfl); (focus rfl); (focus rfl); (focus omega); (focus omega); go_frame) | ((with_reducible apply wq_eql); (focus rfl); (focus rfl); (focus rfl); go_frame) | ((with_reducible apply wq_neq); (focus rfl); (focus rfl); (focus rfl); go_frame) | ((with_reducible apply wq_lss); (focus rfl); (focus rfl); (focus rfl); go_frame) | ((with_reducible apply wq_leq); (focus rfl); (focus rfl); (focus rfl); go_frame) | ((with_reducible apply wq_gtr); (focus rfl); (focus rfl); (focus rfl); go_frame) | ((with_reducible apply wq_geq); (focus rfl); (focus rfl); (focus rfl); go_frame) | ((with_reducible apply wq_max2); (focus rfl); (focus rfl); (focus rfl); go_frame) | ((with_reducible apply wq_min2); (focus rfl); (focus rfl); (focus rfl); go_frame) | ((with_reducible apply wq_max3); (focus rfl); (focus rfl); (focus rfl); (focus rfl); go_frame) | ((with_reducible apply wq_min3); (focus rfl); (focus rfl); (focus rfl); (focus rfl); go_frame) | ((with_reducible apply wq_neq50); (focus rfl); (focus rfl); (focus rfl); go_frame) | go_big_quiet_step ((intro hbq; exact calls_below hbq (c132 lo hi sl ch _ _ _ hsl hla (by omega)))))); refine wpQuiet_nil ?_; intro wq hbq
            have HBq := Lib.hid (HBx.out.trans (hbq.mono HBx.out.size))
            clear hbq r0 r1 r2 r3 cN' cg'
            go_wp2
            go_roundw
            case rel => exact ⟨j + 1, by omega, by go_num, rfl, rfl, HBq⟩
            case measure => simp [intOf]; omega
          · obtain rfl : j = nn := by omega
            have hyes := HLE.out
            obtain ⟨A, hAe⟩ : ∃ A, aft0 lo hi sl f ss k j = A := ⟨_, rfl⟩
            rw [hAe] at hyes hA cg'
            clear hAe
            go_wp2
            refine wp_region_quiet_below (by kernel_rfl) (by kernel_rfl) ?_; (repeat (first | ((with_reducible apply wq_fa fa118_0); (focus rfl); (focus rfl); go_frame) | ((with_reducible apply wq_fa fa118_1); (focus rfl); (focus rfl); go_frame) | ((with_reducible apply wq_fa fa118_2); (focus rfl); (focus rfl); go_frame) | ((with_reducible apply wq_fa fa23_0); (focus rfl); (focus rfl); go_frame) | ((with_reducible apply wq_fa fa23_1); (focus rfl); (focus rfl); go_frame) | ((with_reducible apply wq_fa fa23_2); (focus rfl); (focus rfl); go_frame) | ((with_reducible apply wq_fa fa23_3); (focus rfl); (focus rfl); go_frame) | ((with_reducible apply wq_fa fa61_0); (focus rfl); (focus rfl); go_frame) | ((with_reducible apply wq_fa fa61_1); (focus rfl); (focus rfl); go_frame) | ((with_reducible refine wq_lda ag23 sz23 ?_ ?_ ?_ (fun _ hbq => bcells4 r0 r1 r2 r3 hbq) ?_); (focus rfl); (focus rfl); (focus rfl); go_frame) | ((with_reducible apply wq_ix Tryz.underlying24 sz3); (focus rfl); (focus rfl); (focus rfl); (focus omega); (try simp only [Nat.mul_one]); go_frame) | ((with_reducible apply wq_ix Tryz.underlying37 sz50); (focus rfl); (focus rfl); (focus rfl); (focus omega); (try simp only [Nat.mul_one]); go_frame) | ((with_reducible apply wq_ix Tryz.underlying35 sz47); (focus rfl); (focus rfl); (focus rfl); (focus omega); (try simp only [Nat.mul_one]); go_frame) | ((with_reducible apply wq_ix Tryz.underlying90 sz24); (focus rfl); (focus rfl); (focus rfl); (focus omega); (try simp only [Nat.mul_one]); go_frame) | ((with_reducible apply wq_ld ag3); (focus rfl); (focus rfl); (focus (intro _ hbq; first | exact (hbq.cell (lt_of_cellq cN')).trans cN' | exact (hbq.cell (lt_of_cellq cg')).trans cg')); go_frame) | ((with_reducible apply wq_ld ag24); (focus rfl); (focus rfl); (focus (intro _ hbq; first | exact (hbq.cell (lt_of_cellq cN')).trans cN' | exact (hbq.cell (lt_of_cellq cg')).trans cg')); go_frame) | ((with_reducible apply wq_ld ag37); (focus rfl); (focus rfl); (focus (intro _ hbq; first | exact (hbq.cell (lt_of_cellq cN')).trans cN' | exact (hbq.cell (lt_of_cellq cg')).trans cg')); go_frame) | ((with_reducible apply wq_ld ag90); (focus rfl); (focus rfl); (focus (intro _ hbq; first | exact (hbq.cell (lt_of_cellq cN')).trans cN' | exact (hbq.cell (lt_of_cellq cg')).trans cg')); go_frame) | ((with_reducible apply wq_ld ag35); (focus rfl); (focus rfl); (focus (intro _ hbq; first | exact (hbq.cell (lt_of_cellq cN')).trans cN' | exact (hbq.cell (lt_of_cellq cg')).trans cg')); go_frame) | ((with_reducible apply wq_add); (focus rfl); (focus rfl); (focus rfl); (focus omega); (focus omega); go_frame) | ((with_reducible apply wq_sub); (focus rfl); (focus rfl); (focus rfl); (focus omega); (focus omega); go_frame) | ((with_reducible apply wq_mul); (focus rfl); (focus rfl); (focus rfl); (focus omega); (focus omega); go_frame) | ((with_reducible apply wq_rem); (focus rfl); (focus rfl); (focus rfl); (focus omega); (focus omega); go_frame) | ((with_reducible apply wq_eql); (focus rfl); (focus rfl); (focus rfl); go_frame) | ((with_reducible apply wq_neq); (focus rfl); (focus rfl); (focus rfl); go_frame) | ((with_reducible apply wq_lss); (focus rfl); (focus rfl); (focus rfl); go_frame) | ((with_reducible apply wq_leq); (focus rfl); (focus rfl); (focus rfl); go_frame) | ((with_reducible apply wq_gtr); (focus rfl); (focus rfl); (focus rfl); go_frame) | ((with_reducible apply wq_geq); (focus rfl); (focus rfl); (focus rfl); go_frame) | ((with_reducible apply wq_max2); (focus rfl); (focus rfl); (focus rfl); go_frame) | ((with_reducible apply wq_min2); (focus rfl); (focus rfl); (focus rfl); go_frame) | ((with_reducible apply wq_max3); (focus rfl); (focus rfl); (focus rfl); (focus rfl); go_frame) | ((with_reducible apply wq_min3); (focus rfl); (focus rfl); (focus rfl); (focus rfl); go_frame) | ((with_reducible apply wq_neq50); (focus rfl); (focus rfl); (focus rfl); go_frame) | go_big_quiet_step ((intro hbq; exact calls_below hbq (c132 lo hi sl ch _ _ _ hsl hla (by omega)))))); refine wpQuiet_nil ?_; intro wq hbq
            have HBq := Lib.hid (HBx.out.trans (hbq.mono HBx.out.size))
            have s0 := (hbq.cell (lt_of_cellq r0)).trans r0
            have s1 := (hbq.cell (lt_of_cellq r1)).trans r1
            have s2 := (hbq.cell (lt_of_cellq r2)).trans r2
            have s3 := (hbq.cell (lt_of_cellq r3)).trans r3
            have h132 := c132 lo hi sl ch la j wq hsl hla (by omega)
            have hwr : IntKind.i64.wrap (left - chgd sl la j) = left - chgd sl la j := w64 _ (by omega) (by omega)
            clear hbq r0 r1 r2 r3 cN' cg'
            go_wp2_with fail
            refine h132.mono ?_
            rintro e w5 ⟨rfl, hb5⟩
            have HB5 := Lib.hid (HBq.out.trans (hb5.mono HBq.out.size))
            have HO5 := Lib.hid (own_kept HO.out HB5.out)
            have HBB := Lib.hid (HBw.out.trans (HB5.out.mono HBw.out.size))
            clear hb5 s0 s1 s2 s3 h132
            go_wp2_with (at_builtin; refine wpList_append_own _ rfl _ _ 24 rfl w2.heap.size 3 i0 _ 1 8 Tryz.underlying24 hi0 hz0 hz1 hz2 rfl (by decide) _ _ _ rfl (HO5.out.alloc _) ⟨w5.heap.size, 0, none⟩ 1 1 [.int .i64 (j : Int)] rfl rfl ?c1 ?c2 ?c3 ?c4 ?c5 ?_)
            case c1 => exact news_of _ _ _
            case c2 => intro x hx; simp at hx; subst hx; rfl
            case c3 => unfold maxLen; omega
            case c4 => omega
            case c5 => have := HBB.out.size; simp; omega
            intro v' w6 hown' hgrow _
            have hlt' := HO5.out.lt
            have HN' := Lib.hid (HBB.out.trans (((Below.refl w2.heap.size w5).alloc HBB.out.size _).grown hgrow (by have := HBB.out.size; simp; omega) (fun j hj => (hlt' j hj).1)))
            have HO' := Lib.hid hown'
            clear hown' hgrow hlt'
            go_wp2
            go_roundw
            case rel =>
              refine ⟨k + 1, pre ++ [(j : Int)], left - chgd sl la j, by omega, by have := HLT.out; omega, by go_num, by go_num, ?_, ?_, HN'⟩
              · have := HNX.out; rw [HLA.out] at this; exact Lib.hid this
              · rw [inV_snoc]; exact HO'
            case measure => simp [intOf]; have := HLT.out; omega
      · obtain rfl : k = ss.length := by omega
        have hltJ : decide ((ss.length : Int) < (ss.length : Int)) = false := by simp
        have HAll := Lib.hid (show (f : Int) :: pickF lo hi sl f (ss.drop 1) f ch = pre by
          have := HP.out.all
          rw [List.drop_length] at this
          simpa [pickF] using this)
        go_wp2
        obtain ⟨pp, cc, rfl, hrd⟩ := rd_of_own (xs := pre) (by have h := HO.out; rw [← HP.out.len] at h; exact h)
        go_ret2
        refine ⟨⟨_, _, rfl, .inr ⟨rfl, pre, ?_, pp, cc, ?_, hrd⟩⟩, HB0.out.trans ((HB2.out.trans (HBw.out.mono HB2.out.size)).mono HB0.out.size)⟩
        · rw [HS.out, HAll.out]
        · rfl
end Go.Proofs.YtncfgkhbenmpoaaGreatDoor
end

section
namespace Go.Proofs.YtncfgkhbenmpoaaGreatDoor
open Go Go.RowKit Go.Proofs
set_option linter.unusedVariables false
attribute [local go_sem] imax2 imin2

theorem first_near {lo hi sl ch : Int} (hr : ruleB lo hi sl ch = true) {want : List Int} (hw : 1 ≤ want.length) (off : Int) : (rng lo hi).findSome? (fun f => firstF lo hi sl ch f (aroundF want off)) = camF sl ch (nearF lo hi want off) := by
  have hp := rule_parts hr
  have h := clip_around lo hi want off
  match hs : aroundF want off with
  | [] => have := aroundF_length want off; rw [hs] at this; simp at this; omega
  | s :: ss => rw [← h, hs]; exact firstF_cam (by omega) (by omega) (by omega) (by omega) (by omega) s ss
def NearestR (lo hi sl ch : Int) (want : List Int) (w : World) (e : Ending) (w' : World) : Prop :=
  (∃ p c, e = .returned (.tuple #[.slice p (nearestF lo hi sl ch want).1.length c, .int .i64 (nearestF lo hi sl ch want).2]) ∧ RdI w' p (nearestF lo hi sl ch want).1) ∧ Below w.heap.size w w'
set_option maxRecDepth 100000 in
set_option maxHeartbeats 1000000 in
theorem c29 (lo hi sl ch : Int) (q : Option Addr) (cap : Nat) (want : List Int) (w : World) (hx : RdI w q want) (h1 : ruleB lo hi sl ch = true) (h2 : camB want = true) :
    Calls Tryz.prog 29 #[.agg #[.int .i64 lo, .int .i64 hi, .int .i64 sl, .int .i64 ch], .slice q want.length cap] w (NearestR lo hi sl ch want w) := by
  have hp := rule_parts h1
  have hcp := camB_parts h2
  obtain ⟨lon, rfl⟩ : ∃ n : Nat, lo = n := ⟨lo.toNat, by omega⟩
  obtain ⟨hin, rfl⟩ : ∃ n : Nat, hi = n := ⟨hi.toNat, by omega⟩
  obtain ⟨w0, e0, HS0, j0, j1, j2, j3, b0⟩ := box4 w (.int .i64 (lon : Int)) (.int .i64 (hin : Int)) (.int .i64 sl) (.int .i64 ch) 23
  have HX0 := Lib.hid (hx.below b0)
  have HB0 := Lib.hid b0
  have H1 := Lib.hid h1
  have H2 := Lib.hid h2
  have HP := Lib.hid hp
  have HCP := Lib.hid hcp
  have hlh : lon ≤ hin := by omega
  have hh30 : hin ≤ 30 := by omega
  have H30 := Lib.hid (okF_30 (lo := lon) (hi := hin) (sl := sl) (ch := ch) (want := want) (by omega) (by omega) (by omega) (by omega) (by omega) (by omega) ((camB_iff _).1 h2).2.2)
  clear hx b0 h1 h2 hp hcp
  go_enter Tryz.func29, Tryz.ntmps29
  go_wp2
  clear e0
  go_loopw [6] (fun o wr => ∃ off : Nat, off ≤ 31 ∧ o = .int .i64 off ∧ Hid (∀ x : Int, 0 ≤ x → x < off → okF lon hin sl ch want x = false) ∧ Hid (Below w0.heap.size w0 wr)) (fun o _ => 31 - (intOf o).toNat)
  case atStart => exact ⟨0, by omega, rfl, Lib.hid (fun x h1 h2 => by omega), Lib.hid (Below.refl _ _)⟩
  case round =>
    obtain ⟨off, hoff, rfl, HNO, HB⟩ := hrel
    have r0 := (HB.out.cell (lt_of_cellq j0)).trans j0
    by_cases hlt : off < 31
    · have hle : decide ((off : Int) ≤ 30) = true := by simp; omega
      have HNO' := HNO
      go_wp2
      clear r0
      go_loopw [7] (fun x wx => ∃ h : Nat, lon ≤ h ∧ h ≤ hin + 1 ∧ x = .int .i64 h ∧ Hid (∀ x : Int, (lon : Int) ≤ x → x < h → firstF lon hin sl ch x (aroundF want off) = none) ∧ Hid (Below w0.heap.size w0 wx)) (fun x _ => hin + 1 - (intOf x).toNat)
      case atStart => exact ⟨lon, Nat.le_refl _, by omega, rfl, Lib.hid (fun x h1 h2 => by omega), HB⟩
      case round =>
        rename_i wo
        obtain ⟨h, hh1, hh2, rfl, HNF, HBx⟩ := hrel
        have r0 := (HBx.out.cell (lt_of_cellq j0)).trans j0
        have r1 := (HBx.out.cell (lt_of_cellq j1)).trans j1
        have r2 := (HBx.out.cell (lt_of_cellq j2)).trans j2
        have r3 := (HBx.out.cell (lt_of_cellq j3)).trans j3
        have HXr := Lib.hid (HX0.out.below HBx.out)
        by_cases hltH : h < hin + 1
        · have hlth : (h : Int) ≤ (hin : Int) := by omega
          have HAL := Lib.hid (show 1 ≤ (aroundF want off).length ∧ (aroundF want off).length ≤ 1000 by rw [aroundF_length]; have := HCP.out; omega)
          have he : -1000 ≤ (off : Int) ∧ (off : Int) ≤ 1000 := by omega
          have hf30 : h ≤ 30 := by omega
          have hfl : (lon : Int) ≤ (h : Int) ∧ (h : Int) ≤ (hin : Int) := by omega
          go_wp2
          go_region_held3 (fun w' => w'.cell? ⟨w.heap.size, 0, none⟩ = some (.int .i64 (lon : Int)) ∧ w'.cell? ⟨w.heap.size, 1, none⟩ = some (.int .i64 (hin : Int)) ∧ w'.cell? ⟨w.heap.size, 2, none⟩ = some (.int .i64 sl) ∧ w'.cell? ⟨w.heap.size, 3, none⟩ = some (.int .i64 ch))
              (first | exact ⟨r0, r1, r2, r3⟩ | exact kA | exact kC)
              (first
                | (go_at_call 89; (with_reducible refine (c89 q cap want off _ (HXr.out.below ((Below.refl _ _).drew)) H2.out he).mono ?_); rintro e wa ⟨pa, ca, rfl, hra, hba⟩
                   have kA : wa.cell? ⟨w.heap.size, 0, none⟩ = some (.int .i64 (lon : Int)) ∧ wa.cell? ⟨w.heap.size, 1, none⟩ = some (.int .i64 (hin : Int)) ∧ wa.cell? ⟨w.heap.size, 2, none⟩ = some (.int .i64 sl) ∧ wa.cell? ⟨w.heap.size, 3, none⟩ = some (.int .i64 ch) :=
                     ⟨(hba.cell (lt_of_cellq r0)).trans r0, (hba.cell (lt_of_cellq r1)).trans r1, (hba.cell (lt_of_cellq r2)).trans r2, (hba.cell (lt_of_cellq r3)).trans r3⟩)
                | (go_at_call 88; (with_reducible refine (c88 lon hin sl ch h pa ca (aroundF want off) H1.out HAL.out.1 HAL.out.2 hf30 hfl _ hra).mono ?_); rintro e wc ⟨⟨vv, bb, rfl, hfirst⟩, hbc⟩
                   have kC : wc.cell? ⟨w.heap.size, 0, none⟩ = some (.int .i64 (lon : Int)) ∧ wc.cell? ⟨w.heap.size, 1, none⟩ = some (.int .i64 (hin : Int)) ∧ wc.cell? ⟨w.heap.size, 2, none⟩ = some (.int .i64 sl) ∧ wc.cell? ⟨w.heap.size, 3, none⟩ = some (.int .i64 ch) :=
                     ⟨(hbc.cell (lt_of_cellq kA.1)).trans kA.1, (hbc.cell (lt_of_cellq kA.2.1)).trans kA.2.1, (hbc.cell (lt_of_cellq kA.2.2.1)).trans kA.2.2.1, (hbc.cell (lt_of_cellq kA.2.2.2)).trans kA.2.2.2⟩))
          have HBC := Lib.hid (show Below w0.heap.size w0 wc by
            have h1 : Below wr.heap.size wr wa := ⟨hba.os, hba.tape, hba.output, hba.size, hba.block⟩
            exact HBx.out.trans ((h1.trans (hbc.mono h1.size)).mono HBx.out.size))
          have HFST := Lib.hid hfirst
          clear r0 r1 r2 r3 kA kC hba hbc hra hfirst
          cases bb with
          | false =>
            have HF := Lib.hid (show firstF lon hin sl ch h (aroundF want off) = none by
              rcases HFST.out with ⟨_, h⟩ | ⟨h, _⟩
              · exact h
              · cases h)
            go_wp2
            go_roundw
            case rel => exact ⟨h + 1, by omega, by omega, by go_num, Lib.hid (fun x h1 h2 => by
              by_cases e : x = h
              · rw [e]; exact HF.out
              · exact HNF.out x h1 (by omega)), HBC⟩
            case measure => simp [intOf]; omega
          | true =>
            obtain ⟨l, hl, p, c, rfl, hrd⟩ : ∃ l, firstF lon hin sl ch h (aroundF want off) = some l ∧ ∃ p c, vv = .slice p l.length c ∧ RdI wc p l := by
              rcases HFST.out with ⟨h, _⟩ | ⟨_, h⟩
              · cases h
              · exact h
            have HRD := Lib.hid hrd
            have HN := Lib.hid (show nearestF lon hin sl ch want = (l, (off : Int)) by
              have hcam : camF sl ch (nearF lon hin want off) = some l := by
                rw [← first_near H1.out (by have := HCP.out; omega) off]
                exact rng_findSome _ _ _ h l rfl (by omega) (by omega) hl (fun x h1 h2 => HNF.out x h1 h2)
              have hok : okF lon hin sl ch want off = true := by unfold okF; rw [hcam]; rfl
              have hleast := leastF_at (ok := okF lon hin sl ch want) 30 0 off (by omega) (by omega) hok (fun x h1 h2 => HNO'.out x h1 h2)
              unfold nearestF
              simp only
              rw [hleast, hcam]; rfl)
            clear hrd hl
            go_wp2
            go_ret2
            exact ⟨⟨p, c, by rw [HN.out]; rfl, by rw [HN.out]; exact HRD.out⟩, HB0.out.trans (HBC.out.mono HB0.out.size)⟩
        · obtain rfl : h = hin + 1 := by omega
          have hge : ¬ ((hin + 1 : Nat) : Int) ≤ (hin : Int) := by omega
          have HF := Lib.hid (show okF lon hin sl ch want off = false by
            unfold okF
            rw [← first_near H1.out (by have := HCP.out; omega) off, rng_findSome_none]
            · rfl
            · intro x h1 h2; exact HNF.out x h1 (by omega))
          clear r0 r2 r3
          go_wp2
          go_roundw
          case rel => exact ⟨off + 1, by omega, by go_num, Lib.hid (fun x h1 h2 => by
            by_cases e : x = off
            · rw [e]; exact HF.out
            · exact HNO'.out x h1 (by omega)), HBx⟩
          case measure => simp [intOf]; omega
    · obtain rfl : off = 31 := by omega
      exfalso
      have := HNO.out 30 (by omega) (by omega)
      rw [H30.out] at this
      cases this
end Go.Proofs.YtncfgkhbenmpoaaGreatDoor
end
