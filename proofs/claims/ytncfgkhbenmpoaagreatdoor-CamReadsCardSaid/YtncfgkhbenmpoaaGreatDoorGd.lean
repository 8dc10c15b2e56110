/-
  The speeds from a time on: an iterator.
  The speeds from a time on, ranged over: whether a time is a station.
  Whether a time is a station.
  The stations between two times.
  The stations that are returned.
  How often a motion goes back.
  Costs; copies.
  Gauges of a list, as defined.
  Whether a list holds a gauge that is not as defined.
  A copy of a cam.
-/
import Derived.Test.YtncfgkhbenmpoaaGreatDoorGc
import Derived.RangeFuncNested
import Derived.RangeFuncBound
import Derived.RangeFuncCalls
import Derived.RangeFuncLeaves
import Derived.Shelf.Abstract
import Derived.Shelf.RegionOpen
import Derived.OwnWalkIn
import Derived.TacticsInMore
import Derived.LoopNIn
import Derived.LoopIn
import Derived.Maps.AppendAt
import Derived.Deep.Cut
import Derived.Lib.LazyBuf
section
namespace Go.Proofs.YtncfgkhbenmpoaaGreatDoor
open Go Go.RowKit Go.Proofs Go.Shelf
set_option linter.unusedVariables false
attribute [local go_sem] Oper.semAt_some imax2 imin2

def spF (u : Int) (o : List Int) (t : Int) (k : Nat) : List (Int × Int) := (List.range k).map fun (i : Nat) => (t + i, spd u o (t + i))
theorem spF_succ (u : Int) (o : List Int) (t : Int) (k : Nat) : spF u o t (k + 1) = spF u o t k ++ [(t + k, spd u o (t + k))] := by unfold spF; rw [List.range_succ, List.map_append]; rfl
@[simp] theorem spF_length (u : Int) (o : List Int) (t : Int) (k : Nat) : (spF u o t k).length = k := by simp [spF]

set_option maxRecDepth 100000 in
set_option maxHeartbeats 1000000 in
theorem c166 (n : Nat) (hn : 2 ≤ n) (l Bm Bf n₀ : Nat) (u : Int) (q : Option Addr) (cap : Nat) (o : List Int) (t : Int) (hm : Mot u o) (ht : 0 ≤ t ∧ t ≤ 3000) (J Jx : List (Int × Int) → World → Prop) (W : World)
    (hn0 : n₀ ≤ W.heap.size) (hb1 : Bm < n₀) (hb2 : Bf < n₀)
    (hJ : AbidesFrom W.heap.size J)
    (hY : ∀ pre x W1, J pre W1 → pre.length < o.length → YieldAt Fence.wide (n - 1) Tryz.prog l #[.int .i64 x.1, .int .i64 x.2] W1 fun e W' =>
      (e = .returned (.bool true) ∧ J (pre ++ [x]) W' ∧ Below n₀ W1 W') ∨ (e = .returned (.bool false) ∧ Jx (pre ++ [x]) W'))
    (k0 : W.cell? ⟨Bm, 0, none⟩ = some (.int .i64 u)) (k1 : W.cell? ⟨Bm, 1, none⟩ = some (.slice q o.length cap)) (k2 : W.cell? ⟨Bf, 0, none⟩ = some (.int .i64 t)) (hx : RdI W q o) (hxq : ∀ a, q = some a → a.block < n₀) (h0 : J [] W) :
    CallsIn Fence.wide n Tryz.prog 166 #[.func (.yield l) #[] #[], .pointer (some ⟨Bm, 0, none⟩), .pointer (some ⟨Bf, 0, none⟩)] W fun e W' => (∃ v, e = .returned v) ∧
      ((∃ ys, ys = spF u o t o.length ∧ J ys W') ∨ (∃ pre, (∃ k, k ≤ o.length ∧ pre = spF u o t k) ∧ Jx pre W')) := by
  refine callsIn_of_wp Tryz.func166 rfl trivial ?_ rfl
  simp only [Tryz.ntmps166, List.size_toArray, List.length_cons, List.length_nil, Nat.reduceAdd, Nat.reduceSub, Array.replicate_succ, Array.replicate_zero, List.push_toArray, List.append_toArray, List.nil_append, List.cons_append]
  have hl3 := hm.l0
  have hl24 := hm.l1
  gi_wp2
  gi_loopw [8] (fun i wr => ∃ k : Nat, k ≤ o.length ∧ i = .int .i64 k ∧ J (spF u o t k) wr ∧ Below n₀ W wr) (fun i _ => o.length - (intOf i).toNat)
  case atStart => exact ⟨0, Nat.zero_le _, rfl, h0, Below.refl _ _⟩
  case round =>
    obtain ⟨k, hk, rfl, hJs, hnx⟩ := hrel
    have HJS := Lib.hid hJs
    have HNX := Lib.hid hnx
    by_cases hlt : k < o.length
    · have r0 := (hnx.cell hb1).trans k0
      have r1 := (hnx.cell hb1).trans k1
      have r2 := (hnx.cell hb2).trans k2
      have hj2 : ∀ w2 : World, Below wr.heap.size wr w2 → J (spF u o t k) w2 := fun w2 b => hJ _ wr w2 none hJs ⟨b.os, b.tape, b.output, b.size, fun i hi _ => b.block i hi⟩ (fun r e => by cases e)
      have HJ2 := Lib.hid hj2
      have hxr : ∀ w2 : World, Below wr.heap.size wr w2 → RdI w2 q o := by
        intro w2 b
        refine RdI.below (w := wr) ?_ b
        rcases hx with h | ⟨b', off, rfl, hc⟩
        · exact .inl h
        · exact .inr ⟨b', off, rfl, fun i hi => (hnx.cell (p := ⟨b', off + i, none⟩) (show b' < n₀ from hxq ⟨b', off, none⟩ rfl)).trans (hc i hi)⟩
      have HXR := Lib.hid hxr
      have HMO := Lib.hid hm
      have HYY := Lib.hid hY
      have hw1 : IntKind.i64.wrap (t + (k : Int)) = t + (k : Int) := w64 _ (by omega) (by omega)
      have hd : 1 ≤ n - 1 := by omega
      have hn1 : n₀ ≤ wr.heap.size := by have := hnx.size; omega
      have hmx : Tryz.prog.follows .mixedOrders = true := by kernel_rfl
      clear hJs hnx hj2 hxr hY hJ hm hx hxq
      gi_wp2_with fail
      gi_region_with_o (first
        | (refine ⟨trivial, fun _ => (by omega), ?_⟩; refine (callsIn_wide.2 (c107 u q cap o (t + k) _ (HXR.out _ (Below.refl _ _).drew) HMO.out ⟨by omega, by omega⟩)).mono ?_; rintro e w2 ⟨rfl, b2⟩
           obtain ⟨fn, tmps, assign, body, hy, hR⟩ := HYY.out _ (t + k, spd u o (t + k)) w2 (HJ2.out w2 ((Below.refl _ wr).drew.trans b2)) (by rw [spF_length]; exact hlt)
           have q2 : w2.cell? ⟨Bf, 0, none⟩ = some (.int .i64 t) := (((Below.refl _ wr).drew.trans b2).cell (lt_of_cellq r2)).trans r2
           dsimp only at hy)
        | (refine ⟨fun _ => (by omega), ?_⟩; refine hR.mono ?_; intro e W3 h3
           obtain ⟨bb, rfl, HB3⟩ : ∃ bb : Bool, e = .returned (.bool bb) ∧ Hid ((bb = true ∧ J (spF u o t k ++ [(t + k, spd u o (t + k))]) W3 ∧ Below n₀ w2 W3) ∨ (bb = false ∧ Jx (spF u o t k ++ [(t + k, spd u o (t + k))]) W3)) := by
             rcases h3 with ⟨h, h'⟩ | ⟨h, h'⟩
             · exact ⟨true, h, Lib.hid (.inl ⟨rfl, h'⟩)⟩
             · exact ⟨false, h, Lib.hid (.inr ⟨rfl, h'⟩)⟩
           clear h3))
      all_goals
        rcases HB3.out with ⟨rfl, hJ3, hk3⟩ | ⟨rfl, hJx3⟩
        · have HW3 := Lib.hid (HNX.out.trans (((((Below.refl _ wr).drew.trans b2)).mono hn1).trans hk3))
          have HJ3 := Lib.hid hJ3
          clear hk3 hJ3 HB3 hR hy b2
          gi_wp2
          go_roundw
          case rel => exact ⟨k + 1, by omega, by go_num, by rw [spF_succ]; exact HJ3.out, HW3.out⟩
          case measure => simp [intOf]; omega
        · have HJ3 := Lib.hid hJx3
          clear hJx3 HB3 hR hy b2
          gi_wp2
          refine bodyPost_ret (results_none rfl _ _ _) rfl ?_
          exact ⟨⟨_, rfl⟩, .inr ⟨_, ⟨k + 1, by omega, (spF_succ _ _ _ _).symm⟩, HJ3.out⟩⟩
    · obtain rfl : k = o.length := by omega
      gi_wp2
      go_end0
      exact ⟨⟨_, rfl⟩, .inl ⟨_, rfl, HJS.out⟩⟩
end Go.Proofs.YtncfgkhbenmpoaaGreatDoor
end

section
namespace Go.Proofs.YtncfgkhbenmpoaaGreatDoor
open Go Go.RowKit Go.Proofs Go.Shelf
set_option linter.unusedVariables false
attribute [local go_sem] Oper.semAt_some imax2 imin2

theorem c156 (u : Int) (q : Option Addr) (cap : Nat) (o : List Int) (t : Int) (w : World) :
    Calls Tryz.prog 156 #[.agg #[.int .i64 u, .slice q o.length cap], .int .i64 t] w fun e w' => e = .returned (.func (.func 166) #[] #[.pointer (some ⟨w.heap.size, 0, none⟩), .pointer (some ⟨w.heap.size + 1, 0, none⟩)]) ∧
      (w.alloc (.cells #[.int .i64 u, .slice q o.length cap] 61)).alloc (.cells #[.int .i64 t] 3) = w' := by
  go_enter Tryz.func156, Tryz.ntmps156
  go_wp2
  go_ret
  exact ⟨rfl, rfl⟩

theorem speeds_stops (n : Nat) (hn : 2 ≤ n) (Bm Bf n₀ : Nat) (u : Int) (q : Option Addr) (cap : Nat) (o : List Int) (t : Int) (hm : Mot u o) (ht : 0 ≤ t ∧ t ≤ 3000) (w : World) (hn0 : n₀ ≤ w.heap.size) (hb1 : Bm < n₀) (hb2 : Bf < n₀)
    (k0 : w.cell? ⟨Bm, 0, none⟩ = some (.int .i64 u)) (k1 : w.cell? ⟨Bm, 1, none⟩ = some (.slice q o.length cap)) (k2 : w.cell? ⟨Bf, 0, none⟩ = some (.int .i64 t)) (hx : RdI w q o) (hxq : ∀ a, q = some a → a.block < n₀) :
    SeqStopsK Fence.wide n Tryz.prog 166 #[.pointer (some ⟨Bm, 0, none⟩), .pointer (some ⟨Bf, 0, none⟩)] (fun x : Int × Int => #[Value.int .i64 x.1, Value.int .i64 x.2]) (Below n₀) (fun ys => ys = spF u o t o.length)
      (fun pre => ∃ k, k ≤ o.length ∧ pre = spF u o t k) o.length w := fun l J Jx W hW hJ hJx hY h0 =>
  c166 n hn l Bm Bf n₀ u q cap o t hm ht J Jx W (Nat.le_trans hn0 hW.size) hb1 hb2 hJ hY ((hW.cell (lt_of_cellq k0)).trans k0) ((hW.cell (lt_of_cellq k1)).trans k1) ((hW.cell (lt_of_cellq k2)).trans k2) (hx.below hW) hxq h0
end Go.Proofs.YtncfgkhbenmpoaaGreatDoor
end

section
namespace Go.Proofs.YtncfgkhbenmpoaaGreatDoor
open Go Go.RowKit Go.Proofs Go.Shelf
set_option linter.unusedVariables false
attribute [local go_sem] Oper.semAt_some imax2 imin2

theorem nextS_zero (u : Int) (o : List Int) : ∀ (k : Nat) (t : Int), (∀ i : Nat, i < k → spd u o (t + i) = 0) → nextS u o k t = 0 := by
  intro k
  induction k with
  | zero => intro t _; rfl
  | succ k ih =>
    intro t h
    have h0 := h 0 (by omega)
    simp only [Int.natCast_zero, Int.add_zero] at h0
    simp only [nextS]
    rw [if_neg (by simp [h0])]
    exact ih (t + 1) fun i hi => by have := h (i + 1) (by omega); rw [show t + 1 + (i : Int) = t + ((i + 1 : Nat) : Int) by omega]; exact this
theorem nextS_at (u : Int) (o : List Int) : ∀ (k : Nat) (t : Int) (j : Nat), j < k → (∀ i : Nat, i < j → spd u o (t + i) = 0) → spd u o (t + j) ≠ 0 → nextS u o k t = spd u o (t + j) := by
  intro k
  induction k with
  | zero => intro t j h; omega
  | succ k ih =>
    intro t j hj h hn
    simp only [nextS]
    cases j with
    | zero =>
      simp only [Int.natCast_zero, Int.add_zero] at hn ⊢
      rw [if_pos hn]
    | succ j =>
      have h0 := h 0 (by omega)
      simp only [Int.natCast_zero, Int.add_zero] at h0
      rw [if_neg (by simp [h0])]
      have e : t + ((j + 1 : Nat) : Int) = t + 1 + (j : Int) := by omega
      rw [e] at hn ⊢
      exact ih (t + 1) j (by omega) (fun i hi => by have := h (i + 1) (by omega); rw [show t + 1 + (i : Int) = t + ((i + 1 : Nat) : Int) by omega]; exact this) hn
def StaPost (u : Int) (o : List Int) (t : Int) (w : World) (e : Ending) (w' : World) : Prop := e = .returned (.bool (isSta u o t)) ∧ Below w.heap.size w w'

set_option maxRecDepth 100000 in
set_option maxHeartbeats 1000000 in
theorem c142 (u : Int) (q : Option Addr) (cap : Nat) (o : List Int) (t : Int) (w : World) (hx : RdI w q o) (hm : Mot u o) (ht : 0 ≤ t ∧ t ≤ 3000) :
    Calls Tryz.prog 142 #[.agg #[.int .i64 u, .slice q o.length cap], .int .i64 t] w (StaPost u o t w) := by
  refine (callsIn_wide (n := 6)).1 ?_
  refine callsIn_of_wp_marks Tryz.func142 rfl trivial ?_ rfl
  simp only [Tryz.ntmps142, List.size_toArray, List.length_cons, List.length_nil, Nat.reduceAdd, Nat.reduceSub, Array.replicate_succ, Array.replicate_zero, List.push_toArray, List.append_toArray, List.nil_append, List.cons_append]
  have HX := Lib.hid hx
  have HM := Lib.hid hm
  clear hx hm
  have kA : ((w.alloc (.cells #[.int .i64 u, .slice q o.length cap] 61)).alloc (.cells #[.bool false] 4)).heap[w.heap.size]? = some (.cells #[.int .i64 u, .slice q o.length cap] 61 (0, 0)) := alloc_old _ _ (alloc_new _ _)
  have kR : ((w.alloc (.cells #[.int .i64 u, .slice q o.length cap] 61)).alloc (.cells #[.bool false] 4)).heap[w.heap.size + 1]? = some (.cells #[.bool false] 4 (0, 0)) := by
    have := alloc_new (w.alloc (.cells #[.int .i64 u, .slice q o.length cap] 61)) (.cells #[.bool false] 4)
    simpa using this
  have bA : Below w.heap.size w ((w.alloc (.cells #[.int .i64 u, .slice q o.length cap] 61)).alloc (.cells #[.bool false] 4)) := (below_alloc1 _ _).alloc (by simp) _
  have KA := Lib.hid kA
  have KR := Lib.hid kR
  have BA := Lib.hid bA
  clear kA kR bA
  gi_wp2_with fail
  refine ⟨trivial, ?_⟩
  refine (callsIn_wide.2 (c107 u q cap o (t - 1) _ (HX.out.below BA.out) HM.out ⟨by omega, by omega⟩)).mono ?_
  rintro e w2 ⟨rfl, b2⟩
  have KA2 := Lib.hid ((b2.block _ (block_lt KA.out)).trans KA.out)
  have KR2 := Lib.hid ((b2.block _ (block_lt KR.out)).trans KR.out)
  have BB := Lib.hid (BA.out.trans (b2.mono BA.out.size))
  have a0 : w2.cell? ⟨w.heap.size, 0, none⟩ = some (.int .i64 u) := (cell_of_row _ _ 0 _ _ _ KA2.out).trans rfl
  have a1 : w2.cell? ⟨w.heap.size, 1, none⟩ = some (.slice q o.length cap) := (cell_of_row _ _ 1 _ _ _ KA2.out).trans rfl
  have r0 : w2.cell? ⟨w.heap.size + 1, 0, none⟩ = some (.bool false) := (cell_of_row _ _ 0 _ _ _ KR2.out).trans rfl
  have rf := frozen_of_row _ _ 0 _ _ KR2.out
  have hlt := block_lt KR2.out
  have hlt0 : w.heap.size < w2.heap.size := by omega
  clear b2 KA KR BA
  gi_wp2_with fail
  refine ⟨trivial, ?_⟩
  refine (callsIn_wide.2 (c155 _ _)).mono ?_
  rintro e w' ⟨rfl, rfl⟩
  by_cases hs : sgn (spd u o (t - 1)) = 0
  · gi_wp2_with fail
    have k1 := heap_setCell_same w2 (w.heap.size + 1) 0 _ _ (.bool false) KR2.out
    have q0 : ((w2.setCell ⟨w.heap.size + 1, 0, none⟩ (.bool false)).alloc (.cells #[.int .i64 0] 3)).cell? ⟨w.heap.size + 1, 0, none⟩ = some (.bool false) := (cell_of_row _ _ 0 _ _ _ (alloc_old _ _ k1)).trans rfl
    have HS := Lib.hid hs
    refine ⟨.bool false, by simp [results, Tryz.results142, go_sem, q0], ?_, ((BB.out.setCell (by show _ ≤ _ + 1; omega) _).alloc (by simp; omega) _)⟩
    have : spd u o (t - 1) = 0 := by
      have := HS.out
      unfold sgn at this
      split at this
      · omega
      · split at this <;> omega
    unfold isSta
    simp [this]
  · have hs' : (sgn (spd u o (t - 1)) == 0) = false := by simp [hs]
    gi_wp2_with fail
    refine ⟨trivial, ?_⟩
    refine (callsIn_wide.2 (c156 _ _ _ _ _ _)).mono ?_
    rintro e w' ⟨rfl, rfl⟩
    gi_wp2_with fail
    have HXW := Lib.hid (HX.out.below BB.out)
    have hKR := alloc_old _ (.cells #[.int .i64 t] 3) (alloc_old _ (.cells #[.int .i64 u, .slice q o.length cap] 61) (alloc_old _ (.cells #[.int .i64 (sgn (spd u o (t - 1)))] 3) KR2.out))
    have hB5 := alloc_old _ (.cells #[.int .i64 t] 3) (alloc_old _ (.cells #[.int .i64 u, .slice q o.length cap] 61) (alloc_new w2 (.cells #[.int .i64 (sgn (spd u o (t - 1)))] 3)))
    have hm := alloc_old _ (.cells #[.int .i64 t] 3) (alloc_new (w2.alloc (.cells #[.int .i64 (sgn (spd u o (t - 1)))] 3)) (.cells #[.int .i64 u, .slice q o.length cap] 61))
    have hf := alloc_new ((w2.alloc (.cells #[.int .i64 (sgn (spd u o (t - 1)))] 3)).alloc (.cells #[.int .i64 u, .slice q o.length cap] 61)) (.cells #[.int .i64 t] 3)
    have bW : Below w2.heap.size w2 (((w2.alloc (.cells #[.int .i64 (sgn (spd u o (t - 1)))] 3)).alloc (.cells #[.int .i64 u, .slice q o.length cap] 61)).alloc (.cells #[.int .i64 t] 3)) :=
      (((Below.refl _ _).alloc (Nat.le_refl _) _).alloc (by simp) _).alloc (by simp; omega) _
    have hsz : (((w2.alloc (.cells #[.int .i64 (sgn (spd u o (t - 1)))] 3)).alloc (.cells #[.int .i64 u, .slice q o.length cap] 61)).alloc (.cells #[.int .i64 t] 3)).heap.size = w2.heap.size + 1 + 1 + 1 := by simp
    simp only [World.size_alloc] at hm hf
    have HS := Lib.hid hs
    have HSV := Lib.hid (rfl : sgn (spd u o (t - 1)) = sgn (spd u o (t - 1)))
    generalize ((w2.alloc (.cells #[.int .i64 (sgn (spd u o (t - 1)))] 3)).alloc (.cells #[.int .i64 u, .slice q o.length cap] 61)).alloc (.cells #[.int .i64 t] 3) = wl at *
    clear a0 a1 r0 rf hs hs' HSV KA2 KR2
    have hBl := BB.out.trans (bW.mono (by omega))
    have c0 : wl.cell? ⟨w2.heap.size + 1, 0, none⟩ = some (.int .i64 u) := (cell_of_row _ _ 0 _ _ _ hm).trans rfl
    have c1 : wl.cell? ⟨w2.heap.size + 1, 1, none⟩ = some (.slice q o.length cap) := (cell_of_row _ _ 1 _ _ _ hm).trans rfl
    have c2 : wl.cell? ⟨w2.heap.size + 1 + 1, 0, none⟩ = some (.int .i64 t) := (cell_of_row _ _ 0 _ _ _ hf).trans rfl
    have c5 : wl.cell? ⟨w2.heap.size, 0, none⟩ = some (.int .i64 (sgn (spd u o (t - 1)))) := (cell_of_row _ _ 0 _ _ _ hB5).trans rfl
    have cR : wl.cell? ⟨w.heap.size + 1, 0, none⟩ = some (.bool false) := (cell_of_row _ _ 0 _ _ _ hKR).trans rfl
    have fR := frozen_of_row _ _ 0 _ _ hKR
    have hxq : ∀ a, q = some a → a.block < w2.heap.size + 1 + 1 + 1 := by
      intro a ha
      obtain ⟨b, off, e, hc⟩ := HXW.out.at (i := 0) (by have := HM.out.l0; omega)
      have := lt_of_cellq (hc 0 (by have := HM.out.l0; omega))
      rw [ha] at e
      cases e
      simp only at this ⊢
      omega
    have hseq := speeds_stops 5 (by omega) (w2.heap.size + 1) (w2.heap.size + 1 + 1) (w2.heap.size + 1 + 1 + 1) u q cap o t HM.out ht wl (by omega) (by omega) (by omega) c0 c1 c2 (HXW.out.below bW) hxq
    refine wpIn_rangeFunc_ownG rfl (by omega) (gf := 166) (lb := #[.pointer (some ⟨w2.heap.size + 1, 0, none⟩), .pointer (some ⟨w2.heap.size + 1 + 1, 0, none⟩)]) rfl trivial (enters_of Tryz.func166 (by kernel_rfl) rfl)
      hseq belowK_t (belowK_b (by omega)) (Below.refl _ _) (fun _ => rfl)
      (fun pre W => ((∀ p ∈ pre, p.2 = 0) ∧ W.cell? ⟨w.heap.size + 1, 0, none⟩ = some (.bool false) ∧ W.frozen? ⟨w.heap.size + 1, 0, none⟩ = false ∧ W.cell? ⟨w2.heap.size, 0, none⟩ = some (.int .i64 (sgn (spd u o (t - 1))))) ∧ Below w.heap.size w W)
      (fun c pre W => (c = .ret ∧ ∃ ini last, pre = ini ++ [last] ∧ (∀ p ∈ ini, p.2 = 0) ∧ last.2 ≠ 0 ∧ W.cell? ⟨w.heap.size + 1, 0, none⟩ = some (.bool (sgn last.2 != sgn (spd u o (t - 1))))) ∧ Below w.heap.size w W)
      (OwnFrom.and (Own.from (fun s A B row hs hg hr => ⟨hs.1, cell_kept hs.2.1 hg hr, (frozen_kept hs.2.1 hg hr).trans hs.2.2.1, cell_kept hs.2.2.2 hg hr⟩) _) (ownFrom_below (Nat.le_refl _) (by omega)))
      (fun c => OwnFrom.and (Own.from (fun s A B row hs hg hr => by obtain ⟨hc, ini, last, e1, e2, e3, e4⟩ := hs; exact ⟨hc, ini, last, e1, e2, e3, cell_kept e4 hg hr⟩) _) (ownFrom_below (Nat.le_refl _) (by omega)))
      ⟨⟨by simp, cR, fR, c5⟩, hBl⟩
      (fun x => { tmps := #[.agg #[.int .i64 u, .slice q o.length cap], .int .i64 t, .pointer (some ⟨w.heap.size, 0, none⟩), undef, .pointer (some ⟨w.heap.size + 1, 0, none⟩), .pointer (some ⟨w2.heap.size, 0, none⟩), undef, .int .i64 x.2, .agg #[.int .i64 u, .slice q o.length cap], .int .i64 t, .int .i64 (t - 1), .int .i64 (spd u o (t - 1)),
        .int .i64 (sgn (spd u o (t - 1))), .int .i64 (sgn (spd u o (t - 1))), .bool false, .agg #[.int .i64 u, .slice q o.length cap], .int .i64 t, .func (.func 166) #[] #[.pointer (some ⟨w2.heap.size + 1, 0, none⟩), .pointer (some ⟨w2.heap.size + 1 + 1, 0, none⟩)], .int .i64 x.1, .int .i64 x.2, undef, undef, undef, undef, undef, undef], defers := [] }) ?assign ?body ?done ?stop
    case assign =>
      intro l x W K hK
      gi_wp2
      exact hK
    case body =>
      rintro l pre x W ⟨⟨hp, hcr, hfr, h5⟩, hB⟩ _
      have hd : 1 ≤ 4 := by omega
      have hmx : Tryz.prog.follows .mixedOrders = true := by kernel_rfl
      by_cases hz : x.2 = 0
      · have hz' : (x.2 != 0) = false := by simp [hz]
        have HZ := Lib.hid hz
        have HP := Lib.hid hp
        clear hz hp
        gi_wp2
        exact ⟨KeepsFrom.refl _ _, Below.refl _ _, ⟨fun p hp' => (List.mem_append.1 hp').elim (HP.out p) (fun e => by simp at e; subst e; exact HZ.out), hcr, hfr, h5⟩, hB⟩
      · have hz' : (x.2 != 0) = true := by simp [hz]
        have HZ := Lib.hid hz
        have HP := Lib.hid hp
        clear hz hp
        gi_wp2
        gi_region_with_o (refine ⟨trivial, ?_⟩; refine (CallsIn.inRound l (callsIn_wide.2 (c155 _ _))).mono ?_; rintro e w' ⟨rfl, rfl⟩)
        all_goals gi_wp2
        all_goals exact ⟨((KeepsOthers.setCell _ _ _).trans (KeepsOthers.drew _)).from _, ⟨rfl, pre, x, rfl, HP.out, HZ.out, World.cell?_setCell_same' _ _ _ (by rw [hcr]; rfl)⟩, (hB.setCell (p := ⟨w.heap.size + 1, 0, none⟩) (by show _ ≤ _ + 1; omega) _).drew⟩
    case done =>
      rintro D ys W hD rfl ⟨⟨hp, hcr, hfr, h5⟩, hB⟩ hK
      have HP := Lib.hid hp
      clear hp
      gi_wp2
      have hK' := (KeepsOthers.setCell W ⟨w.heap.size + 1, 0, none⟩ (.bool false)).same D _ hK rfl
      refine ⟨by simp, .inl ⟨_, _, rfl, run_takeDeferred hK', ?_⟩⟩
      have hc5 := cell_kept (World.cell?_setCell_same' W ⟨w.heap.size + 1, 0, none⟩ (.bool false) (by rw [hcr]; rfl)) (grownBy_putObj' _ D (.deferred none)) (fun r e => by cases e; exact ⟨_, hK', rfl⟩)
      refine ⟨.bool false, ?_, ?_, (hB.setCell (p := ⟨w.heap.size + 1, 0, none⟩) (by show _ ≤ _ + 1; omega) _).trans (belowK_b (w := w) (Nat.le_refl _) _ D _ _ (by omega) hK' rfl rfl)⟩
      · simp [results, Tryz.results142, go_sem, hc5]
      · have : nextS u o o.length t = 0 := nextS_zero u o o.length t fun i hi => HP.out (t + i, spd u o (t + i)) (by simp only [spF, List.mem_map, List.mem_range]; exact ⟨i, hi, rfl⟩)
        unfold isSta
        simp [this]
    case stop =>
      rintro D c pre W hD ⟨k, hk, rfl⟩ ⟨⟨rfl, ini, last, e1, e2, e3, hcr⟩, hB⟩ hK
      have E2 := Lib.hid e2
      have E3 := Lib.hid e3
      have E1 := Lib.hid e1
      clear e1 e2 e3
      gi_wp2
      refine ⟨by simp, .inl ⟨_, _, rfl, run_takeDeferred hK, ?_⟩⟩
      have hc5 := cell_kept hcr (grownBy_putObj' _ D (.deferred none)) (fun r e => by cases e; exact ⟨_, hK, rfl⟩)
      have e1 := E1.out
      obtain ⟨k', rfl⟩ : ∃ k', k = k' + 1 := by
        cases k with
        | zero => simp [spF] at e1
        | succ k' => exact ⟨k', rfl⟩
      rw [spF_succ] at e1
      obtain ⟨rfl, e5⟩ := List.append_inj' e1 rfl
      obtain rfl : (t + k', spd u o (t + k')) = last := by simpa using e5
      have hnx := nextS_at u o o.length t k' (by omega) (fun i hi => E2.out (t + i, spd u o (t + i)) (by simp only [spF, List.mem_map, List.mem_range]; exact ⟨i, hi, rfl⟩)) E3.out
      refine ⟨.bool (sgn (spd u o (t + k')) != sgn (spd u o (t - 1))), ?_, ?_, hB.trans (belowK_b (w := w) (Nat.le_refl _) W D _ _ (by omega) hK rfl rfl)⟩
      · simp [results, Tryz.results142, go_sem, hc5]
      · have h1 : spd u o (t - 1) ≠ 0 := fun h => HS.out (by rw [h]; rfl)
        have h2 := E3.out
        unfold isSta
        rw [hnx, decide_eq_true h1, decide_eq_true h2]
        simp only [Bool.true_and]
        by_cases hq : sgn (spd u o (t + k')) = sgn (spd u o (t - 1)) <;> simp [hq]
end Go.Proofs.YtncfgkhbenmpoaaGreatDoor
end

section
namespace Go.Proofs.YtncfgkhbenmpoaaGreatDoor
open Go Go.RowKit Go.Proofs
set_option linter.unusedVariables false
attribute [local go_sem] imax2 imin2

def staF (u : Int) (o : List Int) (f : Int) (k : Nat) : List Int := ((List.range k).map fun (i : Nat) => f + (i : Int)).filter (isSta u o)
theorem staF_succ (u : Int) (o : List Int) (f : Int) (k : Nat) : staF u o f (k + 1) = if isSta u o (f + k) = true then staF u o f k ++ [f + (k : Int)] else staF u o f k := by
  unfold staF
  rw [List.range_succ, List.map_append, List.filter_append]
  split <;> simp_all
theorem staF_le (u : Int) (o : List Int) (f : Int) (k : Nat) : (staF u o f k).length ≤ k := by
  unfold staF; exact Nat.le_trans (List.length_filter_le _ _) (by simp)

def StationsPost (u : Int) (o : List Int) (f : Int) (n : Nat) (w : World) (e : Ending) (w' : World) : Prop :=
  (∃ p c, e = .returned (.slice p (staF u o f n).length c) ∧ RdI w' p (staF u o f n)) ∧ Below w.heap.size w w'

set_option maxHeartbeats 1000000 in
set_option maxRecDepth 100000 in
theorem c105 (u : Int) (q : Option Addr) (cap : Nat) (o : List Int) (f z : Int) (w : World) (hx : RdI w q o) (hm : Mot u o) (hf : 0 ≤ f) (hz : z ≤ 2000) (hfz : f ≤ z) :
    Calls Tryz.prog 105 #[.agg #[.int .i64 u, .slice q o.length cap], .int .i64 f, .int .i64 z] w (StationsPost u o f (z - f + 1).toNat w) := by
  obtain ⟨w0, e0, HS, k0, k1, b0⟩ := box2 w (.int .i64 u) (.slice q o.length cap) 61
  have HX := Lib.hid (hx.below b0)
  have HM := Lib.hid hm
  have HB0 := Lib.hid b0
  obtain ⟨i0, hi0, hy0, hy1, hy2⟩ := info_parts info3
  obtain ⟨n, rfl⟩ : ∃ n : Nat, z = f + n := ⟨(z - f).toNat, by omega⟩
  have hn2 : (f + (n : Int) - f + 1).toNat = n + 1 := by omega
  rw [hn2]
  clear hx hm b0 hn2
  go_enter Tryz.func105, Tryz.ntmps105
  go_wp2
  clear e0
  go_loopw [7, 8] (fun v i wr => ∃ k : Nat, k ≤ n + 1 ∧ i = .int .i64 (f + k) ∧ wr.ownsRow w0.heap.size 3 1 v (staF u o f k).length (inV (staF u o f k)) ∧ Below w0.heap.size w0 wr) (fun _ i _ => (f + (n : Int) + 1 - intOf i).toNat)
  case atStart => exact ⟨0, by omega, by simp, World.ownsRow_nil _ _ _ _, Below.refl _ _⟩
  case round =>
    obtain ⟨k, hk, rfl, hown, hnx⟩ := hrel
    have HO := Lib.hid hown
    have HN := Lib.hid hnx
    by_cases hlt : k < n + 1
    · have r0 := (hnx.cell (lt_of_cellq k0)).trans k0
      have r1 := (hnx.cell (lt_of_cellq k1)).trans k1
      have HXr := Lib.hid (HX.out.below hnx)
      have hle := staF_le u o f k
      have h142 := c142 u q cap o (f + k) wr HXr.out HM.out (by omega)
      clear hown hnx
      rcases hs : isSta u o (f + k) with _ | _
      · have HSB := Lib.hid hs
        clear hs
        go_wp2_with fail
        refine h142.mono ?_
        rintro e w4 ⟨he, b4⟩
        rw [HSB.out] at he
        subst he
        have HO2 := Lib.hid (own_kept HO.out b4)
        have HN2 := Lib.hid (HN.out.trans (b4.mono HN.out.size))
        clear h142 b4
        go_wp2
        go_roundw
        case rel =>
          refine ⟨k + 1, by omega, by go_num, ?_, HN2.out⟩
          rw [staF_succ, if_neg (by rw [HSB.out]; simp)]
          exact HO2.out
        case measure => simp [intOf]; omega
      · have HSB := Lib.hid hs
        clear hs
        go_wp2_with fail
        refine h142.mono ?_
        rintro e w4 ⟨he, b4⟩
        rw [HSB.out] at he
        subst he
        have HO2 := Lib.hid (own_kept HO.out b4)
        have HN2 := Lib.hid (HN.out.trans (b4.mono HN.out.size))
        clear h142 b4
        go_wp2_with (at_builtin; refine wpList_append_own _ rfl _ _ 24 rfl w0.heap.size 3 i0 _ 1 8 Tryz.underlying24 hi0 hy0 hy1 hy2 rfl (by decide) _ _ _ rfl (HO2.out.alloc _) ⟨w4.heap.size, 0, none⟩ 1 1 [.int .i64 (f + (k : Int))] rfl rfl ?c1 ?c2 ?c3 ?c4 ?c5 ?_)
        case c1 => exact news_of _ _ _
        case c2 => intro x hx; simp at hx; subst hx; rfl
        case c3 => unfold maxLen; omega
        case c4 => omega
        case c5 => have := HN2.out.size; simp; omega
        intro v' w5 hown' hgrow _
        have hlt' := HO2.out.lt
        have HN' := Lib.hid (HN2.out.trans (((Below.refl w0.heap.size w4).alloc HN2.out.size _).grown hgrow (by have := HN2.out.size; simp; omega) (fun j hj => (hlt' j hj).1)))
        have HO' := Lib.hid hown'
        clear hown' hgrow hlt'
        go_wp2
        go_roundw
        case rel =>
          refine ⟨k + 1, by omega, by go_num, ?_, HN'.out⟩
          have := HO'.out
          rw [staF_succ, if_pos HSB.out, inV_append, List.length_append]
          exact this
        case measure => simp [intOf]; omega
    · obtain rfl : k = n + 1 := by omega
      go_wp2
      obtain ⟨pp, cc, rfl, hrd⟩ := rd_of_own hown
      go_ret
      exact ⟨⟨pp, cc, rfl, hrd⟩, HB0.out.trans (hnx.mono HB0.out.size)⟩
end Go.Proofs.YtncfgkhbenmpoaaGreatDoor
end

section
namespace Go.Proofs.YtncfgkhbenmpoaaGreatDoor
open Go Go.RowKit Go.Proofs
set_option linter.unusedVariables false
attribute [local go_sem] imax2 imin2

set_option maxHeartbeats 400000 in
set_option maxRecDepth 100000 in
theorem c47_ok (u : Int) (q : Option Addr) (cap : Nat) (o : List Int) (f z : Int) (w : World) (hx : RdI w q o) (hm : motB u o = true) (hf : inB f 0 2000 = true) (hz : inB z 0 2000 = true) (hfz : f ≤ z) :
    Calls Tryz.prog 47 #[.agg #[.int .i64 u, .slice q o.length cap], .int .i64 f, .int .i64 z] w fun e w' =>
      (∃ p c, e = .returned (.tuple #[.slice p (staF u o f (z - f + 1).toNat).length c, .int .i64 0]) ∧ RdI w' p (staF u o f (z - f + 1).toNat)) ∧ Below w.heap.size w w' := by
  have hmot := Lib.hid (motB_mot hm)
  obtain ⟨w0, e0, HS, k0, k1, b0⟩ := box2 w (.int .i64 u) (.slice q o.length cap) 61
  have HX := Lib.hid (hx.below b0)
  have HB0 := Lib.hid b0
  have h103 := c103 u q cap o w0 HX.out (by have := (motB_mot hm).l1; omega)
  rw [hm] at h103
  obtain ⟨hf1, hf2⟩ : 0 ≤ f ∧ f ≤ 2000 := by unfold inB at hf; simpa using hf
  obtain ⟨hz1, hz2⟩ : 0 ≤ z ∧ z ≤ 2000 := by unfold inB at hz; simpa using hz
  have HF := Lib.hid hf
  have HZ := Lib.hid hz
  clear hx hm hf hz b0
  go_enter Tryz.func47, Tryz.ntmps47
  go_wp2_with fail
  refine h103.mono ?_
  rintro e w1 ⟨rfl, b1⟩
  clear e0 h103
  have HB1 := Lib.hid b1
  go_wp2_with fail
  refine (c104 _ _).mono ?_
  rw [HF.out]
  rintro e w' ⟨rfl, rfl⟩
  go_wp2_with fail
  refine (c104 _ _).mono ?_
  rw [HZ.out]
  rintro e w' ⟨rfl, rfl⟩
  have j0 := (b1.cell (lt_of_cellq k0)).trans k0
  have j1 := (b1.cell (lt_of_cellq k1)).trans k1
  have HX1 := Lib.hid (HX.out.below b1)
  clear k0 k1 b1
  go_wp2_with fail
  refine (c105 u q cap o f z w1 HX1.out hmot.out hf1 hz2 hfz).mono ?_
  rintro e w2 ⟨⟨p, c, rfl, hrd⟩, b2⟩
  have HR := Lib.hid hrd
  have HB2 := Lib.hid b2
  clear hrd b2
  go_wp2
  go_ret2
  exact ⟨⟨p, c, rfl, HR.out⟩, HB0.out.trans ((HB1.out.trans (HB2.out.mono HB1.out.size)).mono HB0.out.size)⟩
end Go.Proofs.YtncfgkhbenmpoaaGreatDoor
end

section
namespace Go.Proofs.YtncfgkhbenmpoaaGreatDoor
open Go Go.RowKit Go.Proofs
set_option linter.unusedVariables false
attribute [local go_sem] imax2 imin2

structure Ret where
  many : Int
  long : Int
  far : Int
def retTo (u : Int) (o l : List Int) : Nat → Ret
  | 0 => ⟨0, 0, 0⟩
  | k + 1 => if spd u o (gi l k - 1) < 0 then retTo u o l k else ⟨(retTo u o l k).many + 1, max (retTo u o l k).long (gi l (k + 1) - gi l k), max (retTo u o l k).far (plc u o (gi l k) - plc u o (gi l (k + 1)))⟩
theorem retTo_range (u : Int) (o l : List Int) (hm : Mot u o) (h : ∀ j, j < l.length → 0 ≤ gi l j ∧ gi l j ≤ 2000) : ∀ k, k + 1 ≤ l.length ∨ k = 0 → 0 ≤ (retTo u o l k).many ∧ (retTo u o l k).many ≤ k ∧ 0 ≤ (retTo u o l k).long ∧ (retTo u o l k).long ≤ 2000 ∧ 0 ≤ (retTo u o l k).far ∧ (retTo u o l k).far ≤ 10000000 := by
  intro k
  induction k with
  | zero => intro _; simp [retTo]
  | succ k ih =>
    intro hk
    have hk' : k + 1 + 1 ≤ l.length := by omega
    have a := ih (by omega)
    have b := h k (by omega)
    have c := h (k + 1) (by omega)
    have d := plc_range u o (gi l k) hm (by omega)
    have e := plc_range u o (gi l (k + 1)) hm (by omega)
    simp only [retTo]
    split
    · omega
    · simp only; omega
theorem staF_range (u : Int) (o : List Int) (k : Nat) (hk : k ≤ 2001) : ∀ j, j < (staF u o 0 k).length → 0 ≤ gi (staF u o 0 k) j ∧ gi (staF u o 0 k) j ≤ 2000 := by
  intro j hj
  have h := gi_mem (staF u o 0 k) j hj
  unfold staF at h
  rw [List.mem_filter, List.mem_map] at h
  obtain ⟨⟨i, hi, e⟩, _⟩ := h
  have := List.mem_range.1 hi
  unfold staF
  omega

set_option maxHeartbeats 1000000 in
set_option maxRecDepth 100000 in
theorem c51_ok (u : Int) (q : Option Addr) (cap : Nat) (o : List Int) (n : Nat) (w : World) (hx : RdI w q o) (hm : motB u o = true) (hn : n ≤ 2000) :
    Calls Tryz.prog 51 #[.agg #[.int .i64 u, .slice q o.length cap], .int .i64 n] w fun e w' =>
      e = .returned (.tuple #[.int .i64 (retTo u o (staF u o 0 (n + 1)) ((staF u o 0 (n + 1)).length - 1)).many, .int .i64 (retTo u o (staF u o 0 (n + 1)) ((staF u o 0 (n + 1)).length - 1)).long,
        .int .i64 (retTo u o (staF u o 0 (n + 1)) ((staF u o 0 (n + 1)).length - 1)).far, .int .i64 0]) ∧ Below w.heap.size w w' := by
  have hmot := Lib.hid (motB_mot hm)
  obtain ⟨w0, e0, HS, k0, k1, b0⟩ := box2 w (.int .i64 u) (.slice q o.length cap) 61
  have HX := Lib.hid (hx.below b0)
  have HB0 := Lib.hid b0
  have h103 := c103 u q cap o w0 HX.out (by have := (motB_mot hm).l1; omega)
  rw [hm] at h103
  have HF := Lib.hid (inB_true (x := (n : Int)) (lo := 0) (hi := 2000) (by omega) (by omega))
  have hrange := Lib.hid (staF_range u o (n + 1) (by omega))
  have hret := Lib.hid (retTo_range u o (staF u o 0 (n + 1)) (motB_mot hm) hrange.out)
  have hlen := staF_le u o 0 (n + 1)
  clear hx hm b0
  go_enter Tryz.func51, Tryz.ntmps51
  go_wp2_with fail
  refine h103.mono ?_
  rintro e w1 ⟨rfl, b1⟩
  clear e0 h103
  have HB1 := Lib.hid b1
  go_wp2_with fail
  refine (c104 _ _).mono ?_
  rw [HF.out]
  rintro e w' ⟨rfl, rfl⟩
  have j0 := (b1.cell (lt_of_cellq k0)).trans k0
  have j1 := (b1.cell (lt_of_cellq k1)).trans k1
  have HX1 := Lib.hid (HX.out.below b1)
  clear k0 k1 b1
  go_wp2_with fail
  have h105 := c105 u q cap o 0 n w1 HX1.out hmot.out (by omega) (by omega) (by omega)
  rw [show ((n : Int) - 0 + 1).toNat = n + 1 by omega] at h105
  refine h105.mono ?_
  rintro e w2 ⟨⟨p, c, rfl, hrd⟩, b2⟩
  have HR := Lib.hid hrd
  have HB2 := Lib.hid b2
  have i0 := (b2.cell (lt_of_cellq j0)).trans j0
  have i1 := (b2.cell (lt_of_cellq j1)).trans j1
  have HX2 := Lib.hid (HX1.out.below b2)
  clear hrd b2 h105 j0 j1
  generalize hle : staF u o 0 (n + 1) = l at *
  have HLE := Lib.hid hle
  clear hle
  go_wp2
  go_loopw [8, 9, 10, 12] (fun a b c i wr => ∃ k : Nat, (k + 1 ≤ l.length ∨ k = 0) ∧ i = .int .i64 k ∧ a = .int .i64 (retTo u o l k).many ∧ b = .int .i64 (retTo u o l k).long ∧ c = .int .i64 (retTo u o l k).far ∧ Below w2.heap.size w2 wr) (fun _ _ _ i _ => l.length - (intOf i).toNat)
  case atStart => exact ⟨0, by omega, rfl, rfl, rfl, rfl, Below.refl _ _⟩
  case round =>
    obtain ⟨k, hk, rfl, rfl, rfl, rfl, hnx⟩ := hrel
    have g := hret.out k hk
    obtain ⟨g1, g2, g3, g4, g5, g6⟩ := g
    have HN := Lib.hid hnx
    by_cases hlt : k + 1 < l.length
    · obtain ⟨b, off, rfl, hc⟩ := (HR.out.below hnx).at (i := k) (by omega)
      have e1 := hc k (by omega)
      have e2 := hc (k + 1) (by omega)
      have m1 := hrange.out k (by omega)
      have m2 := hrange.out (k + 1) (by omega)
      have r0 := (hnx.cell (lt_of_cellq i0)).trans i0
      have r1 := (hnx.cell (lt_of_cellq i1)).trans i1
      have HXr := Lib.hid (HX2.out.below hnx)
      clear hc hnx
      go_upto_region 8 with (fail)
      refine wp_region_quiet_below (by kernel_rfl) (by kernel_rfl) ?_; (repeat (first | ((with_reducible refine wq_lda ag61 sz61 ?_ ?_ ?_ (fun _ hbq => bcells2 r0 r1 hbq) ?_); (focus rfl); (focus rfl); (focus rfl); go_frame) | ((with_reducible apply wq_ix Tryz.underlying24 sz3); (focus rfl); (focus rfl); (focus rfl); (focus omega); (try simp only [Nat.mul_one]); go_frame) | ((with_reducible apply wq_ix Tryz.underlying37 sz50); (focus rfl); (focus rfl); (focus rfl); (focus omega); (try simp only [Nat.mul_one]); go_frame) | ((with_reducible apply wq_ix Tryz.underlying35 sz47); (focus rfl); (focus rfl); (focus rfl); (focus omega); (try simp only [Nat.mul_one]); go_frame) | ((with_reducible apply wq_ix Tryz.underlying90 sz24); (focus rfl); (focus rfl); (focus rfl); (focus omega); (try simp only [Nat.mul_one]); go_frame) | ((with_reducible apply wq_ld ag3); (focus rfl); (focus rfl); (focus (intro _ hbq; first | exact (hbq.cell (lt_of_cellq e1)).trans e1)); go_frame) | ((with_reducible apply wq_ld ag24); (focus rfl); (focus rfl); (focus (intro _ hbq; first | exact (hbq.cell (lt_of_cellq e1)).trans e1)); go_frame) | ((with_reducible apply wq_ld ag37); (focus rfl); (focus rfl); (focus (intro _ hbq; first | exact (hbq.cell (lt_of_cellq e1)).trans e1)); go_frame) | ((with_reducible apply wq_ld ag90); (focus rfl); (focus rfl); (focus (intro _ hbq; first | exact (hbq.cell (lt_of_cellq e1)).trans e1)); go_frame) | ((with_reducible apply wq_ld ag35); (focus rfl); (focus rfl); (focus (intro _ hbq; first | exact (hbq.cell (lt_of_cellq e1)).trans e1)); go_frame) | ((with_reducible apply wq_add); (focus rfl); (focus rfl); (focus rfl); (focus omega); (focus omega); go_frame) | ((with_reducible apply wq_sub); (focus rfl); (focus rfl); (focus rfl); (focus omega); (focus omega); go_frame) | ((with_reducible apply wq_mul); (focus rfl); (focus rfl); (focus rfl); (focus omega); (focus omega); go_frame) | ((with_reducible apply wq_rem); (focus rfl); (focus rfl); (focus rfl); (focus omega); (focus omega); go_frame) | ((with_reducible apply wq_eql); (focus rfl); (focus rfl); (focus rfl); go_frame) | ((with_reducible apply wq_neq); (focus rfl); (focus rfl); (focus rfl); go_frame) | ((with_reducible apply wq_lss); (focus rfl); (focus rfl); (focus rfl); go_frame) | ((with_reducible apply wq_leq); (focus rfl); (focus rfl); (focus rfl); go_frame) | ((with_reducible apply wq_gtr); (focus rfl); (focus rfl); (focus rfl); go_frame) | ((with_reducible apply wq_geq); (focus rfl); (focus rfl); (focus rfl); go_frame) | ((with_reducible apply wq_max2); (focus rfl); (focus rfl); (focus rfl); go_frame) | ((with_reducible apply wq_min2); (focus rfl); (focus rfl); (focus rfl); go_frame) | ((with_reducible apply wq_max3); (focus rfl); (focus rfl); (focus rfl); (focus rfl); go_frame) | ((with_reducible apply wq_min3); (focus rfl); (focus rfl); (focus rfl); (focus rfl); go_frame) | ((with_reducible apply wq_neq50); (focus rfl); (focus rfl); (focus rfl); go_frame) | go_big_quiet_step ((intro hbq; exact calls_below hbq (c107 u q cap o _ _ (HXr.out.below hbq) hmot.out ⟨by omega, by omega⟩))))); refine wpQuiet_nil ?_; intro wq hbq
      have HNq := Lib.hid (HN.out.trans (hbq.mono HN.out.size))
      have f1 := (hbq.cell (lt_of_cellq e1)).trans e1
      have f2 := (hbq.cell (lt_of_cellq e2)).trans e2
      have s0 := (hbq.cell (lt_of_cellq r0)).trans r0
      have s1 := (hbq.cell (lt_of_cellq r1)).trans r1
      have HXq := Lib.hid (HXr.out.below hbq)
      clear hbq e1 e2 r0 r1
      by_cases hsp : spd u o (gi l k - 1) < 0
      · have HST := Lib.hid (show retTo u o l (k + 1) = retTo u o l k by simp only [retTo, if_pos hsp])
        go_wp2
        go_roundw
        case rel => exact ⟨k + 1, by omega, by go_num, by rw [HST.out], by rw [HST.out], by rw [HST.out], HNq.out⟩
        case measure => simp [intOf]; omega
      · have HST := Lib.hid (show retTo u o l (k + 1) = ⟨(retTo u o l k).many + 1, max (retTo u o l k).long (gi l (k + 1) - gi l k), max (retTo u o l k).far (plc u o (gi l k) - plc u o (gi l (k + 1)))⟩ by simp only [retTo, if_neg hsp])
        have p1 := plc_range u o (gi l k) hmot.out (by omega)
        have p2 := plc_range u o (gi l (k + 1)) hmot.out (by omega)
        have hk1 : (k : Int) + 1 = ((k + 1 : Nat) : Int) := by omega
        go_upto_region 10 with (fail)
        refine wp_region_quiet_below (by kernel_rfl) (by kernel_rfl) ?_; (repeat (first | ((with_reducible refine wq_lda ag61 sz61 ?_ ?_ ?_ (fun _ hbq => bcells2 s0 s1 hbq) ?_); (focus rfl); (focus rfl); (focus rfl); go_frame) | (rw [hk1]) | ((with_reducible apply wq_ix Tryz.underlying24 sz3); (focus rfl); (focus rfl); (focus rfl); (focus omega); (try simp only [Nat.mul_one]); go_frame) | ((with_reducible apply wq_ix Tryz.underlying37 sz50); (focus rfl); (focus rfl); (focus rfl); (focus omega); (try simp only [Nat.mul_one]); go_frame) | ((with_reducible apply wq_ix Tryz.underlying35 sz47); (focus rfl); (focus rfl); (focus rfl); (focus omega); (try simp only [Nat.mul_one]); go_frame) | ((with_reducible apply wq_ix Tryz.underlying90 sz24); (focus rfl); (focus rfl); (focus rfl); (focus omega); (try simp only [Nat.mul_one]); go_frame) | ((with_reducible apply wq_ld ag3); (focus rfl); (focus rfl); (focus (intro _ hbq; first | exact (hbq.cell (lt_of_cellq f1)).trans f1 | exact (hbq.cell (lt_of_cellq f2)).trans f2)); go_frame) | ((with_reducible apply wq_ld ag24); (focus rfl); (focus rfl); (focus (intro _ hbq; first | exact (hbq.cell (lt_of_cellq f1)).trans f1 | exact (hbq.cell (lt_of_cellq f2)).trans f2)); go_frame) | ((with_reducible apply wq_ld ag37); (focus rfl); (focus rfl); (focus (intro _ hbq; first | exact (hbq.cell (lt_of_cellq f1)).trans f1 | exact (hbq.cell (lt_of_cellq f2)).trans f2)); go_frame) | ((with_reducible apply wq_ld ag90); (focus rfl); (focus rfl); (focus (intro _ hbq; first | exact (hbq.cell (lt_of_cellq f1)).trans f1 | exact (hbq.cell (lt_of_cellq f2)).trans f2)); go_frame) | ((with_reducible apply wq_ld ag35); (focus rfl); (focus rfl); (focus (intro _ hbq; first | exact (hbq.cell (lt_of_cellq f1)).trans f1 | exact (hbq.cell (lt_of_cellq f2)).trans f2)); go_frame) | ((with_reducible apply wq_add); (focus rfl); (focus rfl); (focus rfl); (focus omega); (focus omega); go_frame) | ((with_reducible apply wq_sub); (focus rfl); (focus rfl); (focus rfl); (focus omega); (focus omega); go_frame) | ((with_reducible apply wq_mul); (focus rfl); (focus rfl); (focus rfl); (focus omega); (focus omega); go_frame) | ((with_reducible apply wq_rem); (focus rfl); (focus rfl); (focus rfl); (focus omega); (focus omega); go_frame) | ((with_reducible apply wq_eql); (focus rfl); (focus rfl); (focus rfl); go_frame) | ((with_reducible apply wq_neq); (focus rfl); (focus rfl); (focus rfl); go_frame) | ((with_reducible apply wq_lss); (focus rfl); (focus rfl); (focus rfl); go_frame) | ((with_reducible apply wq_leq); (focus rfl); (focus rfl); (focus rfl); go_frame) | ((with_reducible apply wq_gtr); (focus rfl); (focus rfl); (focus rfl); go_frame) | ((with_reducible apply wq_geq); (focus rfl); (focus rfl); (focus rfl); go_frame) | ((with_reducible apply wq_max2); (focus rfl); (focus rfl); (focus rfl); go_frame) | ((with_reducible apply wq_min2); (focus rfl); (focus rfl); (focus rfl); go_frame) | ((with_reducible apply wq_max3); (focus rfl); (focus rfl); (focus rfl); (focus rfl); go_frame) | ((with_reducible apply wq_min3); (focus rfl); (focus rfl); (focus rfl); (focus rfl); go_frame) | ((with_reducible apply wq_neq50); (focus rfl); (focus rfl); (focus rfl); go_frame) | go_big_quiet_step ((intro hbq; exact calls_below hbq (c108i u q cap o _ _ (HXq.out.below hbq) hmot.out ⟨by omega, by omega⟩))))); refine wpQuiet_nil ?_; intro wq hbq
        clear hk1
        go_wp2
        go_roundw
        case rel => exact ⟨k + 1, by omega, by go_num, by rw [HST.out], by rw [HST.out], by rw [HST.out], HNq.out.trans (hbq.mono HNq.out.size)⟩
        case measure => simp [intOf]; omega
    · have hke : k = l.length - 1 := by omega
      have HKE := Lib.hid hke
      clear hke
      go_wp2
      (try simp only [Exit.inBlock, Exit.then])
      refine bodyPost_ret (v := .tuple #[.int .i64 (retTo u o l k).many, .int .i64 (retTo u o l k).long, .int .i64 (retTo u o l k).far, .int .i64 0]) ?_ rfl ⟨?_, ?_⟩
      · simp [results, Tryz.results51, go_sem]
      · rw [HLE.out, ← HKE.out]
      · exact HB0.out.trans ((HB1.out.trans ((HB2.out.trans (hnx.mono HB2.out.size)).mono HB1.out.size)).mono HB0.out.size)
end Go.Proofs.YtncfgkhbenmpoaaGreatDoor
end

section
namespace Go.Proofs.YtncfgkhbenmpoaaGreatDoor
open Go Go.RowKit Go.Proofs
set_option linter.unusedVariables false
attribute [local go_sem] imax2 imin2

theorem c129 (a b : Int) (w : World) : Calls Tryz.prog 129 #[.int .i64 a, .int .i64 b] w fun e w' => e = .returned (.int .i64 (cost a b)) ∧ w = w' := by
  by_cases h : a = b
  · have h' : (a == b) = true := by simp [h]
    have HC := Lib.hid (show cost a b = 0 by simp [cost, h])
    clear h
    go_enter Tryz.func129, Tryz.ntmps129
    go_wp2
    go_ret
    exact ⟨by rw [HC.out]; rfl, rfl⟩
  · have h' : (a == b) = false := by simp [h]
    have HC := Lib.hid (show cost a b = 1 by simp [cost, h])
    clear h
    go_enter Tryz.func129, Tryz.ntmps129
    go_wp2
    go_ret
    exact ⟨by rw [HC.out]; rfl, rfl⟩

/-- a struct of three cells that is boxed -/
theorem box3 (w : World) (a b c : Value) (t : TypeId) : ∃ w0, w.alloc (.cells #[a, b, c] t) = w0 ∧ Hid (w0.heap.size = w.heap.size + 1) ∧
    w0.cell? ⟨w.heap.size, 0, none⟩ = some a ∧ w0.cell? ⟨w.heap.size, 1, none⟩ = some b ∧ w0.cell? ⟨w.heap.size, 2, none⟩ = some c ∧ Below w.heap.size w w0 :=
  ⟨_, rfl, Lib.hid (by simp), by rw [at_new]; rfl, by rw [at_new]; rfl, by rw [at_new]; rfl, below_alloc1 _ _⟩

/-- a gauge of so many steps, as defined -/
def gauB (n s h o : Int) : Bool := inB s 0 (n - 1) && inB h 0 30 && inB o 0 5
theorem c92 (pb : Nat) (n s h o : Int) (w : World) (hp : w.cell? ⟨pb, 0, none⟩ = some (.int .i64 n)) (hn : -1000000 ≤ n ∧ n ≤ 1000000) :
    Calls Tryz.prog 92 #[.agg #[.int .i64 s, .int .i64 h, .int .i64 o], .pointer (some ⟨pb, 0, none⟩)] w fun e w' => e = .returned (.bool (!gauB n s h o)) ∧ Below w.heap.size w w' := by
  obtain ⟨w0, e0, HS, k0, k1, k2, b0⟩ := box3 w (.int .i64 s) (.int .i64 h) (.int .i64 o) 47
  have p0 := (b0.cell (lt_of_cellq hp)).trans hp
  have HB0 := Lib.hid b0
  have h90 := c90 s 0 (n - 1) w0
  have h93 := c93 h w0
  have h90' := c90 o 0 5 w0
  clear hp b0
  rcases h1 : inB s 0 (n - 1) with _ | _
  · rw [h1] at h90
    have H1 := Lib.hid h1
    clear h1
    go_enter Tryz.func92, Tryz.ntmps92
    go_wp2_with fail
    refine h90.mono ?_
    rintro e w' ⟨rfl, rfl⟩
    clear e0
    go_wp2
    go_ret
    exact ⟨by unfold gauB; rw [H1.out]; rfl, HB0.out⟩
  rw [h1] at h90
  have H1 := Lib.hid h1
  clear h1
  rcases h2 : inB h 0 30 with _ | _
  · rw [h2] at h93
    have H2 := Lib.hid h2
    clear h2
    go_enter Tryz.func92, Tryz.ntmps92
    go_wp2_with fail
    refine h90.mono ?_
    rintro e w' ⟨rfl, rfl⟩
    clear e0
    go_wp2_with fail
    refine h93.mono ?_
    rintro e w' ⟨rfl, rfl⟩
    go_wp2
    go_ret
    exact ⟨by unfold gauB; rw [H1.out, H2.out]; rfl, HB0.out⟩
  rw [h2] at h93
  have H2 := Lib.hid h2
  clear h2
  go_enter Tryz.func92, Tryz.ntmps92
  go_wp2_with fail
  refine h90.mono ?_
  rintro e w' ⟨rfl, rfl⟩
  clear e0
  go_wp2_with fail
  refine h93.mono ?_
  rintro e w' ⟨rfl, rfl⟩
  go_wp2_with fail
  refine h90'.mono ?_
  rintro e w' ⟨rfl, rfl⟩
  go_wp2
  go_ret
  exact ⟨by unfold gauB; rw [H1.out, H2.out]; simp, HB0.out⟩
end Go.Proofs.YtncfgkhbenmpoaaGreatDoor
end

section
namespace Go.Proofs.YtncfgkhbenmpoaaGreatDoor
open Go Go.RowKit Go.Proofs
set_option linter.unusedVariables false
attribute [local go_sem] imax2 imin2

/-- a gauge: a step, a height, how far off -/
structure Gau where
  step : Int
  height : Int
  off : Int
def gg (gs : List Gau) (i : Nat) : Gau := gs.getD i ⟨0, 0, 0⟩
def RdG (w : World) (p : Option Addr) (gs : List Gau) : Prop :=
  gs = [] ∨ ∃ b off, p = some ⟨b, off, none⟩ ∧ ∀ i, i < gs.length → w.cell? ⟨b, off + i * 3, none⟩ = some (.int .i64 (gg gs i).step) ∧ w.cell? ⟨b, off + i * 3 + 1, none⟩ = some (.int .i64 (gg gs i).height) ∧ w.cell? ⟨b, off + i * 3 + 2, none⟩ = some (.int .i64 (gg gs i).off)
theorem RdG.at {w : World} {p : Option Addr} {gs : List Gau} (h : RdG w p gs) {i : Nat} (hi : i < gs.length) :
    ∃ b off, p = some ⟨b, off, none⟩ ∧ ∀ i, i < gs.length → w.cell? ⟨b, off + i * 3, none⟩ = some (.int .i64 (gg gs i).step) ∧ w.cell? ⟨b, off + i * 3 + 1, none⟩ = some (.int .i64 (gg gs i).height) ∧ w.cell? ⟨b, off + i * 3 + 2, none⟩ = some (.int .i64 (gg gs i).off) := by
  rcases h with h | h
  · subst h; simp at hi
  · exact h
theorem RdG.below {w w' : World} {p : Option Addr} {gs : List Gau} (h : RdG w p gs) (hb : Below w.heap.size w w') : RdG w' p gs := by
  rcases h with h | ⟨b, off, rfl, hc⟩
  · exact .inl h
  · refine .inr ⟨b, off, rfl, fun i hi => ?_⟩
    obtain ⟨h1, h2, h3⟩ := hc i hi
    exact ⟨(hb.cell (lt_of_cellq h1)).trans h1, (hb.cell (lt_of_cellq h2)).trans h2, (hb.cell (lt_of_cellq h3)).trans h3⟩

def gaB (n : Int) (g : Gau) : Bool := gauB n g.step g.height g.off
def BadG (n : Int) (gs : List Gau) (r : Int) : Prop := (r = -1 ∧ ∀ j, j < gs.length → gaB n (gg gs j) = true) ∨ (0 ≤ r ∧ ∃ j, j < gs.length ∧ gaB n (gg gs j) = false)
def BadGPost (n : Int) (gs : List Gau) (w : World) (e : Ending) (w' : World) : Prop := ∃ r : Int, BadG n gs r ∧ e = .returned (.int .i64 r) ∧ Below w.heap.size w w'

set_option maxHeartbeats 400000 in
set_option maxRecDepth 100000 in
theorem c133 (p : Option Addr) (cap : Nat) (gs : List Gau) (pb : Nat) (n : Int) (w : World) (hx : RdG w p gs) (hl : gs.length ≤ 1000000) (hp : w.cell? ⟨pb, 0, none⟩ = some (.int .i64 n)) (hn : -1000000 ≤ n ∧ n ≤ 1000000) :
    Calls Tryz.prog 133 #[.slice p gs.length cap, .func (.func 92) #[] #[.pointer (some ⟨pb, 0, none⟩)]] w (BadGPost n gs w) := by
  have HX := Lib.hid hx
  have HP := Lib.hid hp
  clear hx hp
  go_enter Tryz.func133, Tryz.ntmps133
  go_wp2
  go_loopw [8] (fun i wr => ∃ k : Nat, k ≤ gs.length ∧ i = .int .i64 k ∧ Hid (∀ j, j < k → gaB n (gg gs j) = true) ∧ Below w.heap.size w wr) (fun i _ => gs.length - (intOf i).toNat)
  case atStart => exact ⟨0, by omega, rfl, Lib.hid (by intro j hj; omega), Below.refl _ _⟩
  case round =>
    obtain ⟨k, hk, rfl, HH, hnx⟩ := hrel
    have HN := Lib.hid hnx
    by_cases hlt : k < gs.length
    · obtain ⟨b, off, rfl, hc⟩ := (HX.out.below hnx).at hlt
      obtain ⟨e1, e2, e3⟩ := hc k hlt
      have h92 := c92 pb n (gg gs k).step (gg gs k).height (gg gs k).off wr ((hnx.cell (lt_of_cellq HP.out)).trans HP.out) hn
      clear hc hnx
      rcases hb : gaB n (gg gs k) with _ | _
      · have HB := Lib.hid hb
        unfold gaB at hb
        rw [hb] at h92
        clear hb
        go_wp2_with fail
        refine h92.mono ?_
        rintro e w4 ⟨rfl, b4⟩
        have HN2 := Lib.hid (HN.out.trans (b4.mono HN.out.size))
        clear h92 b4
        go_wp2
        go_ret
        exact ⟨k, .inr ⟨by omega, k, hlt, HB.out⟩, rfl, HN2.out⟩
      · have HB := Lib.hid hb
        unfold gaB at hb
        rw [hb] at h92
        clear hb
        go_wp2_with fail
        refine h92.mono ?_
        rintro e w4 ⟨rfl, b4⟩
        have HN2 := Lib.hid (HN.out.trans (b4.mono HN.out.size))
        clear h92 b4
        go_wp2
        go_roundw
        case rel =>
          refine ⟨k + 1, by omega, by go_num, Lib.hid fun j hj => ?_, HN2.out⟩
          rcases Nat.lt_or_ge j k with h | h
          · exact HH.out j h
          · obtain rfl : j = k := by omega
            exact HB.out
        case measure => simp [intOf]; omega
    · obtain rfl : k = gs.length := by omega
      go_wp2
      go_ret
      exact ⟨-1, .inl ⟨rfl, HH.out⟩, rfl, HN.out⟩
end Go.Proofs.YtncfgkhbenmpoaaGreatDoor
end

section
namespace Go.Proofs.YtncfgkhbenmpoaaGreatDoor
open Go Go.RowKit Go.Proofs
set_option linter.unusedVariables false
attribute [local go_sem] imax2 imin2

def gausB (n : Int) (gs : List Gau) : Bool := gs.all (gaB n)
theorem gausB_true {n : Int} {gs : List Gau} (h : ∀ j, j < gs.length → gaB n (gg gs j) = true) : gausB n gs = true := by
  unfold gausB
  rw [List.all_eq_true]
  intro x hx
  obtain ⟨j, hj, rfl⟩ := List.mem_iff_getElem.1 hx
  have := h j hj
  unfold gg at this
  simpa [hj] using this
theorem gausB_false {n : Int} {gs : List Gau} {j : Nat} (hj : j < gs.length) (h : gaB n (gg gs j) = false) : gausB n gs = false := by
  unfold gausB
  rw [List.all_eq_false]
  refine ⟨gs[j], List.getElem_mem hj, ?_⟩
  unfold gg at h
  simp [hj] at h
  simp [h]
theorem c91 (p : Option Addr) (cap : Nat) (gs : List Gau) (pb : Nat) (n : Int) (w : World) (hx : RdG w p gs) (hl : gs.length ≤ 1000000) (hp : w.cell? ⟨pb, 0, none⟩ = some (.int .i64 n)) (hn : -1000000 ≤ n ∧ n ≤ 1000000) :
    Calls Tryz.prog 91 #[.slice p gs.length cap, .func (.func 92) #[] #[.pointer (some ⟨pb, 0, none⟩)]] w fun e w' => e = .returned (.bool (!gausB n gs)) ∧ Below w.heap.size w w' := by
  have h133 := c133 p cap gs pb n w hx hl hp hn
  clear hx hp
  go_enter Tryz.func91, Tryz.ntmps91
  go_wp2_with fail
  refine h133.mono ?_
  rintro e w' ⟨r, hr, rfl, hb⟩
  have HB := Lib.hid hb
  clear h133 hb
  rcases hr with ⟨rfl, hh⟩ | ⟨h0, j, hj, hb⟩
  · have HG := Lib.hid (gausB_true hh)
    clear hh
    go_wp2
    go_ret
    exact ⟨by rw [HG.out]; rfl, HB.out⟩
  · have HG := Lib.hid (gausB_false hj hb)
    clear hb
    go_wp2
    go_ret
    exact ⟨by rw [HG.out]; simp, HB.out⟩
end Go.Proofs.YtncfgkhbenmpoaaGreatDoor
end

section
namespace Go.Proofs.YtncfgkhbenmpoaaGreatDoor
open Go Go.RowKit Go.Proofs
set_option linter.unusedVariables false
attribute [local go_sem] imax2 imin2

theorem eqn24 (a : Option Addr) (l c : Nat) (w : World) : (binOp .eql 24 (.slice a l c) (.slice none 0 0)).run Tryz.prog w = .ok (.bool a.isNone) w := run_eql_slice_nil w 24 3 a l c Tryz.underlying24
attribute [local go_sem] eqn24
set_option maxRecDepth 100000 in
theorem c131_nil (w : World) : Calls Tryz.prog 131 #[.slice none 0 0] w fun e w' => e = .returned (.slice none 0 0) ∧ w = w' := by
  go_enter Tryz.func131, Tryz.ntmps131
  go_wp2
  go_ret
  exact ⟨rfl, rfl⟩

def ClonePost (xs : List Int) (w : World) (e : Ending) (w' : World) : Prop := ∃ v, e = .returned v ∧ w'.ownsRow w.heap.size 3 1 v xs.length (inV xs) ∧ Below w.heap.size w w'
set_option maxHeartbeats 400000 in
set_option maxRecDepth 100000 in
theorem c131 (b off cap : Nat) (xs : List Int) (w : World) (hx : RdI w (some ⟨b, off, none⟩) xs) (hl : xs.length ≤ 1000000) :
    Calls Tryz.prog 131 #[.slice (some ⟨b, off, none⟩) xs.length cap] w (ClonePost xs w) := by
  have HX := Lib.hid hx
  clear hx
  go_enter Tryz.func131, Tryz.ntmps131
  obtain ⟨i0, hi0, hz0, hz1, hz2⟩ := info_parts info3
  have hown : (w.alloc (.cells #[] 3)).ownsRow w.heap.size 3 1 (.slice (some ⟨w.heap.size, 0, none⟩) 0 0) 0 [] := World.ownsRow_made w #[] 0 (Nat.le_refl _) (by unfold maxLen; omega) (by simp)
  have hnews : ∀ j v, (inV xs)[j]? = some v → (w.alloc (.cells #[] 3)).cell? ((⟨b, off, none⟩ : Addr).add j) = some v := by
    intro j v hj
    have hj' : j < xs.length := by
      have := (List.getElem?_eq_some_iff.1 hj).1
      simpa [inV] using this
    obtain ⟨b', off', e, hc⟩ := HX.out.at hj'
    cases e
    have h1 := hc j hj'
    rw [inV_get xs j hj'] at hj
    cases hj
    have e : (⟨b, off, none⟩ : Addr).add j = ⟨b, off + j, none⟩ := by unfold Addr.add; split <;> simp_all
    rw [e]
    exact ((below_alloc1 w _).cell (lt_of_cellq h1)).trans h1
  have HO := Lib.hid hown
  have HNW := Lib.hid hnews
  clear hown hnews
  go_wp2_with (at_builtin; refine wpList_append_own _ rfl _ _ 24 rfl w.heap.size 3 i0 _ 1 8 Tryz.underlying24 hi0 hz0 hz1 hz2 rfl (by decide) _ 0 [] rfl HO.out ⟨b, off, none⟩ xs.length cap (inV xs) rfl ?c0 HNW.out ?c2 ?c3 ?c4 ?c5 ?_)
  case c0 => simp [inV]
  case c2 => intro u hu; simp [inV] at hu; obtain ⟨x, _, rfl⟩ := hu; rfl
  case c3 => unfold maxLen; omega
  case c4 => omega
  case c5 => simp
  intro v' w1 hown' hgrow _
  have HB := Lib.hid ((below_alloc1 w (.cells #[] 3)).grown hgrow (by simp) (fun k hk => by cases hk; exact Nat.le_refl _))
  have HR := Lib.hid hown'
  clear hown' hgrow
  go_wp2
  go_ret
  exact ⟨v', rfl, by have := HR.out; simpa using this, HB.out⟩
/-- a copy of whatever list -/
theorem c131_any (p : Option Addr) (cap : Nat) (xs : List Int) (w : World) (hx : RdI w p xs) (hl : xs.length ≤ 1000000) (hn : xs = [] → p = none ∧ cap = 0) :
    Calls Tryz.prog 131 #[.slice p xs.length cap] w (ClonePost xs w) := by
  cases xs with
  | nil =>
    obtain ⟨rfl, rfl⟩ := hn rfl
    refine (c131_nil w).mono ?_
    rintro e w' ⟨rfl, rfl⟩
    exact ⟨_, rfl, World.ownsRow_nil _ _ _ _, Below.refl _ _⟩
  | cons x xs =>
    obtain ⟨b, off, rfl, hc⟩ := hx.at (i := 0) (by simp)
    exact c131 b off cap (x :: xs) w hx hl
end Go.Proofs.YtncfgkhbenmpoaaGreatDoor
end
