/-
  The path from the motor to an arbor: the walk.
  The path from the motor to an arbor, as a sequence: contract.
  How far an arbor is from the motor: contract.
  A shop's piece that is as defined: contract.
  Truths, all arguments: contract.
  asked: a piece with its truths, or the error: contract, all arguments.
  Regions within a round of a loop over a function: what holds of a plain walk of such a region (no defer statement in it) holds there.
  The train of an arbor: contract.
  Two rows that grow side by side.
  What a train turns its hand by: contract (printed by uy.py).
  The train of an arbor, and what a train turns its hand by: contracts of the exported functions.
  By how much each arbor turns: contract.
  Repeat, no times; whether a sense lets a number of pairs: contracts.
  Whether some wheels can make a fraction: contract.
  Drawn regions whose last operations store into what the first ones have loaded: the walk, with a condition that holds ahead of the last operations alone.
  Append of whatever many, none too, out of any slice; pairs of numbers as cells.
-/
import Derived.Maps.AppendAt
import Derived.Deep.AppendLies
import Derived.Deep.Upon
import Derived.Deep.RegionLaw
import Derived.StillTailTactics
import Derived.OwnWalk
import Derived.Test.YtchclaipbahiiaaGreatFZT21
import Derived.Test.YtchclaipbahiiaaGreatFZT22
section
namespace Go.Proofs.YtchclaipbahiiaaGreat
open Go Go.RowKit Go.Proofs Go.Shelf
set_option linter.unusedVariables false
set_option linter.unusedSimpArgs false
attribute [local go_sem] Oper.semAt_some imax2 imin2
structure Sw (p : Option Addr) (L c bL bY bs l : Nat) (we W : World) : Prop where
  kr : W.heap[bL]? = some (.cells #[.slice p L c] 45 (0, 0))
  ky : W.heap[bY]? = some (.cells #[.func (.yield l) #[] #[]] 97 (0, 0))
  ks : W.heap[bs]? = some (.cells #[.func (.func 136) #[] #[.pointer (some ⟨bs, 0, none⟩), .pointer (some ⟨bL, 0, none⟩), .pointer (some ⟨bY, 0, none⟩)]] 97 (0, 0))
  below : Below we.heap.size we W
theorem Sw.kept {p : Option Addr} {L c bL bY bs l n0 kx : Nat} {we W W' : World} (h : Sw p L c bL bY bs l we W) (hs : Sk n0 kx bL bY bs we) (hk : KpP n0 kx W W') : Sw p L c bL bY bs l we W' :=
  ⟨hk.keeps h.kr hs.p (by decide), hk.keeps h.ky hs.y (by decide), hk.keeps h.ks hs.s (by decide), h.below.trans (hk.below hs.e (by have := hs.e; have := hs.k; omega))⟩
def natI (l : List Nat) : List Int := l.map fun (i : Nat) => (i : Int)
set_option maxHeartbeats 1600000 in
set_option maxRecDepth 100000 in
theorem s_zero (p : Option Addr) (L c bL bY bs l n0 kx : Nat) (J : List Int → World → Prop) (pre : List Int) (W : World) (hj : J pre W) :
    Calls Tryz.prog 136 #[.int .i64 0, .pointer (some ⟨bs, 0, none⟩), .pointer (some ⟨bL, 0, none⟩), .pointer (some ⟨bY, 0, none⟩)] W (PpPost n0 kx [] J pre W) := by
  have HJ := Lib.hid hj; clear hj
  go_enter Tryz.func136, Tryz.ntmps136
  go_wp2; go_ret; exact ⟨rfl, by rw [List.append_nil]; exact HJ.out, KpP.refl _ _ _⟩
set_option maxHeartbeats 1600000 in
set_option maxRecDepth 100000 in
theorem s_step (n : Nat) (hn : 2 ≤ n) (p : Option Addr) (c bL bY bs l n0 kx N : Nat) (ls : List (Int × Int × Int)) (we : World) (hRD : RdLk we p ls) (ht : LkOk ls) (hs : Sk n0 kx bL bY bs we)
    (J : List Int → World → Prop) (hJB : ∀ pre W W', J pre W → Below W.heap.size W W' → J pre W') (hY : YpOk n0 kx N (fun x => 0 ≤ x ∧ x < ls.length) l J)
    (d a : Nat) (pre : List Int) (W : World) (ha : a < ls.length) (hW : Sw p ls.length c bL bY bs l we W) (hn0 : n0 ≤ W.heap.size) (hj : J pre W) (hN : pre.length + (pathF ls (d + 1) (a + 1)).length ≤ N)
    (ih : ∀ (f : Nat) (W' : World), f ≤ a → Sw p ls.length c bL bY bs l we W' → n0 ≤ W'.heap.size → J pre W' → pre.length + (pathF ls d f).length ≤ N →
      Calls Tryz.prog 136 #[.int .i64 f, .pointer (some ⟨bs, 0, none⟩), .pointer (some ⟨bL, 0, none⟩), .pointer (some ⟨bY, 0, none⟩)] W' (PpPost n0 kx (natI (pathF ls d f)) J pre W')) :
    CallsIn Fence.wide n Tryz.prog 136 #[.int .i64 ((a : Int) + 1), .pointer (some ⟨bs, 0, none⟩), .pointer (some ⟨bL, 0, none⟩), .pointer (some ⟨bY, 0, none⟩)] W (PpPost n0 kx (natI (pathF ls (d + 1) (a + 1))) J pre W) := by
  obtain ⟨b, off, rfl, hc⟩ := (hRD.below hW.below).at ha; obtain ⟨d0, _, _⟩ := hc a ha; have hfr := ht.2 a ha; have HP := Lib.hid (pathF_succ ls d a); obtain ⟨f, hf⟩ : ∃ f : Nat, (gk ls a).1 = (f : Int) := ⟨(gk ls a).1.toNat, by omega⟩; rw [hf] at d0 hfr HP; rw [Int.toNat_natCast] at HP; have hla := ht.1; have s0 : W.cell? ⟨bs, 0, none⟩ = some (.func (.func 136) #[] #[.pointer (some ⟨bs, 0, none⟩), .pointer (some ⟨bL, 0, none⟩), .pointer (some ⟨bY, 0, none⟩)]) := by rw [cell_of_row _ _ _ _ _ _ hW.ks]; rfl
  have l0 : W.cell? ⟨bL, 0, none⟩ = some (.slice (some ⟨b, off, none⟩) ls.length c) := by rw [cell_of_row _ _ _ _ _ _ hW.kr]; rfl
  have y0 : W.cell? ⟨bY, 0, none⟩ = some (.func (.yield l) #[] #[]) := by rw [cell_of_row _ _ _ _ _ _ hW.ky]; rfl
  have hlen : (pathF ls (d + 1) (a + 1)).length = (pathF ls d f).length + 1 := by rw [HP.out, List.length_append]; rfl
  have HIH := Lib.hid (fun W' (bw : Below W.heap.size W W') => ih f W' (by omega) (hW.kept hs (KpP.of_below bw hn0)) (Nat.le_trans hn0 bw.size) (hJB _ _ _ hj bw) (by omega)); have HYY := Lib.hid hY; have HW := Lib.hid hW; have HS := Lib.hid hs; have HJB := Lib.hid hJB; have HN0 := Lib.hid hn0; have HKB := Lib.hid (fun W0 (hb : Below W.heap.size W W0) => (KpP.of_below hb hn0 : KpP n0 kx W W0)); have HLN := Lib.hid (show pre.length + (natI (pathF ls d f)).length < N by unfold natI; rw [List.length_map]; omega); have HPP := Lib.hid (show natI (pathF ls (d + 1) (a + 1)) = natI (pathF ls d f) ++ [(a : Int)] by rw [HP.out]; unfold natI; rw [List.map_append]; rfl); rw [HPP.out]; have hd1 : ((a : Int) + 1 == 0) = false := by rw [beq_eq_false_iff_ne]; omega
  have hws : IntKind.i64.wrap ((a : Int) + 1 - 1) = (a : Int) := by rw [show (a : Int) + 1 - 1 = (a : Int) by omega]; exact w64 _ (by omega) (by omega)
  have hwa : IntKind.i64.wrap (a : Int) = (a : Int) := w64 _ (by omega) (by omega); have haI : (a : Int) < (ls.length : Int) := by omega
  have hmx : Tryz.prog.follows .mixedOrders = true := by kernel_rfl
  clear hRD ht hs hJB hY hW hj hN ih hc hf hlen hfr; refine callsIn_of_wp Tryz.func136 rfl trivial ?_ rfl; simp only [Tryz.ntmps136, List.size_toArray, List.length_cons, List.length_nil, Nat.reduceAdd, Nat.reduceSub, Array.replicate_succ, Array.replicate_zero, List.push_toArray, List.append_toArray, List.nil_append, List.cons_append]
  gi_wp2_with fail
  gi_region_with_o (first
    | (refine ⟨trivial, fun _ => (by omega), ?_⟩; refine (callsIn_wide.2 (HIH.out _ (by first | exact Below.refl _ _ | exact (Below.refl _ _).drew | exact (Below.refl _ _).drew.drew))).mono ?_; rintro e W1 ⟨rfl, hj1, hk1⟩
       have HK1 := Lib.hid ((HKB.out _ (by first | exact Below.refl _ _ | exact (Below.refl _ _).drew | exact (Below.refl _ _).drew.drew)).trans hk1); have hw1 := HW.out.kept HS.out HK1.out; have y1 : W1.cell? ⟨bY, 0, none⟩ = some (.func (.yield l) #[] #[]) := by rw [cell_of_row _ _ _ _ _ _ hw1.ky]; rfl
       obtain ⟨fn, tmps, assign, body, hy, hR⟩ := HYY.out (n - 1) (pre ++ natI (pathF ls d f)) a W1 hj1 ⟨by omega, by omega⟩ (by rw [List.length_append]; exact HLN.out); clear hj1 hk1 hw1)
    | (refine ⟨fun _ => (by omega), ?_⟩; refine hR.mono ?_; rintro e W2 ⟨rfl, hj2, hk2⟩))
  all_goals
    have HJ2 := Lib.hid (show J (pre ++ (natI (pathF ls d f) ++ [(a : Int)])) W2 by rw [← List.append_assoc]; exact hj2); have HK2 := Lib.hid (HK1.out.trans hk2); clear hj2 hk2 hR hy y1
    gi_wp2
    go_ret
    first
      | exact ⟨rfl, HJ2.out, HK2.out⟩
      | exact ⟨rfl, HJB.out _ _ _ HJ2.out (Below.refl _ _).drew, HK2.out.trans (KpP.of_below (Below.refl _ _).drew (Nat.le_trans HN0.out HK2.out.1.size))⟩
theorem s_walk (p : Option Addr) (c bL bY bs l n0 kx N : Nat) (ls : List (Int × Int × Int)) (we : World) (hRD : RdLk we p ls) (ht : LkOk ls) (hs : Sk n0 kx bL bY bs we)
    (J : List Int → World → Prop) (hJB : ∀ pre W W', J pre W → Below W.heap.size W W' → J pre W') (hY : YpOk n0 kx N (fun x => 0 ≤ x ∧ x < ls.length) l J) :
    ∀ (d a : Nat) (pre : List Int) (W : World), a ≤ d → a ≤ ls.length → Sw p ls.length c bL bY bs l we W → n0 ≤ W.heap.size → J pre W → pre.length + (pathF ls d a).length ≤ N →
      Calls Tryz.prog 136 #[.int .i64 a, .pointer (some ⟨bs, 0, none⟩), .pointer (some ⟨bL, 0, none⟩), .pointer (some ⟨bY, 0, none⟩)] W (PpPost n0 kx (natI (pathF ls d a)) J pre W) := by
  intro d
  induction d with
  | zero =>
    intro a pre W h1 h2 hW hn0 hj hN; obtain rfl : a = 0 := by omega
    exact s_zero p ls.length c bL bY bs l n0 kx J pre W hj
  | succ d ih =>
    intro a pre W h1 h2 hW hn0 hj hN
    cases a with
    | zero => exact s_zero p ls.length c bL bY bs l n0 kx J pre W hj
    | succ a =>
      exact (callsIn_wide (n := 2)).1 (s_step 2 (by omega) p c bL bY bs l n0 kx N ls we hRD ht hs J hJB hY d a pre W (by omega) hW hn0 hj hN
        (fun f W' hf hW' hn' hj' hN' => ih f pre W' (by omega) (by omega) hW' hn' hj' hN'))
set_option maxHeartbeats 1600000 in
set_option maxRecDepth 100000 in
theorem path_seq (n : Nat) (hn : 2 ≤ n) (p : Option Addr) (c bL bA n0 kx a : Nat) (ls : List (Int × Int × Int)) (we w : World) (hRD : RdLk we p ls) (ht : LkOk ls) (ha : a ≤ ls.length) (hn0 : n0 ≤ w.heap.size)
    (hkr : w.heap[bL]? = some (.cells #[.slice p ls.length c] 45 (0, 0))) (hkn : w.cell? ⟨bA, 0, none⟩ = some (.int .i64 a)) (hbk : bL ≠ kx) (hkx : kx < n0) (hwe : we.heap.size ≤ kx) (hb : Below we.heap.size we w) :
    SeqMem Fence.wide n Tryz.prog 135 #[.pointer (some ⟨bL, 0, none⟩), .pointer (some ⟨bA, 0, none⟩)] (fun x : Int => #[.int .i64 x]) (KpP n0 kx) (fun x _ => 0 ≤ x ∧ x < ls.length) (fun xs => xs = natI (pathF ls ls.length a)) (natI (pathF ls ls.length a)).length w := by
  intro l J W hW hJ hY h0; have hJB : ∀ pre W1 W2, J pre W1 → Below W1.heap.size W1 W2 → J pre W2 := fun pre W1 W2 h b => hJ pre W1 W2 none h ⟨b.os, b.tape, b.output, b.size, fun i hi _ => b.block i hi⟩ (fun r e => by cases e)
  have hYY : YpOk n0 kx (natI (pathF ls ls.length a)).length (fun x => 0 ≤ x ∧ x < ls.length) l J := fun m pre x W1 h1 h2 h3 => YieldAt.anyDepth rfl m (hY pre x W1 h1 h2 h3)
  have hsz := hW.size; obtain ⟨w1, e1, HS1, y0, yf, b1⟩ := box1 W (.func (.yield l) #[] #[]) 97; have ky := alloc_new W (.cells #[.func (.yield l) #[] #[]] 97); rw [e1] at ky; obtain ⟨w2, e2, HS2, s0, sf, b2⟩ := box1 w1 .nilFunc 97; have ks := alloc_new w1 (.cells #[.nilFunc] 97); rw [e2] at ks; have fs : w2.frozen? ⟨w1.heap.size, 0, none⟩ = false := frozen_of_row _ _ _ _ _ ks; obtain ⟨F, hF⟩ : ∃ F : Value, Value.func (.func 136) #[] #[.pointer (some ⟨w1.heap.size, 0, none⟩), .pointer (some ⟨bL, 0, none⟩), .pointer (some ⟨W.heap.size, 0, none⟩)] = F := ⟨_, rfl⟩; obtain ⟨w3, s3⟩ : ∃ w3, w2.setCell ⟨w1.heap.size, 0, none⟩ F = w3 := ⟨_, rfl⟩; have ks3 : w3.heap[w1.heap.size]? = some (.cells #[F] 97 (0, 0)) := by rw [← s3, heap_setCell_same w2 w1.heap.size 0 _ _ _ ks]; rfl
  have b3 : Below w1.heap.size w1 w3 := by rw [← s3]; exact b2.setCell (Nat.le_refl _) _
  have bW : Below W.heap.size W w3 := b1.trans (b3.mono b1.size); have c3 : w3.cell? ⟨w1.heap.size, 0, none⟩ = some F := by rw [cell_of_row _ _ _ _ _ _ ks3]; rfl
  have n3 : w3.cell? ⟨bA, 0, none⟩ = some (.int .i64 a) := by
    have h1 := (hW.cell (lt_of_cellq hkn)).trans hkn; exact (bW.cell (lt_of_cellq h1)).trans h1
  have hk3 := (bW.block bL (by have := block_lt hkr; omega)).trans ((hW.block bL (block_lt hkr)).trans hkr); have hz1 := HS1.out; have hSx : Sw p ls.length c bL W.heap.size w1.heap.size l we w3 := ⟨hk3, (b3.block _ (block_lt ky)).trans ky, by rw [ks3, ← hF], hb.trans ((hW.mono hb.size).trans (bW.mono (by have := hb.size; omega)))⟩; have hSk : Sk n0 kx bL W.heap.size w1.heap.size we := ⟨hbk, by omega, by omega, hkx, hwe⟩; have hcl := s_walk p c bL W.heap.size w1.heap.size l n0 kx (natI (pathF ls ls.length a)).length ls we hRD ht hSk J hJB hYY ls.length a [] w3 ha ha hSx (by have := bW.size; omega) (hJB _ _ _ h0 bW) (by unfold natI; simp)
  have hin : ∀ x ∈ natI (pathF ls ls.length a), 0 ≤ x ∧ x < (ls.length : Int) := by
    intro x hx; unfold natI at hx; obtain ⟨i, hi, rfl⟩ := List.mem_map.1 hx; have := pathF_in ht ls.length a ha i hi; exact ⟨by omega, by omega⟩
  have HIN := Lib.hid hin; have hd1 : 1 ≤ n - 1 := by omega
  clear hSx hSk hk3 bW b3 ks3 ks ky hJB hYY hY hJ h0 hz1 b1 b2 hkr hb hRD hW hsz hwe hkx hbk hn0 hkn hin ha ht; rw [← hF] at s3 c3; subst hF; show CallsIn Fence.wide n Tryz.prog 135 #[.func (.yield l) #[] #[], .pointer (some ⟨bL, 0, none⟩), .pointer (some ⟨bA, 0, none⟩)] W _; refine callsIn_of_wp Tryz.func135 rfl trivial ?_ rfl; simp only [Tryz.ntmps135, List.size_toArray, List.length_cons, List.length_nil, Nat.reduceAdd, Nat.reduceSub, Array.replicate_succ, Array.replicate_zero, List.push_toArray, List.append_toArray, List.nil_append, List.cons_append]
  gi_wp2_with fail
  refine ⟨trivial, fun _ => (by omega), ?_⟩; refine (callsIn_wide.2 hcl).mono ?_; clear hcl; rintro e w4 ⟨rfl, hj4, hk4⟩; have H2 := Lib.hid hj4; clear hj4 hk4
  gi_wp2
  go_end0
  exact ⟨⟨_, rfl⟩, natI (pathF ls ls.length a), rfl, by have := H2.out; rw [List.nil_append] at this; exact this, HIN.out⟩
def farF (ls : List (Int × Int × Int)) (a : Nat) : Nat := (pathF ls ls.length a).length
set_option maxHeartbeats 1600000 in
set_option maxRecDepth 100000 in
theorem h_far (p : Option Addr) (c a : Nat) (ls : List (Int × Int × Int)) (w : World) (hx : RdLk w p ls) (ht : LkOk ls) (ha : a ≤ ls.length) :
    Calls Tryz.prog 96 #[.slice p ls.length c, .int .i64 a] w fun e w' => e = .returned (.int .i64 (farF ls a)) ∧ Below w.heap.size w w' := by
  refine (callsIn_wide (n := 6)).1 ?_; refine callsIn_of_wp_marks Tryz.func96 rfl trivial ?_ rfl; simp only [Tryz.ntmps96, List.size_toArray, List.length_cons, List.length_nil, Nat.reduceAdd, Nat.reduceSub, Array.replicate_succ, Array.replicate_zero, List.push_toArray, List.append_toArray, List.nil_append, List.cons_append]; obtain ⟨w3', e3', hz3, x0, f0, b3'⟩ := box1 w (.int .i64 0) 3; have kx' := alloc_new w (.cells #[.int .i64 0] 3); rw [e3'] at kx'; obtain ⟨w3, s3⟩ : ∃ w3, w3'.setCell ⟨w.heap.size, 0, none⟩ (.int .i64 0) = w3 := ⟨_, rfl⟩; have f0 := f0.out; have kx : w3.heap[w.heap.size]? = some (.cells #[.int .i64 0] 3 (0, 0)) := by rw [← s3, heap_setCell_same w3' w.heap.size 0 _ _ _ kx']; rfl
  have b3 : Below w.heap.size w w3 := by rw [← s3]; exact b3'.setCell (Nat.le_refl _) _
  have hz3' : w3.heap.size = w.heap.size + 1 := by rw [← s3]; simpa using hz3.out
  obtain ⟨w4, e4⟩ : ∃ w4, w3.alloc (.cells #[.slice p ls.length c] 45) = w4 := ⟨_, rfl⟩; have k4 := alloc_new w3 (.cells #[.slice p ls.length c] 45); have hz4 : w4.heap.size = w3.heap.size + 1 := by rw [← e4]; simp
  have b4 : Below w3.heap.size w3 w4 := by rw [← e4]; exact below_alloc1 _ _
  rw [e4] at k4; obtain ⟨w5, e5⟩ : ∃ w5, w4.alloc (.cells #[.int .i64 a] 3) = w5 := ⟨_, rfl⟩; have k5 := alloc_new w4 (.cells #[.int .i64 a] 3); have hz5 : w5.heap.size = w4.heap.size + 1 := by rw [← e5]; simp
  have b5 : Below w4.heap.size w4 w5 := by rw [← e5]; exact below_alloc1 _ _
  rw [e5] at k5; have q4 := (b5.block _ (block_lt k4)).trans k4; have b35 := b4.trans (b5.mono b4.size); have q3 := (b35.block _ (block_lt kx)).trans kx; have hB5 : Below w.heap.size w w5 := b3.trans (b35.mono b3.size); have c5 : w5.cell? ⟨w4.heap.size, 0, none⟩ = some (.int .i64 a) := by rw [cell_of_row _ _ _ _ _ _ k5]; rfl
  have hseq := path_seq 5 (by omega) p c w3.heap.size w4.heap.size w5.heap.size w.heap.size a ls w w5 hx ht ha (Nat.le_refl _) q4 c5 (by omega) (by omega) (Nat.le_refl _) hB5; have hpa := h_path p ls.length c a w3; rw [e4, e5, show w3.heap.size + 1 = w4.heap.size by omega] at hpa
  have hlen : (natI (pathF ls ls.length a)).length ≤ 5 := by
    unfold natI; rw [List.length_map]; have := pathF_len (ls := ls) ls.length a; have := ht.1; omega
  have HN := Lib.hid hlen; have HZ := Lib.hid (show w.heap.size < w5.heap.size by omega); have HF := Lib.hid (show (natI (pathF ls ls.length a)).length = farF ls a by unfold natI farF; rw [List.length_map]); clear hx ht ha b3 b4 b5 b35 kx k4 k5 q4 c5 hz3 hz3' hz4 hz5 e4 e5 hlen
  gi_wp2_with fail
  refine ⟨trivial, ?_⟩; refine (callsIn_wide.2 hpa).mono ?_; rintro e w' ⟨rfl, rfl⟩; clear hpa e3' s3 x0 f0 kx' b3'
  gi_wp2_with fail
  refine wpIn_rangeFunc_mem rfl (by omega) (gf := 135) (lb := #[.pointer (some ⟨w3.heap.size, 0, none⟩), .pointer (some ⟨w4.heap.size, 0, none⟩)]) rfl trivial (enters_of Tryz.func135 (by kernel_rfl) rfl) hseq (fun h k => h.trans k)
    (fun W l o o' hlz hlo ho _ => KpP.putObj hlz hlo ho) (fun x W l o o' hlo ho hm => hm) (Below.refl _ _) (fun _ => rfl)
    (fun pre W => W.heap[w.heap.size]? = some (.cells #[.int .i64 (pre.length : Int)] 3 (0, 0)) ∧ Below w.heap.size w W)
    (OwnFrom.and (fun s W W' row hs hg hr => (hg.block _ (block_lt hs) (fun e => by have := (hr _ e.symm).1; have := HZ.out; omega)).trans hs) (ownFrom_below (Nat.le_refl _) hB5.size)) ⟨q3, hB5⟩
    (fun x a' W => a' = { tmps := #[.slice p ls.length c, .int .i64 a, undef, undef, .int .i64 0, .pointer (some ⟨w.heap.size, 0, none⟩), .slice p ls.length c, .int .i64 a,
      .func (.func 135) #[] #[.pointer (some ⟨w3.heap.size, 0, none⟩), .pointer (some ⟨w4.heap.size, 0, none⟩)], .int .i64 x, undef, undef, undef], defers := [] }) (fun x a' s W W' row hs _ _ => hs) ?assign ?body ?done
  case assign =>
    intro l pre x W K hi hm hK; have hK' := hK _ W (KeepsFrom.refl _ _) (KpP.refl _ _ _) hi hm rfl; clear hK hi hm
    gi_wp2
    simp only [List.zip_toArray, List.zip_cons_cons, List.zip_nil_right]; exact hK'
  case body =>
    rintro l pre x a' W ⟨hi, hB⟩ hm rfl hlen; have y0 : W.cell? ⟨w.heap.size, 0, none⟩ = some (.int .i64 (pre.length : Int)) := by rw [cell_of_row _ _ _ _ _ _ hi]; rfl
    have yf : W.frozen? ⟨w.heap.size, 0, none⟩ = false := frozen_of_row _ _ _ _ _ hi; have hw : IntKind.i64.wrap ((pre.length : Int) + 1) = (pre.length : Int) + 1 := w64 _ (by have := HN.out; omega) (by have := HN.out; omega); have HI := Lib.hid hi; have HB := Lib.hid hB; clear hi hB hm hlen
    gi_wp2
    refine ⟨(KeepsOthers.setCell _ _ _).from _, KpP.setCell (KpP.refl _ _ _) _ _, ?_, HB.out.setCell (Nat.le_refl _) _⟩; rw [heap_setCell_same W w.heap.size 0 _ _ _ HI.out]
    simp
  case done =>
    rintro D xs W hD hS ⟨hi, hB⟩ hm hK; have y0 : W.cell? ⟨w.heap.size, 0, none⟩ = some (.int .i64 (xs.length : Int)) := by rw [cell_of_row _ _ _ _ _ _ hi]; rfl
    have HB := Lib.hid hB; have HS := Lib.hid hS; clear hi hB hS hm
    gi_wp2
    refine ⟨by simp, .inl ⟨_, _, rfl, run_takeDeferred hK, ?_⟩⟩; refine ⟨.int .i64 (xs.length : Int), ?_, by rw [HS.out, HF.out], HB.out.trans (belowK_b (w := w) (Nat.le_refl _) W D _ _ (by have := HZ.out; omega) hK rfl rfl)⟩; simp [results, Tryz.results96, go_sem]
structure PcGood (ls : List (Int × Int × Int)) (sp : List Int) : Prop where
  len : 1 ≤ ls.length ∧ ls.length ≤ 5
  spots : 1 ≤ sp.length ∧ sp.length ≤ 4
  frm : ∀ i : Nat, i < ls.length → 0 ≤ (gk ls i).1 ∧ (gk ls i).1 ≤ i
  one : ∀ i : Nat, i < ls.length → 4 ≤ (gk ls i).2.1 ∧ (gk ls i).2.1 ≤ 60
  two : ∀ i : Nat, i < ls.length → 4 ≤ (gk ls i).2.2 ∧ (gk ls i).2.2 ≤ 60
  far : ∀ i : Nat, i < ls.length → farF (ls.take i) (gk ls i).1.toNat ≤ 2
  at' : sp.all (fun x => inB x 1 ls.length) = true
theorem gk_take (ls : List (Int × Int × Int)) (i j : Nat) (h : j < i) : gk (ls.take i) j = gk ls j := by
  unfold gk; simp [List.getD_eq_getElem?_getD, List.getElem?_take, h]
theorem RdLk.take {w : World} {p : Option Addr} {ls : List (Int × Int × Int)} (h : RdLk w p ls) (i : Nat) : RdLk w p (ls.take i) := by
  rcases h with h | ⟨b, off, rfl, hc⟩
  · subst h; exact .inl (by simp)
  · refine .inr ⟨b, off, rfl, fun j hj => ?_⟩
    rw [List.length_take] at hj; rw [gk_take ls i j (by omega)]; exact hc j (by omega)
theorem LkOk.take {ls : List (Int × Int × Int)} (h : LkOk ls) (i : Nat) : LkOk (ls.take i) :=
  ⟨by rw [List.length_take]; have := h.1; omega, fun j hj => by rw [List.length_take] at hj; rw [gk_take ls i j (by omega)]; exact h.2 j (by omega)⟩
theorem h_farTo (p : Option Addr) (c i : Nat) (ls : List (Int × Int × Int)) (f : Nat) (w : World) (hx : RdLk w p ls) (ht : LkOk ls) (hi : i ≤ ls.length) (hf : f ≤ i) :
    Calls Tryz.prog 96 #[.slice p i c, .int .i64 f] w fun e w' => e = .returned (.int .i64 (farF (ls.take i) f)) ∧ Below w.heap.size w w' := by
  have hl : (ls.take i).length = i := by rw [List.length_take]; omega
  have h := h_far p c f (ls.take i) w (hx.take i) (ht.take i) (by omega); rw [hl] at h; exact h
set_option maxHeartbeats 1600000 in
set_option maxRecDepth 100000 in
theorem h_isPiece (p q : Option Addr) (c c' : Nat) (ls : List (Int × Int × Int)) (sp : List Int) (w : World) (hx : RdLk w p ls) (hq : RdI w q sp) (h : PcGood ls sp) (hcap : ls.length ≤ c) :
    Calls Tryz.prog 54 #[.agg #[.slice p ls.length c, .slice q sp.length c']] w fun e w' => e = .returned (.bool true) ∧ Below w.heap.size w w' := by
  obtain ⟨w1, e1, HS1, k0, k1, b1⟩ := box2 w (.slice p ls.length c) (.slice q sp.length c') 47; have HX := Lib.hid (hx.below b1); have HQ := Lib.hid (hq.below b1); have HB := Lib.hid b1; have HK := Lib.hid (And.intro k0 k1); have HH := Lib.hid h; have hl := h.len; have g1 : inB (ls.length : Int) 1 5 = true := inB_iff.2 ⟨by omega, by omega⟩; have g2 : inB (sp.length : Int) 1 4 = true := inB_iff.2 ⟨by have := h.spots; omega, by have := h.spots; omega⟩; clear hx hq h b1; refine (callsIn_wide (n := 6)).1 ?_; refine callsIn_of_wp Tryz.func54 rfl trivial ?_ rfl; simp only [Tryz.ntmps54, List.size_toArray, List.length_cons, List.length_nil, Nat.reduceAdd, Nat.reduceSub, Array.replicate_succ, Array.replicate_zero, List.push_toArray, List.append_toArray, List.nil_append, List.cons_append]
  gi_wp2_with fail
  refine ⟨trivial, ?_⟩; refine (callsIn_wide.2 (h_in _ _ _ _)).mono ?_; rw [g1]; rintro e w' ⟨rfl, rfl⟩
  gi_wp2_with fail
  refine ⟨trivial, ?_⟩; refine (callsIn_wide.2 (h_in _ _ _ _)).mono ?_; rw [g2]; rintro e w' ⟨rfl, rfl⟩
  gi_wp2
  clear e1 k0 k1
  gi_loopw [20] (fun i wr => ∃ k : Nat, k ≤ ls.length ∧ i = .int .i64 k ∧ Hid (Below w1.heap.size w1 wr)) (fun i _ => ls.length - (intOf i).toNat)
  case atStart => exact ⟨0, Nat.zero_le _, rfl, Lib.hid (Below.refl _ _)⟩
  case round =>
    obtain ⟨k, hk, rfl, HBR⟩ := hrel
    by_cases hlt : k < ls.length
    · have hltI : decide ((k : Int) < (ls.length : Int)) = true := by simp; omega
      have HXR := Lib.hid (HX.out.below HBR.out); obtain ⟨b, off, rfl, hc⟩ := HXR.out.at hlt; obtain ⟨d0, d1, d2⟩ := hc k hlt; have hf := HH.out.frm k hlt; have ho := HH.out.one k hlt; have htw := HH.out.two k hlt; have hfa := HH.out.far k hlt; obtain ⟨f, hf'⟩ : ∃ f : Nat, (gk ls k).1 = (f : Int) := ⟨(gk ls k).1.toNat, by omega⟩; rw [hf'] at d0 hf hfa; rw [Int.toNat_natCast] at hfa; obtain ⟨t1, ht1⟩ : ∃ t1, (gk ls k).2.1 = t1 := ⟨_, rfl⟩; obtain ⟨t2, ht2⟩ : ∃ t2, (gk ls k).2.2 = t2 := ⟨_, rfl⟩; rw [ht1] at d1 ho; rw [ht2] at d2 htw; obtain ⟨fa, hfe⟩ : ∃ fa, farF (ls.take k) f = fa := ⟨_, rfl⟩; have HFAR := Lib.hid (fun W (bw : Below wr.heap.size wr W) => h_farTo _ c k ls f W (HXR.out.below bw) ⟨by omega, HH.out.frm⟩ (by omega) (by omega)); rw [hfe] at HFAR hfa; have HPA := Lib.hid (fun W => h_pair t1 t2 W ho htw); have g3 : inB (f : Int) 0 (k : Int) = true := inB_iff.2 hf; have g4 : decide ((fa : Int) ≥ 3) = false := by simp; omega
      have z0 := (HBR.out.cell (lt_of_cellq HK.out.1)).trans HK.out.1; obtain ⟨w2, e2, HS2, x0, x1, x2, b2⟩ := box3 wr (.int .i64 f) (.int .i64 t1) (.int .i64 t2) 130; have z0 := (b2.cell (lt_of_cellq z0)).trans z0; have hkI : (k : Int) < (ls.length : Int) := by omega
      have HB2 := Lib.hid b2; have HBW := Lib.hid (HBR.out.trans (b2.mono HBR.out.size)); have hmx : Tryz.prog.follows .mixedOrders = true := by kernel_rfl
      clear hc hf' ht1 ht2 hfe hf ho htw hfa b2
      gi_wp2
      gi_region_with_o (first
        | (refine ⟨trivial, ?_⟩; refine (callsIn_wide.2 (h_in _ _ _ _)).mono ?_; rw [g3]; rintro e w' ⟨rfl, rfl⟩)
        | (refine ⟨trivial, ?_⟩; refine (callsIn_wide.2 (HPA.out _)).mono ?_; rintro e W1 ⟨rfl, c1⟩
           have HC1 := Lib.hid (show Below w2.heap.size w2 W1 by first | exact c1 | exact (Below.refl _ _).drew.trans c1 | exact (Below.refl _ _).drew.drew.trans c1 | exact (Below.refl _ _).drew.drew.drew.trans c1); have z1 := (HC1.out.cell (lt_of_cellq z0)).trans z0; have y1 := (HC1.out.cell (lt_of_cellq x0)).trans x0; clear c1)
        | (refine ⟨trivial, ?_⟩; refine (callsIn_wide.2 (HFAR.out _ (HB2.out.trans ((by first | exact HC1.out | exact HC1.out.drew | exact HC1.out.drew.drew : Below w2.heap.size w2 _).mono HB2.out.size)))).mono ?_; rintro e W3 ⟨rfl, c3⟩))
      all_goals
        have HC3 := Lib.hid (show Below w1.heap.size w1 W3 by
          have h13 : Below w2.heap.size w2 W3 := HC1.out.trans ((by first | exact c3 | exact (Below.refl _ _).drew.trans c3 | exact (Below.refl _ _).drew.drew.trans c3 : Below W1.heap.size W1 W3).mono HC1.out.size); exact HBW.out.trans (h13.mono HBW.out.size))
        clear c3 z1 y1 HC1 HFAR HPA e2 x0 x1 x2 z0 d0 d1 d2
        gi_wp2
        go_roundw
        case rel => exact ⟨k + 1, by omega, by go_num, HC3⟩
        case measure => simp [intOf]; omega
    · obtain rfl : k = ls.length := by omega
      have hltI : decide ((ls.length : Int) < (ls.length : Int)) = false := by simp
      have z0 := (HBR.out.cell (lt_of_cellq HK.out.1)).trans HK.out.1; have z1 := (HBR.out.cell (lt_of_cellq HK.out.2)).trans HK.out.2; have hcf := h_cfSpot q c' sp w.heap.size ls.length p c wr (HQ.out.below HBR.out) (by have := HH.out.spots; omega) z0; rw [HH.out.at'] at hcf
      gi_wp2_with fail
      refine ⟨trivial, ?_⟩; refine (callsIn_wide.2 hcf).mono ?_; rintro e w9 ⟨rfl, b9⟩; have HB9 := Lib.hid (HB.out.trans ((HBR.out.trans (b9.mono HBR.out.size)).mono HB.out.size)); clear b9 hcf
      gi_wp2
      go_ret; exact ⟨rfl, HB9.out⟩
end Go.Proofs.YtchclaipbahiiaaGreat
end

section
namespace Go.Proofs.YtchclaipbahiiaaGreat
open Go Go.RowKit Go.Proofs Go.Shelf
set_option linter.unusedVariables false
attribute [local go_sem] Oper.semAt_some imax2 imin2

theorem KpT.grown {n0 kx size n : Nat} {v : Value} {xs : List Value} {W W' : World} (ho : W.ownsRow n0 125 size v n xs) (hn : n0 ≤ W.heap.size) (hg : W.grownBy W' v.ownBlock) : KpT n0 kx W W' := by
  have key : ∀ j, v.ownBlock = some j → n0 ≤ j ∧ ∃ cur fr, W.heap[j]? = some (.cells cur 125 fr) := by
    intro j hj
    rcases ho.2 with ⟨rfl, _⟩ | ⟨g', cap, cur, rfl, hb, hh, _⟩
    · simp [Value.ownBlock] at hj
    · simp [Value.ownBlock] at hj
      subst hj; exact ⟨hb, _, _, hh⟩
  refine ⟨⟨hg.os, hg.tape, hg.output, hg.size, fun k hk _ => hg.block k (by omega) (fun e => by have := (key k e.symm).1; omega)⟩, fun b cur ty fr hb _ h2 => hg.block b (block_lt hb) (fun e => ?_)⟩; obtain ⟨_, cur', fr', h⟩ := key b e.symm; rw [hb] at h
  cases h
  exact h2 rfl
theorem own_not {w : World} {b : Nat} {cur : Array Value} {ty e : TypeId} {fr : Nat × Nat} {base size n : Nat} {v : Value} {xs : List Value} (hb : w.heap[b]? = some (.cells cur ty fr)) (hne : ty ≠ e) (ho : w.ownsRow base e size v n xs) : some b ≠ v.ownBlock := by
  intro hh
  rcases ho.2 with ⟨rfl, _⟩ | ⟨g', cap, cur', rfl, _, hg, _⟩
  · simp [Value.ownBlock] at hh
  · simp [Value.ownBlock] at hh
    subst hh; rw [hb] at hg
    cases hg
    exact hne rfl
theorem own_any {w : World} {B e size n : Nat} {v : Value} {xs : List Value} (h : w.ownsRow B e size v n xs) : ∃ a cap, v = .slice a n cap := by
  rcases h.2 with ⟨rfl, rfl⟩ | ⟨g, cap, cur, rfl, _⟩
  · exact ⟨none, 0, rfl⟩
  · exact ⟨_, cap, rfl⟩
end Go.Proofs.YtchclaipbahiiaaGreat
end

section
namespace Go.Proofs.YtchclaipbahiiaaGreat
open Go Go.RowKit Go.Proofs Go.Shelf
set_option linter.unusedVariables false
section
variable {P : Program} {ops : Array Oper} {Q : Exit → Act → World → Prop} {l n : Nat}
def noDefer (ops : Array Oper) : Bool := ops.all fun o => match o.op with | .defer _ => false | _ => true
theorem noDefer_at {o : Oper} {i : Nat} (h : noDefer ops = true) (hi : ops[i]? = some o) : ∀ c, o.op ≠ .defer c := by
  intro c hc; unfold noDefer at h; rw [Array.all_eq_true] at h; obtain ⟨hlt, he⟩ := Array.getElem?_eq_some_iff.1 hi; have := h i hlt; rw [he, hc] at this
  cases this
theorem oper_round {o : Oper} {a : Act} {w : World} {K : Act → World → Prop} (hnd : ∀ c, o.op ≠ .defer c) (h : o.wp P a w K Q) : o.wpIn (Fence.wide.inRound l) n P a w K Q := by
  refine ⟨fun _ _ => trivial, ?_⟩; rw [Oper.semAt_plain _ _ _ hnd]; unfold Oper.wp at h
  generalize (execOp a.eval o).run P w = r at h ⊢
  cases r with
  | ok x w' =>
    cases x with
    | value v => exact h
    | skip => exact h
    | defer d => exact h
    | enter f args => exact ⟨(fun hh => by cases hh), callsIn_wide.2 h⟩
    | row row args =>
      refine ⟨(fun hh => by cases hh), ?_⟩; intro c cs _; obtain ⟨v, w'', h1, h2⟩ := h c cs; exact ⟨v, w'', h1, stepsIn_wide.2 h2⟩
    | round => exact h.elim
    | _ => exact h.elim
  | halt x w' => cases x <;> first | exact h | exact h.elim
theorem wpAny_round (hlo : ¬ LetsOut Q) (hnd : noDefer ops = true) : ∀ (fuel : Nat) (listed : Array Bool) (a : Act) (w : World), wpAny P .any ops Q fuel listed a w → wpAnyIn (Fence.wide.inRound l) n P .any ops Q fuel listed a w := by
  intro fuel
  induction fuel with
  | zero => intro listed a w h; exact h
  | succ fuel ih =>
    intro listed a w h; refine ⟨h.1, fun i hi => ?_⟩; have h2 := h.2 i hi; unfold wpOp at h2; unfold wpOpIn
    cases ho : ops[i]? with
    | none => rw [ho] at h2; exact ih _ _ _ h2
    | some o =>
      rw [ho] at h2; simp only at h2 ⊢; have hm : ∀ a w, wpAny P .any ops Q fuel (listed.setIfInBounds i true) a w → wpAnyIn (Fence.wide.inRound l) n P .any ops Q fuel (listed.setIfInBounds i true) a w := fun a w hh => ih _ _ _ hh
      split
      · rename_i hw
        rw [if_pos hw] at h2
        rcases h2 with h2 | h2
        rotate_left
        · exact absurd h2.2 hlo
        refine oper_round (noDefer_at hnd ho) ?_; exact Oper.wp_mono hm h2
      · rename_i hw
        rw [if_neg hw] at h2; exact ⟨fun _ _ => trivial, hm _ _ h2⟩
theorem wpIn_round_held {id : Nat} {a : Act} {w : World} {S : World → Prop} (hlo : ¬ LetsOut Q) (hnd : noDefer ops = true) (hm : P.follows .mixedOrders = true)
    (h : ∀ W0, Below w.heap.size w W0 → W0.heap = w.heap → wpAnyH P .any ops Q S ops.size (Array.replicate ops.size false) a W0) : (Code.region id ops true).wpIn (Fence.wide.inRound l) n P Q a w :=
  wpIn_region_any hm (wpAny_round hlo hnd _ _ _ _ (wpAny_of_held _ _ _ _ (h _ (Below.refl _ _).drew rfl)))
end
end Go.Proofs.YtchclaipbahiiaaGreat
end

section
namespace Go.Proofs.YtchclaipbahiiaaGreat
open Go Go.RowKit Go.Proofs Go.Shelf
set_option linter.unusedVariables false
set_option linter.unusedSimpArgs false
attribute [local go_sem] Oper.semAt_some imax2 imin2
def prsF (ls : List (Int × Int × Int)) (xs : List Int) : List (Int × Int) := xs.map fun x => (gk ls x.toNat).2
def trnF (ls : List (Int × Int × Int)) (a : Nat) : List (Int × Int) := prsF ls (natI (pathF ls ls.length a))
theorem trnF_len (ls : List (Int × Int × Int)) (a : Nat) : (trnF ls a).length = farF ls a := by unfold trnF prsF natI farF; rw [List.length_map, List.length_map]
theorem prsF_append (ls : List (Int × Int × Int)) (xs ys : List Int) : prsF ls (xs ++ ys) = prsF ls xs ++ prsF ls ys := by unfold prsF; rw [List.map_append]
theorem infPr : (Tryz.prog.info? 99).map (fun i => (i.zero, i.size, i.bytes)) = some (some (.agg #[.int .i64 0, .int .i64 0]), 2, 16) := by kernel_rfl
def TrPost (ls : List (Int × Int × Int)) (a : Nat) (w : World) (e : Ending) (w' : World) : Prop := ∃ p c, e = .returned (.slice p (trnF ls a).length c) ∧ RdS w' p (trnF ls a) ∧ Below w.heap.size w w'
set_option maxHeartbeats 1600000 in
set_option maxRecDepth 100000 in
theorem h_trainOf (p q : Option Addr) (c m c' a : Nat) (ls : List (Int × Int × Int)) (w : World) (hx : RdLk w p ls) (ht : LkOk ls) (ha : a ≤ ls.length) :
    Calls Tryz.prog 56 #[.agg #[.slice p ls.length c, .slice q m c'], .int .i64 a] w (TrPost ls a w) := by
  obtain ⟨i0, hi0, hzz0, hzz1, hzz2⟩ := info_parts infPr; refine (callsIn_wide (n := 6)).1 ?_; refine callsIn_of_wp_marks Tryz.func56 rfl trivial ?_ rfl; simp only [Tryz.ntmps56, List.size_toArray, List.length_cons, List.length_nil, Nat.reduceAdd, Nat.reduceSub, Array.replicate_succ, Array.replicate_zero, List.push_toArray, List.append_toArray, List.nil_append, List.cons_append]; obtain ⟨w1, e1, HS1, k0, k1, b1⟩ := box2 w (.slice p ls.length c) (.slice q m c') 47; have kp := alloc_new w (.cells #[.slice p ls.length c, .slice q m c'] 47); rw [e1] at kp; obtain ⟨w2, e2, HS2, x0, f0, b2⟩ := box1 w1 (.slice none 0 0) 34; have ko := alloc_new w1 (.cells #[.slice none 0 0] 34); rw [e2] at ko; have hz1 := HS1.out; have hz2 := HS2.out; obtain ⟨w3, e3⟩ : ∃ w3, w2.alloc (.cells #[.slice p ls.length c] 45) = w3 := ⟨_, rfl⟩; have k3 := alloc_new w2 (.cells #[.slice p ls.length c] 45); have hz3 : w3.heap.size = w2.heap.size + 1 := by rw [← e3]; simp
  have b3 : Below w2.heap.size w2 w3 := by rw [← e3]; exact below_alloc1 _ _
  rw [e3] at k3; obtain ⟨w4, e4⟩ : ∃ w4, w3.alloc (.cells #[.int .i64 a] 3) = w4 := ⟨_, rfl⟩; have k4 := alloc_new w3 (.cells #[.int .i64 a] 3); have hz4 : w4.heap.size = w3.heap.size + 1 := by rw [← e4]; simp
  have b4 : Below w3.heap.size w3 w4 := by rw [← e4]; exact below_alloc1 _ _
  rw [e4] at k4; have b34 : Below w2.heap.size w2 w4 := b3.trans (b4.mono b3.size); have b24 : Below w1.heap.size w1 w4 := b2.trans (b34.mono b2.size); have hB4 : Below w.heap.size w w4 := b1.trans (b24.mono b1.size); have q3 := (b4.block _ (block_lt k3)).trans k3; have qo := (b34.block _ (block_lt ko)).trans ko; have qp := (b24.block _ (block_lt kp)).trans kp; have c4 : w4.cell? ⟨w3.heap.size, 0, none⟩ = some (.int .i64 a) := by rw [cell_of_row _ _ _ _ _ _ k4]; rfl
  have k0 := (b2.cell (lt_of_cellq k0)).trans k0; have hseq := path_seq 5 (by omega) p c w2.heap.size w3.heap.size w4.heap.size w1.heap.size a ls w w4 hx ht ha (Nat.le_refl _) q3 c4 (by omega) (by omega) (by omega) hB4; have hpa := h_path p ls.length c a w2; rw [e3, e4, show w2.heap.size + 1 = w3.heap.size by omega] at hpa; have HX := Lib.hid hx
  have HN := Lib.hid (show (natI (pathF ls ls.length a)).length ≤ 5 by
    unfold natI; rw [List.length_map]; have := pathF_len (ls := ls) ls.length a; have := ht.1; omega)
  have HL := Lib.hid ht.1; have HZ := Lib.hid (show w.heap.size < w1.heap.size ∧ w1.heap.size < w4.heap.size from ⟨by omega, by omega⟩); clear hx ht ha b1 b2 b3 b4 b34 b24 kp ko k3 k4 q3 c4 hz1 hz2 hz3 hz4 e3 e4
  gi_wp2_with fail
  refine ⟨trivial, ?_⟩; refine (callsIn_wide.2 hpa).mono ?_; rintro e w' ⟨rfl, rfl⟩; clear hpa e1 e2 x0 f0 k0 k1 HS1 HS2
  gi_wp2_with fail
  refine wpIn_rangeFunc_mem rfl (by omega) (gf := 135) (lb := #[.pointer (some ⟨w2.heap.size, 0, none⟩), .pointer (some ⟨w3.heap.size, 0, none⟩)]) rfl trivial (enters_of Tryz.func135 (by kernel_rfl) rfl) hseq (fun h k => h.trans k)
    (fun W l o o' hlz hlo ho _ => KpP.putObj hlz hlo ho) (fun x W l o o' hlo ho hm => hm) (Below.refl _ _) (fun _ => rfl)
    (fun pre W => (∃ v, W.heap[w1.heap.size]? = some (.cells #[v] 34 (0, 0)) ∧ W.ownsRow w4.heap.size 99 2 v pre.length (spV (prsF ls pre))) ∧ W.heap[w.heap.size]? = some (.cells #[.slice p ls.length c, .slice q m c'] 47 (0, 0)) ∧ w4.heap.size ≤ W.heap.size ∧ Below w.heap.size w W)
    ?hI ⟨⟨_, qo, World.ownsRow_nil _ _ _ _⟩, qp, Nat.le_refl _, hB4⟩
    (fun x a' W => a' = { tmps := #[.agg #[.slice p ls.length c, .slice q m c'], .int .i64 a, .pointer (some ⟨w.heap.size, 0, none⟩), undef, .slice none 0 0, .pointer (some ⟨w1.heap.size, 0, none⟩), .int .i64 x, .pointer (some ⟨w.heap.size, 0, none⟩), .slice p ls.length c, .int .i64 a,
      .func (.func 135) #[] #[.pointer (some ⟨w2.heap.size, 0, none⟩), .pointer (some ⟨w3.heap.size, 0, none⟩)], .int .i64 x, undef, undef, undef, undef, undef, undef, undef, undef, undef, undef], defers := [] }) (fun x a' s W W' row hs _ _ => hs) ?assign ?body ?done
  case hI =>
    rintro s W W' row ⟨⟨v, h1, h2⟩, h3, h4, h5⟩ hg hr
    have hne : ∀ b cur ty fr, W.heap[b]? = some (.cells cur ty fr) → some b ≠ row := by
      intro b cur ty fr hb e; obtain ⟨_, o, ho, hc⟩ := hr b e.symm; rw [hb] at ho
      cases ho
      cases hc
    refine ⟨⟨v, (hg.block _ (block_lt h1) (hne _ _ _ _ h1)).trans h1, own_same h2 fun g hg' => ?_⟩, (hg.block _ (block_lt h3) (hne _ _ _ _ h3)).trans h3, Nat.le_trans h4 hg.size, h5.grown hg h5.size (fun k hk => by have := (hr k hk).1; have := HZ.out; omega)⟩
    rcases h2.2 with ⟨rfl, _⟩ | ⟨g', cap, cur, rfl, hb, hh, _⟩
    · simp [Value.ownBlock] at hg'
    · simp [Value.ownBlock] at hg'
      subst hg'; exact hg.block _ (block_lt hh) (hne _ _ _ _ hh)
  case assign =>
    intro l pre x W K hi hm hK; have hK' := hK _ W (KeepsFrom.refl _ _) (KpP.refl _ _ _) hi hm rfl; clear hK hi hm; simp only [List.zip_toArray, List.zip_cons_cons, List.zip_nil_right]
    gi_wp2
    exact hK'
  case body =>
    rintro l pre x a' W ⟨⟨v, h1, h2⟩, h3, h4, h5⟩ hm rfl hlen; obtain ⟨i, rfl⟩ : ∃ i : Nat, x = (i : Int) := ⟨x.toNat, by have := hm.1; omega⟩; have hi : i < ls.length := by have := hm.2; omega
    obtain ⟨b, off, rfl, hc⟩ := HX.out.at hi; obtain ⟨_, e1, e2⟩ := hc i hi; have HPR := Lib.hid (show spV (prsF ls (pre ++ [(i : Int)])) = spV (prsF ls pre) ++ [.int .i64 (gk ls i).2.1, .int .i64 (gk ls i).2.2] by rw [prsF_append, spV_append]; rfl); obtain ⟨T1, hT1⟩ : ∃ T1, (gk ls i).2.1 = T1 := ⟨_, rfl⟩; obtain ⟨T2, hT2⟩ : ∃ T2, (gk ls i).2.2 = T2 := ⟨_, rfl⟩; rw [hT1] at e1 HPR; rw [hT2] at e2 HPR; have iI : (i : Int) < (ls.length : Int) := by omega
    have o0 : W.cell? ⟨w1.heap.size, 0, none⟩ = some v := by rw [cell_of_row _ _ _ _ _ _ h1]; rfl
    have p0 : W.cell? ⟨w.heap.size, 0, none⟩ = some (.slice (some ⟨b, off, none⟩) ls.length c) := by rw [cell_of_row _ _ _ _ _ _ h3]; rfl
    have d1 := (h5.cell (lt_of_cellq e1)).trans e1; have d2 := (h5.cell (lt_of_cellq e2)).trans e2; have HD := Lib.hid (And.intro e1 e2); have H1 := Lib.hid h1; have H3 := Lib.hid h3; have H4 := Lib.hid h4; have H5 := Lib.hid h5; have HLN := Lib.hid (show pre.length < 5 by have := HN.out; omega); have H2 := Lib.hid h2; clear h1 h2 h3 h4 h5 hm hc hlen hT1 hT2 e1 e2
    gi_wp2_with fail
    refine wpIn_round_held (S := fun w' => w'.cell? ⟨w.heap.size, 0, none⟩ = some (.slice (some ⟨b, off, none⟩) ls.length c) ∧ w'.cell? ⟨b, off + i * 3 + 1, none⟩ = some (.int .i64 T1) ∧ w'.cell? ⟨b, off + i * 3 + 2, none⟩ = some (.int .i64 T2)) (by rintro ⟨_, _, h⟩; exact h) (by kernel_rfl) (by kernel_rfl) (fun W0 hb0 heq => ?_); have HSB := Lib.hid (cl3 p0 d1 d2); have o0 : W0.cell? ⟨w1.heap.size, 0, none⟩ = some v := (hb0.cell (lt_of_cellq o0)).trans o0; have HB0 := Lib.hid hb0; have HHQ := Lib.hid heq; have hbA := hb0.alloc hb0.size (.cells #[.int .i64 T1, .int .i64 T2] 99); have HBA := Lib.hid hbA; have o0A := (hbA.cell (lt_of_cellq (by rw [← o0]; exact (World.cell?_of_block (by rw [heq])) : W.cell? ⟨w1.heap.size, 0, none⟩ = some v))).trans (by rw [← o0]; exact (World.cell?_of_block (by rw [heq])) : W.cell? ⟨w1.heap.size, 0, none⟩ = some v); have hz0 : W0.heap.size = W.heap.size := by rw [heq]
    have HZ0 := Lib.hid hz0; have HOA := Lib.hid (show (W0.alloc (.cells #[.int .i64 T1, .int .i64 T2] 99)).ownsRow w4.heap.size 99 2 v pre.length (spV (prsF ls pre)) from (own_same H2.out (fun g _ => by rw [heq])).alloc _); have H1A := Lib.hid (show (W0.alloc (.cells #[.int .i64 T1, .int .i64 T2] 99)).heap[w1.heap.size]? = some (.cells #[v] 34 (0, 0)) from alloc_old _ _ (by rw [heq]; exact H1.out)); have H3A := Lib.hid (show (W0.alloc (.cells #[.int .i64 T1, .int .i64 T2] 99)).heap[w.heap.size]? = some (.cells #[.slice (some ⟨b, off, none⟩) ls.length c, .slice q m c'] 47 (0, 0)) from alloc_old _ _ (by rw [heq]; exact H3.out)); have HKO := Lib.hid (show KeepsFrom w4.heap.size W (W0.alloc (.cells #[.int .i64 T1, .int .i64 T2] 99)) from (KeepsOthers.trans ⟨by omega, fun k o h _ => by rw [heq]; exact h⟩ (KeepsOthers.alloc W0 _)).from _); have HSZ := Lib.hid (show w4.heap.size ≤ (W0.alloc (.cells #[.int .i64 T1, .int .i64 T2] 99)).heap.size by have := H4.out; simp; omega)
    clear hb0 heq hbA hz0; refine tk 1 rfl (by exact HSB.out _ HB0.out) ?_; (try simp only [Act.put, ptL]); refine tk 2 rfl (by exact HSB.out _ HB0.out) ?_; (try simp only [Act.put, ptL]); refine tk 3 rfl (by exact HSB.out _ HB0.out) ?_; (try simp only [Act.put, ptL]); refine tk 4 rfl (by exact HSB.out _ HB0.out) ?_; (try simp only [Act.put, ptL]); refine tk 5 rfl (by exact HSB.out _ HB0.out) ?_; (try simp only [Act.put, ptL]); refine tk 6 rfl (by exact HSB.out _ HB0.out) ?_; (try simp only [Act.put, ptL]); refine rz2 0 7 rfl rfl ?o1 ?o2
    case' o1 =>
      intro K hK; go_simp; refine kz hK (by exact HSB.out _ HB0.out) ?_; clear hK K; (try simp only [Act.put, ptL]); refine rz1 7 rfl ?_; intro K hK; go_simp; refine kz hK (by exact HSB.out _ HBA.out) ?_; clear hK K; (try simp only [Act.put, ptL])
    case' o2 =>
      intro K hK; go_simp; refine kz hK (by exact HSB.out _ HBA.out) ?_; clear hK K; (try simp only [Act.put, ptL]); refine rz1 0 rfl ?_; intro K hK; go_simp; refine kz hK (by exact HSB.out _ HBA.out) ?_; clear hK K; (try simp only [Act.put, ptL])
    all_goals
      refine rz1 8 rfl ?_; intro K hK; refine step_append_lies _ rfl _ _ 34 rfl w4.heap.size 99 i0 _ 2 16 Tryz.underlying34 hi0 hzz0 hzz1 hzz2 rfl (by decide) v pre.length (spV (prsF ls pre)) rfl HOA.out ⟨W0.heap.size, 0, none⟩ 1 1 [.int .i64 T1, .int .i64 T2] rfl rfl (news_of W0 _ _) (by intro u hu; simp at hu; rcases hu with rfl | rfl <;> rfl) (by decide) (by have := HLN.out; unfold maxLen; omega) (by have := HLN.out; omega) HSZ.out _ rfl ?_; intro g' cap' wd hown' hgrow _ _; have hd1 := (hgrow.block _ (block_lt H1A.out) (own_not H1A.out (by decide) HOA.out)).trans H1A.out; have hd3 := (hgrow.block _ (block_lt H3A.out) (own_not H3A.out (by decide) HOA.out)).trans H3A.out; have z3 : wd.cell? ⟨w1.heap.size, 0, none⟩ = some v := by rw [cell_of_row _ _ _ _ _ _ hd1]; rfl
      have zf : wd.frozen? ⟨w1.heap.size, 0, none⟩ = false := frozen_of_row _ _ _ _ _ hd1; have hbA : Below w.heap.size w (W0.alloc (.cells #[.int .i64 T1, .int .i64 T2] 99)) := H5.out.trans (HBA.out.mono H5.out.size); have hkp : KpP w4.heap.size w1.heap.size W wd := (KpP.of_below HBA.out H4.out).trans (KpP.grown HOA.out HSZ.out hgrow)
      have hko : KeepsFrom w4.heap.size W wd := HKO.out.trans ((KeepsOthers.of_grownBy hgrow (fun j o ej hj => by
        rcases HOA.out.2 with ⟨rfl, _⟩ | ⟨g', cap, cur, rfl, hb, hh, _⟩
        · simp [Value.ownBlock] at ej
        · simp [Value.ownBlock] at ej
          subst ej; rw [hh] at hj
          cases hj
          rfl)).from _)
      have hbb : Below w.heap.size w wd := hbA.grown hgrow hbA.size (fun j hj => by have := (HOA.out.lt j hj).1; have := HZ.out; omega); have hne : g' ≠ w1.heap.size := fun e => by have := (hown'.lt g' rfl).1; have := HZ.out; omega
      obtain ⟨wz, ez⟩ : ∃ wz, wd.setCell ⟨w1.heap.size, 0, none⟩ (.slice (some ⟨g', 0, none⟩) (pre.length + 1) cap') = wz := ⟨_, rfl⟩
      have HFIN := Lib.hid (show KeepsFrom w4.heap.size W wz ∧ KpP w4.heap.size w1.heap.size W wz ∧ (∃ v, wz.heap[w1.heap.size]? = some (.cells #[v] 34 (0, 0)) ∧ wz.ownsRow w4.heap.size 99 2 v (pre ++ [(i : Int)]).length (spV (prsF ls (pre ++ [(i : Int)])))) ∧
          wz.heap[w.heap.size]? = some (.cells #[.slice (some ⟨b, off, none⟩) ls.length c, .slice q m c'] 47 (0, 0)) ∧ w4.heap.size ≤ wz.heap.size ∧ Below w.heap.size w wz by
        have hz := HZ.out; rw [← ez]; refine ⟨hko.trans ((KeepsOthers.setCell _ _ _).from _), KpP.setCell hkp _ _, ⟨.slice (some ⟨g', 0, none⟩) (pre.length + 1) cap', ?_, ?_⟩, (Below.heap_setCell _ _ _ _ (by show w.heap.size ≠ w1.heap.size; omega)).trans hd3, ?_, hbb.setCell (by show w.heap.size ≤ w1.heap.size; omega) _⟩
        · rw [heap_setCell_same wd w1.heap.size 0 _ _ _ hd1]; rfl
        · refine own_same ?_ (fun g hg => Below.heap_setCell _ _ _ _ (by simp [Value.ownBlock] at hg; subst hg; exact hne))
          rw [HPR.out, List.length_append]; exact hown'
        · have := hkp.1.size; have := H4.out; simp [World.setCell]; omega)
      have p0d : wd.cell? ⟨w.heap.size, 0, none⟩ = some (.slice (some ⟨b, off, none⟩) ls.length c) := by rw [cell_of_row _ _ _ _ _ _ hd3]; rfl
      have p0z : wz.cell? ⟨w.heap.size, 0, none⟩ = some (.slice (some ⟨b, off, none⟩) ls.length c) := by rw [cell_of_row _ _ _ _ _ _ HFIN.out.2.2.2.1]; rfl
      have d1d := (hbb.cell (lt_of_cellq HD.out.1)).trans HD.out.1; have d2d := (hbb.cell (lt_of_cellq HD.out.2)).trans HD.out.2; have d1z := (HFIN.out.2.2.2.2.2.cell (lt_of_cellq HD.out.1)).trans HD.out.1; have d2z := (HFIN.out.2.2.2.2.2.cell (lt_of_cellq HD.out.2)).trans HD.out.2; have HSD := Lib.hid (And.intro p0d (And.intro d1d d2d)); have HSZ2 := Lib.hid (And.intro p0z (And.intro d1z d2z)); clear hd1 hd3 hkp hko hbb hbA hne hown' hgrow p0d p0z d1d d1z d2d d2z; refine kz hK (by exact HSD.out) ?_; clear hK K; (try simp only [Act.put, ptL]); refine rz1 9 rfl ?_; intro K hK; go_simp; refine kz hK (by exact HSZ2.out) ?_; clear hK K; (try simp only [Act.put, ptL]); refine wpAnyH_done (by kernel_rfl) ?_ _; clear HSD HSZ2 HSB
      gi_wp2
      exact HFIN.out
  case done =>
    rintro D xs W hD hS ⟨⟨v, h1, h2⟩, h3, h4, h5⟩ hm hK; obtain ⟨ga, cap, rfl⟩ := own_any h2; have o0 : W.cell? ⟨w1.heap.size, 0, none⟩ = some (.slice ga xs.length cap) := by rw [cell_of_row _ _ _ _ _ _ h1]; rfl
    have hlt : xs.length = (trnF ls a).length := by rw [hS]; unfold trnF prsF; rw [List.length_map]
    have hpr : prsF ls xs = trnF ls a := by rw [hS]; rfl
    rw [hpr, hlt] at h2; have hown : (W.putObj D (.deferred none)).ownsRow w4.heap.size 99 2 (.slice ga (trnF ls a).length cap) (trnF ls a).length (spV (trnF ls a)) := by rw [← hlt] at h2 ⊢; exact ownsRow_putObj h2 _ hK rfl
    obtain ⟨g2, c2, he, hrd⟩ := rds_of_own hown; have HE := Lib.hid (show ga = g2 ∧ cap = c2 by injection he with h1 h2 h3; exact ⟨h1, h3⟩); have HR := Lib.hid hrd; have HT := Lib.hid hlt; have HB := Lib.hid h5; clear h1 h2 h3 h4 h5 hS hm he hrd hown hlt hpr
    gi_wp2
    refine ⟨by simp, .inl ⟨_, _, rfl, run_takeDeferred hK, ?_⟩⟩; refine ⟨.slice ga xs.length cap, ?_, ga, cap, by rw [HT.out], by rw [HE.out.1]; exact HR.out, HB.out.trans (belowK_b (w := w) (Nat.le_refl _) W D _ _ (by have := HZ.out; omega) hK rfl rfl)⟩; simp [results, Tryz.results56, go_sem]
end Go.Proofs.YtchclaipbahiiaaGreat
end

section
namespace Go.Proofs.YtchclaipbahiiaaGreat
open Go Go.RowKit Go.Proofs
set_option linter.unusedVariables false
structure Two (w : World) (B : Nat) (e1 : TypeId) (z1 : Nat) (v1 : Value) (n1 : Nat) (xs1 : List Value) (e2 : TypeId) (z2 : Nat) (v2 : Value) (n2 : Nat) (xs2 : List Value) (ks : List (Nat × Obj)) (W : World) : Prop where
  o1 : W.ownsRow B e1 z1 v1 n1 xs1
  o2 : W.ownsRow B e2 z2 v2 n2 xs2
  ap : ∀ g, v1.ownBlock = some g → v2.ownBlock ≠ some g
  k : ∀ b o, (b, o) ∈ ks → W.heap[b]? = some o ∧ v1.ownBlock ≠ some b ∧ v2.ownBlock ≠ some b
  below : Below B w W
section
variable {w W W' : World} {B z1 z2 n1 n2 : Nat} {e1 e2 : TypeId} {v1 v2 : Value} {xs1 xs2 : List Value} {ks : List (Nat × Obj)}
theorem Two.swap (h : Two w B e1 z1 v1 n1 xs1 e2 z2 v2 n2 xs2 ks W) : Two w B e2 z2 v2 n2 xs2 e1 z1 v1 n1 xs1 ks W :=
  ⟨h.o2, h.o1, fun g h2 h1 => h.ap g h1 h2, fun b o hm => ⟨(h.k b o hm).1, (h.k b o hm).2.2, (h.k b o hm).2.1⟩, h.below⟩
theorem Two.sub {ks' : List (Nat × Obj)} (h : Two w B e1 z1 v1 n1 xs1 e2 z2 v2 n2 xs2 ks W) (hs : ∀ p, p ∈ ks' → p ∈ ks) : Two w B e1 z1 v1 n1 xs1 e2 z2 v2 n2 xs2 ks' W :=
  ⟨h.o1, h.o2, h.ap, fun b o hm => h.k b o (hs _ hm), h.below⟩
theorem Two.same (h : Two w B e1 z1 v1 n1 xs1 e2 z2 v2 n2 xs2 ks W) (he : W'.heap = W.heap) (hb : Below W.heap.size W W') (hB : B ≤ W.heap.size) : Two w B e1 z1 v1 n1 xs1 e2 z2 v2 n2 xs2 ks W' :=
  ⟨own_same h.o1 fun g _ => by rw [he], own_same h.o2 fun g _ => by rw [he], h.ap, fun b o hm => ⟨by rw [he]; exact (h.k b o hm).1, (h.k b o hm).2⟩, h.below.trans (hb.mono hB)⟩
theorem Two.kept (h : Two w B e1 z1 v1 n1 xs1 e2 z2 v2 n2 xs2 ks W) (hb : Below W.heap.size W W') (hB : B ≤ W.heap.size) : Two w B e1 z1 v1 n1 xs1 e2 z2 v2 n2 xs2 ks W' :=
  ⟨own_kept h.o1 hb, own_kept h.o2 hb, h.ap, fun b o hm => ⟨(hb.block _ (block_lt (h.k b o hm).1)).trans (h.k b o hm).1, (h.k b o hm).2⟩, h.below.trans (hb.mono hB)⟩
theorem Two.more (h : Two w B e1 z1 v1 n1 xs1 e2 z2 v2 n2 xs2 ks W) (hb : Below W.heap.size W W') (hB : B ≤ W.heap.size) {b : Nat} {o : Obj} (hk : W'.heap[b]? = some o) (hn : W.heap.size ≤ b) : Two w B e1 z1 v1 n1 xs1 e2 z2 v2 n2 xs2 ((b, o) :: ks) W' := by
  have h' := h.kept hb hB; refine ⟨h'.o1, h'.o2, h'.ap, fun b' o' hm => ?_, h'.below⟩
  rcases List.mem_cons.1 hm with e | hm
  · injection e with e1 e2
    subst e1 e2; exact ⟨hk, fun e => by have := (h.o1.lt _ e).2; omega, fun e => by have := (h.o2.lt _ e).2; omega⟩
  · exact h'.k b' o' hm
theorem Two.alloc (h : Two w B e1 z1 v1 n1 xs1 e2 z2 v2 n2 xs2 ks W) (hB : B ≤ W.heap.size) (cs : Array Value) (t : TypeId) : Two w B e1 z1 v1 n1 xs1 e2 z2 v2 n2 xs2 ((W.heap.size, .cells cs t (0, 0)) :: ks) (W.alloc (.cells cs t)) :=
  h.more (below_alloc1 _ _) hB (alloc_new _ _) (Nat.le_refl _)
theorem Two.grow {m g cap : Nat} {ys : List Value} (h : Two w B e1 z1 v1 n1 xs1 e2 z2 v2 n2 xs2 ks W) (hB : B ≤ W.heap.size) (ho : W'.ownsRow B e1 z1 (.slice (some ⟨g, 0, none⟩) m cap) m ys) (hg : W.grownBy W' v1.ownBlock) (hl : v1.ownBlock = some g ∨ g = W.heap.size) :
    Two w B e1 z1 (.slice (some ⟨g, 0, none⟩) m cap) m ys e2 z2 v2 n2 xs2 ks W' := by
  have hob : (Value.slice (some ⟨g, 0, none⟩) m cap).ownBlock = some g := by simp [Value.ownBlock]
  have ne2 : ∀ b, v2.ownBlock = some b → some b ≠ v1.ownBlock := fun b hb e => h.ap b e.symm hb
  refine ⟨ho, own_same h.o2 fun b hb => hg.block _ (h.o2.lt _ hb).2 (ne2 b hb), ?_, ?_, h.below.grown hg hB (fun j hj => (h.o1.lt j hj).1)⟩
  · intro b hb e
    rw [hob] at hb
    injection hb with hb
    subst hb
    rcases hl with hl | hl
    · exact h.ap _ hl e
    · have := (h.o2.lt _ e).2; omega
  · intro b o hm
    obtain ⟨h1, h2, h3⟩ := h.k b o hm; refine ⟨(hg.block _ (block_lt h1) (fun e => h2 e.symm)).trans h1, ?_, h3⟩; rw [hob]; intro e
    injection e with e
    subst e
    rcases hl with hl | hl
    · exact h2 hl
    · have := block_lt h1; omega
theorem Two.cell (h : Two w B e1 z1 v1 n1 xs1 e2 z2 v2 n2 xs2 ks W) {b : Nat} {cs : Array Value} {t : TypeId} {fr : Nat × Nat} (hm : (b, Obj.cells cs t fr) ∈ ks) : W.heap[b]? = some (.cells cs t fr) := (h.k _ _ hm).1
theorem Two.nil (hb : Below B w W) : Two w B e1 z1 (.slice none 0 0) 0 [] e2 z2 (.slice none 0 0) 0 [] [] W :=
  ⟨World.ownsRow_nil _ _ _ _, World.ownsRow_nil _ _ _ _, fun g h => by simp [Value.ownBlock] at h, fun b o hm => (by cases hm), hb⟩
end
end Go.Proofs.YtchclaipbahiiaaGreat
end

section
namespace Go.Proofs.YtchclaipbahiiaaGreat
open Go Go.RowKit Go.Proofs
set_option linter.unusedVariables false
set_option linter.unusedSimpArgs false
attribute [local go_sem] imax2 imin2
def turnF (xs : List (Int × Int)) : Int × Int := redF (prodT (xs.map Prod.fst) (xs.map Prod.fst).length) (prodT (xs.map Prod.snd) (xs.map Prod.snd).length)
theorem prodT_in {l : List Int} (h : ∀ i, i < l.length → 1 ≤ gi l i ∧ gi l i ≤ 60) : ∀ k, k ≤ l.length → 1 ≤ prodT l k ∧ prodT l k ≤ 60 ^ k := by
  intro k
  induction k with
  | zero => intro _; exact ⟨Int.le_refl 1, Int.le_refl 1⟩
  | succ k ih =>
    intro hk; obtain ⟨h1, h2⟩ := ih (by omega); obtain ⟨g1, g2⟩ := h k (by omega); show 1 ≤ prodT l k * gi l k ∧ prodT l k * gi l k ≤ 60 ^ (k + 1); have a1 := Int.mul_le_mul_of_nonneg_left (a := 1) (b := gi l k) (c := prodT l k) g1 (by omega); have a2 := Int.mul_le_mul_of_nonneg_left (a := gi l k) (b := 60) (c := prodT l k) g2 (by omega); have a3 := Int.mul_le_mul_of_nonneg_right (a := prodT l k) (b := 60 ^ k) (c := 60) h2 (by decide); rw [Int.pow_succ]; omega
theorem inV_take_succ {l : List Int} {k : Nat} (h : k < l.length) : inV (l.take (k + 1)) = inV (l.take k) ++ [.int .i64 (gi l k)] := by
  unfold inV gi; rw [List.take_add_one, List.map_append]; simp [h]
set_option maxHeartbeats 1600000 in
set_option maxRecDepth 100000 in
theorem t_turns (p : Option Addr) (cap : Nat) (xs : List (Int × Int)) (w : World) (hx : RdS w p xs) (hl : xs.length ≤ 3) (hok : xs.all pairB = true) :
    Calls Tryz.prog 100 #[.slice p xs.length cap] w fun e w' => e = .returned (.agg #[.int .i64 (turnF xs).1, .int .i64 (turnF xs).2]) ∧ Below w.heap.size w w' := by
  obtain ⟨i0, hi0, hz0, hz1, hz2⟩ := info_parts infI; obtain ⟨w1, e1, HS1, r0, r1, b1⟩ := box2 w (.int .i64 0) (.int .i64 0) 27; have HT1 := (Two.nil (e1 := 3) (e2 := 3) (z1 := 1) (z2 := 1) (Below.refl w.heap.size w)).alloc (Nat.le_refl _) #[.int .i64 0, .int .i64 0] 27; rw [e1] at HT1; have HX := Lib.hid hx; obtain ⟨dr, hdr⟩ : ∃ dr, xs.map Prod.fst = dr := ⟨_, rfl⟩; obtain ⟨dn, hdn⟩ : ∃ dn, xs.map Prod.snd = dn := ⟨_, rfl⟩; have hlr : dr.length = xs.length := by rw [← hdr, List.length_map]
  have hln : dn.length = xs.length := by rw [← hdn, List.length_map]
  have hgr : ∀ i, i < xs.length → gi dr i = (gm xs i).1 := fun i hi => by rw [← hdr]; unfold gi gm; simp [List.getD_eq_getElem?_getD, hi]
  have hgn : ∀ i, i < xs.length → gi dn i = (gm xs i).2 := fun i hi => by rw [← hdn]; unfold gi gm; simp [List.getD_eq_getElem?_getD, hi]
  have hin : ∀ i, i < xs.length → (4 ≤ (gm xs i).1 ∧ (gm xs i).1 ≤ 60) ∧ (4 ≤ (gm xs i).2 ∧ (gm xs i).2 ≤ 60) := fun i hi => by
    have h := List.all_eq_true.1 hok (gm xs i) (by unfold gm; rw [List.getD_eq_getElem?_getD, List.getElem?_eq_getElem hi]; exact List.getElem_mem hi); unfold pairB at h; rw [Bool.and_eq_true] at h; exact ⟨inB_iff.1 h.1, inB_iff.1 h.2⟩
  have HR := Lib.hid (show ∀ k, k ≤ dr.length → 1 ≤ prodT dr k ∧ prodT dr k ≤ 60 ^ k from prodT_in (fun i hi => by rw [hgr i (by omega)]; have := (hin i (by omega)).1; omega)); have HN := Lib.hid (show ∀ k, k ≤ dn.length → 1 ≤ prodT dn k ∧ prodT dn k ≤ 60 ^ k from prodT_in (fun i hi => by rw [hgn i (by omega)]; have := (hin i (by omega)).2; omega)); have HTU := Lib.hid (show turnF xs = redF (prodT dr dr.length) (prodT dn dn.length) by unfold turnF; rw [hdr, hdn]); have HG := Lib.hid (And.intro hgr hgn); have HLR := Lib.hid hlr; have HLN := Lib.hid hln; have HT1 := Lib.hid HT1; clear hx hok hdr hdn hin hgr hgn hlr hln b1
  go_enter Tryz.func100, Tryz.ntmps100
  go_wp2; clear e1 r0 r1
  go_loopw [3, 4, 9] (fun a b c wr => ∃ k : Nat, k ≤ xs.length ∧ c = .int .i64 k ∧ Hid (Two w w.heap.size 3 1 a k (inV (dr.take k)) 3 1 b k (inV (dn.take k)) [(w.heap.size, .cells #[.int .i64 0, .int .i64 0] 27 (0, 0))] wr)) (fun _ _ c _ => xs.length - (intOf c).toNat)
  case atStart => exact ⟨0, Nat.zero_le _, rfl, HT1⟩
  case round =>
    obtain ⟨k, hk, rfl, HT⟩ := hrel
    by_cases hlt : k < xs.length
    · have hltI : decide ((k : Int) < (xs.length : Int)) = true := decide_eq_true (by omega)
      have hkI : (k : Int) < (xs.length : Int) := by omega
      obtain ⟨b', off, rfl, hc⟩ := (HX.out.below HT.out.below).at hlt; obtain ⟨d0, d1⟩ := hc k hlt; have HD1 := Lib.hid (inV_take_succ (l := dr) (k := k) (by rw [HLR.out]; exact hlt)); have HD2 := Lib.hid (inV_take_succ (l := dn) (k := k) (by rw [HLN.out]; exact hlt)); rw [HG.out.1 k hlt] at HD1; rw [HG.out.2 k hlt] at HD2; obtain ⟨T1, hT1⟩ : ∃ T1, (gm xs k).1 = T1 := ⟨_, rfl⟩; obtain ⟨T2, hT2⟩ : ∃ T2, (gm xs k).2 = T2 := ⟨_, rfl⟩; rw [hT1] at d0 HD1; rw [hT2] at d1 HD2; have hwk : IntKind.i64.wrap ((k : Int) + 1) = (k : Int) + 1 := w64 _ (by omega) (by omega); obtain ⟨w2, e2, HS2, x0, x1, b2⟩ := box2 wr (.int .i64 T1) (.int .i64 T2) 99; have kx := alloc_new wr (.cells #[.int .i64 T1, .int .i64 T2] 99); rw [e2] at kx; have HT2 := Lib.hid (HT.out.more b2 HT.out.below.size kx (Nat.le_refl _)); obtain ⟨bx, hbx⟩ : ∃ bx, wr.heap.size = bx := ⟨_, rfl⟩; rw [hbx] at x0 x1 HT2; clear hc hT1 hT2 b2 kx
      go_upto_region 5 with (fail); clear e2 hbx; have HSK := Lib.hid (show ∀ X : World, X.heap[bx]? = some (.cells #[.int .i64 T1, .int .i64 T2] 99 (0, 0)) → X.cell? ⟨bx, 0, none⟩ = some (.int .i64 T1) ∧ X.cell? ⟨bx, 1, none⟩ = some (.int .i64 T2) from fun X h => cells2 h); refine held2 x0 x1 (fun W0 HB0 => ?_); have HT0 := Lib.hid (HT2.out.kept HB0 HT2.out.below.size); clear HB0 d0 d1 x0 x1; refine tk 0 rfl (by exact HSK.out _ (HT0.out.cell (by first | exact .head _ | exact .tail _ (.head _) | exact .tail _ (.tail _ (.head _))))) ?_; (try simp only [Act.put, ptL]); refine tk 1 rfl (by exact HSK.out _ (HT0.out.cell (by first | exact .head _ | exact .tail _ (.head _) | exact .tail _ (.tail _ (.head _))))) ?_; (try simp only [Act.put, ptL]); refine tk 2 rfl (by exact HSK.out _ (HT0.out.cell (by first | exact .head _ | exact .tail _ (.head _) | exact .tail _ (.tail _ (.head _))))) ?_; (try simp only [Act.put, ptL]); refine tk 5 rfl (by exact HSK.out _ (HT0.out.cell (by first | exact .head _ | exact .tail _ (.head _) | exact .tail _ (.tail _ (.head _))))) ?_; (try simp only [Act.put, ptL]); refine tk 6 rfl (by exact HSK.out _ (HT0.out.cell (by first | exact .head _ | exact .tail _ (.head _) | exact .tail _ (.tail _ (.head _))))) ?_; (try simp only [Act.put, ptL]); refine tk 7 rfl (by exact HSK.out _ (HT0.out.cell (by first | exact .head _ | exact .tail _ (.head _) | exact .tail _ (.tail _ (.head _))))) ?_; (try simp only [Act.put, ptL])
      refine rz2 3 8 rfl rfl ?_ ?_
      · intro K hK
        go_simp; have HT1 := Lib.hid (HT0.out.alloc HT0.out.below.size #[.int .i64 T1] 3); refine kz hK (by exact HSK.out _ (HT1.out.cell (by first | exact .head _ | exact .tail _ (.head _) | exact .tail _ (.tail _ (.head _))))) ?_; clear hK K; (try simp only [Act.put, ptL]); obtain ⟨Wl1, e1⟩ : ∃ X, (W0.alloc (.cells #[.int .i64 T1] 3)) = X := ⟨_, rfl⟩; obtain ⟨L1, l1⟩ : ∃ X, W0.heap.size = X := ⟨_, rfl⟩; rw [e1, l1] at HT1
        (try rw [l1]); rw [e1]; clear e1 l1
        refine rz2 4 8 rfl rfl ?_ ?_
        · intro K hK
          refine step_append_lies _ rfl _ _ 23 rfl w.heap.size 3 i0 _ 1 8 Tryz.underlying23 hi0 hz0 hz1 hz2 rfl (by decide) u3 (k) (inV (dr.take k)) rfl HT1.out.o1 ⟨L1, 0, none⟩ 1 1 [.int .i64 T1] rfl rfl (World.news_of_block (HT1.out.cell (.head _))) (by intro u hu; simp at hu; subst hu; rfl) (by decide) (by unfold maxLen; omega) (by omega) HT1.out.below.size _ rfl ?_; intro g2 cap2 Wa2 hown hgrow hlies _; have HT2 := Lib.hid (HT1.out.grow HT1.out.below.size hown hgrow hlies); clear hown hgrow hlies; refine kz hK (by exact HSK.out _ (HT2.out.cell (by first | exact .head _ | exact .tail _ (.head _) | exact .tail _ (.tail _ (.head _))))) ?_; clear hK K; (try simp only [Act.put, ptL]); refine rz1 8 rfl ?_; intro K hK; go_simp; have HT3 := Lib.hid (HT2.out.alloc HT2.out.below.size #[.int .i64 T2] 3); refine kz hK (by exact HSK.out _ (HT3.out.cell (by first | exact .head _ | exact .tail _ (.head _) | exact .tail _ (.tail _ (.head _))))) ?_; clear hK K; (try simp only [Act.put, ptL])
          obtain ⟨Wl3, e3⟩ : ∃ X, (Wa2.alloc (.cells #[.int .i64 T2] 3)) = X := ⟨_, rfl⟩; obtain ⟨L3, l3⟩ : ∃ X, Wa2.heap.size = X := ⟨_, rfl⟩; rw [e3, l3] at HT3
          (try rw [l3]); rw [e3]; clear e3 l3
          refine rz1 9 rfl ?_; intro K hK; refine step_append_lies _ rfl _ _ 23 rfl w.heap.size 3 i0 _ 1 8 Tryz.underlying23 hi0 hz0 hz1 hz2 rfl (by decide) u4 (k) (inV (dn.take k)) rfl HT3.out.o2 ⟨L3, 0, none⟩ 1 1 [.int .i64 T2] rfl rfl (World.news_of_block (HT3.out.cell (.head _))) (by intro u hu; simp at hu; subst hu; rfl) (by decide) (by unfold maxLen; omega) (by omega) HT3.out.below.size _ rfl ?_; intro g4 cap4 Wa4 hown hgrow hlies _; have HT4 := Lib.hid (HT3.out.swap.grow HT3.out.below.size hown hgrow hlies).swap; clear hown hgrow hlies; refine kz hK (by exact HSK.out _ (HT4.out.cell (by first | exact .head _ | exact .tail _ (.head _) | exact .tail _ (.tail _ (.head _))))) ?_; clear hK K; (try simp only [Act.put, ptL]); refine tk 10 rfl (by exact HSK.out _ (HT4.out.cell (by first | exact .head _ | exact .tail _ (.head _) | exact .tail _ (.tail _ (.head _))))) ?_; (try simp only [Act.put, ptL]); refine tk 11 rfl (by exact HSK.out _ (HT4.out.cell (by first | exact .head _ | exact .tail _ (.head _) | exact .tail _ (.tail _ (.head _))))) ?_; (try simp only [Act.put, ptL])
          refine wpAnyH_done (by kernel_rfl) ?_ _; have HTE := Lib.hid ((HT4.out.sub (ks' := [(w.heap.size, .cells #[.int .i64 0, .int .i64 0] 27 (0, 0))]) (fun p hp => by rw [List.mem_singleton] at hp; subst hp; simp))); go_wp2; go_roundw
          case rel => exact ⟨k + 1, by omega, by go_num, by rw [HD1.out, HD2.out]; exact HTE⟩
          case measure => simp [intOf]; omega
        · intro K hK
          go_simp; have HT5 := Lib.hid (HT1.out.alloc HT1.out.below.size #[.int .i64 T2] 3); refine kz hK (by exact HSK.out _ (HT5.out.cell (by first | exact .head _ | exact .tail _ (.head _) | exact .tail _ (.tail _ (.head _))))) ?_; clear hK K; (try simp only [Act.put, ptL]); obtain ⟨Wl5, e5⟩ : ∃ X, (Wl1.alloc (.cells #[.int .i64 T2] 3)) = X := ⟨_, rfl⟩; obtain ⟨L5, l5⟩ : ∃ X, Wl1.heap.size = X := ⟨_, rfl⟩; rw [e5, l5] at HT5
          (try rw [l5]); rw [e5]; clear e5 l5
          refine rz1 4 rfl ?_; intro K hK; refine step_append_lies _ rfl _ _ 23 rfl w.heap.size 3 i0 _ 1 8 Tryz.underlying23 hi0 hz0 hz1 hz2 rfl (by decide) u3 (k) (inV (dr.take k)) rfl HT5.out.o1 ⟨L1, 0, none⟩ 1 1 [.int .i64 T1] rfl rfl (World.news_of_block (HT5.out.cell (.tail _ (.head _)))) (by intro u hu; simp at hu; subst hu; rfl) (by decide) (by unfold maxLen; omega) (by omega) HT5.out.below.size _ rfl ?_; intro g6 cap6 Wa6 hown hgrow hlies _; have HT6 := Lib.hid (HT5.out.grow HT5.out.below.size hown hgrow hlies); clear hown hgrow hlies; refine kz hK (by exact HSK.out _ (HT6.out.cell (by first | exact .head _ | exact .tail _ (.head _) | exact .tail _ (.tail _ (.head _))))) ?_; clear hK K; (try simp only [Act.put, ptL]); refine rz1 9 rfl ?_; intro K hK; refine step_append_lies _ rfl _ _ 23 rfl w.heap.size 3 i0 _ 1 8 Tryz.underlying23 hi0 hz0 hz1 hz2 rfl (by decide) u4 (k) (inV (dn.take k)) rfl HT6.out.o2 ⟨L5, 0, none⟩ 1 1 [.int .i64 T2] rfl rfl (World.news_of_block (HT6.out.cell (.head _))) (by intro u hu; simp at hu; subst hu; rfl) (by decide) (by unfold maxLen; omega) (by omega) HT6.out.below.size _ rfl ?_
          intro g7 cap7 Wa7 hown hgrow hlies _; have HT7 := Lib.hid (HT6.out.swap.grow HT6.out.below.size hown hgrow hlies).swap; clear hown hgrow hlies; refine kz hK (by exact HSK.out _ (HT7.out.cell (by first | exact .head _ | exact .tail _ (.head _) | exact .tail _ (.tail _ (.head _))))) ?_; clear hK K; (try simp only [Act.put, ptL]); refine tk 10 rfl (by exact HSK.out _ (HT7.out.cell (by first | exact .head _ | exact .tail _ (.head _) | exact .tail _ (.tail _ (.head _))))) ?_; (try simp only [Act.put, ptL]); refine tk 11 rfl (by exact HSK.out _ (HT7.out.cell (by first | exact .head _ | exact .tail _ (.head _) | exact .tail _ (.tail _ (.head _))))) ?_; (try simp only [Act.put, ptL]); refine wpAnyH_done (by kernel_rfl) ?_ _; have HTE := Lib.hid ((HT7.out.sub (ks' := [(w.heap.size, .cells #[.int .i64 0, .int .i64 0] 27 (0, 0))]) (fun p hp => by rw [List.mem_singleton] at hp; subst hp; simp)))
          go_wp2; go_roundw
          case rel => exact ⟨k + 1, by omega, by go_num, by rw [HD1.out, HD2.out]; exact HTE⟩
          case measure => simp [intOf]; omega
      · intro K hK
        go_simp; have HT8 := Lib.hid (HT0.out.alloc HT0.out.below.size #[.int .i64 T2] 3); refine kz hK (by exact HSK.out _ (HT8.out.cell (by first | exact .head _ | exact .tail _ (.head _) | exact .tail _ (.tail _ (.head _))))) ?_; clear hK K; (try simp only [Act.put, ptL]); obtain ⟨Wl8, e8⟩ : ∃ X, (W0.alloc (.cells #[.int .i64 T2] 3)) = X := ⟨_, rfl⟩; obtain ⟨L8, l8⟩ : ∃ X, W0.heap.size = X := ⟨_, rfl⟩; rw [e8, l8] at HT8
        (try rw [l8]); rw [e8]; clear e8 l8
        refine rz1 3 rfl ?_; intro K hK; go_simp; have HT9 := Lib.hid (HT8.out.alloc HT8.out.below.size #[.int .i64 T1] 3); refine kz hK (by exact HSK.out _ (HT9.out.cell (by first | exact .head _ | exact .tail _ (.head _) | exact .tail _ (.tail _ (.head _))))) ?_; clear hK K; (try simp only [Act.put, ptL]); obtain ⟨Wl9, e9⟩ : ∃ X, (Wl8.alloc (.cells #[.int .i64 T1] 3)) = X := ⟨_, rfl⟩; obtain ⟨L9, l9⟩ : ∃ X, Wl8.heap.size = X := ⟨_, rfl⟩; rw [e9, l9] at HT9
        (try rw [l9]); rw [e9]; clear e9 l9
        refine rz1 4 rfl ?_; intro K hK; refine step_append_lies _ rfl _ _ 23 rfl w.heap.size 3 i0 _ 1 8 Tryz.underlying23 hi0 hz0 hz1 hz2 rfl (by decide) u3 (k) (inV (dr.take k)) rfl HT9.out.o1 ⟨L9, 0, none⟩ 1 1 [.int .i64 T1] rfl rfl (World.news_of_block (HT9.out.cell (.head _))) (by intro u hu; simp at hu; subst hu; rfl) (by decide) (by unfold maxLen; omega) (by omega) HT9.out.below.size _ rfl ?_; intro g10 cap10 Wa10 hown hgrow hlies _; have HT10 := Lib.hid (HT9.out.grow HT9.out.below.size hown hgrow hlies); clear hown hgrow hlies; refine kz hK (by exact HSK.out _ (HT10.out.cell (by first | exact .head _ | exact .tail _ (.head _) | exact .tail _ (.tail _ (.head _))))) ?_; clear hK K; (try simp only [Act.put, ptL]); refine rz1 9 rfl ?_; intro K hK; refine step_append_lies _ rfl _ _ 23 rfl w.heap.size 3 i0 _ 1 8 Tryz.underlying23 hi0 hz0 hz1 hz2 rfl (by decide) u4 (k) (inV (dn.take k)) rfl HT10.out.o2 ⟨L8, 0, none⟩ 1 1 [.int .i64 T2] rfl rfl (World.news_of_block (HT10.out.cell (.tail _ (.head _)))) (by intro u hu; simp at hu; subst hu; rfl) (by decide) (by unfold maxLen; omega) (by omega) HT10.out.below.size _ rfl ?_
        intro g11 cap11 Wa11 hown hgrow hlies _; have HT11 := Lib.hid (HT10.out.swap.grow HT10.out.below.size hown hgrow hlies).swap; clear hown hgrow hlies; refine kz hK (by exact HSK.out _ (HT11.out.cell (by first | exact .head _ | exact .tail _ (.head _) | exact .tail _ (.tail _ (.head _))))) ?_; clear hK K; (try simp only [Act.put, ptL]); refine tk 10 rfl (by exact HSK.out _ (HT11.out.cell (by first | exact .head _ | exact .tail _ (.head _) | exact .tail _ (.tail _ (.head _))))) ?_; (try simp only [Act.put, ptL]); refine tk 11 rfl (by exact HSK.out _ (HT11.out.cell (by first | exact .head _ | exact .tail _ (.head _) | exact .tail _ (.tail _ (.head _))))) ?_; (try simp only [Act.put, ptL]); refine wpAnyH_done (by kernel_rfl) ?_ _; have HTE := Lib.hid ((HT11.out.sub (ks' := [(w.heap.size, .cells #[.int .i64 0, .int .i64 0] 27 (0, 0))]) (fun p hp => by rw [List.mem_singleton] at hp; subst hp; simp)))
        go_wp2; go_roundw
        case rel => exact ⟨k + 1, by omega, by go_num, by rw [HD1.out, HD2.out]; exact HTE⟩
        case measure => simp [intOf]; omega
    · obtain rfl : k = xs.length := by omega
      have hltI : decide ((xs.length : Int) < (xs.length : Int)) = false := by simp
      have h1 := HT.out.o1; have h2 := HT.out.o2; rw [List.take_of_length_le (by rw [HLR.out]; exact Nat.le_refl _)] at h1; rw [List.take_of_length_le (by rw [HLN.out]; exact Nat.le_refl _)] at h2; rw [← HLR.out] at h1; rw [← HLN.out] at h2; obtain ⟨q1, c1, rfl, rd1⟩ := rd_of_own h1; obtain ⟨q2, c2, rfl, rd2⟩ := rd_of_own h2
      have h60 : ∀ k, k ≤ 3 → (60 : Int) ^ k ≤ 216000 := fun k hk => by
        have : k = 0 ∨ k = 1 ∨ k = 2 ∨ k = 3 := by omega
        rcases this with rfl | rfl | rfl | rfl <;> decide
      have hp1 := t_product q1 c1 dr wr rd1 (by rw [HLR.out]; omega) (fun k hk => by have := HR.out k hk; have := h60 k (by have := HLR.out; omega); unfold Mid; omega); have hp2 := t_product q2 c2 dn wr rd2 (by rw [HLN.out]; omega) (fun k hk => by have := HN.out k hk; have := h60 k (by have := HLN.out; omega); unfold Mid; omega); have kz := HT.out.cell (b := w.heap.size) (.head _); have HBW := Lib.hid HT.out.below; have HTE := Lib.hid HTU.out; have hr1 := HR.out dr.length (Nat.le_refl _); have hr2 := HN.out dn.length (Nat.le_refl _); have h61 := h60 dr.length (by rw [HLR.out]; exact hl); have h62 := h60 dn.length (by rw [HLN.out]; exact hl); obtain ⟨P1, hP1⟩ : ∃ P : Nat, prodT dr dr.length = P := ⟨(prodT dr dr.length).toNat, by omega⟩; obtain ⟨P2, hP2⟩ : ∃ P : Nat, prodT dn dn.length = P := ⟨(prodT dn dn.length).toNat, by omega⟩; rw [hP1] at hp1 hr1 HTE; rw [hP2] at hp2 hr2 HTE; rw [HLR.out] at hp1
      rw [HLN.out] at hp2; have HRE := Lib.hid (fun W => t_reduced P1 P2 (by omega) (by omega) (by omega) W); obtain ⟨A, hA⟩ : ∃ A, (redF (P1 : Int) (P2 : Int)).1 = A := ⟨_, rfl⟩; obtain ⟨C, hC⟩ : ∃ C, (redF (P1 : Int) (P2 : Int)).2 = C := ⟨_, rfl⟩; rw [hA, hC] at HRE; have HAC := Lib.hid (show turnF xs = (A, C) by rw [HTE.out, ← hA, ← hC]); clear h1 h2 rd1 rd2 h60 hP1 hP2 hr1 hr2 h61 h62 hA hC HTE HT
      (try rw [HLR.out]); (try rw [HLN.out])
      go_wp2_with fail; refine hp1.mono ?_; rintro e w' ⟨rfl, rfl⟩; clear hp1; go_wp2_with fail; refine hp2.mono ?_; rintro e w' ⟨rfl, rfl⟩; clear hp2; go_wp2_with fail; refine (HRE.out _).mono ?_; rintro e w5 ⟨rfl, b5⟩; obtain ⟨w6, w7, s6, s7, ⟨z0, f0⟩, ⟨z1, f1⟩, hx4, hxk, HZ, hxb⟩ := set2 w5 w.heap.size 27 _ _ (.int .i64 A) (.int .i64 C) ((b5.block _ (block_lt kz)).trans kz); obtain ⟨g0, g1⟩ := cells2 hx4; have HB7 := Lib.hid (hxb w w.heap.size (Nat.le_refl _) (HBW.out.trans (b5.mono HBW.out.size))); clear b5 hx4 hxk hxb kz HRE HBW; go_wp2; refine bodyPost_ret (v := .agg #[.int .i64 A, .int .i64 C]) ?_ rfl ⟨by rw [HAC.out], HB7.out⟩; simp [results, Tryz.results100, go_sem, g0, g1]
def evB (n : Nat) : Bool := decide (n % 2 = 0)
set_option maxHeartbeats 1600000 in
set_option maxRecDepth 100000 in
theorem t_Turns (p : Option Addr) (cap : Nat) (xs : List (Int × Int)) (w : World) (hx : RdS w p xs) (hl : 1 ≤ xs.length ∧ xs.length ≤ 3) (hok : xs.all pairB = true) :
    Calls Tryz.prog 57 #[.slice p xs.length cap] w fun e w' => e = .returned (.tuple #[.agg #[.int .i64 (turnF xs).1, .int .i64 (turnF xs).2], .bool (evB xs.length), .int .i64 0]) ∧ Below w.heap.size w w' := by
  have kz := alloc_new w (.cells #[.int .i64 0, .int .i64 0] 27); obtain ⟨w1, e1, HS1, r0, r1, b1⟩ := box2 w (.int .i64 0) (.int .i64 0) 27; rw [e1] at kz; have HX := Lib.hid (hx.below b1); have HB := Lib.hid b1; have HL := Lib.hid hl; have HO := Lib.hid hok
  have HEV := Lib.hid (show ((xs.length : Int) % 2 == 0) = evB xs.length by
    unfold evB
    by_cases h : xs.length % 2 = 0
    · rw [decide_eq_true h, beq_iff_eq]; omega
    · rw [decide_eq_false h, beq_eq_false_iff_ne]; omega)
  obtain ⟨A, hA⟩ : ∃ A, (turnF xs).1 = A := ⟨_, rfl⟩; obtain ⟨C, hC⟩ : ∃ C, (turnF xs).2 = C := ⟨_, rfl⟩; rw [hA, hC]; have HTU := Lib.hid (show ∀ W, RdS W p xs → Calls Tryz.prog 100 #[.slice p xs.length cap] W fun e w' => e = .returned (.agg #[.int .i64 A, .int .i64 C]) ∧ Below W.heap.size W w' from fun W h => by rw [← hA, ← hC]; exact t_turns p cap xs W h hl.2 hok); clear hx hl hok b1 hA hC
  go_enter Tryz.func57, Tryz.ntmps57
  go_wp2_with fail; refine (t_isTrain p cap xs _ HX.out HL.out HO.out).mono ?_; rintro e w2 ⟨rfl, b2⟩; have HX2 := Lib.hid (HX.out.below b2); have HB2 := Lib.hid (HB.out.trans (b2.mono HB.out.size)); have kz := (b2.block _ (block_lt kz)).trans kz; clear b2 e1; go_wp2_with fail; refine (HTU.out _ HX2.out).mono ?_; rintro e w3 ⟨rfl, b3⟩; obtain ⟨w6, w7, s6, s7, ⟨z0, f0⟩, ⟨z1, f1⟩, hx4, hxk, HZ, hxb⟩ := set2 w3 w.heap.size 27 _ _ (.int .i64 A) (.int .i64 C) ((b3.block _ (block_lt kz)).trans kz); obtain ⟨g0, g1⟩ := cells2 hx4; have HB7 := Lib.hid (hxb w w.heap.size (Nat.le_refl _) (HB2.out.trans (b3.mono HB2.out.size))); clear b3 hx4 hxk hxb kz; go_wp2; refine bodyPost_ret (v := .tuple #[.agg #[.int .i64 A, .int .i64 C], .bool (evB xs.length), .int .i64 0]) ?_ rfl ⟨rfl, HB7.out⟩; rw [← HEV.out]; simp [results, Tryz.results57, go_sem, g0, g1]
theorem path_ext {ls ls' : List (Int × Int × Int)} : ∀ (n a d d' : Nat), a ≤ n → a ≤ d → a ≤ d' → (∀ j, j < a → gk ls j = gk ls' j) → (∀ j, j < a → 0 ≤ (gk ls j).1 ∧ (gk ls j).1 ≤ j) → pathF ls d a = pathF ls' d' a := by
  intro n
  induction n with
  | zero =>
    intro a d d' h0 h1 h2 h3 h4; obtain rfl : a = 0 := by omega
    rw [pathF_at, pathF_at]
  | succ n ih =>
    intro a d d' h0 h1 h2 h3 h4
    cases a with
    | zero => rw [pathF_at, pathF_at]
    | succ a =>
      obtain ⟨d, rfl⟩ : ∃ e, d = e + 1 := ⟨d - 1, by omega⟩; obtain ⟨d', rfl⟩ : ∃ e, d' = e + 1 := ⟨d' - 1, by omega⟩; have hf := h4 a (by omega); rw [pathF_succ, pathF_succ, ← h3 a (by omega)]; rw [ih (gk ls a).1.toNat d d' (by omega) (by omega) (by omega) (fun j hj => h3 j (by omega)) (fun j hj => h4 j (by omega))]
theorem far_succ {ls : List (Int × Int × Int)} {sp : List Int} (h : PcGood ls sp) {i : Nat} (hi : i < ls.length) : farF ls (i + 1) = farF (ls.take i) (gk ls i).1.toNat + 1 := by
  have hf := h.frm i hi; have hlt : (ls.take i).length = i := by rw [List.length_take]; omega
  unfold farF
  have e : pathF ls ls.length (i + 1) = pathF (ls.take i) (ls.take i).length (gk ls i).1.toNat ++ [i] := by
    obtain ⟨d, hd⟩ : ∃ d, ls.length = d + 1 := ⟨ls.length - 1, by omega⟩; rw [hd, pathF_succ]; rw [path_ext (ls := ls) (ls' := ls.take i) _ (gk ls i).1.toNat d (ls.take i).length (Nat.le_refl _) (by omega) (by omega) (fun j hj => (gk_take ls i j (by omega)).symm) (fun j hj => h.frm j (by omega))]
  rw [e, List.length_append]; rfl
theorem trn_ok {ls : List (Int × Int × Int)} {sp : List Int} (h : PcGood ls sp) {a : Nat} (ha : 1 ≤ a ∧ a ≤ ls.length) : (1 ≤ (trnF ls a).length ∧ (trnF ls a).length ≤ 3) ∧ (trnF ls a).all pairB = true := by
  obtain ⟨i, rfl⟩ : ∃ i, a = i + 1 := ⟨a - 1, by omega⟩; refine ⟨?_, ?_⟩
  · rw [trnF_len, far_succ h (by omega)]
    have := h.far i (by omega); omega
  · rw [List.all_eq_true]
    intro x hx; unfold trnF prsF natI at hx; obtain ⟨y, hy, rfl⟩ := List.mem_map.1 hx; obtain ⟨j, hj, rfl⟩ := List.mem_map.1 hy; have hj' := pathF_in (ls := ls) ⟨h.len.2, h.frm⟩ ls.length (i + 1) ha.2 j hj; have h1 := h.one j hj'; have h2 := h.two j hj'; unfold pairB; rw [Int.toNat_natCast, Bool.and_eq_true]; exact ⟨inB_iff.2 h1, inB_iff.2 h2⟩
def ratTo (ls : List (Int × Int × Int)) (k : Nat) : List (Int × Int) := (1, 1) :: (List.range k).map fun i => turnF (trnF ls (i + 1))
def senTo (ls : List (Int × Int × Int)) (k : Nat) : List Bool := true :: (List.range k).map fun i => evB (trnF ls (i + 1)).length
def boV (l : List Bool) : List Value := l.map Value.bool
theorem rat_succ (ls : List (Int × Int × Int)) (k : Nat) : spV (ratTo ls (k + 1)) = spV (ratTo ls k) ++ [.int .i64 (turnF (trnF ls (k + 1))).1, .int .i64 (turnF (trnF ls (k + 1))).2] := by
  unfold ratTo; rw [List.range_succ, List.map_append, ← List.cons_append, spV_append]; rfl
theorem sen_succ (ls : List (Int × Int × Int)) (k : Nat) : boV (senTo ls (k + 1)) = boV (senTo ls k) ++ [.bool (evB (trnF ls (k + 1)).length)] := by
  unfold senTo boV; rw [List.range_succ, List.map_append, ← List.cons_append, List.map_append]; rfl
theorem ratTo_len (ls : List (Int × Int × Int)) (k : Nat) : (ratTo ls k).length = k + 1 := by unfold ratTo; simp
theorem senTo_len (ls : List (Int × Int × Int)) (k : Nat) : (senTo ls k).length = k + 1 := by unfold senTo; simp
def RdBo (w : World) (p : Option Addr) (l : List Bool) : Prop := ∃ b off, p = some ⟨b, off, none⟩ ∧ ∀ i, i < l.length → w.cell? ⟨b, off + i, none⟩ = some (.bool (l.getD i false))
theorem RdBo.below {w w' : World} {p : Option Addr} {l : List Bool} (h : RdBo w p l) (hb : Below w.heap.size w w') : RdBo w' p l := by
  obtain ⟨b, off, e, hc⟩ := h; exact ⟨b, off, e, fun i hi => (hb.cell (lt_of_cellq (hc i hi))).trans (hc i hi)⟩
theorem rdBo_of {w : World} {B : Nat} {v : Value} {l : List Bool} (hl : l ≠ []) (h : w.ownsRow B 4 1 v l.length (boV l)) : ∃ p c, v = .slice p l.length c ∧ RdBo w p l := by
  rcases h.2 with ⟨_, e⟩ | ⟨g, cap, cur, rfl, _⟩
  · exact absurd (List.length_eq_zero_iff.1 e) hl
  · refine ⟨_, _, rfl, g, 0, rfl, fun i hi => ?_⟩
    have := h.cells (g := g) rfl i (.bool (l.getD i false)) (by unfold boV; rw [List.getElem?_map, List.getD_eq_getElem?_getD, List.getElem?_eq_getElem hi]; rfl); rw [add_new] at this; rw [Nat.zero_add]; exact this
theorem own_lit {W : World} {B g : Nat} {e : TypeId} {z : Nat} {cs : List Value} (hg : W.heap[g]? = some (.cells cs.toArray e (0, 0))) (hB : B ≤ g) (hz : cs.length = z) : W.ownsRow B e z (.slice (some ⟨g, 0, none⟩) 1 1) 1 cs :=
  ⟨by rw [hz, Nat.one_mul], .inr ⟨g, 1, cs.toArray, rfl, hB, hg, Nat.le_refl _, by unfold maxLen; decide, by rw [Nat.one_mul, ← hz]; rfl, by rw [Nat.one_mul, ← hz]; exact List.take_length⟩⟩
theorem infFr : (Tryz.prog.info? 27).map (fun i => (i.zero, i.size, i.bytes)) = some (some (.agg #[.int .i64 0, .int .i64 0]), 2, 16) := by kernel_rfl
theorem infBo : (Tryz.prog.info? 4).map (fun i => (i.zero, i.size, i.bytes)) = some (some (.bool false), 1, 1) := by kernel_rfl
def RtPost (ls : List (Int × Int × Int)) (w : World) (e : Ending) (w' : World) : Prop := ∃ p c q d, e = .returned (.tuple #[.slice p (ls.length + 1 : Nat) c, .slice q (ls.length + 1 : Nat) d, .int .i64 0]) ∧ RdS w' p (ratTo ls ls.length) ∧ RdBo w' q (senTo ls ls.length) ∧ Below w.heap.size w w'
set_option maxHeartbeats 1600000 in
set_option maxRecDepth 100000 in
theorem h_Rates (p q : Option Addr) (c c' : Nat) (ls : List (Int × Int × Int)) (sp : List Int) (w : World) (hx : RdLk w p ls) (hq : RdI w q sp) (h : PcGood ls sp) (hcap : ls.length ≤ c) :
    Calls Tryz.prog 18 #[.agg #[.slice p ls.length c, .slice q sp.length c']] w (RtPost ls w) := by
  obtain ⟨i0, hi0, hz0, hz1, hz2⟩ := info_parts infFr; obtain ⟨i1, hi1, hy0, hy1, hy2⟩ := info_parts infBo; obtain ⟨w1, e1, HS1, k0, k1, b1⟩ := box2 w (.slice p ls.length c) (.slice q sp.length c') 47; have kp := alloc_new w (.cells #[.slice p ls.length c, .slice q sp.length c'] 47); rw [e1] at kp; have HX := Lib.hid hx; have HX1 := Lib.hid (hx.below b1); have HQ := Lib.hid (hq.below b1); have HB := Lib.hid b1; have HH := Lib.hid h; have HT := Lib.hid (show LkOk ls from ⟨h.len.2, h.frm⟩); have HL := Lib.hid h.len; have hl5 := h.len.2; clear hx hq h b1
  go_enter Tryz.func18, Tryz.ntmps18
  go_wp2_with fail; refine (h_isPiece p q c c' ls sp _ HX1.out HQ.out HH.out hcap).mono ?_; rintro e w2 ⟨rfl, b2⟩; have hB2 : Below w.heap.size w w2 := HB.out.trans (b2.mono HB.out.size); have k0 := (b2.cell (lt_of_cellq k0)).trans k0; have k1 := (b2.cell (lt_of_cellq k1)).trans k1; have kp := (b2.block _ (block_lt kp)).trans kp; obtain ⟨w3, e3⟩ : ∃ w3, w2.alloc (.cells #[.int .i64 1, .int .i64 1] 27) = w3 := ⟨_, rfl⟩; have k3 := alloc_new w2 (.cells #[.int .i64 1, .int .i64 1] 27); have hz3 : w3.heap.size = w2.heap.size + 1 := by rw [← e3]; simp
  have b3 : Below w2.heap.size w2 w3 := by rw [← e3]; exact below_alloc1 _ _
  rw [e3] at k3; obtain ⟨w4, e4⟩ : ∃ w4, w3.alloc (.cells #[.bool true] 4) = w4 := ⟨_, rfl⟩; have k4 := alloc_new w3 (.cells #[.bool true] 4); have hz4 : w4.heap.size = w3.heap.size + 1 := by rw [← e4]; simp
  have b4 : Below w3.heap.size w3 w4 := by rw [← e4]; exact below_alloc1 _ _
  rw [e4] at k4; have k3 := (b4.block _ (block_lt k3)).trans k3; have b24 : Below w2.heap.size w2 w4 := b3.trans (b4.mono b3.size); have kp4 := (b24.block _ (block_lt kp)).trans kp
  have HT4 := Lib.hid (show Two w w.heap.size 27 2 (.slice (some ⟨w2.heap.size, 0, none⟩) 1 1) 1 (spV (ratTo ls 0)) 4 1 (.slice (some ⟨w3.heap.size, 0, none⟩) 1 1) 1 (boV (senTo ls 0)) [(w.heap.size, .cells #[.slice p ls.length c, .slice q sp.length c'] 47 (0, 0))] w4 from
    ⟨own_lit (cs := [.int .i64 1, .int .i64 1]) k3 hB2.size rfl, own_lit (cs := [.bool true]) k4 (by have := hB2.size; omega) rfl, (fun g h1 h2 => by simp [Value.ownBlock] at h1 h2; omega), (fun b o hm => by
      rw [List.mem_singleton] at hm
      injection hm with e1 e2
      subst e1 e2; have := block_lt kp; have := HB.out.size; exact ⟨kp4, (fun e => by simp [Value.ownBlock] at e; omega), (fun e => by simp [Value.ownBlock] at e; omega)⟩), hB2.trans (b24.mono hB2.size)⟩)
  have k0 := (b24.cell (lt_of_cellq k0)).trans k0; have k1 := (b24.cell (lt_of_cellq k1)).trans k1; clear b2 b3 b4 b24 k3 k4 kp4 kp e1 hB2; go_wp2; clear e3 e4 k0 k1
  go_loopw [5, 6, 20] (fun a b i wr => ∃ k : Nat, k ≤ ls.length ∧ i = .int .i64 k ∧ Hid (Two w w.heap.size 27 2 a (k + 1) (spV (ratTo ls k)) 4 1 b (k + 1) (boV (senTo ls k)) [(w.heap.size, .cells #[.slice p ls.length c, .slice q sp.length c'] 47 (0, 0))] wr)) (fun _ _ i _ => ls.length - (intOf i).toNat)
  case atStart => exact ⟨0, Nat.zero_le _, rfl, Lib.hid (by have h := HT4.out; rw [hz3] at h; exact h)⟩
  case round =>
    obtain ⟨k, hk, rfl, HTW⟩ := hrel
    by_cases hlt : k < ls.length
    · have hltI : decide ((k : Int) < (ls.length : Int)) = true := decide_eq_true (by omega)
      have hwk : IntKind.i64.wrap ((k : Int) + 1) = (k : Int) + 1 := w64 _ (by omega) (by omega); obtain ⟨k0, k1⟩ := cells2 (HTW.out.cell (b := w.heap.size) (.head _)); have hto := h_trainOf p q c sp.length c' (k + 1) ls wr (HX.out.below HTW.out.below) HT.out (by omega); rw [show ((k + 1 : Nat) : Int) = (k : Int) + 1 by omega] at hto; have HOK := Lib.hid (trn_ok HH.out (a := k + 1) ⟨by omega, by omega⟩); have HR1 := Lib.hid (rat_succ ls k); have HS1' := Lib.hid (sen_succ ls k); go_wp2_with fail; refine hto.mono ?_; clear hto; rintro e w5 ⟨p5, c5, rfl, rd5, b5⟩; have htu := t_Turns p5 c5 (trnF ls (k + 1)) w5 rd5 HOK.out.1 HOK.out.2; obtain ⟨n5, hn5⟩ : ∃ n, (trnF ls (k + 1)).length = n := ⟨_, rfl⟩; obtain ⟨A, hA⟩ : ∃ A, (turnF (trnF ls (k + 1))).1 = A := ⟨_, rfl⟩; obtain ⟨C, hC⟩ : ∃ C, (turnF (trnF ls (k + 1))).2 = C := ⟨_, rfl⟩; obtain ⟨E, hE⟩ : ∃ E, evB (trnF ls (k + 1)).length = E := ⟨_, rfl⟩
      rw [hA, hC] at htu HR1; rw [hE] at htu HS1'; rw [hn5] at htu ⊢; have HT5 := Lib.hid (HTW.out.kept b5 HTW.out.below.size); clear rd5 b5 hn5 hA hC hE; go_wp2_with fail; refine htu.mono ?_; clear htu; rintro e w6 ⟨rfl, b6⟩; have HT6 := Lib.hid (HT5.out.kept b6 HT5.out.below.size); obtain ⟨w7, e7, HS7, x0, x1, b7⟩ := box2 w6 (.int .i64 A) (.int .i64 C) 27; have HT7 := Lib.hid (HT6.out.kept b7 HT6.out.below.size); have HT8 := Lib.hid (HT7.out.alloc HT7.out.below.size #[.int .i64 A, .int .i64 C] 27); clear b6 b7; go_wp2_with (at_builtin; refine wpList_append_lies _ rfl _ _ 52 rfl w.heap.size 27 i0 _ 2 16 Tryz.underlying52 hi0 hz0 hz1 hz2 rfl (by decide) _ _ _ rfl HT8.out.o1 ⟨w7.heap.size, 0, none⟩ 1 1 [.int .i64 A, .int .i64 C] rfl rfl ?c1 ?c2 ?c6 ?c3 ?c4 ?c5 _ rfl ?_)
      case c1 => exact news_of w7 [.int .i64 A, .int .i64 C] _
      case c2 => intro u hu; simp at hu; rcases hu with rfl | rfl <;> rfl
      case c6 => decide
      case c3 => unfold maxLen; omega
      case c4 => omega
      case c5 => exact HT8.out.below.size
      intro g1 cp1 w9 ho1 hg1 hl1 _; have HT9 := Lib.hid (HT8.out.grow HT8.out.below.size ho1 hg1 (by simpa using hl1)); have HT10 := Lib.hid (HT9.out.alloc HT9.out.below.size #[.bool E] 4); clear ho1 hg1 hl1; go_wp2_with (at_builtin; refine wpList_append_lies _ rfl _ _ 53 rfl w.heap.size 4 i1 _ 1 1 Tryz.underlying53 hi1 hy0 hy1 hy2 rfl (by decide) _ _ _ rfl HT10.out.o2 ⟨w9.heap.size, 0, none⟩ 1 1 [.bool E] rfl rfl ?d1 ?d2 ?d6 ?d3 ?d4 ?d5 _ rfl ?_)
      case d1 => exact news_of w9 [.bool E] _
      case d2 => intro u hu; simp at hu; subst hu; rfl
      case d6 => decide
      case d3 => unfold maxLen; omega
      case d4 => omega
      case d5 => exact HT10.out.below.size
      intro g2 cp2 w11 ho2 hg2 hl2 _; have HT11 := Lib.hid ((HT10.out.swap.grow HT10.out.below.size ho2 hg2 (by simpa using hl2)).swap.sub (ks' := [(w.heap.size, .cells #[.slice p ls.length c, .slice q sp.length c'] 47 (0, 0))]) (fun x hm => by rw [List.mem_singleton] at hm; subst hm; exact .tail _ (.tail _ (.head _)))); clear ho2 hg2 hl2; go_wp2; go_roundw
      case rel => exact ⟨k + 1, by omega, by go_num, by rw [HR1.out, HS1'.out]; exact HT11⟩
      case measure => simp [intOf]; omega
    · obtain rfl : k = ls.length := by omega
      have hltI : decide ((ls.length : Int) < (ls.length : Int)) = false := by simp
      have h1 := HTW.out.o1; have h2 := HTW.out.o2; rw [← ratTo_len ls ls.length] at h1; rw [← senTo_len ls ls.length] at h2; obtain ⟨q1, c1, rfl, rd1⟩ := rds_of_own h1; obtain ⟨q2, c2, rfl, rd2⟩ := rdBo_of (by unfold senTo; simp) h2; have HR1 := Lib.hid rd1; have HR2 := Lib.hid rd2; have HBW := Lib.hid HTW.out.below; have HL1 := Lib.hid (ratTo_len ls ls.length); have HL2 := Lib.hid (senTo_len ls ls.length); obtain ⟨n1, hn1⟩ : ∃ n, (ratTo ls ls.length).length = n := ⟨_, rfl⟩; obtain ⟨n2, hn2⟩ : ∃ n, (senTo ls ls.length).length = n := ⟨_, rfl⟩; rw [hn1] at HL1 ⊢; rw [hn2] at HL2 ⊢; clear h1 h2 rd1 rd2 hn1 hn2 HTW; go_wp2; refine bodyPost_ret (v := .tuple #[.slice q1 n1 c1, .slice q2 n2 c2, .int .i64 0]) (by simp [results, Tryz.results18, go_sem]) rfl ⟨q1, c1, q2, c2, by rw [HL1.out, HL2.out], HR1.out, HR2.out, HBW.out⟩
end Go.Proofs.YtchclaipbahiiaaGreat
end

section
namespace Go.Proofs.YtchclaipbahiiaaGreat
open Go Go.RowKit Go.Proofs Go.Shelf
set_option linter.unusedVariables false
set_option linter.unusedSimpArgs false
attribute [local go_sem] imax2 imin2
set_option maxRecDepth 100000 in
set_option maxHeartbeats 1000000 in
theorem t_repeat0 (b off cap : Nat) (v : Int) (w : World) :
    Calls Tryz.prog 75 #[.slice (some ⟨b, off, none⟩) 1 cap, .int .i64 0] w (RepPost v 0 w) := by
  have hmul := mul1 0 (by omega); have hmk := makeLI 0 (by omega); simp only [Int.natCast_zero] at hmul hmk
  go_enter Tryz.func75, Tryz.ntmps75
  obtain ⟨w1, hcp, hw1, hb1⟩ : ∃ w1, (Builtin.copy_ #[23, 23] 3 #[.slice (some ⟨w.heap.size, 0, none⟩) 0 0, .slice (some ⟨b, off, none⟩) 1 cap]).run Tryz.prog (w.alloc (.cells (repC [.int .i64 0] 0).toArray 3)) = .ok (.int .i64 0) w1 ∧
      w1.heap[w.heap.size]? = some (.cells (repC [.int .i64 v] 0).toArray 3 (0, 0)) ∧ Below w.heap.size w w1 := by
    have h := run_copy_ex (P := Tryz.prog) (w.alloc (.cells (repC [.int .i64 0] 0).toArray 3)) 23 23 3 3 1 w.heap.size 0 0 0 ⟨b, off, none⟩ 1 cap 0 (repC [.int .i64 0] 0) 3 [] Tryz.underlying23 szI (alloc_new _ _) rfl rfl
      (fun j u hj => by simp at hj) (by simp [repC_length]) (fun u hu => by simp at hu) w.heap.size w (below_alloc1 _ _) (Nat.le_refl _)
    exact h
  have HW1 := Lib.hid hw1; have HB1 := Lib.hid hb1; clear hw1 hb1; go_wp2_with fail; refine (hmul _).mono ?_; rintro e w' ⟨rfl, rfl⟩; go_wp2; clear hmul hmk hcp
  go_loopw [8] (fun vv wr => vv = .int .i64 0 ∧ Hid (wr.heap[w.heap.size]? = some (.cells (repC [.int .i64 v] 0).toArray 3 (0, 0))) ∧ Hid (Below w.heap.size w wr)) (fun v _ => 0)
  case atStart => exact ⟨rfl, HW1, HB1⟩
  case round =>
    obtain ⟨rfl, HW, HB⟩ := hrel; go_wp2; go_ret; exact ⟨w.heap.size, rfl, Nat.le_refl _, HW.out, HB.out⟩
theorem t_lets (a0 a1 a2 a4 a5 : Value) (se : Int) (n : Nat) (w : World) (hs : 1 ≤ se ∧ se ≤ 3) (hn : n ≤ 1000) :
    Calls Tryz.prog 79 #[.agg #[a0, a1, a2, .int .i64 se, a4, a5], .int .i64 n] w fun e w' => e = .returned (.bool (letsB se n)) ∧ Below w.heap.size w w' := by
  obtain ⟨w1, e1, HS1, kr, b1⟩ := bx6 w a0 a1 a2 (.int .i64 se) a4 a5 89; obtain ⟨k0, k1, k2, k3, k4, k5⟩ := cells6 kr; have HB := Lib.hid b1; have hws : IntKind.i64.wrap (se - 1) = se - 1 := w64 _ (by omega) (by omega); have hmd : Int.tmod (n : Int) 2 = ((n % 2 : Nat) : Int) := by rw [Int.tmod_eq_emod_of_nonneg (by omega)]; omega
  have hwr : IntKind.i64.wrap ((n % 2 : Nat) : Int) = ((n % 2 : Nat) : Int) := w64 _ (by omega) (by have := Nat.mod_lt n (show 2 > 0 by decide); omega); have hse : se = 1 ∨ se = 2 ∨ se = 3 := by omega
  obtain ⟨r, hr⟩ : ∃ r, n % 2 = r := ⟨_, rfl⟩; have hr2 : r = 0 ∨ r = 1 := by have := Nat.mod_lt n (show 2 > 0 by decide); omega
  have HL := Lib.hid (show letsB se n = if se = 2 then r == 0 else if se = 3 then r == 1 else true by rw [← hr]; rfl); rw [hr] at hmd hwr; clear b1 k0 k1 k2 k4 k5 kr hr
  rcases hse with rfl | rfl | rfl
  · go_enter Tryz.func79, Tryz.ntmps79
    go_wp2; go_ret; exact ⟨by rw [HL.out]; rfl, HB.out⟩
  · rcases hr2 with rfl | rfl
    · go_enter Tryz.func79, Tryz.ntmps79
      go_wp2; go_ret; exact ⟨by rw [HL.out]; rfl, HB.out⟩
    · go_enter Tryz.func79, Tryz.ntmps79
      go_wp2; go_ret; exact ⟨by rw [HL.out]; rfl, HB.out⟩
  · rcases hr2 with rfl | rfl
    · go_enter Tryz.func79, Tryz.ntmps79
      go_wp2; go_ret; exact ⟨by rw [HL.out]; rfl, HB.out⟩
    · go_enter Tryz.func79, Tryz.ntmps79
      go_wp2; go_ret; exact ⟨by rw [HL.out]; rfl, HB.out⟩
end Go.Proofs.YtchclaipbahiiaaGreat
end

section
namespace Go.Proofs.YtchclaipbahiiaaGreat
open Go Go.RowKit Go.Proofs
set_option linter.unusedVariables false
set_option linter.unusedSimpArgs false
attribute [local go_sem] imax2 imin2
def RdMk (w : World) (q : Option Addr) (t : List Int) (n : Nat) : Prop :=
  ∃ b off, q = some ⟨b, off, none⟩ ∧ ∀ i, i < n → ∃ g cp, w.cell? ⟨b, off + i, none⟩ = some (.slice (some ⟨g, 0, none⟩) (topN i + 1) cp) ∧ ∀ x : Nat, x ≤ topN i → w.cell? ⟨g, x, none⟩ = some (.bool ((prodsL t i).contains (x : Int)))
theorem RdMk.below {w w' : World} {q : Option Addr} {t : List Int} {n : Nat} (h : RdMk w q t n) (hb : Below w.heap.size w w') : RdMk w' q t n := by
  obtain ⟨b, off, e, hc⟩ := h; refine ⟨b, off, e, fun i hi => ?_⟩; obtain ⟨g, cp, h1, h2⟩ := hc i hi; exact ⟨g, cp, (hb.cell (lt_of_cellq h1)).trans h1, fun x hx => (hb.cell (lt_of_cellq (h2 x hx))).trans (h2 x hx)⟩
theorem canF_yes {t : List Int} {k : Nat} {x : Int × Int} {n : Nat} (h1 : 1 ≤ n) (h2 : (n : Int) * max x.1 x.2 ≤ topN k) (hm : 1 ≤ max x.1 x.2) (h3 : (prodsL t k).contains ((n : Int) * x.1) = true) (h4 : (prodsL t k).contains ((n : Int) * x.2) = true) : canF t k x = true := by
  unfold canF; rw [List.any_eq_true]; refine ⟨n, List.mem_range.2 ?_, by rw [h3, h4, decide_eq_true h1, decide_eq_true h2]; rfl⟩; have := Int.mul_le_mul_of_nonneg_left (a := 1) (b := max x.1 x.2) (c := (n : Int)) hm (by omega); omega
theorem canF_no {t : List Int} {k : Nat} {x : Int × Int} (h : ∀ n : Nat, 1 ≤ n → (n : Int) * max x.1 x.2 ≤ topN k → ((prodsL t k).contains ((n : Int) * x.1) && (prodsL t k).contains ((n : Int) * x.2)) = false) : canF t k x = false := by
  unfold canF; rw [List.any_eq_false]; intro n hn hc; simp only [Bool.and_eq_true, decide_eq_true_eq] at hc; have := h n hc.1 hc.2.1; rw [hc.2.2.1, hc.2.2.2] at this
  cases this
set_option maxHeartbeats 3200000 in
set_option maxRecDepth 100000 in
theorem t_can (v0 v1 v2 v3 v4 v5 v6 : Value) (qm : Option Addr) (nm cm : Nat) (t : List Int) (k : Nat) (X Y : Int) (w : World) (hq : RdMk w qm t nm) (hk : k < nm) (hnm : nm ≤ 4) (hX : 1 ≤ X ∧ X ≤ 1000000000) (hY : 1 ≤ Y ∧ Y ≤ 1000000000) :
    Calls Tryz.prog 131 #[.agg #[v0, v1, v2, v3, v4, v5, v6, .slice qm nm cm], .int .i64 k, .agg #[.int .i64 X, .int .i64 Y]] w fun e w' => e = .returned (.bool (canF t k (X, Y))) ∧ Below w.heap.size w w' := by
  obtain ⟨w0, e0, HS0, kk, b0⟩ := bx8 w v0 v1 v2 v3 v4 v5 v6 (.slice qm nm cm) 93; obtain ⟨_, _, _, _, _, _, _, m7⟩ := cells8 kk; obtain ⟨w1, e1, HS1, x0, x1, b1⟩ := box2 w0 (.int .i64 X) (.int .i64 Y) 27; have m7 := (b1.cell (lt_of_cellq m7)).trans m7; have HB := Lib.hid (b0.trans (b1.mono b0.size)); obtain ⟨b, off, rfl, hc⟩ := hq.below HB.out; obtain ⟨g, cp, d0, hmk⟩ := hc k hk
  have htop : topN k ≤ 216000 := by
    have : (60 : Nat) ^ k ≤ 60 ^ 3 := Nat.pow_le_pow_right (by decide) (by omega); exact this
  have HMK := Lib.hid hmk; have HYES := Lib.hid (fun (n : Nat) h1 h2 h0 h3 h4 => @canF_yes t k (X, Y) n h1 h2 h0 h3 h4); have HNO := Lib.hid (fun h => @canF_no t k (X, Y) h); obtain ⟨T, hT⟩ : ∃ T, topN k = T := ⟨_, rfl⟩; rw [hT] at htop HMK HYES HNO d0; obtain ⟨MX, hMX⟩ : ∃ MX, max X Y = MX := ⟨_, rfl⟩; have hm1 : 1 ≤ MX ∧ MX ≤ 1000000000 ∧ X ≤ MX ∧ Y ≤ MX := by omega
  have HYES2 := Lib.hid (show ∀ n : Nat, 1 ≤ n → (n : Int) * MX ≤ T → (prodsL t k).contains ((n : Int) * X) = true → (prodsL t k).contains ((n : Int) * Y) = true → canF t k (X, Y) = true from fun n h1 h2 h3 h4 => HYES.out n h1 (by show (n : Int) * max X Y ≤ T; rw [hMX]; exact h2) (by show 1 ≤ max X Y; omega) h3 h4); have HNO2 := Lib.hid (show (∀ n : Nat, 1 ≤ n → (n : Int) * MX ≤ T → ((prodsL t k).contains ((n : Int) * X) && (prodsL t k).contains ((n : Int) * Y)) = false) → canF t k (X, Y) = false from fun h => HNO.out fun n h1 h2 => h n h1 (by rw [← hMX]; exact h2)); clear hc hmk hq b0 b1 hT HYES HNO kk
  go_enter Tryz.func131, Tryz.ntmps131
  go_wp2; clear e0 e1
  go_loopw [8] (fun v wr => ∃ n : Nat, 1 ≤ n ∧ n ≤ T + 1 ∧ v = .int .i64 n ∧ Hid (∀ m : Nat, 1 ≤ m → m < n → ((prodsL t k).contains ((m : Int) * X) && (prodsL t k).contains ((m : Int) * Y)) = false) ∧ w1 = wr) (fun v _ => T + 1 - (intOf v).toNat)
  case atStart => exact ⟨1, Nat.le_refl _, by omega, rfl, Lib.hid (fun m h1 h2 => by omega), rfl⟩
  case round =>
    obtain ⟨n, hn1, hnT, rfl, HNN, rfl⟩ := hrel; have hb1 : 0 ≤ (n : Int) * MX ∧ (n : Int) * MX ≤ 216001 * 1000000000 := ⟨Int.mul_nonneg (by omega) (by omega), Int.le_trans (Int.mul_le_mul_of_nonneg_right (show (n : Int) ≤ 216001 by omega) (by omega)) (Int.mul_le_mul_of_nonneg_left hm1.2.1 (by omega))⟩; have hbX : (n : Int) * X ≤ (n : Int) * MX := Int.mul_le_mul_of_nonneg_left hm1.2.2.1 (by omega); have hbY : (n : Int) * Y ≤ (n : Int) * MX := Int.mul_le_mul_of_nonneg_left hm1.2.2.2 (by omega); have hbX0 : 0 ≤ (n : Int) * X := Int.mul_nonneg (by omega) (by omega); have hbY0 : 0 ≤ (n : Int) * Y := Int.mul_nonneg (by omega) (by omega)
    have hgrow : n ≤ (n : Int) * MX := by
      have := Int.mul_le_mul_of_nonneg_left (a := 1) (b := MX) (c := (n : Int)) hm1.1 (by omega); omega
    have HY1 := Lib.hid (HYES2.out n hn1); have HMONO := Lib.hid (show ∀ m : Nat, n ≤ m → (n : Int) * MX ≤ (m : Int) * MX from fun m hm => Int.mul_le_mul_of_nonneg_right (by omega) (by omega)); have HX0 := Lib.hid (show ∀ P : Nat, (n : Int) * X = P → P ≤ T → w1.cell? ⟨g, P, none⟩ = some (.bool ((prodsL t k).contains ((n : Int) * X))) from fun P hP hPT => by rw [hP]; exact HMK.out P hPT); have HY0 := Lib.hid (show ∀ P : Nat, (n : Int) * Y = P → P ≤ T → w1.cell? ⟨g, P, none⟩ = some (.bool ((prodsL t k).contains ((n : Int) * Y))) from fun P hP hPT => by rw [hP]; exact HMK.out P hPT)
    have HSTEP := Lib.hid (show ((prodsL t k).contains ((n : Int) * X) && (prodsL t k).contains ((n : Int) * Y)) = false → ∀ m : Nat, 1 ≤ m → m < n + 1 → ((prodsL t k).contains ((m : Int) * X) && (prodsL t k).contains ((m : Int) * Y)) = false from fun hf m h1 h2 => by
      by_cases h : m < n
      · exact HNN.out m h1 h
      · obtain rfl : m = n := by omega
        exact hf)
    obtain ⟨PM, hPM⟩ : ∃ PM : Nat, (n : Int) * MX = PM := ⟨((n : Int) * MX).toNat, by omega⟩; obtain ⟨PX, hPX⟩ : ∃ PX : Nat, (n : Int) * X = PX := ⟨((n : Int) * X).toNat, by omega⟩; obtain ⟨PY, hPY⟩ : ∃ PY : Nat, (n : Int) * Y = PY := ⟨((n : Int) * Y).toNat, by omega⟩; obtain ⟨BX, hBX⟩ : ∃ BX, (prodsL t k).contains ((n : Int) * X) = BX := ⟨_, rfl⟩; obtain ⟨BY, hBY⟩ : ∃ BY, (prodsL t k).contains ((n : Int) * Y) = BY := ⟨_, rfl⟩; have hX2 := HX0.out PX hPX; have hY2 := HY0.out PY hPY; rw [hBX] at hX2 HSTEP HY1; rw [hBY] at hY2 HSTEP HY1; rw [hPM] at hb1 hbX hbY hgrow HY1 HMONO; rw [hPX] at hbX hbX0; rw [hPY] at hbY hbY0; have hwm : IntKind.i64.wrap ((n : Int) * MX) = (PM : Int) := by rw [hPM]; exact w64 _ (by omega) (by omega)
    have hwx : IntKind.i64.wrap ((n : Int) * X) = (PX : Int) := by rw [hPX]; exact w64 _ (by omega) (by omega)
    have hwy : IntKind.i64.wrap ((n : Int) * Y) = (PY : Int) := by rw [hPY]; exact w64 _ (by omega) (by omega)
    have hwn : IntKind.i64.wrap ((n : Int) + 1) = (n : Int) + 1 := w64 _ (by omega) (by omega); clear HX0 HY0 hPM hPX hPY hBX hBY hX hY
    by_cases hlt : PM ≤ T
    · have hltI : decide ((PM : Int) < (T : Int) + 1) = true := decide_eq_true (by omega)
      have hpx : PX < T + 1 := by omega
      have hpy : PY < T + 1 := by omega
      have dx := hX2 (by omega); have dy := hY2 (by omega); clear hX2 hY2
      cases BX with
      | false =>
        have HS2 := Lib.hid (HSTEP.out rfl); clear HSTEP HY1; go_wp2; go_roundw
        case rel => exact ⟨n + 1, by omega, by omega, by go_num, HS2, trivial⟩
        case measure => simp [intOf]; omega
      | true =>
        cases BY with
        | false =>
          have HS2 := Lib.hid (HSTEP.out rfl); clear HSTEP HY1; go_wp2; go_roundw
          case rel => exact ⟨n + 1, by omega, by omega, by go_num, HS2, trivial⟩
          case measure => simp [intOf]; omega
        | true =>
          have HT := Lib.hid (HY1.out (by omega) rfl rfl); clear HSTEP HY1; go_wp2; go_ret; exact ⟨by rw [HT.out]; rfl, HB.out⟩
    · have hltI : decide ((PM : Int) < (T : Int) + 1) = false := decide_eq_false (by omega)
      have HF := Lib.hid (HNO2.out fun m h1 h2 => by
        by_cases h : m < n
        · exact HNN.out m h1 h
        · have := HMONO.out m (by omega)
          omega)
      clear hX2 hY2 HSTEP HY1; go_wp2; go_ret; exact ⟨by rw [HF.out]; rfl, HB.out⟩
end Go.Proofs.YtchclaipbahiiaaGreat
end

section
namespace Go.Proofs.YtchclaipbahiiaaGreat
open Go Go.RowKit Go.Proofs Go.Shelf
set_option linter.unusedVariables false
section
variable {P : Program} {ops : Array Oper} {Q : Exit → Act → World → Prop} {md : Region.Mode} {S S2 : World → Prop} {late : Nat → Bool}
def wpAnyT (P : Program) (md : Region.Mode) (ops : Array Oper) (Q : Exit → Act → World → Prop) (S S2 : World → Prop) (late : Nat → Bool) : Nat → Array Bool → Act → World → Prop
  | 0, listed, a, w => Region.ready md ops listed = [] ∧ Q .normal a w
  | fuel + 1, listed, a, w =>
    (Region.ready md ops listed = [] → Q .normal a w) ∧
    ∀ i ∈ Region.ready md ops listed, wpOp P ops Q i (fun a' w' => ((late i = false → S w') ∧ S2 w') ∧ wpAnyT P md ops Q S S2 late fuel (listed.setIfInBounds i true) a' w') a w
theorem wpAny_of_T : ∀ (fuel : Nat) (listed : Array Bool) (a : Act) (w : World), wpAnyT P md ops Q S S2 late fuel listed a w → wpAny P md ops Q fuel listed a w
  | 0, _, _, _, h => h
  | fuel + 1, _, _, _, h => ⟨h.1, fun i hi => wpOp_mono (fun a' w' h' => wpAny_of_T fuel _ a' w' h'.2) (h.2 i hi)⟩
def wts (md : Region.Mode) (ops : Array Oper) (i : Nat) : Nat → Nat → Bool
  | 0, _ => false
  | f + 1, j => match ops[j]? with
    | some o => o.after.any fun e => Region.binds md e && (e.on == i || wts md ops i f e.on)
    | none => false
theorem wts_spec {i f j : Nat} {oj : Oper} (hj : ops[j]? = some oj) (h : wts md ops i (f + 1) j = true) : ∃ e ∈ oj.after, Region.binds md e = true ∧ (e.on = i ∨ wts md ops i f e.on = true) := by
  unfold wts at h; rw [hj] at h; simp only [Array.any_eq_true] at h; obtain ⟨x, hx, h2⟩ := h; rw [Bool.and_eq_true, Bool.or_eq_true, beq_iff_eq] at h2; exact ⟨_, Array.getElem_mem hx, h2⟩
def lateOk (md : Region.Mode) (ops : Array Oper) (late : Nat → Bool) (i : Nat) (listed : Array Bool) : Bool :=
  ((List.range ops.size).all fun j => !late j || wts md ops i 4 j) && ((List.range 5).all fun f => (List.range ops.size).all fun j => !wts md ops i f j || !listed.getD j true)
theorem lateOk_late {i : Nat} {listed : Array Bool} (h : lateOk md ops late i listed = true) {j : Nat} (hj : j < ops.size) (hl : late j = true) : wts md ops i 4 j = true := by
  unfold lateOk at h; rw [Bool.and_eq_true, List.all_eq_true] at h; have := h.1 j (List.mem_range.2 hj); rw [hl] at this
  simpa using this
theorem lateOk_un {i : Nat} {listed : Array Bool} (h : lateOk md ops late i listed = true) {f j : Nat} (hf : f ≤ 4) (hw : wts md ops i f j = true) : listed.getD j true = false ∨ ops.size ≤ j := by
  unfold lateOk at h; rw [Bool.and_eq_true, List.all_eq_true, List.all_eq_true] at h; have h2 := h.2 f (List.mem_range.2 (by omega)); rw [List.all_eq_true] at h2
  by_cases hj : j < ops.size
  · have := h2 j (List.mem_range.2 hj)
    rw [hw] at this
    left; simpa using this
  · right; omega
theorem wts_lt {i f j : Nat} (h : wts md ops i f j = true) : j < ops.size := by
  cases f with
  | zero => cases h
  | succ f =>
    unfold wts at h
    cases ho : ops[j]? with
    | none => rw [ho] at h; cases h
    | some o => exact (Array.getElem?_eq_some_iff.1 ho).1
theorem wts_ready {i : Nat} {listed : Array Bool} (hi : listed.getD i true = false) (hun : ∀ f j, f ≤ 4 → wts md ops i f j = true → listed.getD j true = false) {f j : Nat} (hf : f ≤ 4) (hw : wts md ops i f j = true) : ¬ j ∈ Region.ready md ops listed := by
  intro hr; obtain ⟨_, oj, hoj, hall⟩ := mem_ready.1 hr
  cases f with
  | zero => cases hw
  | succ f =>
    obtain ⟨e, he, hb, hon⟩ := wts_spec hoj hw; have h1 := hall e he hb
    have h0 : listed.getD e.on true = false := by
      rcases hon with h | h
      · rw [h]; exact hi
      · exact hun f e.on (by omega) h
    rcases Nat.lt_or_ge e.on listed.size with h' | h'
    · simp [h'] at h0 h1; rw [h0] at h1; cases h1
    · simp [Array.getElem?_eq_none h'] at h1
theorem wpAnyT_first {i : Nat} {oi : Oper} {v : Value} (hi : ops[i]? = some oi) (hsel : ∀ (j : Nat) (o : Oper) cs b, ops[j]? = some o → o.op ≠ .select cs b)
    (hQ : ∀ c a w, Q (.panic c) (a.put oi.dst v) w → Q (.panic c) a w) (hlate : ∀ j, j < ops.size → late j = true → wts md ops i 4 j = true) :
    ∀ (fuel : Nat) (listed : Array Bool) (a : Act) (w : World), (∀ f j, f ≤ 4 → wts md ops i f j = true → listed.getD j true = false) →
      (∀ j oj, ops[j]? = some oj → j ≠ i → listed.getD j true = false → (∀ e ∈ oj.after, Region.binds md e = true → e.on ≠ i) → oi.apart ops oj = true) →
      i ∈ Region.ready md ops listed → YieldsIf P ops S oi v a → S w → S2 w →
      wpAnyT P md ops Q S S2 late fuel (listed.setIfInBounds i true) (a.put oi.dst v) w → wpAnyT P md ops Q S S2 late (fuel + 1) listed a w := by
  intro fuel
  induction fuel with
  | zero =>
    intro listed a w hun0 _ hr hy hS hS2 H; refine ⟨fun h => (by rw [h] at hr; cases hr), fun j hj => ?_⟩
    by_cases hji : j = i
    · subst hji; exact hy.wpOp hi hS ⟨⟨fun _ => hS, hS2⟩, H⟩
    · have := ready_mono hj hji
      rw [H.1] at this
      cases this
  | succ fuel ih =>
    intro listed a w hun0 hfree hr hy hS hS2 H; refine ⟨fun h => (by rw [h] at hr; cases hr), fun j hj => ?_⟩
    by_cases hji : j = i
    · subst hji; exact hy.wpOp hi hS ⟨⟨fun _ => hS, hS2⟩, H⟩
    · have h1 := H.2 j (ready_mono hj hji)
      obtain ⟨hjun, oj, hoj, hall⟩ := mem_ready.1 hj
      have hnot : ∀ e ∈ oj.after, Region.binds md e = true → e.on ≠ i := fun e he hb heq => by
        have h1 := hall e he hb; have h0 := (mem_ready.1 hr).1; rw [heq] at h1
        rcases Nat.lt_or_ge i listed.size with h' | h'
        · simp [h'] at h0 h1; rw [h0] at h1; cases h1
        · simp [Array.getElem?_eq_none h'] at h1
      have hi0 : listed.getD i true = false := (mem_ready.1 hr).1
      have hnw : ∀ f, f ≤ 4 → wts md ops i f j = false := fun f hf => by
        cases hw : wts md ops i f j with
        | false => rfl
        | true => exact absurd hj (wts_ready hi0 hun0 hf hw)
      have hnl : late j = false := by
        cases hlj : late j with
        | false => rfl
        | true =>
          have := hlate j (Array.getElem?_eq_some_iff.1 hoj).1 hlj; rw [hnw 4 (Nat.le_refl _)] at this
          cases this
      have hun' : ∀ f k, f ≤ 4 → wts md ops i f k = true → (listed.setIfInBounds j true).getD k true = false := fun f k hf hw => by
        have hne : j ≠ k := fun e => by subst e; rw [hnw f hf] at hw; cases hw
        rw [getD_set_ne true hne]; exact hun0 f k hf hw
      have h2 := wpOp_putIf hoj (hfree j oj hoj hji hjun hnot) (fun cs b => hsel i oi cs b hi) (fun cs b => hsel j oj cs b hoj) hQ hy h1
      have hfree' : ∀ k ok, ops[k]? = some ok → k ≠ i → (listed.setIfInBounds j true).getD k true = false →
          (∀ e ∈ ok.after, Region.binds md e = true → e.on ≠ i) → oi.apart ops ok = true := fun k ok hk hki hun hno => by
        refine hfree k ok hk hki ?_ hno
        by_cases hjk : j = k
        · subst hjk; exact hjun
        · rw [getD_set_ne true hjk] at hun; exact hun
      refine wpOp_mono (fun a' w' h3 => ⟨h3.2.1, ih (listed.setIfInBounds j true) a' w' hun' hfree' (ready_mono hr (Ne.symm hji)) h3.1 (h3.2.1.1 hnl) h3.2.1.2 ?_⟩) h2; rw [Array.setIfInBounds_comm _ _ hji]; exact h3.2.2
theorem tkT (i : Nat) {oi : Oper} {d : Nat} {v : Value} {fuel : Nat} {listed : Array Bool} {a : Act} {w : World} (hi : ops[i]? = some oi) (hS : S w ∧ S2 w)
    (h : wpAnyT P md ops Q S S2 late fuel (listed.setIfInBounds i true) { a with tmps := a.tmps.setIfInBounds d v } w)
    (hl : lateOk md ops late i listed = true := by kernel_rfl) (hz : listed.size = ops.size := by kernel_rfl)
    (hs : Region.noSelect ops = true := by kernel_rfl) (hf : Region.free md ops listed i = true := by kernel_rfl) (hr : (Region.ready md ops listed).contains i = true := by kernel_rfl)
    (hd : oi.dst = some d := by rfl)
    (hQ : ∀ c a w, Q (.panic c) (a.put oi.dst v) w → Q (.panic c) a w := by intro _ _ _ h; first | exact h | (exact absurd h.1 (by intro hh; cases hh)))
    (hw : Region.wanted oi (yielded ops a.tmps) = true := by rfl)
    (hy : ∀ w, S w → (execOp a.eval oi).run P w = .ok (.value v) w := by (intro w hSw; (try dsimp only at hSw); go_simp <;> (try with_reducible rfl))) :
    wpAnyT P md ops Q S S2 late (fuel + 1) listed a w :=
  wpAnyT_first hi (Region.noSelect_spec hs) hQ (fun j hj h => lateOk_late hl hj h) fuel listed a w (fun f j hf hw => (lateOk_un hl hf hw).resolve_right (by have := wts_lt hw; omega)) (Region.free_spec hi hf) (by simpa using hr) (Or.inl ⟨hw, hy⟩) hS.1 hS.2 (by unfold Act.put; rw [hd]; exact h)
theorem kzT {K : Act → World → Prop} {T : Act → World → Prop} {l : Bool} {a : Act} {w : World} (hK : Shut (∀ a w, ((l = false → S w) ∧ S2 w) → T a w → K a w)) (hS : (l = false → S w) ∧ S2 w) (h : T a w) : K a w := hK.out _ _ hS h
theorem kzS {K : Act → World → Prop} {T : Act → World → Prop} {l : Bool} {a : Act} {w : World} (hK : Shut (∀ a w, ((l = false → S w) ∧ S2 w) → T a w → K a w)) (hS : S w ∧ S2 w) (h : T a w) : K a w := hK.out _ _ ⟨fun _ => hS.1, hS.2⟩ h
theorem stepT {i : Nat} {o : Oper} {fuel : Nat} {listed : Array Bool} {a : Act} {w : World} (ho : ops[i]? = some o)
    (h : ∀ K' : Act → World → Prop, Shut (∀ a w, ((late i = false → S w) ∧ S2 w) → wpAnyT P md ops Q S S2 late fuel (listed.setIfInBounds i true) a w → K' a w) → if Region.wanted o (yielded ops a.tmps) = true then Oper.wp P o a w K' Q else K' (a.put o.dst undef) w) :
    wpOp P ops Q i (fun a' w' => ((late i = false → S w') ∧ S2 w') ∧ wpAnyT P md ops Q S S2 late fuel (listed.setIfInBounds i true) a' w') a w :=
  wpOp_step ho (fun K' hK => h K' (fun a w hS hW => hK a w ⟨hS, hW⟩))
theorem rz1T (i : Nat) {o : Oper} {fuel : Nat} {listed : Array Bool} {a : Act} {w : World} (ho : ops[i]? = some o)
    (h : ∀ K' : Act → World → Prop, Shut (∀ a w, ((late i = false → S w) ∧ S2 w) → wpAnyT P md ops Q S S2 late fuel (listed.setIfInBounds i true) a w → K' a w) → if Region.wanted o (yielded ops a.tmps) = true then Oper.wp P o a w K' Q else K' (a.put o.dst undef) w)
    (hr : Region.ready md ops listed = [i] := by kernel_rfl) : wpAnyT P md ops Q S S2 late (fuel + 1) listed a w :=
  ⟨fun h0 => (by rw [hr] at h0; cases h0), fun j hj => (by rw [hr, List.mem_singleton] at hj; subst hj; exact stepT ho h)⟩
theorem rz2T (i j : Nat) {o u : Oper} {fuel : Nat} {listed : Array Bool} {a : Act} {w : World} (ho : ops[i]? = some o) (hu : ops[j]? = some u)
    (h : ∀ K' : Act → World → Prop, Shut (∀ a w, ((late i = false → S w) ∧ S2 w) → wpAnyT P md ops Q S S2 late fuel (listed.setIfInBounds i true) a w → K' a w) → if Region.wanted o (yielded ops a.tmps) = true then Oper.wp P o a w K' Q else K' (a.put o.dst undef) w)
    (g : ∀ K' : Act → World → Prop, Shut (∀ a w, ((late j = false → S w) ∧ S2 w) → wpAnyT P md ops Q S S2 late fuel (listed.setIfInBounds j true) a w → K' a w) → if Region.wanted u (yielded ops a.tmps) = true then Oper.wp P u a w K' Q else K' (a.put u.dst undef) w)
    (hr : Region.ready md ops listed = [i, j] := by kernel_rfl) : wpAnyT P md ops Q S S2 late (fuel + 1) listed a w :=
  ⟨fun h0 => (by rw [hr] at h0; cases h0), fun k hk => by
    rw [hr, List.mem_cons, List.mem_singleton] at hk
    rcases hk with rfl | rfl
    · exact stepT ho h
    · exact stepT hu g⟩
theorem doneT {listed : Array Bool} {a : Act} {w : World} (hr : Region.ready md ops listed = []) (h : Q .normal a w) : ∀ fuel, wpAnyT P md ops Q S S2 late fuel listed a w
  | 0 => ⟨hr, h⟩
  | _ + 1 => ⟨fun _ => h, by rw [hr]; simp⟩
theorem heldT {id : Nat} {a : Act} {w : World} (late : Nat → Bool) (hm : P.follows .mixedOrders = true)
    (h : ∀ W0, Below w.heap.size w W0 → W0.heap = w.heap → wpAnyT P .any ops Q S S2 late ops.size (Array.replicate ops.size false) a W0) : (Code.region id ops true).wp P Q a w :=
  wp_region_any hm (wpAny_of_T _ _ _ _ (h _ (Below.refl _ _).drew rfl))
theorem oper_wide {n : Nat} {o : Oper} {a : Act} {w : World} {K : Act → World → Prop} (h : o.wp P a w K Q) : o.wpIn Fence.wide n P a w K Q := by
  refine ⟨fun _ _ => trivial, ?_⟩; rw [show Fence.wide.round = none from rfl, Oper.semAt_none]; unfold Oper.wp at h
  generalize (execOp a.eval o).run P w = r at h ⊢
  cases r with
  | ok x w' =>
    cases x with
    | value v => exact h
    | skip => exact h
    | defer d => exact h
    | enter f args => exact ⟨(fun hh => by cases hh), callsIn_wide.2 h⟩
    | row row args =>
      refine ⟨(fun hh => by cases hh), ?_⟩; intro c cs _; obtain ⟨v, w'', h1, h2⟩ := h c cs; exact ⟨v, w'', h1, stepsIn_wide.2 h2⟩
    | round => exact h.elim
    | _ => exact h.elim
  | halt x w' => cases x <;> first | exact h | exact h.elim
theorem wpAny_wide {n : Nat} (hlo : ¬ LetsOut Q) : ∀ (fuel : Nat) (listed : Array Bool) (a : Act) (w : World), wpAny P .any ops Q fuel listed a w → wpAnyIn Fence.wide n P .any ops Q fuel listed a w := by
  intro fuel
  induction fuel with
  | zero => intro listed a w h; exact h
  | succ fuel ih =>
    intro listed a w h; refine ⟨h.1, fun i hi => ?_⟩; have h2 := h.2 i hi; unfold wpOp at h2; unfold wpOpIn
    cases ho : ops[i]? with
    | none => rw [ho] at h2; exact ih _ _ _ h2
    | some o =>
      rw [ho] at h2; simp only at h2 ⊢; have hm : ∀ a w, wpAny P .any ops Q fuel (listed.setIfInBounds i true) a w → wpAnyIn Fence.wide n P .any ops Q fuel (listed.setIfInBounds i true) a w := fun a w hh => ih _ _ _ hh
      split
      · rename_i hw
        rw [if_pos hw] at h2
        rcases h2 with h2 | h2
        rotate_left
        · exact absurd h2.2 hlo
        refine oper_wide ?_; exact Oper.wp_mono hm h2
      · rename_i hw
        rw [if_neg hw] at h2; exact ⟨fun _ _ => trivial, hm _ _ h2⟩
theorem wpIn_wide_T {n : Nat} {id : Nat} {a : Act} {w : World} (late : Nat → Bool) (hm : P.follows .mixedOrders = true)
    (h : ∀ W0, Below w.heap.size w W0 → W0.heap = w.heap → wpAnyT P .any ops (fun e a w => e = Exit.normal ∧ Q .normal a w) S S2 late ops.size (Array.replicate ops.size false) a W0) : (Code.region id ops true).wpIn Fence.wide n P Q a w :=
  wpIn_mono (wpIn_region_any (Q := fun e a w => e = Exit.normal ∧ Q .normal a w) hm (wpAny_wide (by rintro ⟨_, _, hh, _⟩; cases hh) _ _ _ _ (wpAny_of_T _ _ _ _ (h _ (Below.refl _ _).drew rfl)))) (fun e a w h => by rw [h.1]; exact h.2)
end
end Go.Proofs.YtchclaipbahiiaaGreat
end

section
namespace Go.Proofs.YtchclaipbahiiaaGreat
open Go Go.RowKit Go.Proofs
set_option linter.unusedVariables false
set_option linter.unusedSimpArgs false
theorem add_at (b off j : Nat) : (⟨b, off, none⟩ : Addr).add j = ⟨b, off + j, none⟩ := by unfold Addr.add; split <;> simp_all
theorem prs_cells : ∀ l : List (Int × Int), ∀ u ∈ spV l, u.oneCell' = true := by
  intro l
  induction l with
  | nil => intro u hu; cases hu
  | cons x l ih =>
    obtain ⟨a, b⟩ := x; intro u hu; simp only [spV, List.mem_cons] at hu
    rcases hu with rfl | rfl | hu
    · rfl
    · rfl
    · exact ih u hu
theorem news_prs {w : World} {q : Option Addr} {xs : List (Int × Int)} (h : RdS w q xs) : xs.length = 0 ∨ ∃ ad, q = some ad ∧ ∀ i u, (spV xs)[i]? = some u → w.cell? (ad.add i) = some u := by
  rcases h with rfl | ⟨b, off, rfl, hc⟩
  · exact .inl rfl
  · refine .inr ⟨_, rfl, fun i u hu => ?_⟩
    have hi : i < xs.length * 2 := by have := (List.getElem?_eq_some_iff.1 hu).1; rw [spV_length] at this; exact this
    have hj : i / 2 < xs.length := by omega
    obtain ⟨g0, g1⟩ := spV_get xs (i / 2) hj; obtain ⟨c0, c1⟩ := hc (i / 2) hj; rw [add_at]; have hr : i % 2 = 0 ∨ i % 2 = 1 := by omega
    rcases hr with hr | hr
    · have e : i = i / 2 * 2 := by omega
      rw [e] at hu ⊢; rw [g0] at hu; cases hu; exact c0
    · have e : i = i / 2 * 2 + 1 := by omega
      rw [e] at hu ⊢; rw [g1] at hu; cases hu; exact c1
end Go.Proofs.YtchclaipbahiiaaGreat
end
