/-
  The days of a sky: an iterator: contract.
  A sky that is as defined: contracts.
  The next new moon: contract.
  The example of a sky, and its first new moon: contracts.
  The examples of a rule, a fraction, a train: contracts.
  The examples that the top statements ask for: contract.
  Between which bounds lies what a hand shows: contracts.
  A word for walks through a drawn region: the world at hand gets a name.
  What each truth shows at a hand, and at two hands: contracts of the closures (printed by slkapart.py).
  asked, in one ending for all arguments.
  Shows: contract, all arguments (printed by slkask.py)
  TopSlack, plain: a piece without readings whose crank is turned on alone shows what the rate makes of the crank's place less all plays.
  One cell of three is stored (as in E6, for the seat of the top statements).
-/
import Derived.Deep.RegionHeld3
import Derived.Test.YtchclaipbahiiaaGreatFZT11
import Derived.Test.YtchclaipbahiiaaGreatFZT12
import Derived.Test.YtchclaipbahiiaaGreatFZT14
import Derived.Test.YtchclaipbahiiaaGreatFZT18
section
namespace Go.Proofs.YtchclaipbahiiaaGreat
open Go Go.RowKit Go.Proofs Go.Shelf
set_option linter.unusedVariables false
set_option linter.unusedSimpArgs false
attribute [local go_sem] Oper.semAt_some imax2 imin2
set_option maxRecDepth 100000 in
set_option maxHeartbeats 1000000 in
theorem y_days1 (n : Nat) (hn : 2 ≤ n) (l bF bT bS n₀ N : Nat) (sv : Value) (n1 n2 n3 : Int) (f g : Int) (hf : 0 ≤ f ∧ f ≤ 20001) (hg : f + N = g + 1) (hg2 : g ≤ 20000) (J Jx : List Nat → World → Prop) (W : World)
    (hn0 : n₀ ≤ W.heap.size) (hb1 : bF < n₀) (hb2 : bT < n₀) (hb3 : bS < n₀)
    (hJ : AbidesFrom W.heap.size J)
    (hY : ∀ pre x W1, J pre W1 → pre.length < N → YieldAt Fence.wide (n - 1) Tryz.prog l #[.agg #[sv, .int .i64 n1, .int .i64 n2, .int .i64 n3, .int .i64 (f + ((x % N : Nat) : Int))]] W1 fun e W' =>
      (e = .returned (.bool true) ∧ J (pre ++ [x]) W' ∧ Below n₀ W1 W') ∨ (e = .returned (.bool false) ∧ Jx (pre ++ [x]) W'))
    (kF : W.cell? ⟨bF, 0, none⟩ = some (.int .i64 f)) (kT : W.cell? ⟨bT, 0, none⟩ = some (.int .i64 g))
    (k0 : W.cell? ⟨bS, 0, none⟩ = some sv) (k1 : W.cell? ⟨bS, 1, none⟩ = some (.int .i64 n1)) (k2 : W.cell? ⟨bS, 2, none⟩ = some (.int .i64 n2)) (k3 : W.cell? ⟨bS, 3, none⟩ = some (.int .i64 n3)) (h0 : J [] W) :
    CallsIn Fence.wide n Tryz.prog 116 #[.func (.yield l) #[] #[], .pointer (some ⟨bF, 0, none⟩), .pointer (some ⟨bT, 0, none⟩), .pointer (some ⟨bS, 0, none⟩)] W fun e W' => (∃ v, e = .returned v) ∧
      ((∃ ys, ys = List.range N ∧ J ys W') ∨ (∃ pre, (∃ k, k ≤ N ∧ pre = List.range k) ∧ Jx pre W')) := by
  refine callsIn_of_wp Tryz.func116 rfl trivial ?_ rfl; simp only [Tryz.ntmps116, List.size_toArray, List.length_cons, List.length_nil, Nat.reduceAdd, Nat.reduceSub, Array.replicate_succ, Array.replicate_zero, List.push_toArray, List.append_toArray, List.nil_append, List.cons_append]; have HGG := Lib.hid hg
  gi_wp2
  gi_loopw [5] (fun i wr => ∃ k : Nat, k ≤ N ∧ i = .int .i64 (f + k) ∧ J (List.range k) wr ∧ Below n₀ W wr) (fun i _ => (g + 1 - intOf i).toNat)
  case atStart => exact ⟨0, Nat.zero_le _, by simp, h0, Below.refl _ _⟩
  case round =>
    obtain ⟨k, hk, rfl, hJs, hnx⟩ := hrel; have HJS := Lib.hid hJs; have HNX := Lib.hid hnx
    by_cases hlt : k < N
    · have r1 := (hnx.cell hb2).trans kT
      have z0 := (hnx.cell hb3).trans k0; have z1 := (hnx.cell hb3).trans k1; have z2 := (hnx.cell hb3).trans k2; have z3 := (hnx.cell hb3).trans k3; have hj2 : ∀ w2 : World, Below wr.heap.size wr w2 → J (List.range k) w2 := fun w2 b => hJ _ wr w2 none hJs ⟨b.os, b.tape, b.output, b.size, fun i hi _ => b.block i hi⟩ (fun r e => by cases e)
      obtain ⟨fn, tmps, assign, body, hy, hR⟩ := hY (List.range k) k wr hJs (by rw [List.length_range]; exact hlt); have hw1 : IntKind.i64.wrap (f + (k : Int) + 1) = f + (k : Int) + 1 := w64 _ (by omega) (by omega); have hle : decide (f + (k : Int) ≤ g) = true := by simp; omega
      have hd : 1 ≤ n - 1 := by omega
      have hn1 : n₀ ≤ wr.heap.size := by have := hnx.size; omega
      rw [Nat.mod_eq_of_lt hlt] at hy; clear hJs hnx hj2 hY hJ hg
      gi_wp2_with fail
      refine ⟨fun _ => (by omega), ?_⟩; refine hR.mono ?_; intro e W3 h3
      obtain ⟨bb, rfl, HB3⟩ : ∃ bb : Bool, e = .returned (.bool bb) ∧ Hid ((bb = true ∧ J (List.range k ++ [k]) W3 ∧ Below n₀ wr W3) ∨ (bb = false ∧ Jx (List.range k ++ [k]) W3)) := by
        rcases h3 with ⟨h, h'⟩ | ⟨h, h'⟩
        · exact ⟨true, h, Lib.hid (.inl ⟨rfl, h'⟩)⟩
        · exact ⟨false, h, Lib.hid (.inr ⟨rfl, h'⟩)⟩
      clear h3
      rcases HB3.out with ⟨rfl, hJ3, hk3⟩ | ⟨rfl, hJx3⟩
      · have HW3 := Lib.hid (HNX.out.trans hk3)
        have HJ3 := Lib.hid hJ3; clear hk3 hJ3 HB3 hR hy
        gi_wp2
        go_roundw
        case rel => exact ⟨k + 1, by omega, by rw [show f + ((k + 1 : Nat) : Int) = f + (k : Int) + 1 by omega], by rw [List.range_succ]; exact HJ3.out, HW3.out⟩
        case measure => have := HGG.out; simp [intOf]; omega
      · have HJ3 := Lib.hid hJx3
        clear hJx3 HB3 hR hy
        gi_wp2
        refine bodyPost_ret (results_none rfl _ _ _) rfl ?_; exact ⟨⟨_, rfl⟩, .inr ⟨_, ⟨k + 1, by omega, List.range_succ.symm⟩, HJ3.out⟩⟩
    · obtain rfl : k = N := by omega
      have r1 := (hnx.cell hb2).trans kT; have hle : decide (f + (k : Int) ≤ g) = false := by simp; omega
      clear hJs hnx hY hJ hg
      gi_wp2
      go_end0
      exact ⟨⟨_, rfl⟩, .inl ⟨_, rfl, HJS.out⟩⟩
theorem days_stops (n : Nat) (hn : 2 ≤ n) (bF bT bS n₀ N : Nat) (sv : Value) (n1 n2 n3 : Int) (f g : Int) (hf : 0 ≤ f ∧ f ≤ 20001) (hg : f + N = g + 1) (hg2 : g ≤ 20000) (w : World) (hn0 : n₀ ≤ w.heap.size) (hb1 : bF < n₀) (hb2 : bT < n₀) (hb3 : bS < n₀)
    (kF : w.cell? ⟨bF, 0, none⟩ = some (.int .i64 f)) (kT : w.cell? ⟨bT, 0, none⟩ = some (.int .i64 g))
    (k0 : w.cell? ⟨bS, 0, none⟩ = some sv) (k1 : w.cell? ⟨bS, 1, none⟩ = some (.int .i64 n1)) (k2 : w.cell? ⟨bS, 2, none⟩ = some (.int .i64 n2)) (k3 : w.cell? ⟨bS, 3, none⟩ = some (.int .i64 n3)) :
    SeqStopsK Fence.wide n Tryz.prog 116 #[.pointer (some ⟨bF, 0, none⟩), .pointer (some ⟨bT, 0, none⟩), .pointer (some ⟨bS, 0, none⟩)] (fun x : Nat => #[Value.agg #[sv, .int .i64 n1, .int .i64 n2, .int .i64 n3, .int .i64 (f + ((x % N : Nat) : Int))]]) (Below n₀) (fun ys => ys = List.range N)
      (fun pre => ∃ k, k ≤ N ∧ pre = List.range k) N w := fun l J Jx W hW hJ hJx hY h0 =>
  y_days1 n hn l bF bT bS n₀ N sv n1 n2 n3 f g hf hg hg2 J Jx W (Nat.le_trans hn0 hW.size) hb1 hb2 hb3 hJ hY ((hW.cell (lt_of_cellq kF)).trans kF) ((hW.cell (lt_of_cellq kT)).trans kT) ((hW.cell (lt_of_cellq k0)).trans k0) ((hW.cell (lt_of_cellq k1)).trans k1) ((hW.cell (lt_of_cellq k2)).trans k2) ((hW.cell (lt_of_cellq k3)).trans k3) h0
theorem y_days (a0 a1 a2 a3 : Value) (f g : Int) (w : World) :
    Calls Tryz.prog 68 #[.agg #[a0, a1, a2, a3], .int .i64 f, .int .i64 g] w fun e w' => e = .returned (.func (.func 116) #[] #[.pointer (some ⟨w.heap.size + 1, 0, none⟩), .pointer (some ⟨w.heap.size + 1 + 1, 0, none⟩), .pointer (some ⟨w.heap.size, 0, none⟩)]) ∧
      ((w.alloc (.cells #[a0, a1, a2, a3] 83)).alloc (.cells #[.int .i64 f] 3)).alloc (.cells #[.int .i64 g] 3) = w' := by
  go_enter Tryz.func68, Tryz.ntmps68
  go_wp2; go_ret; exact ⟨rfl, rfl⟩
end Go.Proofs.YtchclaipbahiiaaGreat
end

section
namespace Go.Proofs.YtchclaipbahiiaaGreat
open Go Go.RowKit Go.Proofs
set_option linter.unusedVariables false
set_option linter.unusedSimpArgs false
attribute [local go_sem] imax2 imin2
theorem y_isPlace (x : Int) (w : World) : Calls Tryz.prog 112 #[.int .i64 x] w fun e w' => e = .returned (.bool (inB x 0 21599)) ∧ w = w' := by
  go_enter Tryz.func112, Tryz.ntmps112
  go_wp2_with fail; refine (y_in _ _ _ _).mono ?_; rintro e w' ⟨rfl, rfl⟩; go_wp2; go_ret; exact ⟨rfl, rfl⟩
theorem y_isDay (x : Int) (w : World) : Calls Tryz.prog 67 #[.int .i64 x] w fun e w' => e = .returned (.bool (inB x 0 20000)) ∧ w = w' := by
  go_enter Tryz.func67, Tryz.ntmps67
  go_wp2_with fail; refine (y_in _ _ _ _).mono ?_; rintro e w' ⟨rfl, rfl⟩; go_wp2; go_ret; exact ⟨rfl, rfl⟩
theorem y_errNot (x : Int) (w : World) : Calls Tryz.prog 115 #[.int .i64 x] w fun e w' => e = .returned (.bool (!inB x (-600) 600)) ∧ Below w.heap.size w w' := by
  go_enter Tryz.func115, Tryz.ntmps115
  go_wp2_with fail; refine (y_in _ _ _ _).mono ?_; rintro e w' ⟨rfl, rfl⟩; go_wp2; go_ret; exact ⟨rfl, Below.refl _ _⟩
theorem y_isPeriod (num den : Int) (w : World) (h1 : 1 ≤ num ∧ num ≤ 10000) (h2 : 1 ≤ den ∧ den ≤ 10000) (h3 : 4 * den ≤ num) :
    Calls Tryz.prog 111 #[.agg #[.int .i64 num, .int .i64 den]] w fun e w' => e = .returned (.bool true) ∧ Below w.heap.size w w' := by
  obtain ⟨w0, e0, HS0, k0, k1, b0⟩ := box2 w (.int .i64 num) (.int .i64 den) 79; have HB := Lib.hid b0; have g1 : inB num 1 10000 = true := inB_iff.2 h1; have g2 : inB den 1 10000 = true := inB_iff.2 h2; have hws : IntKind.i64.wrap (4 * den) = 4 * den := w64 _ (by omega) (by omega); have g3 : decide (num ≥ 4 * den) = true := decide_eq_true h3; clear b0 h1 h2
  go_enter Tryz.func111, Tryz.ntmps111
  go_wp2_with fail; refine (y_in _ _ _ _).mono ?_; rw [g1]; rintro e w' ⟨rfl, rfl⟩; go_wp2_with fail; refine (y_in _ _ _ _).mono ?_; rw [g2]; rintro e w' ⟨rfl, rfl⟩; go_wp2; go_ret; exact ⟨rfl, HB.out⟩
set_option maxHeartbeats 400000 in
set_option maxRecDepth 100000 in
theorem y_ixErr (p : Option Addr) (cap : Nat) (xs : List Int) (w : World) (hx : RdI w p xs) (hl : xs.length ≤ 1000000) :
    Calls Tryz.prog 89 #[.slice p xs.length cap, .func (.func 115) #[] #[]] w (BadPost xs.length (fun j => (fun x => inB x (-600) 600) (gi xs j)) w) := by
  have HX := Lib.hid hx; clear hx
  go_enter Tryz.func89, Tryz.ntmps89
  go_wp2
  go_loopw [8] (fun i wr => ∃ k : Nat, k ≤ xs.length ∧ i = .int .i64 k ∧ Hid (∀ j, j < k → (fun x => inB x (-600) 600) (gi xs j) = true) ∧ Below w.heap.size w wr) (fun i _ => xs.length - (intOf i).toNat)
  case atStart => exact ⟨0, by omega, rfl, Lib.hid (by intro j hj; omega), Below.refl _ _⟩
  case round =>
    obtain ⟨k, hk, rfl, HH, hnx⟩ := hrel; have HN := Lib.hid hnx
    by_cases hlt : k < xs.length
    · obtain ⟨b, off, rfl, hc⟩ := (HX.out.below hnx).at hlt
      obtain e1 := hc k hlt; have hcl : Calls Tryz.prog 115 #[.int .i64 (gi xs k)] wr fun e w' => e = .returned (.bool (!(fun x => inB x (-600) 600) (gi xs k))) ∧ Below wr.heap.size wr w' := y_errNot (gi xs k) wr
      clear hc hnx
      rcases hb : (fun x => inB x (-600) 600) (gi xs k) with _ | _
      · have HB := Lib.hid hb
        rw [hb] at hcl; clear hb; go_wp2_with fail; refine hcl.mono ?_; rintro e w4 ⟨rfl, b4⟩; have HN2 := Lib.hid (HN.out.trans (b4.mono HN.out.size)); clear hcl b4; go_wp2; go_ret; exact ⟨k, .inr ⟨by omega, k, hlt, HB.out⟩, rfl, HN2.out⟩
      · have HB := Lib.hid hb
        rw [hb] at hcl; clear hb; go_wp2_with fail; refine hcl.mono ?_; rintro e w4 ⟨rfl, b4⟩; have HN2 := Lib.hid (HN.out.trans (b4.mono HN.out.size)); clear hcl b4; go_wp2; go_roundw
        case rel =>
          refine ⟨k + 1, by omega, by go_num, Lib.hid fun j hj => ?_, HN2.out⟩
          rcases Nat.lt_or_ge j k with h | h
          · exact HH.out j h
          · obtain rfl : j = k := by omega
            exact HB.out
        case measure => simp [intOf]; omega
    · obtain rfl : k = xs.length := by omega
      go_wp2; go_ret; exact ⟨-1, .inl ⟨rfl, HH.out⟩, rfl, HN.out⟩
set_option maxRecDepth 100000 in
theorem y_cfErr (p : Option Addr) (cap : Nat) (xs : List Int) (w : World) (hx : RdI w p xs) (hl : xs.length ≤ 1000000) :
    Calls Tryz.prog 42 #[.slice p xs.length cap, .func (.func 115) #[] #[]] w fun e w' => e = .returned (.bool (!xs.all (fun x => inB x (-600) 600))) ∧ Below w.heap.size w w' := by
  have h := y_ixErr p cap xs w hx hl; clear hx
  go_enter Tryz.func42, Tryz.ntmps42
  go_wp2_with fail; refine h.mono ?_; rintro e w' ⟨r, hr, rfl, hb⟩; have HB := Lib.hid hb; clear h hb
  rcases hr with ⟨rfl, hh⟩ | ⟨h0, j, hj, hb⟩
  · have HG := Lib.hid (all_ok (f := (fun x => inB x (-600) 600)) (d := 0) (l := xs) hh)
    clear hh; go_wp2; go_ret; exact ⟨by rw [HG.out]; rfl, HB.out⟩
  · have HG := Lib.hid (all_bad (f := (fun x => inB x (-600) 600)) (d := 0) (l := xs) hj hb)
    clear hb; go_wp2; go_ret; exact ⟨by rw [HG.out]; simp, HB.out⟩
structure BdGood (b : Bd) : Prop where
  ok : BdOk b
  four : 4 * b.den ≤ b.num
theorem y_bodyNot (num den start : Int) (road : List Int) (q : Option Addr) (c : Nat) (w : World) (hx : RdI w q road) (h : BdGood ⟨num, den, start, road⟩) :
    Calls Tryz.prog 114 #[.agg #[.int .i64 num, .int .i64 den, .int .i64 start, .slice q road.length c]] w fun e w' => e = .returned (.bool false) ∧ Below w.heap.size w w' := by
  obtain ⟨w0, e0, HS0, k0, k1, k2, k3, b0⟩ := box4 w (.int .i64 num) (.int .i64 den) (.int .i64 start) (.slice q road.length c) 141; have HB := Lib.hid b0; obtain ⟨⟨h1, h2, h3, h4, h5⟩, h6⟩ := h; simp only at h1 h2 h3 h4 h5 h6; have HP := Lib.hid (fun W => y_isPeriod num den W h1 h2 h6); have g3 : inB start 0 21599 = true := inB_iff.2 h3; have g4 : inB (road.length : Int) 1 8 = true := inB_iff.2 ⟨by omega, by omega⟩; have HX := Lib.hid (hx.below b0)
  have HG := Lib.hid (show (!road.all fun x => inB x (-600) 600) = false by
    rw [Bool.not_eq_false', List.all_eq_true]; intro x hm; obtain ⟨j, hj, e⟩ := List.getElem_of_mem hm; have := h5 j hj; rw [gi_get _ _ hj] at this; rw [← e]; exact inB_iff.2 this)
  have hl : road.length ≤ 1000000 := by omega
  clear b0 h1 h2 h3 h4 h5 h6 hx
  go_enter Tryz.func114, Tryz.ntmps114
  go_wp2_with fail; clear e0; refine (HP.out _).mono ?_; rintro e w1 ⟨rfl, b1⟩; have HX1 := Lib.hid (HX.out.below b1); have HB1 := Lib.hid (HB.out.trans (b1.mono HB.out.size)); have k0 := (b1.cell (lt_of_cellq k0)).trans k0; have k1 := (b1.cell (lt_of_cellq k1)).trans k1; have k2 := (b1.cell (lt_of_cellq k2)).trans k2; have k3 := (b1.cell (lt_of_cellq k3)).trans k3; clear b1; go_wp2_with fail; refine (y_isPlace _ _).mono ?_; rw [g3]; rintro e w' ⟨rfl, rfl⟩; go_wp2_with fail; refine (y_in _ _ _ _).mono ?_; rw [g4]; rintro e w' ⟨rfl, rfl⟩; go_wp2_with fail; refine (y_cfErr q c road _ HX1.out hl).mono ?_; rw [HG.out]; rintro e w2 ⟨rfl, b2⟩; have HB2 := Lib.hid (HB1.out.trans (b2.mono HB1.out.size)); clear b2; go_wp2; go_ret; exact ⟨rfl, HB2.out⟩
set_option maxHeartbeats 400000 in
set_option maxRecDepth 100000 in
theorem y_ixBody (p : Option Addr) (cap : Nat) (bs : List Bd) (w : World) (hx : RdBd w p bs) (hl : bs.length ≤ 1000000) (hg : ∀ i, i < bs.length → BdGood (gb bs i)) :
    Calls Tryz.prog 148 #[.slice p bs.length cap, .func (.func 114) #[] #[]] w fun e w' => e = .returned (.int .i64 (-1)) ∧ Below w.heap.size w w' := by
  have HX := Lib.hid hx; have HG := Lib.hid hg; clear hx hg
  go_enter Tryz.func148, Tryz.ntmps148
  go_wp2
  go_loopw [8] (fun i wr => ∃ k : Nat, k ≤ bs.length ∧ i = .int .i64 k ∧ Below w.heap.size w wr) (fun i _ => bs.length - (intOf i).toNat)
  case atStart => exact ⟨0, by omega, rfl, Below.refl _ _⟩
  case round =>
    obtain ⟨k, hk, rfl, hnx⟩ := hrel; have HN := Lib.hid hnx
    by_cases hlt : k < bs.length
    · obtain ⟨b, off, rfl, hc⟩ := HX.out.below hnx
      obtain ⟨e1, e2, e3, q, c, e4, hr⟩ := hc k hlt; have hgb := HG.out k hlt; obtain ⟨B, hB⟩ : ∃ B, gb bs k = B := ⟨_, rfl⟩; rw [hB] at e1 e2 e3 e4 hr hgb; obtain ⟨num, den, start, road⟩ := B; simp only at e1 e2 e3 e4 hr; have hcl := y_bodyNot num den start road q c wr hr hgb; clear hc hnx hr hgb hB; go_wp2_with fail; refine hcl.mono ?_; rintro e w4 ⟨rfl, b4⟩; have HN2 := Lib.hid (HN.out.trans (b4.mono HN.out.size)); clear hcl b4; go_wp2; go_roundw
      case rel => exact ⟨k + 1, by omega, by go_num, HN2.out⟩
      case measure => simp [intOf]; omega
    · obtain rfl : k = bs.length := by omega
      go_wp2; go_ret; exact ⟨rfl, HN.out⟩
theorem y_cfBody (p : Option Addr) (cap : Nat) (bs : List Bd) (w : World) (hx : RdBd w p bs) (hl : bs.length ≤ 1000000) (hg : ∀ i, i < bs.length → BdGood (gb bs i)) :
    Calls Tryz.prog 113 #[.slice p bs.length cap, .func (.func 114) #[] #[]] w fun e w' => e = .returned (.bool false) ∧ Below w.heap.size w w' := by
  have h := y_ixBody p cap bs w hx hl hg; clear hx hg
  go_enter Tryz.func113, Tryz.ntmps113
  go_wp2_with fail; refine h.mono ?_; rintro e w' ⟨rfl, hb⟩; have HB := Lib.hid hb; clear h hb; go_wp2; go_ret; exact ⟨rfl, HB.out⟩
structure SkGood (bs : List Bd) (n1 n2 n3 : Int) : Prop where
  len : 2 ≤ bs.length ∧ bs.length ≤ 4
  num : 1 ≤ n1 ∧ n1 ≤ 10000
  den : 1 ≤ n2 ∧ n2 ≤ 10000
  four : 4 * n2 ≤ n1
  at' : 0 ≤ n3 ∧ n3 ≤ 21599
  bodies : ∀ i, i < bs.length → BdGood (gb bs i)
theorem y_isSky (p : Option Addr) (c : Nat) (bs : List Bd) (n1 n2 n3 : Int) (w : World) (hx : RdBd w p bs) (h : SkGood bs n1 n2 n3) :
    Calls Tryz.prog 66 #[.agg #[.slice p bs.length c, .int .i64 n1, .int .i64 n2, .int .i64 n3]] w fun e w' => e = .returned (.bool true) ∧ Below w.heap.size w w' := by
  obtain ⟨w0, e0, HS0, k0, k1, k2, k3, b0⟩ := box4 w (.slice p bs.length c) (.int .i64 n1) (.int .i64 n2) (.int .i64 n3) 83; have HB := Lib.hid b0; obtain ⟨h1, h2, h3, h4, h5, h6⟩ := h; have HP := Lib.hid (fun W => y_isPeriod n1 n2 W h2 h3 h4); have g3 : inB n3 0 21599 = true := inB_iff.2 h5; have g4 : inB (bs.length : Int) 2 4 = true := inB_iff.2 ⟨by omega, by omega⟩; have HX := Lib.hid (hx.below b0); have hl : bs.length ≤ 1000000 := by omega
  have HG := Lib.hid h6; clear b0 h1 h2 h3 h4 h5 h6 hx
  go_enter Tryz.func66, Tryz.ntmps66
  go_wp2_with fail; clear e0; refine (y_in _ _ _ _).mono ?_; rw [g4]; rintro e w' ⟨rfl, rfl⟩; go_wp2_with fail; refine (HP.out _).mono ?_; rintro e w1 ⟨rfl, b1⟩; have HX1 := Lib.hid (HX.out.below b1); have HB1 := Lib.hid (HB.out.trans (b1.mono HB.out.size)); have k0 := (b1.cell (lt_of_cellq k0)).trans k0; have k1 := (b1.cell (lt_of_cellq k1)).trans k1; have k2 := (b1.cell (lt_of_cellq k2)).trans k2; have k3 := (b1.cell (lt_of_cellq k3)).trans k3; clear b1; go_wp2_with fail; refine (y_isPlace _ _).mono ?_; rw [g3]; rintro e w' ⟨rfl, rfl⟩; go_wp2_with fail; refine (y_cfBody p c bs _ HX1.out hl HG.out).mono ?_; rintro e w2 ⟨rfl, b2⟩; have HB2 := Lib.hid (HB1.out.trans (b2.mono HB1.out.size)); clear b2; go_wp2; go_ret; exact ⟨rfl, HB2.out⟩
end Go.Proofs.YtchclaipbahiiaaGreat
end

section
namespace Go.Proofs.YtchclaipbahiiaaGreat
open Go Go.RowKit Go.Proofs Go.Shelf
set_option linter.unusedVariables false
set_option linter.unusedSimpArgs false
attribute [local go_sem] Oper.semAt_some imax2 imin2
theorem row_kept {X Y : World} {row : Option Nat} {B : Nat} {vs : Array Value} {t : TypeId} (h : X.heap[B]? = some (.cells vs t (0, 0))) (hg : X.grownBy Y row) (hr : ∀ r, row = some r → ∃ o, X.heap[r]? = some o ∧ o.isCells = false) : Y.heap[B]? = some (.cells vs t (0, 0)) :=
  (hg.block B (block_lt h) (fun e' => by obtain ⟨o, ho, hc⟩ := hr B e'.symm; rw [h] at ho; cases ho; cases hc)).trans h
theorem keeps_below {B : Nat} {W W' : World} (h : Below W.heap.size W W') : KeepsFrom B W W' := ⟨h.size, fun k o _ hk _ => (h.block k (Array.getElem?_eq_some_iff.1 hk).1).trans hk⟩
theorem fr_other {w : World} {B B' : Nat} (o o' : Nat) (v : Value) (h : B ≠ B') : (w.setCell ⟨B', o', none⟩ v).frozen? ⟨B, o, none⟩ = w.frozen? ⟨B, o, none⟩ := by
  have e := Below.heap_setCell w ⟨B', o', none⟩ v B h; simp only [World.frozen?, e]
def NextPost (day : Int) (w : World) (e : Ending) (w' : World) : Prop := e = .returned (.tuple #[.int .i64 day, .int .i64 0]) ∧ Below w.heap.size w w'
set_option maxRecDepth 100000 in
set_option maxHeartbeats 2000000 in
theorem y_next (p : Option Addr) (c : Nat) (bs : List Bd) (n1 n2 n3 : Int) (w : World) (hx : RdBd w p bs) (h : SkGood bs n1 n2 n3) (m : Nat) (hm : m < 20000) (hno : ∀ i : Nat, i < m → newB bs (1 + i) = false) (hyes : newB bs (1 + m) = true) :
    Calls Tryz.prog 29 #[.agg #[.slice p bs.length c, .int .i64 n1, .int .i64 n2, .int .i64 n3], .int .i64 1, .bool false] w (NextPost (1 + m) w) := by
  refine (callsIn_wide (n := 6)).1 ?_; refine callsIn_of_wp_marks Tryz.func29 rfl trivial ?_ rfl; simp only [Tryz.ntmps29, List.size_toArray, List.length_cons, List.length_nil, Nat.reduceAdd, Nat.reduceSub, Array.replicate_succ, Array.replicate_zero, List.push_toArray, List.append_toArray, List.nil_append, List.cons_append]; obtain ⟨w1, e1, HS1, a0, a1, a2, a3, b1⟩ := box4 w (.slice p bs.length c) (.int .i64 n1) (.int .i64 n2) (.int .i64 n3) 83; obtain ⟨w2, e2, HS2, f0, ff, b2⟩ := box1 w1 (.bool false) 4; obtain ⟨w3, e3, HS3, r0, rf, b3⟩ := box1 w2 (.int .i64 0) 3; obtain ⟨w4, e4, HS4, s0, sf, b4⟩ := box1 w3 (.int .i64 0) 35; have b34 := b3.trans (b4.mono b3.size); have b24 := b2.trans (b34.mono b2.size); have HB4 := Lib.hid (b1.trans (b24.mono b1.size)); have HSK := Lib.hid (y_isSky p c bs n1 n2 n3 w4 (hx.below HB4.out) h); have HX := Lib.hid hx; have HH := Lib.hid h; have HNO := Lib.hid hno
  have HY := Lib.hid hyes; have HA := Lib.hid (cl4 a0 a1 a2 a3 w4 b24); have HF := Lib.hid ((b34.cell (lt_of_cellq f0)).trans f0); have HR := Lib.hid (And.intro ((b4.cell (lt_of_cellq r0)).trans r0) ((b4.frozen (lt_of_cellq r0)).trans rf)); have HSS := Lib.hid (And.intro s0 sf); have hd1 : inB 1 0 20000 = true := by decide
  clear hx h hno hyes b1 b2 b3 b4 b34 b24; clear a0 a1 a2 a3 f0 ff r0 rf s0 sf; obtain ⟨q0, q1, q2, q3⟩ := HA.out
  gi_wp2_with fail
  clear e1 e2 e3 e4; refine ⟨trivial, ?_⟩; refine (callsIn_wide.2 HSK.out).mono ?_; rintro e w5 ⟨rfl, b5⟩; have HB5 := Lib.hid (HB4.out.trans (b5.mono HB4.out.size)); have HA5 := Lib.hid (cl4 q0 q1 q2 q3 w5 b5); have HF5 := Lib.hid ((b5.cell (lt_of_cellq HF.out)).trans HF.out); have HR5 := Lib.hid (And.intro ((b5.cell (lt_of_cellq HR.out.1)).trans HR.out.1) ((b5.frozen (lt_of_cellq HR.out.1)).trans HR.out.2)); have HS5 := Lib.hid (And.intro ((b5.cell (lt_of_cellq HSS.out.1)).trans HSS.out.1) ((b5.frozen (lt_of_cellq HSS.out.1)).trans HSS.out.2)); clear b5 q0 q1 q2 q3 HA HF HR HSS HSK
  gi_wp2_with fail
  refine ⟨trivial, ?_⟩; refine (callsIn_wide.2 (y_isDay _ _)).mono ?_; rw [hd1]; rintro e w' ⟨rfl, rfl⟩; obtain ⟨q0, q1, q2, q3⟩ := HA5.out; obtain ⟨w6, e6, HS6, a0, a1, a2, a3, b6⟩ := box4 w5 (.slice p bs.length c) (.int .i64 n1) (.int .i64 n2) (.int .i64 n3) 83; obtain ⟨w7, e7, HS7, f0, ff, b7⟩ := box1 w6 (.int .i64 1) 3; obtain ⟨w8, e8, HS8, g0, gf, b8⟩ := box1 w7 (.int .i64 20000) 3; have hs6 := HS6.out.symm; have hs7 := HS7.out.symm; have b78 := b7.trans (b8.mono b7.size); have HB8 := Lib.hid (HB5.out.trans ((b6.trans (b78.mono b6.size)).mono HB5.out.size)); have b58 := b6.trans (b78.mono b6.size); have HSZ := Lib.hid (show w5.heap.size < w6.heap.size ∧ w6.heap.size < w7.heap.size ∧ w7.heap.size < w8.heap.size from ⟨by omega, by omega, by have := HS8.out; omega⟩); have hD := y_days (.slice p bs.length c) (.int .i64 n1) (.int .i64 n2) (.int .i64 n3) 1 20000 w5; simp only [e6, e7, e8, hs6, hs7] at hD
  have HSEQ := Lib.hid (days_stops 5 (by omega) w6.heap.size w7.heap.size w5.heap.size w8.heap.size 20000 (.slice p bs.length c) n1 n2 n3 1 20000 (by omega) (by omega) (by omega) w8 (Nat.le_refl _) (by have := HSZ.out; omega) (by have := HSZ.out; omega) (by have := HSZ.out; omega)
    ((b8.cell (lt_of_cellq f0)).trans f0) g0 ((b78.cell (lt_of_cellq a0)).trans a0) ((b78.cell (lt_of_cellq a1)).trans a1) ((b78.cell (lt_of_cellq a2)).trans a2) ((b78.cell (lt_of_cellq a3)).trans a3))
  have HF8 := Lib.hid ((b58.cell (lt_of_cellq HF5.out)).trans HF5.out); have HR8 := Lib.hid (And.intro ((b58.cell (lt_of_cellq HR5.out.1)).trans HR5.out.1) ((b58.frozen (lt_of_cellq HR5.out.1)).trans HR5.out.2)); have HS8' := Lib.hid (And.intro ((b58.cell (lt_of_cellq HS5.out.1)).trans HS5.out.1) ((b58.frozen (lt_of_cellq HS5.out.1)).trans HS5.out.2)); have HBK := Lib.hid (show w.heap.size ≤ w1.heap.size ∧ w.heap.size ≤ w2.heap.size ∧ w2.heap.size < w3.heap.size ∧ w3.heap.size < w8.heap.size from ⟨by have := HS1.out; omega, by have := HS1.out; have := HS2.out; omega, by have := HS3.out; omega, lt_of_cellq HS8'.out.1⟩); clear e6 e7 e8 a0 a1 a2 a3 f0 ff g0 gf b6 b7 b8 b78 b58 hs6 hs7 HA5 HF5 HR5 HS5
  gi_wp2_with fail
  refine ⟨trivial, ?_⟩; refine (callsIn_wide.2 hD).mono ?_; rintro e w' ⟨rfl, rfl⟩; clear hD q0 q1 q2 q3
  gi_wp2_with fail
  refine wpIn_rangeFunc_ownH rfl (by omega) (gf := 116) (lb := #[.pointer (some ⟨w6.heap.size, 0, none⟩), .pointer (some ⟨w7.heap.size, 0, none⟩), .pointer (some ⟨w5.heap.size, 0, none⟩)]) rfl trivial (enters_of Tryz.func116 (by kernel_rfl) rfl)
    HSEQ.out belowK_t (belowK_b (Nat.le_refl _)) (Below.refl _ _) (fun _ => rfl)
    (fun pre W => ((∀ d ∈ pre, newB bs (1 + ((d % 20000 : Nat) : Int)) = false) ∧ W.cell? ⟨w1.heap.size, 0, none⟩ = some (.bool false) ∧ W.cell? ⟨w2.heap.size, 0, none⟩ = some (.int .i64 0) ∧ W.frozen? ⟨w2.heap.size, 0, none⟩ = false ∧ W.cell? ⟨w3.heap.size, 0, none⟩ = some (.int .i64 0) ∧ W.frozen? ⟨w3.heap.size, 0, none⟩ = false) ∧ Below w8.heap.size w8 W)
    (fun c pre W => (c = .ret ∧ ∃ ini last, pre = ini ++ [last] ∧ (∀ d ∈ ini, newB bs (1 + ((d % 20000 : Nat) : Int)) = false) ∧ newB bs (1 + ((last % 20000 : Nat) : Int)) = true ∧ W.cell? ⟨w2.heap.size, 0, none⟩ = some (.int .i64 (1 + ((last % 20000 : Nat) : Int))) ∧ W.cell? ⟨w3.heap.size, 0, none⟩ = some (.int .i64 0)) ∧ Below w.heap.size w W)
    (OwnFrom.and (Own.from (fun s A B row hs hg hr => ⟨hs.1, cell_kept hs.2.1 hg hr, cell_kept hs.2.2.1 hg hr, (frozen_kept hs.2.2.1 hg hr).trans hs.2.2.2.1, cell_kept hs.2.2.2.2.1 hg hr, (frozen_kept hs.2.2.2.2.1 hg hr).trans hs.2.2.2.2.2⟩) _) (ownFrom_below (Nat.le_refl _) (Nat.le_refl _)))
    (fun c => OwnFrom.and (Own.from (fun s A B row hs hg hr => by obtain ⟨hc, ini, last, h1, h2, h3, h4, h5⟩ := hs; exact ⟨hc, ini, last, h1, h2, h3, cell_kept h4 hg hr, cell_kept h5 hg hr⟩) _) (ownFrom_below (Nat.le_refl _) (by have := HBK.out; omega)))
    ⟨⟨by simp, HF8.out, HR8.out.1, HR8.out.2, HS8'.out.1, HS8'.out.2⟩, Below.refl _ _⟩
    (fun x a' W => ∃ Bx, w8.heap.size ≤ Bx ∧ W.heap[Bx]? = some (.cells #[.slice p bs.length c, .int .i64 n1, .int .i64 n2, .int .i64 n3, .int .i64 (1 + ((x % 20000 : Nat) : Int))] 135 (0, 0)) ∧ a' = { tmps := #[.agg #[.slice p bs.length c, .int .i64 n1, .int .i64 n2, .int .i64 n3], .int .i64 1, .bool false, .pointer (some ⟨w.heap.size, 0, none⟩), undef, .pointer (some ⟨w1.heap.size, 0, none⟩), .pointer (some ⟨w2.heap.size, 0, none⟩), .pointer (some ⟨w3.heap.size, 0, none⟩), .pointer (some ⟨Bx, 0, none⟩), .agg #[.slice p bs.length c, .int .i64 n1, .int .i64 n2, .int .i64 n3], .bool true, .bool false, .bool false, .int .i64 1, .bool true, .bool false, .bool false, .agg #[.slice p bs.length c, .int .i64 n1, .int .i64 n2, .int .i64 n3], .int .i64 1, .int .i64 1, .func (.func 116) #[] #[.pointer (some ⟨w6.heap.size, 0, none⟩), .pointer (some ⟨w7.heap.size, 0, none⟩), .pointer (some ⟨w5.heap.size, 0, none⟩)], .agg #[.slice p bs.length c, .int .i64 n1, .int .i64 n2, .int .i64 n3, .int .i64 (1 + ((x % 20000 : Nat) : Int))], undef, undef, undef, undef, undef, undef], defers := [] })
    (fun x a' _ X Y row hs hg hr => by obtain ⟨Bx, h1, h2, h3⟩ := hs; exact ⟨Bx, h1, row_kept h2 hg (fun r e => (hr r e).2), h3⟩)
    ?assign ?body ?done ?stop
  case assign =>
    rintro l pre x W K ⟨⟨hp, hf, hr, hrf, hs, hsf⟩, hB⟩ hK; have hB8W := hB.size; obtain ⟨y, hy⟩ : ∃ y : Int, 1 + ((x % 20000 : Nat) : Int) = y := ⟨_, rfl⟩; simp only [hy] at hK ⊢; obtain ⟨W1, e1, HS1', x0, x1, x2, x3, x4, b1⟩ := box5 W (.slice p bs.length c) (.int .i64 n1) (.int .i64 n2) (.int .i64 n3) (.int .i64 y) 135; have kx := alloc_new W (.cells #[.slice p bs.length c, .int .i64 n1, .int .i64 n2, .int .i64 n3, .int .i64 y] 135); rw [e1] at kx; have hfin := hK { tmps := #[.agg #[.slice p bs.length c, .int .i64 n1, .int .i64 n2, .int .i64 n3], .int .i64 1, .bool false, .pointer (some ⟨w.heap.size, 0, none⟩), undef, .pointer (some ⟨w1.heap.size, 0, none⟩), .pointer (some ⟨w2.heap.size, 0, none⟩), .pointer (some ⟨w3.heap.size, 0, none⟩), .pointer (some ⟨W.heap.size, 0, none⟩), .agg #[.slice p bs.length c, .int .i64 n1, .int .i64 n2, .int .i64 n3], .bool true, .bool false, .bool false, .int .i64 1, .bool true, .bool false, .bool false, .agg #[.slice p bs.length c, .int .i64 n1, .int .i64 n2, .int .i64 n3], .int .i64 1, .int .i64 1, .func (.func 116) #[] #[.pointer (some ⟨w6.heap.size, 0, none⟩), .pointer (some ⟨w7.heap.size, 0, none⟩), .pointer (some ⟨w5.heap.size, 0, none⟩)], .agg #[.slice p bs.length c, .int .i64 n1, .int .i64 n2, .int .i64 n3, .int .i64 y], undef, undef, undef, undef, undef, undef], defers := [] } W1 (keeps_below b1) (b1.mono hB8W) ⟨⟨hp, (b1.cell (lt_of_cellq hf)).trans hf, (b1.cell (lt_of_cellq hr)).trans hr, (b1.frozen (lt_of_cellq hr)).trans hrf, (b1.cell (lt_of_cellq hs)).trans hs, (b1.frozen (lt_of_cellq hs)).trans hsf⟩, hB.trans (b1.mono hB.size)⟩ ⟨W.heap.size, hB8W, kx, rfl⟩
    gi_wp2
    exact hfin
  case body =>
    rintro l pre x a' W hl hrec ⟨⟨hp, hf, hr, hrf, hs, hsf⟩, hB⟩ ⟨Bx, hBx, kx, rfl⟩ hlt; have hd : 1 ≤ 4 := by omega
    have hmx : Tryz.prog.follows .mixedOrders = true := by kernel_rfl
    have HBW := Lib.hid (HB8.out.trans (hB.mono HB8.out.size)); have HPR := Lib.hid hp; have HB8W := Lib.hid hB.size; have HBO := Lib.hid hB; have hday : 1 ≤ 1 + ((x % 20000 : Nat) : Int) ∧ 1 + ((x % 20000 : Nat) : Int) ≤ 20000 := by have := Nat.mod_lt x (show 20000 > 0 by decide); omega
    obtain ⟨y, hy⟩ : ∃ y : Int, 1 + ((x % 20000 : Nat) : Int) = y := ⟨_, rfl⟩; rw [hy] at hday kx; simp only [hy]; have HYY := Lib.hid hy; clear hy; have HHAS := Lib.hid (fun W2 (b : Below W.heap.size W W2) => y_has p c bs n1 n2 n3 y W2 (HX.out.below (HBW.out.trans (b.mono HBW.out.size))) HH.out.len.1 (HH.out.bodies 0 (by have := HH.out.len; omega)).ok (HH.out.bodies 1 (by have := HH.out.len; omega)).ok hday (by have := HH.out.len; omega))
    obtain ⟨x0, x1, x2, x3, x4⟩ : W.cell? ⟨Bx, 0, none⟩ = some (.slice p bs.length c) ∧ W.cell? ⟨Bx, 1, none⟩ = some (.int .i64 n1) ∧ W.cell? ⟨Bx, 2, none⟩ = some (.int .i64 n2) ∧ W.cell? ⟨Bx, 3, none⟩ = some (.int .i64 n3) ∧ W.cell? ⟨Bx, 4, none⟩ = some (.int .i64 y) := by
      refine ⟨?_, ?_, ?_, ?_, ?_⟩ <;> (rw [cell_of_row _ _ _ _ _ _ kx]; rfl)
    have HXX := Lib.hid x4; have HRR := Lib.hid (And.intro hr hrf); have HSS := Lib.hid (And.intro hs hsf); clear hp hr hrf hs hsf hB hrec kx; have HFF := Lib.hid hf; clear hf
    rcases hnb : newB bs y with _ | _
    · rw [hnb] at HHAS
      have HNB := Lib.hid hnb; clear hnb; have hf := HFF.out
      gi_wp2
      gi_region_with_o (first
        | (refine ⟨trivial, ?_⟩; refine (CallsIn.inRound l (callsIn_wide.2 (y_moonOf _))).mono ?_; rintro e w' ⟨rfl, rfl⟩)
        | (refine ⟨trivial, ?_⟩; refine (CallsIn.inRound l (callsIn_wide.2 (HHAS.out _ (by first | exact Below.refl _ _ | exact (Below.refl _ _).drew | exact (Below.refl _ _).drew.drew)))).mono ?_; rintro e W2 ⟨rfl, b2⟩))
      all_goals
        have hbW : Below W.heap.size W W2 := by first | exact b2 | exact (Below.refl _ _).drew.trans b2 | exact (Below.refl _ _).drew.drew.trans b2
        have HBW2 := Lib.hid hbW; clear hbW b2 x0 x1 x2 x3 x4 hf
        gi_wp2
        have hI : ∀ W3 : World, Below W.heap.size W W3 → _ := fun W3 b => (And.intro (keeps_below (B := w8.heap.size) b) (And.intro (b.mono HB8W.out) (And.intro (show (∀ d ∈ pre ++ [x], newB bs (1 + ((d % 20000 : Nat) : Int)) = false) ∧ W3.cell? ⟨w1.heap.size, 0, none⟩ = some (.bool false) ∧ W3.cell? ⟨w2.heap.size, 0, none⟩ = some (.int .i64 0) ∧ W3.frozen? ⟨w2.heap.size, 0, none⟩ = false ∧ W3.cell? ⟨w3.heap.size, 0, none⟩ = some (.int .i64 0) ∧ W3.frozen? ⟨w3.heap.size, 0, none⟩ = false from
          ⟨fun d hd' => (List.mem_append.1 hd').elim (HPR.out d) (fun e => by simp only [List.mem_singleton] at e; rw [e, HYY.out]; exact HNB.out), (b.cell (lt_of_cellq HFF.out)).trans HFF.out, (b.cell (lt_of_cellq HRR.out.1)).trans HRR.out.1, (b.frozen (lt_of_cellq HRR.out.1)).trans HRR.out.2, (b.cell (lt_of_cellq HSS.out.1)).trans HSS.out.1, (b.frozen (lt_of_cellq HSS.out.1)).trans HSS.out.2⟩) (HBO.out.trans (b.mono HBO.out.size)))))
        first | exact hI _ HBW2.out | exact hI _ HBW2.out.drew | exact hI _ HBW2.out.drew.drew
    · rw [hnb] at HHAS
      have HNB := Lib.hid hnb; clear hnb; have hf := HFF.out
      gi_wp2
      gi_region_with_o (first
        | (refine ⟨trivial, ?_⟩; refine (CallsIn.inRound l (callsIn_wide.2 (y_moonOf _))).mono ?_; rintro e w' ⟨rfl, rfl⟩)
        | (refine ⟨trivial, ?_⟩; refine (CallsIn.inRound l (callsIn_wide.2 (HHAS.out _ (by first | exact Below.refl _ _ | exact (Below.refl _ _).drew | exact (Below.refl _ _).drew.drew)))).mono ?_; rintro e W2 ⟨rfl, b2⟩))
      all_goals
        have hbW : Below W.heap.size W W2 := by first | exact b2 | exact (Below.refl _ _).drew.trans b2 | exact (Below.refl _ _).drew.drew.trans b2
        have HBW2 := Lib.hid hbW; have m4 := (hbW.cell (lt_of_cellq HXX.out)).trans HXX.out; have m5 := (hbW.cell (lt_of_cellq HRR.out.1)).trans HRR.out.1; have m6 := (hbW.frozen (lt_of_cellq HRR.out.1)).trans HRR.out.2; have m7 := (hbW.cell (lt_of_cellq HSS.out.1)).trans HSS.out.1; have m8 := (hbW.frozen (lt_of_cellq HSS.out.1)).trans HSS.out.2; have hne : w3.heap.size ≠ w2.heap.size := by have := HBK.out; omega
        obtain ⟨W3, s3⟩ : ∃ W3, W2.setCell ⟨w2.heap.size, 0, none⟩ (.int .i64 y) = W3 := ⟨_, rfl⟩; have u7 : W3.cell? ⟨w3.heap.size, 0, none⟩ = some (.int .i64 0) := by rw [← s3, World.cell?_setCell_other _ _ _ _ (by intro h; have := congrArg Addr.block h; simp only at this; omega)]; exact m7
        have u8 : W3.frozen? ⟨w3.heap.size, 0, none⟩ = false := by rw [← s3, fr_other _ _ _ hne]; exact m8
        have u5 : W3.cell? ⟨w2.heap.size, 0, none⟩ = some (.int .i64 y) := by rw [← s3]; exact World.cell?_setCell_same' _ _ _ (by rw [m5]; rfl)
        obtain ⟨W4, s4⟩ : ∃ W4, W3.setCell ⟨w3.heap.size, 0, none⟩ (.int .i64 0) = W4 := ⟨_, rfl⟩; have t7 : W4.cell? ⟨w3.heap.size, 0, none⟩ = some (.int .i64 0) := by rw [← s4]; exact World.cell?_setCell_same' _ _ _ (by rw [u7]; rfl)
        have t5 : W4.cell? ⟨w2.heap.size, 0, none⟩ = some (.int .i64 y) := by rw [← s4, World.cell?_setCell_other _ _ _ _ (by intro h; have := congrArg Addr.block h; simp only at this; omega)]; exact u5
        have HK := Lib.hid (show KeepsFrom w8.heap.size W W4 by
          rw [← s4, ← s3]; exact (keeps_below hbW).trans (((KeepsOthers.setCell _ _ _).trans (KeepsOthers.setCell _ _ _)).from _))
        have HBF := Lib.hid (show Below w.heap.size w W4 by
          rw [← s4, ← s3]; exact ((HBW.out.trans (hbW.mono HBW.out.size)).setCell (p := ⟨w2.heap.size, 0, none⟩) (by have := HBK.out; show _ ≤ w2.heap.size; omega) _).setCell (p := ⟨w3.heap.size, 0, none⟩) (by have := HBK.out; show _ ≤ w3.heap.size; omega) _)
        have HT := Lib.hid (And.intro t5 t7); clear hbW b2 x0 x1 x2 x3 x4 hf u5 t5 t7
        gi_wp2
        exact ⟨HK.out, ⟨rfl, pre, x, rfl, HPR.out, by rw [HYY.out]; exact HNB.out, by rw [HYY.out]; exact HT.out.1, HT.out.2⟩, HBF.out⟩
  case done =>
    rintro D xs W hD rfl ⟨⟨hp, _⟩, _⟩ hK; have := hp m (List.mem_range.2 hm); rw [Nat.mod_eq_of_lt hm, HY.out] at this
    cases this
  case stop =>
    rintro D cc pre W hD ⟨k, hk, rfl⟩ ⟨⟨rfl, ini, last, g1, g2, g3, g4, g5⟩, hB⟩ hK; have G1 := Lib.hid g1; have G2 := Lib.hid g2; have G3 := Lib.hid g3; clear g1 g2 g3
    gi_wp2
    refine ⟨by simp, .inl ⟨_, _, rfl, run_takeDeferred hK, ?_⟩⟩; have c5 := cell_kept g4 (grownBy_putObj' _ D (.deferred none)) (fun r e => by cases e; exact ⟨_, hK, rfl⟩); have c7 := cell_kept g5 (grownBy_putObj' _ D (.deferred none)) (fun r e => by cases e; exact ⟨_, hK, rfl⟩); have g1 := G1.out
    obtain ⟨k', rfl⟩ : ∃ k', k = k' + 1 := by
      cases k with
      | zero => simp at g1
      | succ k' => exact ⟨k', rfl⟩
    rw [List.range_succ] at g1; obtain ⟨rfl, h5⟩ := List.append_inj' g1 rfl; obtain rfl : k' = last := by simpa using h5
    have hkm : k' = m := by
      rcases Nat.lt_trichotomy k' m with h | h | h
      · have h2 := HNO.out k' h
        have h3 := G3.out; rw [Nat.mod_eq_of_lt (by omega), h2] at h3
        cases h3
      · exact h
      · have h2 := G2.out m (List.mem_range.2 h)
        rw [Nat.mod_eq_of_lt hm, HY.out] at h2
        cases h2
    subst hkm; rw [Nat.mod_eq_of_lt hm] at c5; refine ⟨.tuple #[.int .i64 (1 + k'), .int .i64 0], ?_, rfl, hB.trans (belowK_b (w := w) (Nat.le_refl _) W D _ _ (by have := HBK.out; omega) hK rfl rfl)⟩; simp [results, Tryz.results29, go_sem, c5, c7]
end Go.Proofs.YtchclaipbahiiaaGreat
end

section
namespace Go.Proofs.YtchclaipbahiiaaGreat
open Go Go.RowKit Go.Proofs
set_option linter.unusedVariables false
set_option linter.unusedSimpArgs false
attribute [local go_sem] imax2 imin2
def skyE : List Bd := [⟨360, 1, 0, [0]⟩, ⟨27, 1, 0, [0, 300, 0, -300]⟩]
theorem skyE_no : ∀ i : Nat, i < 29 → newB skyE (1 + i) = false := by decide +kernel
theorem skyE_yes : newB skyE (1 + (29 : Nat)) = true := by decide +kernel
theorem skyE_good : SkGood skyE 6000 1 1000 := by
  refine ⟨by decide, by decide, by decide, by decide, by decide, ?_⟩; intro i hi; have : i = 0 ∨ i = 1 := by have : skyE.length = 2 := rfl; omega
  rcases this with rfl | rfl
  · exact ⟨⟨by decide, by decide, by decide, by decide, by decide⟩, by decide⟩
  · exact ⟨⟨by decide, by decide, by decide, by decide, by decide⟩, by decide⟩
def SPost (w : World) (e : Ending) (w' : World) : Prop := ∃ p c, e = .returned (.agg #[.slice p skyE.length c, .int .i64 6000, .int .i64 1, .int .i64 1000]) ∧ RdBd w' p skyE ∧ Below w.heap.size w w'
theorem e_S (w : World) : Calls Tryz.prog 30 #[] w (SPost w) := by
  go_enter Tryz.func30, Tryz.ntmps30
  go_wp2; obtain ⟨w1, e1⟩ : ∃ w1, w.alloc (.cells #[.slice (some ⟨w.heap.size + 1 + 1 + 1, 0, none⟩) 2 2, .int .i64 6000, .int .i64 1, .int .i64 1000] 83) = w1 := ⟨_, rfl⟩; have k1 := alloc_new w (.cells #[.slice (some ⟨w.heap.size + 1 + 1 + 1, 0, none⟩) 2 2, .int .i64 6000, .int .i64 1, .int .i64 1000] 83); have s1 : w1.heap.size = w.heap.size + 1 := by rw [← e1]; simp
  have b1 : Below w.heap.size w w1 := by rw [← e1]; exact below_alloc1 _ _
  rw [e1] at k1 ⊢; obtain ⟨w2, e2⟩ : ∃ w2, w1.alloc (.cells #[.int .i64 0] 3) = w2 := ⟨_, rfl⟩; have k2 := alloc_new w1 (.cells #[.int .i64 0] 3); have s2 : w2.heap.size = w1.heap.size + 1 := by rw [← e2]; simp
  have b2 : Below w1.heap.size w1 w2 := by rw [← e2]; exact below_alloc1 _ _
  rw [e2] at k2 ⊢; obtain ⟨w3, e3⟩ : ∃ w3, w2.alloc (.cells #[.int .i64 0, .int .i64 300, .int .i64 0, .int .i64 (-300)] 3) = w3 := ⟨_, rfl⟩; have k3 := alloc_new w2 (.cells #[.int .i64 0, .int .i64 300, .int .i64 0, .int .i64 (-300)] 3); have s3 : w3.heap.size = w2.heap.size + 1 := by rw [← e3]; simp
  have b3 : Below w2.heap.size w2 w3 := by rw [← e3]; exact below_alloc1 _ _
  rw [e3] at k3 ⊢; obtain ⟨w4, e4⟩ : ∃ w4, w3.alloc (.cells #[.int .i64 360, .int .i64 1, .int .i64 0, .slice (some ⟨w.heap.size + 1, 0, none⟩) 1 1, .int .i64 27, .int .i64 1, .int .i64 0, .slice (some ⟨w.heap.size + 1 + 1, 0, none⟩) 4 4] 141) = w4 := ⟨_, rfl⟩; have k4 := alloc_new w3 (.cells #[.int .i64 360, .int .i64 1, .int .i64 0, .slice (some ⟨w.heap.size + 1, 0, none⟩) 1 1, .int .i64 27, .int .i64 1, .int .i64 0, .slice (some ⟨w.heap.size + 1 + 1, 0, none⟩) 4 4] 141); have b4 : Below w3.heap.size w3 w4 := by rw [← e4]; exact below_alloc1 _ _
  rw [e4] at k4 ⊢; have b34 := b3.trans (b4.mono b3.size); have b24 := b2.trans (b34.mono b2.size); have q1 := (b24.block _ (block_lt k1)).trans k1; have q2 := (b34.block _ (block_lt k2)).trans k2; have q3 := (b4.block _ (block_lt k3)).trans k3; have hb := b1.trans (b24.mono b1.size); rw [show w3.heap.size = w.heap.size + 1 + 1 + 1 by omega] at k4; rw [show w2.heap.size = w.heap.size + 1 + 1 by omega] at q3; rw [s1] at q2; clear e1 e2 e3 e4 s1 s2 s3 b1 b2 b3 b4 b34 b24 k1 k2 k3; have c0 : w4.cell? ⟨w.heap.size, 0, none⟩ = some (.slice (some ⟨w.heap.size + 1 + 1 + 1, 0, none⟩) 2 2) := by rw [cell_of_row _ _ _ _ _ _ q1]; rfl
  have c1 : w4.cell? ⟨w.heap.size, 1, none⟩ = some (.int .i64 6000) := by rw [cell_of_row _ _ _ _ _ _ q1]; rfl
  have c2 : w4.cell? ⟨w.heap.size, 2, none⟩ = some (.int .i64 1) := by rw [cell_of_row _ _ _ _ _ _ q1]; rfl
  have c3 : w4.cell? ⟨w.heap.size, 3, none⟩ = some (.int .i64 1000) := by rw [cell_of_row _ _ _ _ _ _ q1]; rfl
  refine bodyPost_ret (v := .agg #[.slice (some ⟨w.heap.size + 1 + 1 + 1, 0, none⟩) 2 2, .int .i64 6000, .int .i64 1, .int .i64 1000]) ?_ rfl ?_
  · simp [results, Tryz.results30, go_sem, c0, c1, c2, c3]
  · refine ⟨some ⟨w.heap.size + 1 + 1 + 1, 0, none⟩, 2, rfl, ⟨_, _, rfl, ?_⟩, hb⟩
    intro i hi; have hi' : i = 0 ∨ i = 1 := by have : skyE.length = 2 := rfl; omega
    rcases hi' with rfl | rfl
    · refine ⟨?_, ?_, ?_, some ⟨w.heap.size + 1, 0, none⟩, 1, ?_, .inr ⟨_, _, rfl, ?_⟩⟩
      iterate 4 (rw [cell_of_row _ _ _ _ _ _ k4]; rfl)
      intro j hj; obtain rfl : j = 0 := by have : (gb skyE 0).road.length = 1 := rfl; omega
      rw [cell_of_row _ _ _ _ _ _ q2]; rfl
    · refine ⟨?_, ?_, ?_, some ⟨w.heap.size + 1 + 1, 0, none⟩, 4, ?_, .inr ⟨_, _, rfl, ?_⟩⟩
      iterate 4 (rw [cell_of_row _ _ _ _ _ _ k4]; rfl)
      intro j hj; have hj' : j = 0 ∨ j = 1 ∨ j = 2 ∨ j = 3 := by have : (gb skyE 1).road.length = 4 := rfl; omega
      rcases hj' with rfl | rfl | rfl | rfl <;> (rw [cell_of_row _ _ _ _ _ _ q3]; rfl)
theorem e_next (p : Option Addr) (c : Nat) (w : World) (hx : RdBd w p skyE) : Calls Tryz.prog 29 #[.agg #[.slice p skyE.length c, .int .i64 6000, .int .i64 1, .int .i64 1000], .int .i64 1, .bool false] w (NextPost 30 w) :=
  y_next p c skyE 6000 1 1000 w hx skyE_good 29 (by omega) skyE_no skyE_yes
def RPost (w : World) (e : Ending) (w' : World) : Prop := ∃ p c, e = .returned (.agg #[.int .i64 6, .int .i64 12, .int .i64 2, .int .i64 1, .slice p [(7 : Int)].length c]) ∧ RdI w' p [7] ∧ Below w.heap.size w w'
theorem e_R (w : World) : Calls Tryz.prog 26 #[] w (RPost w) := by
  go_enter Tryz.func26, Tryz.ntmps26
  go_wp2; obtain ⟨w1, e1⟩ : ∃ w1, w.alloc (.cells #[.int .i64 6, .int .i64 12, .int .i64 2, .int .i64 1, .slice (some ⟨w.heap.size + 1, 0, none⟩) 1 1] 25) = w1 := ⟨_, rfl⟩; have k1 := alloc_new w (.cells #[.int .i64 6, .int .i64 12, .int .i64 2, .int .i64 1, .slice (some ⟨w.heap.size + 1, 0, none⟩) 1 1] 25); have s1 : w1.heap.size = w.heap.size + 1 := by rw [← e1]; simp
  have b1 : Below w.heap.size w w1 := by rw [← e1]; exact below_alloc1 _ _
  rw [e1] at k1 ⊢; obtain ⟨w2, e2⟩ : ∃ w2, w1.alloc (.cells #[.int .i64 7] 3) = w2 := ⟨_, rfl⟩; have k2 := alloc_new w1 (.cells #[.int .i64 7] 3); have b2 : Below w1.heap.size w1 w2 := by rw [← e2]; exact below_alloc1 _ _
  rw [e2] at k2 ⊢; have q1 := (b2.block _ (block_lt k1)).trans k1; have hb := b1.trans (b2.mono b1.size); rw [s1] at k2; clear e1 e2 b1 b2 k1 s1; have c0 : w2.cell? ⟨w.heap.size, 0, none⟩ = some (.int .i64 6) := by rw [cell_of_row _ _ _ _ _ _ q1]; rfl
  have c1 : w2.cell? ⟨w.heap.size, 1, none⟩ = some (.int .i64 12) := by rw [cell_of_row _ _ _ _ _ _ q1]; rfl
  have c2 : w2.cell? ⟨w.heap.size, 2, none⟩ = some (.int .i64 2) := by rw [cell_of_row _ _ _ _ _ _ q1]; rfl
  have c3 : w2.cell? ⟨w.heap.size, 3, none⟩ = some (.int .i64 1) := by rw [cell_of_row _ _ _ _ _ _ q1]; rfl
  have c4 : w2.cell? ⟨w.heap.size, 4, none⟩ = some (.slice (some ⟨w.heap.size + 1, 0, none⟩) 1 1) := by rw [cell_of_row _ _ _ _ _ _ q1]; rfl
  refine bodyPost_ret (v := .agg #[.int .i64 6, .int .i64 12, .int .i64 2, .int .i64 1, .slice (some ⟨w.heap.size + 1, 0, none⟩) 1 1]) ?_ rfl ?_
  · simp [results, Tryz.results26, go_sem, c0, c1, c2, c3, c4]
  · refine ⟨_, _, rfl, .inr ⟨_, _, rfl, ?_⟩, hb⟩
    intro j hj; obtain rfl : j = 0 := by simp only [List.length_cons, List.length_nil] at hj; omega
    rw [cell_of_row _ _ _ _ _ _ k2]; rfl
theorem e_F (w : World) : Calls Tryz.prog 27 #[] w fun e w' => e = .returned (.agg #[.int .i64 43, .int .i64 30]) ∧ Below w.heap.size w w' := by
  obtain ⟨w1, e1, HS1, c0, c1, b1⟩ := box2 w (.int .i64 43) (.int .i64 30) 27
  go_enter Tryz.func27, Tryz.ntmps27
  go_wp2; refine bodyPost_ret (v := .agg #[.int .i64 43, .int .i64 30]) ?_ rfl ⟨rfl, b1⟩; simp [results, Tryz.results27, go_sem, c0, c1]
def TPost (w : World) (e : Ending) (w' : World) : Prop := ∃ p c, e = .returned (.slice p [((12 : Int), (10 : Int)), (12, 10)].length c) ∧ RdS w' p [(12, 10), (12, 10)] ∧ Below w.heap.size w w'
theorem e_T (w : World) : Calls Tryz.prog 32 #[] w (TPost w) := by
  go_enter Tryz.func32, Tryz.ntmps32
  go_wp2; have k1 := alloc_new w (.cells #[.int .i64 12, .int .i64 10, .int .i64 12, .int .i64 10] 99); have b1 := below_alloc1 w (.cells #[.int .i64 12, .int .i64 10, .int .i64 12, .int .i64 10] 99); go_ret; refine ⟨_, _, rfl, ?_, b1⟩; refine .inr ⟨_, _, rfl, ?_⟩; intro j hj; have hj' : j = 0 ∨ j = 1 := by simp only [List.length_cons, List.length_nil] at hj; omega
  rcases hj' with rfl | rfl
  · exact ⟨by rw [cell_of_row _ _ _ _ _ _ k1]; rfl, by rw [cell_of_row _ _ _ _ _ _ k1]; rfl⟩
  · exact ⟨by rw [cell_of_row _ _ _ _ _ _ k1]; rfl, by rw [cell_of_row _ _ _ _ _ _ k1]; rfl⟩
theorem shopE_far : ∀ i : Nat, i < 3 → farF (shopE.take i) (gk shopE i).1.toNat ≤ 2 := by decide +kernel
theorem shopE_good : PcGood shopE [2, 3] := by
  refine ⟨by decide, by decide, fun i hi => ?_, fun i hi => ?_, fun i hi => ?_, fun i hi => shopE_far i hi, by decide⟩ <;>
  · have : i = 0 ∨ i = 1 ∨ i = 2 := by have : shopE.length = 3 := rfl; omega
    rcases this with rfl | rfl | rfl <;> decide
theorem shopE_rat : gm (ratTo shopE 3) 3 = (3, 4) := by decide +kernel
theorem shopE_sen : (senTo shopE 3).getD 3 false = true := by decide +kernel
theorem ruleE : RuleOk 6 12 2 1 [7] := ⟨by decide, by decide, by decide, by decide, by decide, by decide, by decide⟩
set_option maxHeartbeats 3200000 in
set_option maxRecDepth 100000 in
theorem d_known (w : World) : Calls Tryz.prog 8 #[] w fun e w' => e = .returned (.bool true) ∧ Below w.heap.size w w' := by
  go_enter Tryz.func8, Tryz.ntmps8
  go_wp2_with fail; refine (e_R _).mono ?_; rintro e w1 ⟨pn, cn, rfl, hrn, b1⟩; have HRN := Lib.hid hrn; have HB1 := Lib.hid b1; clear hrn b1; go_wp2_with fail; refine (e_F _).mono ?_; rintro e w2 ⟨rfl, b2⟩; have hn := t_Nearest 6 12 2 1 pn cn [7] 43 30 w2 (HRN.out.below b2) ruleE (by decide) (by decide); rw [show (2 : Int).toNat = 2 from rfl] at hn; unfold NstPost at hn; rw [ex_nearest] at hn; have HB2 := Lib.hid (HB1.out.trans (b2.mono HB1.out.size)); clear b2; go_wp2_with fail; refine hn.mono ?_; clear hn; rintro e w3 ⟨⟨pl, cl, rfl, hrl⟩, b3⟩; have HRL := Lib.hid hrl; have HB3 := Lib.hid (HB2.out.trans (b3.mono HB2.out.size)); clear hrl b3; go_wp2_with fail; refine (e_P _).mono ?_; rintro e w4 ⟨pp, cp, qp, dp, rfl, hlk, hsp, hcap, b4⟩; have hr := h_Rates pp qp cp dp shopE [2, 3] w4 hlk hsp shopE_good hcap; have HB4 := Lib.hid (HB3.out.trans (b4.mono HB3.out.size)); have HRL4 := Lib.hid (HRL.out.below b4)
  clear hlk hsp hcap b4; go_wp2_with fail; refine hr.mono ?_; clear hr; rintro e w5 ⟨pr, cr, ps, cs, rfl, hrr, hrs, b5⟩; have HRR := Lib.hid hrr; have HRS := Lib.hid hrs; have HB5 := Lib.hid (HB4.out.trans (b5.mono HB4.out.size)); have HRL5 := Lib.hid (HRL4.out.below b5); clear hrr hrs b5; go_wp2_with fail; refine (e_S _).mono ?_; rintro e w6 ⟨pk, ck, rfl, hsk, b6⟩; have hnx := e_next pk ck w6 hsk; have HB6 := Lib.hid (HB5.out.trans (b6.mono HB5.out.size)); have HRL6 := Lib.hid (HRL5.out.below b6); have HRR6 := Lib.hid (HRR.out.below b6); have HRS6 := Lib.hid (HRS.out.below b6); clear hsk b6; go_wp2_with fail; refine hnx.mono ?_; clear hnx; rintro e w7 ⟨rfl, b7⟩; have HB7 := Lib.hid (HB6.out.trans (b7.mono HB6.out.size)); have HRL7 := Lib.hid (HRL6.out.below b7); have HRR7 := Lib.hid (HRR6.out.below b7); have HRS7 := Lib.hid (HRS6.out.below b7); clear b7; go_wp2_with fail; refine (e_T _).mono ?_
  rintro e w8 ⟨pt, ct, rfl, hrt, b8⟩; have HB8 := Lib.hid (HB7.out.trans (b8.mono HB7.out.size)); have hsm := a_same pl pt cl ct [((12 : Int), (10 : Int)), (12, 10)] w8 (HRL7.out.below b8) hrt (by decide); have HRR8 := Lib.hid (HRR7.out.below b8); have HRS8 := Lib.hid (HRS7.out.below b8); clear b8 hrt; go_wp2_with fail; refine hsm.mono ?_; clear hsm; rintro e w9 ⟨rfl, b9⟩; have HB9 := Lib.hid (HB8.out.trans (b9.mono HB8.out.size)); obtain ⟨br, or, rfl, hc⟩ := (HRR8.out.below b9).at (i := 3) (by rw [ratTo_len]; decide); obtain ⟨d0, d1⟩ := hc 3 (by rw [ratTo_len]; decide); rw [show gm (ratTo shopE shopE.length) 3 = (3, 4) from shopE_rat] at d0 d1; obtain ⟨bs, os, rfl, hc2⟩ := HRS8.out.below b9; have d2 := hc2 3 (by rw [senTo_len]; decide); rw [show (senTo shopE shopE.length).getD 3 false = true from shopE_sen] at d2; simp only [] at d0 d1; clear b9 hc hc2; go_wp2; go_ret; exact ⟨rfl, HB9.out⟩
end Go.Proofs.YtchclaipbahiiaaGreat
end

section
namespace Go.Proofs.YtchclaipbahiiaaGreat
open Go Go.RowKit Go.Proofs
set_option linter.unusedVariables false
attribute [local go_sem] imax2 imin2
theorem wq_ext {P : Program} {C : World → Prop} {ops : Array Oper} {Q : Act → Prop} {rest : List Oper} {a : Act} {d k : Nat} {x : Operand} {ty : TypeId} {pos : String} {af : Array Edge} {g : Option (Nat × Bool)} {xs : Array Value} {u : Value}
    (hw : Region.wanted ⟨some d, .extract x k, ty, pos, af, g⟩ (yielded ops a.tmps) = true) (hx : a.eval x = .tuple xs) (hu : xs[k]? = some u)
    (hk : wpQuiet P ops C Q rest (a.put (some d) u)) : wpQuiet P ops C Q (⟨some d, .extract x k, ty, pos, af, g⟩ :: rest) a :=
  wq hw (q_val (o := ⟨some d, .extract x k, ty, pos, af, g⟩) u (fun w _ => by unfold execOp; dsimp only; rw [hx]; simp [go_sem, hu]) hk)
set_option maxHeartbeats 1600000 in
set_option maxRecDepth 100000 in
theorem c_shows (q : Option Addr) (nq cq : Nat) (p2 : Option Addr) (n c2 nn : Nat) (h : Hd) (pe : Option Addr) (ce : Nat) (e : List Int) (w : World) (h2 : RdI w p2 e) (hn : e.length = n) (hE : RdS w pe h.er) (hh : HandOk nn h) (hnn : nn < n) (hr : -2800 ≤ gi e h.arb.toNat ∧ gi e h.arb.toNat ≤ 2400) :
    Calls Tryz.prog 64 #[.agg #[.slice q nq cq, .slice p2 n c2], hdV h pe ce] w fun e' w' => e' = .returned (.agg #[.int .i64 (shownF h (gi e h.arb.toNat)).1, .int .i64 (shownF h (gi e h.arb.toNat)).2]) ∧ Below w.heap.size w w' := by
  unfold hdV; obtain ⟨a, hab⟩ : ∃ a : Nat, h.arb = (a : Int) := ⟨h.arb.toNat, by have := hh.arb; omega⟩; have hat : h.arb.toNat = a := by rw [hab]; rfl
  rw [hat] at hr ⊢; have hlt : a < n := by have := hh.arb; omega
  obtain ⟨pc, hpc⟩ : ∃ pc : Int, gi e a = pc := ⟨_, rfl⟩; rw [hpc] at hr ⊢; obtain ⟨w1, e1, HS1, t0, t1, b1⟩ := box2 w (.slice q nq cq) (.slice p2 n c2) 125; obtain ⟨w2, e2, HS2, q0, q1, q2, q3, b2⟩ := box4 w1 (.int .i64 h.arb) (.int .i64 h.num) (.int .i64 h.den) (.slice pe h.er.length ce) 65; have kb := alloc_new w2 (.cells #[.int .i64 0, .int .i64 0] 61); obtain ⟨w3, e3, HS3, _, _, b3⟩ := box2 w2 (.int .i64 0) (.int .i64 0) 61; rw [e3] at kb; have b23 := b2.trans (b3.mono b2.size); have b13 := b1.trans (b23.mono b1.size); have t0 := (b23.cell (lt_of_cellq t0)).trans t0; have t1 := (b23.cell (lt_of_cellq t1)).trans t1; have q0 := (b3.cell (lt_of_cellq q0)).trans q0; have q1 := (b3.cell (lt_of_cellq q1)).trans q1; have q2 := (b3.cell (lt_of_cellq q2)).trans q2; have q3 := (b3.cell (lt_of_cellq q3)).trans q3; obtain ⟨b, off, rfl, hc⟩ := (h2.below b13).at (i := a) (by omega); have ra := hc a (by omega)
  rw [hpc] at ra; rw [hab] at q0; obtain ⟨hr1, hr2⟩ := hr; obtain ⟨num, hnum⟩ : ∃ x : Int, h.num = x := ⟨_, rfl⟩; obtain ⟨den, hden⟩ : ∃ x : Int, h.den = x := ⟨_, rfl⟩; have hnu := hh.num; have hde := hh.den; have hle := hh.len; have har := atF_range hh (pc := pc) ⟨hr1, hr2⟩; have hsl := stepF_lt hh pc; have her := hh.err _ hsl
  have hst : (stepF h pc : Int) = (atF h pc % 21600 * h.er.length) / 21600 := by
    unfold stepF; refine Int.toNat_of_nonneg (Int.ediv_nonneg (Int.mul_nonneg (Int.emod_nonneg _ (by omega)) (by omega)) (by omega))
  have hatd : atF h pc = pc * num / den := by unfold atF; rw [hnum, hden]
  rw [hnum] at hnu q1; rw [hden] at hde q2
  have hp1 : -280000 ≤ pc * num := by
    have := Int.mul_le_mul_of_nonneg_right (a := -2800) (b := pc) (c := num) hr1 (by omega); omega
  have hp2 : pc * num ≤ 240000 := by
    have := Int.mul_le_mul_of_nonneg_right (a := pc) (b := 2400) (c := num) hr2 (by omega); omega
  obtain ⟨at_, hA⟩ : ∃ x : Int, atF h pc = x := ⟨_, rfl⟩; obtain ⟨s, hs⟩ : ∃ x : Nat, stepF h pc = x := ⟨_, rfl⟩; have HS := Lib.hid (show shownF h pc = (at_ + (gm h.er s).1, at_ + (gm h.er s).2) by unfold shownF; rw [hA, hs]); rw [hA] at har hst hatd; rw [hs] at hsl her hst; obtain ⟨bE, oE, rfl, hcE⟩ := (hE.below b13).at (i := s) hsl; obtain ⟨x0, x1⟩ := hcE s hsl; obtain ⟨L, hL⟩ : ∃ L : Nat, h.er.length = L := ⟨_, rfl⟩; rw [hL] at hsl hle hst q3 ⊢; obtain ⟨R, hR⟩ : ∃ R : Int, at_ % 21600 = R := ⟨_, rfl⟩; have hR0 : 0 ≤ R := by rw [← hR]; exact Int.emod_nonneg _ (by omega)
  have hR1 : R < 21600 := by rw [← hR]; exact Int.emod_lt_of_pos _ (by omega)
  rw [hR] at hst; have hRL0 : 0 ≤ R * (L : Int) := Int.mul_nonneg hR0 (by omega); have hRL1 : R * (L : Int) ≤ 21600 * (L : Int) := Int.mul_le_mul_of_nonneg_right (by omega) (by omega); have hwm : IntKind.i64.wrap (R * (L : Int)) = R * (L : Int) := w64 _ (by omega) (by omega); have hqd : (R * (L : Int)).tdiv 21600 = (s : Int) := by rw [Int.tdiv_eq_ediv_of_nonneg hRL0, hst]
  obtain ⟨lo, hlo⟩ : ∃ x : Int, (gm h.er s).1 = x := ⟨_, rfl⟩; obtain ⟨hi, hhi⟩ : ∃ x : Int, (gm h.er s).2 = x := ⟨_, rfl⟩; rw [hlo, hhi] at HS; rw [hlo] at x0 her; rw [hhi] at x1 her; have hw1 : IntKind.i64.wrap (at_ + lo) = at_ + lo := w64 _ (by omega) (by omega); have hw2 : IntKind.i64.wrap (at_ + hi) = at_ + hi := w64 _ (by omega) (by omega); have hsI : (s : Int) < (L : Int) := by omega
  have hws : IntKind.i64.wrap (s : Int) = (s : Int) := w64 _ (by omega) (by omega); have hs0 : (0 : Int) ≤ (s : Int) := by omega
  have HAT := Lib.hid hatd; have HRR := Lib.hid hR; have HB := Lib.hid b13; have HKB := Lib.hid kb; have HZ := Lib.hid (show w.heap.size ≤ w2.heap.size from Nat.le_trans b1.size b2.size); have HAR := Lib.hid har; have HDE := Lib.hid hde; have hden1 : 0 < den := by omega
  have hden2 : den ≤ 100000 := by omega
  have hpn : -1000000000 ≤ pc * num ∧ pc * num ≤ 1000000000 := by omega
  have HPN := Lib.hid hpn; have HLT := Lib.hid hlt; rw [HS.out]; rw [hab]; rw [hab, hL] at e2; clear hatd hR kb b1 b2 b3 b23 b13 hc hcE h2 hE hh hat hab hnum hden hA hs hL hlo hhi her hst har hn hnn hle hde hpn HS hpc hr1 hr2 hR0 hR1 hRL0 hRL1 hnu
  go_enter Tryz.func64, Tryz.ntmps64
  go_upto_region 1 with (fail); clear e1 e2 e3; refine wp_region_quiet_below (by kernel_rfl) (by kernel_rfl) ?_; (repeat (first | ((with_reducible first | apply wq_fg faP0 | apply wq_fg faP1 | apply wq_fg faP2 | apply wq_fg faM0 | apply wq_fg faS0 | apply wq_fg faS1 | apply wq_fg faR0 | apply wq_fg faR1 | apply wq_fg faR2 | apply wq_fg faR3 | apply wq_fg faT0 | apply wq_fg faT1 | apply wq_fg faQ0 | apply wq_fg faQ1 | apply wq_fg faH0 | apply wq_fg faH1 | apply wq_fg faH2 | apply wq_fg faH3); (focus rfl); (focus rfl); go_frame) | ((with_reducible apply wq_ext); (focus rfl); (focus rfl); (focus rfl); go_frame) | ((with_reducible first | apply wq_ix Tryz.underlying23 szI | apply wq_ix Tryz.underlying48 szSp | apply wq_ix Tryz.underlying56 szM | apply wq_ix Tryz.underlying57 szR | apply wq_ix Tryz.underlying90 szL | apply wq_ix Tryz.underlying118 szT); (focus rfl); (focus rfl); (focus rfl); (focus omega); (try simp only [Nat.mul_one]); go_frame) | ((with_reducible first | apply wq_ld agI | apply wq_ld agB | apply wq_ld agLI | apply wq_ld agLS | apply wq_ld agLM | apply wq_ld agLR | apply wq_ld agLL | apply wq_ld agLT); (focus rfl); (focus rfl); (focus (intro _ hbq; first | exact (hbq.cell (lt_of_cellq t1)).trans t1 | exact (hbq.cell (lt_of_cellq q0)).trans q0 | exact (hbq.cell (lt_of_cellq q1)).trans q1 | exact (hbq.cell (lt_of_cellq q2)).trans q2 | exact (hbq.cell (lt_of_cellq ra)).trans ra)); go_frame) | ((with_reducible first | apply wq_add | apply wq_sub | apply wq_mul | apply wq_rem); (focus rfl); (focus rfl); (focus rfl); (focus omega); (focus omega); go_frame) | ((with_reducible first | apply wq_eql | apply wq_neq | apply wq_lss | apply wq_leq | apply wq_gtr | apply wq_geq | apply wq_max2 | apply wq_min2); (focus rfl); (focus rfl); (focus rfl); go_frame) | ((with_reducible first | apply wq_max3 | apply wq_min3); (focus rfl); (focus rfl); (focus rfl); (focus rfl); go_frame) | go_big_quiet_step ((intro hbq; exact calls_below hbq (c_floor (pc * num) den _ hden1 hden2 HPN.out))))); refine wpQuiet_nil ?_; intro wq hbq
  have q3 := (hbq.cell (lt_of_cellq q3)).trans q3; have x0 := (hbq.cell (lt_of_cellq x0)).trans x0; have x1 := (hbq.cell (lt_of_cellq x1)).trans x1; have HBQ := Lib.hid hbq; clear hbq t0 t1 q0 q1 q2 ra; rw [← HAT.out]; go_wp2_with fail; refine (c_floor at_ 21600 _ (by omega) (by omega) (by have := HAR.out; omega)).mono ?_; rintro e w4 ⟨rfl, b4⟩; rw [HRR.out]; have q3 := (b4.cell (lt_of_cellq q3)).trans q3; have x0 := (b4.cell (lt_of_cellq x0)).trans x0; have x1 := (b4.cell (lt_of_cellq x1)).trans x1; obtain ⟨w5, e5, HS5, y0, y1, b5⟩ := box2 w4 (.int .i64 lo) (.int .i64 hi) 61; have b35 : Below w3.heap.size w3 w5 := (HBQ.out.trans (b4.mono HBQ.out.size)).trans (b5.mono (Nat.le_trans HBQ.out.size b4.size)); obtain ⟨w6, w7, s1, s2, ⟨c0', f0⟩, ⟨c1', f1⟩, hx4, hxk, HZ5, hxb⟩ := set2 w5 w2.heap.size 61 _ _ (.int .i64 (at_ + lo)) (.int .i64 (at_ + hi)) ((b35.block _ (block_lt HKB.out)).trans HKB.out)
  obtain ⟨r0, r1⟩ := cells2 hx4; have HBB := Lib.hid (hxb w w.heap.size HZ.out (HB.out.trans (b35.mono HB.out.size))); clear hx4 hxk hxb b35 b4 b5; go_wp2; refine bodyPost_ret (v := .agg #[.int .i64 (at_ + lo), .int .i64 (at_ + hi)]) ?_ rfl ⟨rfl, HBB.out⟩; simp [results, Tryz.results64, go_sem, r0, r1]
end Go.Proofs.YtchclaipbahiiaaGreat
end

section
namespace Go.Proofs.YtchclaipbahiiaaGreat
open Go
theorem wpAnyH_gen {P : Program} {md : Region.Mode} {ops : Array Oper} {Q : Exit → Act → World → Prop} {S : World → Prop} {fuel : Nat} {listed : Array Bool} {a : Act} {W : World}
    (h : ∀ wa, wa = W → wpAnyH P md ops Q S fuel listed a wa) : wpAnyH P md ops Q S fuel listed a W := h W rfl
end Go.Proofs.YtchclaipbahiiaaGreat
end

section
namespace Go.Proofs.YtchclaipbahiiaaGreat
open Go Go.RowKit Go.Proofs
set_option linter.unusedVariables false
attribute [local go_sem] imax2 imin2
structure RdH (w : World) (pb : Nat) (h : Hd) (pe : Option Addr) (ce : Nat) : Prop where
  c0 : w.cell? ⟨pb, 0, none⟩ = some (.int .i64 h.arb)
  c1 : w.cell? ⟨pb, 1, none⟩ = some (.int .i64 h.num)
  c2 : w.cell? ⟨pb, 2, none⟩ = some (.int .i64 h.den)
  c3 : w.cell? ⟨pb, 3, none⟩ = some (.slice pe h.er.length ce)
  er : RdS w pe h.er
theorem RdH.below {w w' : World} {pb : Nat} {h : Hd} {pe : Option Addr} {ce : Nat} (hr : RdH w pb h pe ce) (hb : Below w.heap.size w w') : RdH w' pb h pe ce :=
  ⟨(hb.cell (lt_of_cellq hr.c0)).trans hr.c0, (hb.cell (lt_of_cellq hr.c1)).trans hr.c1, (hb.cell (lt_of_cellq hr.c2)).trans hr.c2, (hb.cell (lt_of_cellq hr.c3)).trans hr.c3, hr.er.below hb⟩
theorem shF_eq {p : Pc} {h : Hd} (pl : List Int) : shownF h (gi (endF p pl) h.arb.toNat) = shF p h pl := rfl
theorem hand_place {p : Pc} (hp : PieceOk p) {pl : List Int} (ht : PlaysOk p pl) {h : Hd} (hh : HandOk p.ms.length h) : -2800 ≤ gi (endF p pl) h.arb.toNat ∧ gi (endF p pl) h.arb.toNat ≤ 2400 :=
  place_range hp ht p.mv.length h.arb.toNat (Nat.le_refl _) (by have := hh.arb; have := ht.len; omega)
set_option maxRecDepth 100000 in
theorem c1_shows (p : Pc) (pl : List Int) (p1 p2 : Option Addr) (c1 c2 : Nat) (pb : Nat) (h : Hd) (pe : Option Addr) (ce : Nat) (w : World) (hp : PieceOk p) (ht : PlaysOk p pl) (h2 : RdI w p2 (endF p pl)) (hh : HandOk p.ms.length h) (hr : RdH w pb h pe ce) :
    Calls Tryz.prog 63 #[.agg #[.slice p1 p.ms.length c1, .slice p2 (p.ms.length + 1) c2], .pointer (some ⟨pb, 0, none⟩)] w fun e w' => e = .returned (.agg #[.int .i64 (shF p h pl).1, .int .i64 (shF p h pl).2]) ∧ Below w.heap.size w w' := by
  have hln : (endF p pl).length = p.ms.length + 1 := by rw [end_len ht.pos, ht.len]
  obtain ⟨w1, e1, HS1, t0, t1, b1⟩ := box2 w (.slice p1 p.ms.length c1) (.slice p2 (p.ms.length + 1) c2) 125; have kb := alloc_new w1 (.cells #[.int .i64 0, .int .i64 0] 61); obtain ⟨w2, e2, HS2, _, _, b2⟩ := box2 w1 (.int .i64 0) (.int .i64 0) 61; rw [e2] at kb; have t0 := (b2.cell (lt_of_cellq t0)).trans t0; have t1 := (b2.cell (lt_of_cellq t1)).trans t1; have b12 := b1.trans (b2.mono b1.size); obtain ⟨k0, k1, k2, k3, kE⟩ := hr.below b12; have hc := c_shows p1 p.ms.length c1 p2 (p.ms.length + 1) c2 p.ms.length h pe ce (endF p pl) w2 (h2.below b12) hln kE hh (by omega) (hand_place hp ht hh); rw [shF_eq] at hc; unfold hdV at hc; have HB := Lib.hid b12; have HKB := Lib.hid kb; have HZ := Lib.hid (show w.heap.size ≤ w1.heap.size from b1.size); clear h2 hr kE b1 b2 b12 kb hp ht hh hln
  go_enter Tryz.func63, Tryz.ntmps63
  go_wp2_with fail; refine hc.mono ?_; clear hc; rintro e w3 ⟨rfl, b3⟩; clear e1 e2; obtain ⟨w4, w5, s1, s2, ⟨c0', f0⟩, ⟨c1', f1⟩, hx4, hxk, HZ5, hxb⟩ := set2 w3 w1.heap.size 61 _ _ (.int .i64 (shF p h pl).1) (.int .i64 (shF p h pl).2) ((b3.block _ (block_lt HKB.out)).trans HKB.out); obtain ⟨r0, r1⟩ := cells2 hx4; have HBB := Lib.hid (hxb w w.heap.size HZ.out (HB.out.trans (b3.mono HB.out.size))); clear hx4 hxk hxb b3; go_wp2; refine bodyPost_ret (v := .agg #[.int .i64 (shF p h pl).1, .int .i64 (shF p h pl).2]) ?_ rfl ⟨rfl, HBB.out⟩; simp [results, Tryz.results63, go_sem, r0, r1]
def AskR (pm pv pr : Option Addr) (cm cv cr : Nat) (p : Pc) (fine : Bool) (a b c d : Value) (er : Int) (w w' : World) : Prop :=
  ((pieceB p && fine) = false ∧ er = 2 ∧ a = .slice none 0 0 ∧ b = .slice none 0 0 ∧ c = .slice none 0 0 ∧ d = .slice none 0 0) ∨ ((pieceB p && fine) = true ∧ truthsF p = [] ∧ er = 7 ∧ a = .slice none 0 0 ∧ b = .slice none 0 0 ∧ c = .slice none 0 0 ∧ d = .slice none 0 0) ∨
   ((pieceB p && fine) = true ∧ truthsF p ≠ [] ∧ er = 0 ∧ a = .slice pm p.ms.length cm ∧ b = .slice pv p.mv.length cv ∧ c = .slice pr p.rs.length cr ∧ ∃ g cap, d = .slice (some ⟨g, 0, none⟩) (truthsF p).length cap ∧ ∀ W : World, (∀ k, w.heap.size ≤ k → k < w'.heap.size → W.heap[k]? = w'.heap[k]?) → RdQ W (some ⟨g, 0, none⟩) p (truthsF p))
def AskZ (pm pv pr : Option Addr) (cm cv cr : Nat) (p : Pc) (fine : Bool) (a b c d : Value) (er : Int) (W : World) : Prop :=
  ((pieceB p && fine) = false ∧ er = 2 ∧ a = .slice none 0 0 ∧ b = .slice none 0 0 ∧ c = .slice none 0 0 ∧ d = .slice none 0 0) ∨ ((pieceB p && fine) = true ∧ truthsF p = [] ∧ er = 7 ∧ a = .slice none 0 0 ∧ b = .slice none 0 0 ∧ c = .slice none 0 0 ∧ d = .slice none 0 0) ∨
   (PieceOk p ∧ fine = true ∧ truthsF p ≠ [] ∧ er = 0 ∧ a = .slice pm p.ms.length cm ∧ b = .slice pv p.mv.length cv ∧ c = .slice pr p.rs.length cr ∧ ∃ g cap, d = .slice (some ⟨g, 0, none⟩) (truthsF p).length cap ∧ RdQ W (some ⟨g, 0, none⟩) p (truthsF p))
theorem AskR.at {pm pv pr : Option Addr} {cm cv cr : Nat} {p : Pc} {fine : Bool} {a b c d : Value} {er : Int} {w w' W : World} (h : AskR pm pv pr cm cv cr p fine a b c d er w w') (hW : ∀ k, w.heap.size ≤ k → k < w'.heap.size → W.heap[k]? = w'.heap[k]?) : AskZ pm pv pr cm cv cr p fine a b c d er W := by
  rcases h with h | h | ⟨h1, h2, h3, h4, h5, h6, g, cap, h7, h8⟩
  · exact .inl h
  · exact .inr (.inl h)
  · rw [Bool.and_eq_true] at h1
    exact .inr (.inr ⟨pieceB_iff.1 h1.1, h1.2, h2, h3, h4, h5, h6, g, cap, h7, h8 W hW⟩)
theorem sl_inj {a a' : Option Addr} {n n' c c' : Nat} (h : Value.slice a n c = .slice a' n' c') : a' = a ∧ n' = n ∧ c' = c := by
  injection h with h1 h2 h3
  exact ⟨h1.symm, h2.symm, h3.symm⟩
theorem c_askedG (pm pv pr : Option Addr) (cm cv cr : Nat) (p : Pc) (fine : Bool) (w : World) (hp : RdP w pm pv pr p) (hl : LenOk p) :
    Calls Tryz.prog 60 #[.agg #[.slice pm p.ms.length cm, .slice pv p.mv.length cv, .slice pr p.rs.length cr], .bool fine] w fun e w' => ∃ (qa : Option Addr) (na ca : Nat) (qb : Option Addr) (nb cb : Nat) (qc : Option Addr) (nc cc : Nat) (qd : Option Addr) (nd cd : Nat) (er : Int), e = .returned (.tuple #[.agg #[.slice qa na ca, .slice qb nb cb, .slice qc nc cc, .slice qd nd cd], .int .i64 er]) ∧ Hid (AskR pm pv pr cm cv cr p fine (.slice qa na ca) (.slice qb nb cb) (.slice qc nc cc) (.slice qd nd cd) er w w') ∧ Below w.heap.size w w' := by
  refine (c_asked pm pv pr cm cv cr p fine w hp hl).mono ?_; rintro e w' ⟨⟨h1, rfl⟩ | ⟨h1, h2, rfl⟩ | ⟨h1, h2, g, cap, rfl, h3⟩, hb⟩
  · exact ⟨_, _, _, _, _, _, _, _, _, _, _, _, _, rfl, Lib.hid (.inl ⟨h1, rfl, rfl, rfl, rfl, rfl⟩), hb⟩
  · exact ⟨_, _, _, _, _, _, _, _, _, _, _, _, _, rfl, Lib.hid (.inr (.inl ⟨h1, h2, rfl, rfl, rfl, rfl, rfl⟩)), hb⟩
  · exact ⟨_, _, _, _, _, _, _, _, _, _, _, _, _, rfl, Lib.hid (.inr (.inr ⟨h1, h2, rfl, rfl, rfl, rfl, g, cap, rfl, h3⟩)), hb⟩
end Go.Proofs.YtchclaipbahiiaaGreat
end

section
namespace Go.Proofs.YtchclaipbahiiaaGreat
set_option linter.unusedSimpArgs false
open Go Go.RowKit Go.Proofs
set_option linter.unusedVariables false
attribute [local go_sem] imax2 imin2
def errF (p : Pc) (fine : Bool) : Int := if (pieceB p && fine) = false then 2 else if truthsF p = [] then 7 else 0
def okI (p : Pc) (fine : Bool) (x : Int) : Int := if errF p fine = 0 then x else 0
def AnsS (p : Pc) (fine : Bool) (S : Int × Int) : Ending := .returned (.tuple #[.agg #[.int .i64 (okI p fine S.1), .int .i64 (okI p fine S.2)], .int .i64 (errF p fine)])
def SpanPost (p : Pc) (fine : Bool) (S : Int × Int) (w : World) (e : Ending) (w' : World) : Prop := e = AnsS p fine S ∧ Below w.heap.size w w'
theorem err_bad {p : Pc} {fine : Bool} (h : (pieceB p && fine) = false) : errF p fine = 2 := by unfold errF; rw [if_pos h]
theorem err_rule {p : Pc} {fine : Bool} (h : (pieceB p && fine) = true) (ht : truthsF p = []) : errF p fine = 7 := by unfold errF; rw [if_neg (by rw [h]; decide), if_pos ht]
theorem err_good {p : Pc} {fine : Bool} (h1 : pieceB p = true) (h2 : fine = true) (ht : truthsF p ≠ []) : errF p fine = 0 := by unfold errF; rw [if_neg (by rw [h1, h2]; decide), if_neg ht]
theorem ok_bad {p : Pc} {fine : Bool} (x : Int) (h : (pieceB p && fine) = false) : okI p fine x = 0 := by unfold okI; rw [err_bad h]; rfl
theorem ok_rule {p : Pc} {fine : Bool} (x : Int) (h : (pieceB p && fine) = true) (ht : truthsF p = []) : okI p fine x = 0 := by unfold okI; rw [err_rule h ht]; rfl
theorem ok_good {p : Pc} {fine : Bool} (x : Int) (h1 : pieceB p = true) (h2 : fine = true) (ht : truthsF p ≠ []) : okI p fine x = x := by unfold okI; rw [err_good h1 h2 ht]; rfl
theorem ans_bad {p : Pc} {fine : Bool} {S : Int × Int} (h : (pieceB p && fine) = false) : (Ending.returned (.tuple #[.agg #[.int .i64 0, .int .i64 0], .int .i64 2])) = AnsS p fine S := by unfold AnsS; rw [err_bad h, ok_bad _ h, ok_bad _ h]
theorem ans_rule {p : Pc} {fine : Bool} {S : Int × Int} (h : (pieceB p && fine) = true) (ht : truthsF p = []) : (Ending.returned (.tuple #[.agg #[.int .i64 0, .int .i64 0], .int .i64 7])) = AnsS p fine S := by unfold AnsS; rw [err_rule h ht, ok_rule _ h ht, ok_rule _ h ht]
theorem ans_good {p : Pc} {fine : Bool} {S : Int × Int} (h1 : pieceB p = true) (h2 : fine = true) (ht : truthsF p ≠ []) : (Ending.returned (.tuple #[.agg #[.int .i64 S.1, .int .i64 S.2], .int .i64 0])) = AnsS p fine S := by unfold AnsS; rw [err_good h1 h2 ht, ok_good _ h1 h2 ht, ok_good _ h1 h2 ht]
theorem gl_mem {ts : List (List Int)} {k : Nat} (h : k < ts.length) : gl ts k ∈ ts := by
  have e : gl ts k = ts[k] := by unfold gl; simp [h]
  rw [e]; exact List.getElem_mem h
set_option maxHeartbeats 3200000 in
set_option maxRecDepth 100000 in
theorem c_Shows (pm pv pr : Option Addr) (cm cv cr : Nat) (p : Pc) (h : Hd) (pe : Option Addr) (ce : Nat) (w : World) (hp : RdP w pm pv pr p) (hl : LenOk p) (hh : RdS w pe h.er) (hle : h.er.length ≤ 1000000) :
    Calls Tryz.prog 21 #[.agg #[.slice pm p.ms.length cm, .slice pv p.mv.length cv, .slice pr p.rs.length cr], hdV h pe ce] w (SpanPost p (handB p.ms.length h) (showsF p h) w) := by
  have hc := fun w hh => c_isHand pm pv pr cm cv cr p h pe ce w hh hle
  unfold hdV at hc ⊢; obtain ⟨w1, e1, HS1, k0, k1, k2, b1⟩ := box3 w (.slice pm p.ms.length cm) (.slice pv p.mv.length cv) (.slice pr p.rs.length cr) 59; obtain ⟨w2, e2, HS2, q0, q1, q2, q3, b2⟩ := box4 w1 (.int .i64 h.arb) (.int .i64 h.num) (.int .i64 h.den) (.slice pe h.er.length ce) 65; have kr := alloc_new w2 (.cells #[.int .i64 0, .int .i64 0] 61); obtain ⟨w3, e3, HS3, _, _, b3⟩ := box2 w2 (.int .i64 0) (.int .i64 0) 61; rw [e3] at kr; have b23 := b2.trans (b3.mono b2.size); have b13 := b1.trans (b23.mono b1.size); have k0 := (b23.cell (lt_of_cellq k0)).trans k0; have k1 := (b23.cell (lt_of_cellq k1)).trans k1; have k2 := (b23.cell (lt_of_cellq k2)).trans k2; have q0 := (b3.cell (lt_of_cellq q0)).trans q0; have q1 := (b3.cell (lt_of_cellq q1)).trans q1; have q2 := (b3.cell (lt_of_cellq q2)).trans q2; have q3 := (b3.cell (lt_of_cellq q3)).trans q3; have HPW := Lib.hid (fun (W : World) (hb : Below w3.heap.size w3 W) => (hp.below b13).below hb)
  have HEW := Lib.hid (fun (W : World) (hb : Below w3.heap.size w3 W) => (hh.below b13).below hb); have HL := Lib.hid hl; have HC := Lib.hid hc; have HB := Lib.hid b13; have HKR := Lib.hid kr; have HZ := Lib.hid (show w.heap.size < w1.heap.size ∧ w1.heap.size < w2.heap.size ∧ w2.heap.size < w3.heap.size from ⟨by have := HS1.out; omega, by have := HS2.out; omega, by have := HS3.out; omega⟩); have HRH := Lib.hid (fun (W : World) (hb : Below w3.heap.size w3 W) => (⟨(hb.cell (lt_of_cellq q0)).trans q0, (hb.cell (lt_of_cellq q1)).trans q1, (hb.cell (lt_of_cellq q2)).trans q2, (hb.cell (lt_of_cellq q3)).trans q3, (hh.below b13).below hb⟩ : RdH W w1.heap.size h pe ce)); have HSB := Lib.hid (show ∀ W, Below w3.heap.size w3 W → (fun w' => (w'.cell? ⟨w.heap.size, 0, none⟩ = some (.slice pm p.ms.length cm) ∧ w'.cell? ⟨w.heap.size, 1, none⟩ = some (.slice pv p.mv.length cv) ∧ w'.cell? ⟨w.heap.size, 2, none⟩ = some (.slice pr p.rs.length cr)) ∧ w'.cell? ⟨w1.heap.size, 0, none⟩ = some (.int .i64 h.arb) ∧ w'.cell? ⟨w1.heap.size, 1, none⟩ = some (.int .i64 h.num) ∧ w'.cell? ⟨w1.heap.size, 2, none⟩ = some (.int .i64 h.den) ∧ w'.cell? ⟨w1.heap.size, 3, none⟩ = some (.slice pe h.er.length ce)) W from fun W hb => ⟨⟨(hb.cell (lt_of_cellq k0)).trans k0, (hb.cell (lt_of_cellq k1)).trans k1, (hb.cell (lt_of_cellq k2)).trans k2⟩, (hb.cell (lt_of_cellq q0)).trans q0, (hb.cell (lt_of_cellq q1)).trans q1, (hb.cell (lt_of_cellq q2)).trans q2, (hb.cell (lt_of_cellq q3)).trans q3⟩)
  clear hp hh hl hc b1 b2 b3 b23 b13 kr
  go_enter Tryz.func21, Tryz.ntmps21
  go_upto_region 1 with (fail); clear e1 e2 e3 k0 k1 k2 q0 q1 q2 q3; refine Code.wp_mono (Q := fun e a wz => e = .normal ∧ ∃ (bx : Nat) (qa : Option Addr) (na ca : Nat) (qb : Option Addr) (nb cb : Nat) (qc : Option Addr) (nc cc : Nat) (qd : Option Addr) (nd cd : Nat) (er : Int), a = { tmps := #[.agg #[.slice pm p.ms.length cm, .slice pv p.mv.length cv, .slice pr p.rs.length cr], .agg #[.int .i64 h.arb, .int .i64 h.num, .int .i64 h.den, .slice pe h.er.length ce], .pointer (some ⟨w.heap.size, 0, none⟩), .pointer (some ⟨w1.heap.size, 0, none⟩), .pointer (some ⟨w2.heap.size, 0, none⟩), .int .i64 0, .pointer (some ⟨bx, 0, none⟩), .int .i64 er, .tuple #[.agg #[.slice qa na ca, .slice qb nb cb, .slice qc nc cc, .slice qd nd cd], .int .i64 er], .agg #[.slice pm p.ms.length cm, .slice pv p.mv.length cv, .slice pr p.rs.length cr], .agg #[.slice pm p.ms.length cm, .slice pv p.mv.length cv, .slice pr p.rs.length cr], .agg #[.int .i64 h.arb, .int .i64 h.num, .int .i64 h.den, .slice pe h.er.length ce], .bool (handB p.ms.length h), .tuple #[.agg #[.slice qa na ca, .slice qb nb cb, .slice qc nc cc, .slice qd nd cd], .int .i64 er], .agg #[.slice qa na ca, .slice qb nb cb, .slice qc nc cc, .slice qd nd cd], .int .i64 er, undef, undef, undef, undef, undef, undef, undef], defers := [] } ∧ Hid (wz.heap[bx]? = some (.cells #[.slice qa na ca, .slice qb nb cb, .slice qc nc cc, .slice qd nd cd] 120 (0, 0))) ∧ Hid (AskZ pm pv pr cm cv cr p (handB p.ms.length h) (.slice qa na ca) (.slice qb nb cb) (.slice qc nc cc) (.slice qd nd cd) er wz) ∧ Hid (Below w3.heap.size w3 wz) ∧ Hid (w3.heap.size ≤ bx)) ?imp ?reg
  case reg =>
    refine wp_region_held_drew (S := (fun w' => (w'.cell? ⟨w.heap.size, 0, none⟩ = some (.slice pm p.ms.length cm) ∧ w'.cell? ⟨w.heap.size, 1, none⟩ = some (.slice pv p.mv.length cv) ∧ w'.cell? ⟨w.heap.size, 2, none⟩ = some (.slice pr p.rs.length cr)) ∧ w'.cell? ⟨w1.heap.size, 0, none⟩ = some (.int .i64 h.arb) ∧ w'.cell? ⟨w1.heap.size, 1, none⟩ = some (.int .i64 h.num) ∧ w'.cell? ⟨w1.heap.size, 2, none⟩ = some (.int .i64 h.den) ∧ w'.cell? ⟨w1.heap.size, 3, none⟩ = some (.slice pe h.er.length ce))) (by kernel_rfl) (by (try dsimp only); exact HSB.out _ (Below.refl _ _).drew) (fun hHeld => ?_); refine wpAnyH_gen (fun W0 hW0 => ?_); have HB0 : Below w3.heap.size w3 W0 := by rw [hW0]; exact (Below.refl _ _).drew
    clear hW0 hHeld; refine tj 0 rfl (by exact HSB.out _ HB0) ?_; (try simp only [Act.put, ptL]); refine tj 1 rfl (by exact HSB.out _ HB0) ?_; (try simp only [Act.put, ptL]); refine tj 2 rfl (by exact HSB.out _ HB0) ?_; (try simp only [Act.put, ptL]); refine rz2 3 8 rfl rfl ?_ ?_
    · intro K hK
      go_simp
      (with_reducible refine (HC.out W0 (HEW.out _ HB0)).mono ?_)
      rintro e W4 ⟨rfl, hbn⟩; have HB4 : Below w3.heap.size w3 W4 := HB0.trans (hbn.mono HB0.size); clear hbn; go_simp; refine kz hK (by exact HSB.out _ HB4) ?_; clear hK K; (try simp only [Act.put, ptL]); clear HB0; refine rz2 4 8 rfl rfl ?_ ?_
      · intro K hK
        go_simp; obtain ⟨WA, hWA⟩ : ∃ WA, WA = W4 := ⟨_, rfl⟩
        (with_reducible refine (c_askedG pm pv pr cm cv cr p (handB p.ms.length h) W4 (HPW.out _ HB4) HL.out).mono ?_)
        rintro e W5 ⟨qa, na, ca, qb, nb, cb, qc, nc, cc, qd, nd, cd, er, rfl, hmk, hbn⟩; obtain ⟨WB, hWB⟩ : ∃ WB, WB = W5 := ⟨_, rfl⟩; have HQ : ∀ k, WA.heap.size ≤ k → k < WB.heap.size → W5.heap[k]? = WB.heap[k]? := fun k _ _ => by rw [hWB]
        have hqs : WB.heap.size ≤ W5.heap.size := by rw [hWB]; exact Nat.le_refl _
        rw [← hWA, ← hWB] at hmk; clear hWA hWB; have HB5 : Below w3.heap.size w3 W5 := HB4.trans (hbn.mono HB4.size); clear hbn; go_simp; refine kz hK (by exact HSB.out _ HB5) ?_; clear hK K; (try simp only [Act.put, ptL]); clear HB4; refine tj 5 rfl (by exact HSB.out _ HB5) ?_; (try simp only [Act.put, ptL]); refine tj 6 rfl (by exact HSB.out _ HB5) ?_; (try simp only [Act.put, ptL]); refine tj 7 rfl (by exact HSB.out _ HB5) ?_; (try simp only [Act.put, ptL]); refine rz1 8 rfl ?_; intro K hK; go_simp; refine kz hK (by exact HSB.out _ (HB5.alloc HB5.size _)) ?_; clear hK K; (try simp only [Act.put, ptL]); refine wpAnyH_gen (fun W9 hWn => ?_); have HB9 : Below w3.heap.size w3 W9 := by rw [hWn]; exact HB5.alloc HB5.size _
        have HQ : ∀ k, WA.heap.size ≤ k → k < WB.heap.size → W9.heap[k]? = WB.heap[k]? := fun k h1 h2 => by rw [hWn, Below.heap_alloc _ _ _ (Nat.lt_of_lt_of_le h2 hqs)]; exact HQ k h1 h2
        have hq_x : WB.heap.size ≤ W5.heap.size := hqs; have hqs : WB.heap.size ≤ W9.heap.size := by rw [hWn]; simp; omega
        have hx_x : W9.heap[W5.heap.size]? = some (.cells #[.slice none 0 0, .slice none 0 0, .slice none 0 0, .slice none 0 0] 120) := by rw [hWn]; exact alloc_new _ _
        have hl_x : w3.heap.size ≤ W5.heap.size := HB5.size; clear hWn; obtain ⟨b_x, hb_x⟩ : ∃ b, W5.heap.size = b := ⟨_, rfl⟩; rw [hb_x] at hx_x hl_x hq_x ⊢; clear HB5 hb_x; refine rz1 9 rfl ?_; intro K hK; refine set4K W9 b_x 120 _ _ _ _ (.slice qa na ca) (.slice qb nb cb) (.slice qc nc cc) (.slice qd nd cd) hx_x (fun wa10 wb10 wc10 W10 sa sb sc sd ca0 fa0 ca1 fa1 ca2 fa2 ca3 fa3 hx4 hxk HZs hxb => ?_); have HB10 : Below w3.heap.size w3 W10 := hxb w3 w3.heap.size hl_x HB9; have hx_x := hx4; have HQ : ∀ k, WA.heap.size ≤ k → k < WB.heap.size → W10.heap[k]? = WB.heap[k]? := fun k h1 h2 => (hxk k (by omega)).trans (HQ k h1 h2)
        have hqs : WB.heap.size ≤ W10.heap.size := by rw [HZs.out]; exact hqs
        clear hx4 hxk hxb HZs; go_simp; refine kz hK (by exact HSB.out _ HB10) ?_; clear hK K; (try simp only [Act.put, ptL]); clear ca0 ca1 ca2 ca3 fa0 fa1 fa2 fa3 sa sb sc sd HB9; refine tj 10 rfl (by exact HSB.out _ HB10) ?_; (try simp only [Act.put, ptL]); refine wpAnyH_done (by kernel_rfl) ?_ _; obtain ⟨wz, hwz⟩ : ∃ wz, wz = W10 := ⟨_, rfl⟩; subst hwz; have HBZ := HB10; clear HB10; exact ⟨rfl, _, _, _, _, _, _, _, _, _, _, _, _, _, _, rfl, Lib.hid hx_x, Lib.hid (by exact hmk.out.at HQ), Lib.hid HBZ, Lib.hid hl_x⟩
      · intro K hK
        go_simp; refine kz hK (by exact HSB.out _ (HB4.alloc HB4.size _)) ?_; clear hK K; (try simp only [Act.put, ptL]); refine wpAnyH_gen (fun W12 hWn => ?_); have HB12 : Below w3.heap.size w3 W12 := by rw [hWn]; exact HB4.alloc HB4.size _
        have hx_x : W12.heap[W4.heap.size]? = some (.cells #[.slice none 0 0, .slice none 0 0, .slice none 0 0, .slice none 0 0] 120) := by rw [hWn]; exact alloc_new _ _
        have hl_x : w3.heap.size ≤ W4.heap.size := HB4.size; clear hWn; obtain ⟨b_x, hb_x⟩ : ∃ b, W4.heap.size = b := ⟨_, rfl⟩; rw [hb_x] at hx_x hl_x ⊢; clear HB4 hb_x; refine rz1 4 rfl ?_; intro K hK; go_simp; obtain ⟨WA, hWA⟩ : ∃ WA, WA = W12 := ⟨_, rfl⟩; have hq_x : b_x < WA.heap.size := by rw [hWA]; exact block_lt hx_x
        (with_reducible refine (c_askedG pm pv pr cm cv cr p (handB p.ms.length h) W12 (HPW.out _ HB12) HL.out).mono ?_)
        rintro e W13 ⟨qa, na, ca, qb, nb, cb, qc, nc, cc, qd, nd, cd, er, rfl, hmk, hbn⟩; obtain ⟨WB, hWB⟩ : ∃ WB, WB = W13 := ⟨_, rfl⟩; have HQ : ∀ k, WA.heap.size ≤ k → k < WB.heap.size → W13.heap[k]? = WB.heap[k]? := fun k _ _ => by rw [hWB]
        have hqs : WB.heap.size ≤ W13.heap.size := by rw [hWB]; exact Nat.le_refl _
        rw [← hWA, ← hWB] at hmk; clear hWA hWB; have HB13 : Below w3.heap.size w3 W13 := HB12.trans (hbn.mono HB12.size); have hx_x : W13.heap[b_x]? = some (.cells #[.slice none 0 0, .slice none 0 0, .slice none 0 0, .slice none 0 0] 120) := (hbn.block _ (block_lt hx_x)).trans hx_x; clear hbn; go_simp; refine kz hK (by exact HSB.out _ HB13) ?_; clear hK K; (try simp only [Act.put, ptL]); clear HB12; refine tj 5 rfl (by exact HSB.out _ HB13) ?_; (try simp only [Act.put, ptL]); refine tj 6 rfl (by exact HSB.out _ HB13) ?_; (try simp only [Act.put, ptL]); refine tj 7 rfl (by exact HSB.out _ HB13) ?_; (try simp only [Act.put, ptL]); refine rz1 9 rfl ?_; intro K hK; refine set4K W13 b_x 120 _ _ _ _ (.slice qa na ca) (.slice qb nb cb) (.slice qc nc cc) (.slice qd nd cd) hx_x (fun wa17 wb17 wc17 W17 sa sb sc sd ca0 fa0 ca1 fa1 ca2 fa2 ca3 fa3 hx4 hxk HZs hxb => ?_); have HB17 : Below w3.heap.size w3 W17 := hxb w3 w3.heap.size hl_x HB13
        have hx_x := hx4; have HQ : ∀ k, WA.heap.size ≤ k → k < WB.heap.size → W17.heap[k]? = WB.heap[k]? := fun k h1 h2 => (hxk k (by omega)).trans (HQ k h1 h2)
        have hqs : WB.heap.size ≤ W17.heap.size := by rw [HZs.out]; exact hqs
        clear hx4 hxk hxb HZs; go_simp; refine kz hK (by exact HSB.out _ HB17) ?_; clear hK K; (try simp only [Act.put, ptL]); clear ca0 ca1 ca2 ca3 fa0 fa1 fa2 fa3 sa sb sc sd HB13; refine tj 10 rfl (by exact HSB.out _ HB17) ?_; (try simp only [Act.put, ptL]); refine wpAnyH_done (by kernel_rfl) ?_ _; obtain ⟨wz, hwz⟩ : ∃ wz, wz = W17 := ⟨_, rfl⟩; subst hwz; have HBZ := HB17; clear HB17; exact ⟨rfl, _, _, _, _, _, _, _, _, _, _, _, _, _, _, rfl, Lib.hid hx_x, Lib.hid (by exact hmk.out.at HQ), Lib.hid HBZ, Lib.hid hl_x⟩
    · intro K hK
      go_simp; refine kz hK (by exact HSB.out _ (HB0.alloc HB0.size _)) ?_; clear hK K; (try simp only [Act.put, ptL]); refine wpAnyH_gen (fun W19 hWn => ?_); have HB19 : Below w3.heap.size w3 W19 := by rw [hWn]; exact HB0.alloc HB0.size _
      have hx_x : W19.heap[W0.heap.size]? = some (.cells #[.slice none 0 0, .slice none 0 0, .slice none 0 0, .slice none 0 0] 120) := by rw [hWn]; exact alloc_new _ _
      have hl_x : w3.heap.size ≤ W0.heap.size := HB0.size; clear hWn; obtain ⟨b_x, hb_x⟩ : ∃ b, W0.heap.size = b := ⟨_, rfl⟩; rw [hb_x] at hx_x hl_x ⊢; clear HB0 hb_x; refine rz1 3 rfl ?_; intro K hK; go_simp
      (with_reducible refine (HC.out W19 (HEW.out _ HB19)).mono ?_)
      rintro e W20 ⟨rfl, hbn⟩; have HB20 : Below w3.heap.size w3 W20 := HB19.trans (hbn.mono HB19.size); have hx_x : W20.heap[b_x]? = some (.cells #[.slice none 0 0, .slice none 0 0, .slice none 0 0, .slice none 0 0] 120) := (hbn.block _ (block_lt hx_x)).trans hx_x; clear hbn; go_simp; refine kz hK (by exact HSB.out _ HB20) ?_; clear hK K; (try simp only [Act.put, ptL]); clear HB19; refine rz1 4 rfl ?_; intro K hK; go_simp; obtain ⟨WA, hWA⟩ : ∃ WA, WA = W20 := ⟨_, rfl⟩; have hq_x : b_x < WA.heap.size := by rw [hWA]; exact block_lt hx_x
      (with_reducible refine (c_askedG pm pv pr cm cv cr p (handB p.ms.length h) W20 (HPW.out _ HB20) HL.out).mono ?_)
      rintro e W21 ⟨qa, na, ca, qb, nb, cb, qc, nc, cc, qd, nd, cd, er, rfl, hmk, hbn⟩; obtain ⟨WB, hWB⟩ : ∃ WB, WB = W21 := ⟨_, rfl⟩; have HQ : ∀ k, WA.heap.size ≤ k → k < WB.heap.size → W21.heap[k]? = WB.heap[k]? := fun k _ _ => by rw [hWB]
      have hqs : WB.heap.size ≤ W21.heap.size := by rw [hWB]; exact Nat.le_refl _
      rw [← hWA, ← hWB] at hmk; clear hWA hWB; have HB21 : Below w3.heap.size w3 W21 := HB20.trans (hbn.mono HB20.size); have hx_x : W21.heap[b_x]? = some (.cells #[.slice none 0 0, .slice none 0 0, .slice none 0 0, .slice none 0 0] 120) := (hbn.block _ (block_lt hx_x)).trans hx_x; clear hbn; go_simp; refine kz hK (by exact HSB.out _ HB21) ?_; clear hK K; (try simp only [Act.put, ptL]); clear HB20; refine tj 5 rfl (by exact HSB.out _ HB21) ?_; (try simp only [Act.put, ptL]); refine tj 6 rfl (by exact HSB.out _ HB21) ?_; (try simp only [Act.put, ptL]); refine tj 7 rfl (by exact HSB.out _ HB21) ?_; (try simp only [Act.put, ptL]); refine rz1 9 rfl ?_; intro K hK; refine set4K W21 b_x 120 _ _ _ _ (.slice qa na ca) (.slice qb nb cb) (.slice qc nc cc) (.slice qd nd cd) hx_x (fun wa25 wb25 wc25 W25 sa sb sc sd ca0 fa0 ca1 fa1 ca2 fa2 ca3 fa3 hx4 hxk HZs hxb => ?_); have HB25 : Below w3.heap.size w3 W25 := hxb w3 w3.heap.size hl_x HB21
      have hx_x := hx4; have HQ : ∀ k, WA.heap.size ≤ k → k < WB.heap.size → W25.heap[k]? = WB.heap[k]? := fun k h1 h2 => (hxk k (by omega)).trans (HQ k h1 h2)
      have hqs : WB.heap.size ≤ W25.heap.size := by rw [HZs.out]; exact hqs
      clear hx4 hxk hxb HZs; go_simp; refine kz hK (by exact HSB.out _ HB25) ?_; clear hK K; (try simp only [Act.put, ptL]); clear ca0 ca1 ca2 ca3 fa0 fa1 fa2 fa3 sa sb sc sd HB21; refine tj 10 rfl (by exact HSB.out _ HB25) ?_; (try simp only [Act.put, ptL]); refine wpAnyH_done (by kernel_rfl) ?_ _; obtain ⟨wz, hwz⟩ : ∃ wz, wz = W25 := ⟨_, rfl⟩; subst hwz; have HBZ := HB25; clear HB25; exact ⟨rfl, _, _, _, _, _, _, _, _, _, _, _, _, _, _, rfl, Lib.hid hx_x, Lib.hid (by exact hmk.out.at HQ), Lib.hid HBZ, Lib.hid hl_x⟩
  case imp =>
    rintro e a wz ⟨rfl, bx, qa, na, ca, qb, nb, cb, qc, nc, cc, qd, nd, cd, er, rfl, HX, HAZ, HBZ, HLX⟩
    rcases HAZ.out with ⟨hf, rfl, ea, eb, ec, ed⟩ | ⟨hf, ht, rfl, ea, eb, ec, ed⟩ | ⟨hpo, hfi, ht, rfl, ea, eb, ec, g, cap, ed, hq⟩
    all_goals
      obtain ⟨rfl, rfl, rfl⟩ := sl_inj ea; obtain ⟨rfl, rfl, rfl⟩ := sl_inj eb; obtain ⟨rfl, rfl, rfl⟩ := sl_inj ec; obtain ⟨rfl, rfl, rfl⟩ := sl_inj ed; clear ea eb ec ed
    · have HF := Lib.hid hf
      have hkz := (HBZ.out.block _ (block_lt HKR.out)).trans HKR.out; obtain ⟨w4, w5, s1, s2, ⟨c0', f0⟩, ⟨c1', f1⟩, hx4, hxk, HZ5, hxb⟩ := set2 wz w2.heap.size 61 _ _ (.int .i64 0) (.int .i64 0) hkz; obtain ⟨r0, r1⟩ := cells2 hx4; have HBB := Lib.hid (hxb w w.heap.size (by have := HZ.out; omega) (HB.out.trans (HBZ.out.mono HB.out.size))); clear hx4 hxk hxb hkz hf; go_wp2; refine bodyPost_ret (v := .tuple #[.agg #[.int .i64 0, .int .i64 0], .int .i64 2]) ?_ rfl ⟨?_, HBB.out⟩
      · simp [results, Tryz.results21, go_sem, r0, r1]
      · exact ans_bad HF.out
    · have HF := Lib.hid (And.intro hf ht)
      have hkz := (HBZ.out.block _ (block_lt HKR.out)).trans HKR.out; obtain ⟨w4, w5, s1, s2, ⟨c0', f0⟩, ⟨c1', f1⟩, hx4, hxk, HZ5, hxb⟩ := set2 wz w2.heap.size 61 _ _ (.int .i64 0) (.int .i64 0) hkz; obtain ⟨r0, r1⟩ := cells2 hx4; have HBB := Lib.hid (hxb w w.heap.size (by have := HZ.out; omega) (HB.out.trans (HBZ.out.mono HB.out.size))); clear hx4 hxk hxb hkz hf ht; go_wp2; refine bodyPost_ret (v := .tuple #[.agg #[.int .i64 0, .int .i64 0], .int .i64 7]) ?_ rfl ⟨?_, HBB.out⟩
      · simp [results, Tryz.results21, go_sem, r0, r1]
      · exact ans_rule HF.out.1 HF.out.2
    · have hHO := handB_iff.1 hfi
      have hT := truths_le hpo; obtain ⟨x0, x1, x2, x3⟩ := cells4 HX.out
      have hov := over_gen 63 #[.pointer (some ⟨w1.heap.size, 0, none⟩)] (enters_of Tryz.func63 (by kernel_rfl) rfl) pm pv pr cm cv cr p (some ⟨g, 0, none⟩) cap (truthsF p) wz (shF p h) hq (by omega) (fun W k p1 p2 c1 c2 hb hk hl1 h1 h2 hl2 hcc hpp =>
        c1_shows p (gl (truthsF p) k) p1 p2 c1 c2 w1.heap.size h pe ce W hpo (truth_plays hpo (gl_mem hk)) h2 hHO ((HRH.out wz HBZ.out).below hb))
      rw [ovTo_all] at hov; have HF := Lib.hid (And.intro (pieceB_iff.2 hpo) (And.intro hfi ht)); have HBY := Lib.hid (HB.out.trans (HBZ.out.mono HB.out.size)); have HKZ := Lib.hid ((HBZ.out.block _ (block_lt HKR.out)).trans HKR.out); clear hq hpo hfi ht hHO hT HRH HSB HPW HEW HC; go_wp2_with fail; refine hov.mono ?_; clear hov; rintro e w6 ⟨rfl, b6⟩; have hkz := (b6.block _ (block_lt HKZ.out)).trans HKZ.out; obtain ⟨w7, w8, s1, s2, ⟨c0', f0⟩, ⟨c1', f1⟩, hx4, hxk, HZ5, hxb⟩ := set2 w6 w2.heap.size 61 _ _ (.int .i64 (ovF p (shF p h)).1) (.int .i64 (ovF p (shF p h)).2) hkz; obtain ⟨r0, r1⟩ := cells2 hx4; have HBB := Lib.hid (hxb w w.heap.size (by have := HZ.out; omega) (HBY.out.trans (b6.mono HBY.out.size))); clear hx4 hxk hxb hkz b6; go_wp2; refine bodyPost_ret (v := .tuple #[.agg #[.int .i64 (ovF p (shF p h)).1, .int .i64 (ovF p (shF p h)).2], .int .i64 0]) ?_ rfl ⟨?_, HBB.out⟩
      · simp [results, Tryz.results21, go_sem, r0, r1]
      · exact ans_good HF.out.1 HF.out.2.1 HF.out.2.2
end Go.Proofs.YtchclaipbahiiaaGreat
end

section
namespace Go.Proofs.YtchclaipbahiiaaGreat
set_option linter.unusedVariables false
def lowL (ms : List (Int × Int)) : List Int := ms.map (·.1)
def highL (ms : List (Int × Int)) : List Int := ms.map (·.2)
theorem lowL_at (ms : List (Int × Int)) (i : Nat) (h : i < ms.length) : gi (lowL ms) i = (gm ms i).1 := by
  unfold lowL gi; rw [List.getD_eq_getElem?_getD, List.getElem?_map, List.getElem?_eq_getElem h, gm_get _ _ h]; rfl
theorem highL_at (ms : List (Int × Int)) (i : Nat) (h : i < ms.length) : gi (highL ms) i = (gm ms i).2 := by
  unfold highL gi; rw [List.getD_eq_getElem?_getD, List.getElem?_map, List.getElem?_eq_getElem h, gm_get _ _ h]; rfl
theorem most_on {mv : List Int} (h : ∀ i, i < mv.length → 0 ≤ gi mv i) : ∀ k, k ≤ mv.length → mostF mv k ≤ sumT mv k := by
  intro k
  induction k with
  | zero => intro _; exact Int.le_refl _
  | succ k ih =>
    intro hk; have h1 := ih (by omega); have h2 := h k (by omega); have hs : sumT mv (k + 1) = sumT mv k + gi mv k := rfl; simp only [mostF]; omega
theorem sumT_le2 {a b : List Int} {n : Nat} (h : ∀ i, i < n → gi a i ≤ gi b i) : ∀ k, k ≤ n → sumT a k ≤ sumT b k := by
  intro k
  induction k with
  | zero => intro _; exact Int.le_refl _
  | succ k ih =>
    intro hk; have h1 := ih (by omega); have h2 := h k (by omega); simp only [sumT]; omega
theorem top_end {p : Pc} (hp : PieceOk p) (hon : ∀ i, i < p.mv.length → 0 ≤ gi p.mv i) {pl : List Int} (h : pl ∈ truthsF p) : gi (endF p pl) p.ms.length = sumT p.mv p.mv.length - sumT pl p.ms.length := by
  have hk := truth_plays hp h; exact runF_full hk.pos p.mv (most_on hon _ (Nat.le_refl _)) _ (by rw [hk.len]; exact Nat.le_refl _)
theorem top_fits {p : Pc} (hr : p.rs = []) {pl : List Int} (hl : pl.length = p.ms.length) (h : ∀ i, i < pl.length → (gm p.ms i).1 ≤ gi pl i ∧ gi pl i ≤ (gm p.ms i).2) : pl ∈ truthsF p := by
  refine mem_truthsF.2 ⟨hl, ?_⟩; unfold fitsB; rw [hr, withinB_iff.2 h]; rfl
theorem top_low {p : Pc} (hp : PieceOk p) (hr : p.rs = []) : lowL p.ms ∈ truthsF p := by
  have hl : (lowL p.ms).length = p.ms.length := by simp [lowL]
  refine top_fits hr hl fun i hi => ?_
  rw [hl] at hi; rw [lowL_at _ _ hi]; exact ⟨Int.le_refl _, (hp.mesh i hi).2.1⟩
theorem top_high {p : Pc} (hp : PieceOk p) (hr : p.rs = []) : highL p.ms ∈ truthsF p := by
  have hl : (highL p.ms).length = p.ms.length := by simp [highL]
  refine top_fits hr hl fun i hi => ?_
  rw [hl] at hi; rw [highL_at _ _ hi]; exact ⟨(hp.mesh i hi).2.1, Int.le_refl _⟩
theorem top_sh {p : Pc} (hp : PieceOk p) {h : Hd} (hh : HandOk p.ms.length h) (hon : ∀ i, i < p.mv.length → 0 ≤ gi p.mv i) (ha : h.arb = p.ms.length) (he : h.er = [(0, 0)]) {pl : List Int} (hpl : pl ∈ truthsF p) :
    shF p h pl = ((sumT p.mv p.mv.length - sumT pl p.ms.length) * h.num / h.den, (sumT p.mv p.mv.length - sumT pl p.ms.length) * h.num / h.den) := by
  have hz : ∀ pc, stepF h pc = 0 := fun pc => by
    have := stepF_lt hh pc; rw [he] at this
    simpa using this
  have e := top_end hp hon hpl; unfold shF shownF; rw [hz, he, ha]; simp only [Int.toNat_natCast]; rw [e]; unfold atF; simp [gm]
theorem top_shows {p : Pc} (hp : PieceOk p) {h : Hd} (hh : HandOk p.ms.length h) (hr : p.rs = []) (hon : ∀ i, i < p.mv.length → 0 ≤ gi p.mv i) (ha : h.arb = p.ms.length) (he : h.er = [(0, 0)]) :
    showsF p h = ((sumT p.mv p.mv.length - sumT (highL p.ms) p.ms.length) * h.num / h.den, (sumT p.mv p.mv.length - sumT (lowL p.ms) p.ms.length) * h.num / h.den) := by
  have hlo := top_low hp hr; have hhi := top_high hp hr; have hne : truthsF p ≠ [] := ne_of_mem hlo; have hden := hh.den; have hnum := hh.num
  have mono : ∀ a b : Int, a ≤ b → (sumT p.mv p.mv.length - b) * h.num / h.den ≤ (sumT p.mv p.mv.length - a) * h.num / h.den := fun a b hab =>
    Int.ediv_le_ediv (by omega) (Int.mul_le_mul_of_nonneg_right (by omega) (by omega))
  have hb : ∀ pl ∈ truthsF p, sumT (lowL p.ms) p.ms.length ≤ sumT pl p.ms.length ∧ sumT pl p.ms.length ≤ sumT (highL p.ms) p.ms.length := fun pl hpl => by
    obtain ⟨hl, hf⟩ := mem_truthsF.1 hpl
    have hw : withinB p pl = true := by
      unfold fitsB at hf; rw [Bool.and_eq_true] at hf; exact hf.1
    have hw := withinB_iff.1 hw; exact ⟨sumT_le2 (n := p.ms.length) (fun i hi => by rw [lowL_at _ _ hi]; exact (hw i (by omega)).1) _ (Nat.le_refl _), sumT_le2 (n := p.ms.length) (fun i hi => by rw [highL_at _ _ hi]; exact (hw i (by omega)).2) _ (Nat.le_refl _)⟩
  have m1 := ovF_mem (shF p h) hhi; have m2 := ovF_mem (shF p h) hlo; obtain ⟨p1, h1, e1⟩ := ovF_low (shF p h) hne; obtain ⟨p2, h2, e2⟩ := ovF_high (shF p h) hne; rw [top_sh hp hh hon ha he hhi] at m1; rw [top_sh hp hh hon ha he hlo] at m2; rw [top_sh hp hh hon ha he h1] at e1; rw [top_sh hp hh hon ha he h2] at e2; have a1 := mono _ _ (hb p1 h1).2; have a2 := mono _ _ (hb p2 h2).1; unfold showsF; refine Prod.ext ?_ ?_
  · simp only at m1 e1 ⊢
    omega
  · simp only at m2 e2 ⊢
    omega
theorem top_far (a b d : Int) (hd : 0 < d) : a / d - b / d = (a - b) / d ∨ a / d - b / d = (a - b) / d + 1 := by
  have h1 := Int.emod_nonneg a (show d ≠ 0 by omega); have h2 := Int.emod_lt_of_pos a hd; have h3 := Int.emod_nonneg b (show d ≠ 0 by omega); have h4 := Int.emod_lt_of_pos b hd; have e1 := Int.emod_add_mul_ediv a d; have e2 := Int.emod_add_mul_ediv b d; have e : a - b = (a % d - b % d) + d * (a / d - b / d) := by rw [Int.mul_sub]; omega
  have e3 : (a - b) / d = (a % d - b % d) / d + (a / d - b / d) := by rw [e, Int.add_mul_ediv_left _ _ (by omega)]
  by_cases h : b % d ≤ a % d
  · have : (a % d - b % d) / d = 0 := Int.ediv_eq_zero_of_lt (by omega) (by omega)
    exact .inl (by omega)
  · have : (a % d - b % d) / d = -1 := by
      have h5 : (a % d - b % d) / d < 0 := Int.ediv_neg_of_neg_of_pos (by omega) hd; have h6 : -1 ≤ (a % d - b % d) / d := (Int.le_ediv_iff_mul_le hd).2 (by omega); omega
    exact .inr (by omega)
end Go.Proofs.YtchclaipbahiiaaGreat
end

section
namespace Go.Proofs.YtchclaipbahiiaaGreat
open Go Go.RowKit Go.Proofs Go.Shelf
set_option linter.unusedVariables false
theorem cls3 {w : World} {B : Nat} {t : TypeId} {a b c : Value} (h : w.heap[B]? = some (.cells #[a, b, c] t)) : w.cell? ⟨B, 0, none⟩ = some a ∧ w.cell? ⟨B, 1, none⟩ = some b ∧ w.cell? ⟨B, 2, none⟩ = some c := by
  refine ⟨?_, ?_, ?_⟩ <;> (rw [cell_of_row _ _ _ _ _ _ h]; rfl)
theorem pt3_0 (w : World) (B : Nat) (t : TypeId) (a b c x : Value) (h : w.heap[B]? = some (.cells #[a, b, c] t)) : ∃ w1, w.setCell ⟨B, 0, none⟩ x = w1 ∧ w.cell? ⟨B, 0, none⟩ = some a ∧ w.frozen? ⟨B, 0, none⟩ = false ∧
    w1.heap[B]? = some (.cells #[x, b, c] t) ∧ (∀ k, k ≠ B → w1.heap[k]? = w.heap[k]?) ∧ Hid (w1.heap.size = w.heap.size) ∧ ∀ W n0, n0 ≤ B → Below n0 W w → Below n0 W w1 :=
  ⟨_, rfl, (cls3 h).1, frozen_of_row _ _ _ _ _ h, by rw [heap_setCell_same w B 0 _ t x h]; rfl, fun k hk => Below.heap_setCell _ _ _ k hk, Lib.hid (by simp), fun W n0 hn hb => hb.setCell hn _⟩
theorem pt3_2 (w : World) (B : Nat) (t : TypeId) (a b c x : Value) (h : w.heap[B]? = some (.cells #[a, b, c] t)) : ∃ w1, w.setCell ⟨B, 2, none⟩ x = w1 ∧ w.cell? ⟨B, 2, none⟩ = some c ∧ w.frozen? ⟨B, 2, none⟩ = false ∧
    w1.heap[B]? = some (.cells #[a, b, x] t) ∧ (∀ k, k ≠ B → w1.heap[k]? = w.heap[k]?) ∧ Hid (w1.heap.size = w.heap.size) ∧ ∀ W n0, n0 ≤ B → Below n0 W w → Below n0 W w1 :=
  ⟨_, rfl, (cls3 h).2.2, frozen_of_row _ _ _ _ _ h, by rw [heap_setCell_same w B 2 _ t x h]; rfl, fun k hk => Below.heap_setCell _ _ _ k hk, Lib.hid (by simp), fun W n0 hn hb => hb.setCell hn _⟩
theorem rds_blk {w : World} {b : Nat} {t : TypeId} {a c : Int} (h : w.heap[b]? = some (.cells #[.int .i64 a, .int .i64 c] t (0, 0))) : RdS w (some ⟨b, 0, none⟩) [(a, c)] := by
  refine .inr ⟨b, 0, rfl, fun i hi => ?_⟩; obtain rfl : i = 0 := by simpa using hi
  exact ⟨by rw [cell_of_row _ _ _ _ _ _ h]; rfl, by rw [cell_of_row _ _ _ _ _ _ h]; rfl⟩
end Go.Proofs.YtchclaipbahiiaaGreat
end
