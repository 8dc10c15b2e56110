/-
  The place of a product in a list of products: slices.BinarySearchFunc: contract.
  Whether a list of fractions holds a fraction: contracts.
  Two trains that are the same: contract.
  The example of a shop's piece: contracts.
  What the arguments of the top statements read as; the frame that both claims of this seat share.
  Pairs and trains of the shop that are as defined: contracts.
  The spots of a shop's piece: contracts.
  The path from the motor to an arbor: plain, and the iterator's making.
  Structs of six and of eight cells that are stored (printed by top.py).
  A rule with its numbers of teeth: contract.
  math/bits.Mul, as the shelf lays it at this dump (in plain words; printed by names).
  copy; slices.Repeat of one number: contracts.
  A loop over a function that hands out things whose memory it has laid: what the loop's body is told of each, and what is known of all of them behind the loop.
  Truths in memory that an iterator hands out, and what its loop keeps.
  The search for truths: where all plays are told: contract.
  All products of some wheels: the search, the iterator: contracts.
  The search for truths: where plays are still to be tried: contract.
  The search for truths, whole; the iterator over all truths of a piece: contracts.
  The iterator over all products: contract.
  What a loop over a path keeps: all but its own box, and rows of pairs.
-/
import Derived.Test.YtchclaipbahiiaaGreatRows
import Derived.WalkKit
import Derived.ProofKit
import Derived.OpenShut
import Derived.ChangeOld
import Derived.Lib.SmallJoins
import Derived.Deep.Slices
import Derived.Deep.AppendLies
import Derived.Shelf.Bits.Mul64
import Derived.Test.YtchclaipbahiiaaGreatProg
import Derived.Laws.CopyOwn
import Derived.StillTailTactics
import Derived.Deep.RegionHeld3
import Derived.RangeFuncWrites
import Derived.RangeFuncNested
import Derived.RangeFuncBound
import Derived.RangeFuncCalls
import Derived.RangeFuncLeaves
import Derived.Shelf.Abstract
import Derived.Shelf.RegionOpen
import Derived.OwnWalkIn
import Derived.TacticsInMore
import Derived.LoopNIn
import Derived.LoopIn
import Derived.Test.YtchclaipbahiiaaGreatFZT21
section
namespace Go.Proofs.YtchclaipbahiiaaGreat
open Go Go.RowKit Go.Proofs
set_option linter.unusedVariables false
set_option linter.unusedSimpArgs false
attribute [local go_sem] imax2 imin2
theorem t_near1 (x v num : Int) (bF : Nat) (w : World) (h : w.cell? ⟨bF, 0, none⟩ = some (.int .i64 num)) (hm : Mid (x * num)) :
    Calls Tryz.prog 125 #[.int .i64 x, .int .i64 v, .pointer (some ⟨bF, 0, none⟩)] w fun e w' => e = .returned (.int .i64 (cmpI (x * num) v)) ∧ w = w' := by
  unfold Mid at hm; obtain ⟨P, hP⟩ : ∃ P, x * num = P := ⟨_, rfl⟩; rw [hP] at hm; have hw : IntKind.i64.wrap (x * num) = P := by rw [hP]; exact w64 _ (by omega) (by omega)
  rw [hP]; clear hP
  go_enter Tryz.func125, Tryz.ntmps125
  go_wp2_with fail; refine (c_compare _ _ _).mono ?_; rintro e w' ⟨rfl, rfl⟩; go_wp2; go_ret; exact ⟨rfl, rfl⟩
theorem atN_of {xs : List Int} {num v : Int} {i : Nat} (h1 : ∀ j, j < i → gi xs j * num < v) (h2 : i ≤ xs.length) (h3 : i < xs.length → ¬ gi xs i * num < v) : atN xs num v = i := by
  unfold atN
  induction xs generalizing i with
  | nil => simp at h2; subst h2; rfl
  | cons x r ih =>
    cases i with
    | zero =>
      have := h3 (by simp); have e : gi (x :: r) 0 = x := rfl; rw [e] at this; rw [List.takeWhile_cons_of_neg (by simpa using this)]; rfl
    | succ i =>
      have h0 := h1 0 (by omega); have e : gi (x :: r) 0 = x := rfl; rw [e] at h0; rw [List.takeWhile_cons_of_pos (by simpa using h0), List.length_cons, ih (i := i) (fun j hj => h1 (j + 1) (by omega)) (by simpa using h2) (fun hi => h3 (by simpa using hi))]
def AtPost (n : Nat) (e : Ending) : Prop := ∃ b, e = .returned (.tuple #[.int .i64 n, .bool b])
set_option maxHeartbeats 1600000 in
set_option maxRecDepth 100000 in
theorem t_bsearch (p : Option Addr) (cap : Nat) (xs : List Int) (v num : Int) (bF : Nat) (w : World) (hx : RdI w p xs) (hl : xs.length ≤ 1000000) (h : w.cell? ⟨bF, 0, none⟩ = some (.int .i64 num)) (hm : ∀ i, i < xs.length → Mid (gi xs i * num))
    (hmono : ∀ i j, i ≤ j → j < xs.length → gi xs i * num ≤ gi xs j * num) :
    Calls Tryz.prog 124 #[.slice p xs.length cap, .int .i64 v, .func (.func 125) #[] #[.pointer (some ⟨bF, 0, none⟩)]] w fun e w' => AtPost (atN xs num v) e ∧ w = w' := by
  have HX := Lib.hid hx; have HM := Lib.hid hm; have HMO := Lib.hid hmono; have HAT := Lib.hid (fun (i : Nat) h1 h2 h3 => @atN_of xs num v i h1 h2 h3); clear hx hm hmono
  go_enter Tryz.func124, Tryz.ntmps124
  go_wp2
  go_loopw [9, 10] (fun a b wr => ∃ i j : Nat, a = .int .i64 i ∧ b = .int .i64 j ∧ i ≤ j ∧ j ≤ xs.length ∧ Hid (∀ k, k < i → gi xs k * num < v) ∧ Hid (∀ k, j ≤ k → k < xs.length → v ≤ gi xs k * num) ∧ w = wr) (fun a b _ => (intOf b - intOf a).toNat)
  case atStart => exact ⟨0, xs.length, rfl, rfl, Nat.zero_le _, Nat.le_refl _, Lib.hid (fun k hk => by omega), Lib.hid (fun k h1 h2 => by omega), rfl⟩
  case round =>
    obtain ⟨i, j, rfl, rfl, hij, hjn, HLO, HHI, rfl⟩ := hrel
    by_cases hlt : i < j
    · have hltI : decide ((i : Int) < (j : Int)) = true := decide_eq_true (by omega)
      have hw1 : IntKind.i64.wrap ((i : Int) + (j : Int)) = (i : Int) + (j : Int) := w64 _ (by omega) (by omega); have hu : IntKind.u64.wrap ((i : Int) + (j : Int)) = (i : Int) + (j : Int) := by rw [IntKind.wrap_u64]; omega
      obtain ⟨m, hme⟩ : ∃ m, (i + j) / 2 = m := ⟨_, rfl⟩; have hmid : ((i : Int) + (j : Int)) / 2 = (m : Int) := by omega
      have him : i ≤ m := by omega
      have hmj : m < j := by omega
      have hwm : IntKind.i64.wrap ((m : Int) + 1) = (m : Int) + 1 := w64 _ (by omega) (by omega); obtain ⟨b, off, rfl, hc⟩ := HX.out.at (i := m) (by omega); have d0 := hc m (by omega); have hcl := t_near1 (gi xs m) v num bF w h (HM.out m (by omega)); have HLO2 := Lib.hid (show gi xs m * num < v → ∀ k, k < m + 1 → gi xs k * num < v from fun hh k hk => Int.lt_of_le_of_lt (HMO.out k m (by omega) (by omega)) hh); have HHI2 := Lib.hid (show ¬ gi xs m * num < v → ∀ k, m ≤ k → k < xs.length → v ≤ gi xs k * num from fun hh k h1 h2 => Int.le_trans (Int.not_lt.1 hh) (HMO.out m k h1 h2)); obtain ⟨y, hy⟩ : ∃ y, gi xs m = y := ⟨_, rfl⟩; rw [hy] at d0 hcl HLO2 HHI2; clear hy hc hme
      by_cases hlv : y * num < v
      · have hcm : decide (cmpI (y * num) v < 0) = true := decide_eq_true ((cmpI_neg _ _).2 hlv)
        have HLO3 := Lib.hid (HLO2.out hlv); obtain ⟨C, hC⟩ : ∃ C, cmpI (y * num) v = C := ⟨_, rfl⟩; rw [hC] at hcl hcm; clear hC hlv HLO2 HHI2; go_wp2_with fail; refine hcl.mono ?_; clear hcl; rintro e w' ⟨rfl, rfl⟩; go_wp2; go_roundw
        case rel => exact ⟨m + 1, j, by go_num, rfl, by omega, hjn, HLO3, HHI, trivial⟩
        case measure => simp [intOf]; omega
      · have hcm : decide (cmpI (y * num) v < 0) = false := decide_eq_false (fun hh => hlv ((cmpI_neg _ _).1 hh))
        have HHI3 := Lib.hid (HHI2.out hlv); obtain ⟨C, hC⟩ : ∃ C, cmpI (y * num) v = C := ⟨_, rfl⟩; rw [hC] at hcl hcm; clear hC hlv HLO2 HHI2; go_wp2_with fail; refine hcl.mono ?_; clear hcl; rintro e w' ⟨rfl, rfl⟩; go_wp2; go_roundw
        case rel => exact ⟨i, m, rfl, rfl, by omega, by omega, HLO, HHI3, trivial⟩
        case measure => simp [intOf]; omega
    · obtain rfl : i = j := by omega
      have hltI : decide ((i : Int) < (i : Int)) = false := by simp
      have HE := Lib.hid (HAT.out i HLO.out hjn (fun hh => HHI.out i (Nat.le_refl _) hh))
      by_cases hn : i < xs.length
      · have hnI : decide ((i : Int) < (xs.length : Int)) = true := decide_eq_true (by omega)
        obtain ⟨b, off, rfl, hc⟩ := HX.out.at (i := i) hn; have d0 := hc i hn; have hcl := t_near1 (gi xs i) v num bF w h (HM.out i hn); clear hc; go_wp2_with fail; refine hcl.mono ?_; clear hcl; rintro e w' ⟨rfl, rfl⟩; go_wp2; go_ret2; exact ⟨⟨_, by rw [HE.out]; rfl⟩, rfl⟩
      · have hnI : decide ((i : Int) < (xs.length : Int)) = false := decide_eq_false (by omega)
        go_wp2; go_ret2; exact ⟨⟨_, by rw [HE.out]; rfl⟩, rfl⟩
set_option maxHeartbeats 1600000 in
set_option maxRecDepth 100000 in
theorem t_ixFr (p : Option Addr) (cap : Nat) (xs : List (Int × Int)) (x1 x2 : Int) (w : World) (hx : RdS w p xs) (hl : xs.length ≤ 1000000) :
    Calls Tryz.prog 157 #[.slice p xs.length cap, .agg #[.int .i64 x1, .int .i64 x2]] w fun e w' => (∃ r : Int, e = .returned (.int .i64 r) ∧ ((0 ≤ r ∧ xs.contains (x1, x2) = true) ∨ (r = -1 ∧ xs.contains (x1, x2) = false))) ∧ Below w.heap.size w w' := by
  obtain ⟨w1, e1, HS1, c0, c1, b1⟩ := box2 w (.int .i64 x1) (.int .i64 x2) 27; have HX := Lib.hid (hx.below b1); have HC := Lib.hid (And.intro c0 c1); have HB := Lib.hid b1; clear hx c0 c1 b1
  go_enter Tryz.func157, Tryz.ntmps157
  go_wp2
  go_loopw [8] (fun i wr => ∃ k : Nat, k ≤ xs.length ∧ i = .int .i64 k ∧ Hid (∀ j, j < k → gm xs j ≠ (x1, x2)) ∧ Hid (Below w1.heap.size w1 wr)) (fun i _ => xs.length - (intOf i).toNat)
  case atStart => exact ⟨0, Nat.zero_le _, rfl, Lib.hid (fun j h => by omega), Lib.hid (Below.refl _ _)⟩
  case round =>
    obtain ⟨k, hk, rfl, HN, HBR⟩ := hrel
    by_cases hlt : k < xs.length
    · have hltI : decide ((k : Int) < (xs.length : Int)) = true := by simp; omega
      obtain ⟨b, off, rfl, hc⟩ := (HX.out.below HBR.out).at hlt; obtain ⟨d0, d1⟩ := hc k hlt; have c0 := (HBR.out.cell (lt_of_cellq HC.out.1)).trans HC.out.1; have c1 := (HBR.out.cell (lt_of_cellq HC.out.2)).trans HC.out.2; have HL := Lib.hid hlt; obtain ⟨⟨y1, y2⟩, hy⟩ : ∃ y, gm xs k = y := ⟨_, rfl⟩; rw [hy] at d0 d1; simp only at d0 d1; have HY := Lib.hid hy; clear hc hy; have HSB := Lib.hid (cl4 c0 c1 d0 d1); have hkI : (k : Int) < (xs.length : Int) := by omega
      by_cases he : x1 = y1 ∧ x2 = y2
      · obtain ⟨rfl, rfl⟩ := he
        have HM := Lib.hid (show xs.contains (x1, x2) = true by rw [← HY.out, gm_get _ _ HL.out]; simp); go_wp2; refine held4 c0 c1 d0 d1 (fun W0 HB0 => ?_); clear c0 c1 d0 d1; refine tk 0 rfl (by exact HSB.out _ HB0) ?_; (try simp only [Act.put, ptL]); refine tk 1 rfl (by exact HSB.out _ HB0) ?_; (try simp only [Act.put, ptL]); refine tk 2 rfl (by exact HSB.out _ HB0) ?_; (try simp only [Act.put, ptL]); refine tk 3 rfl (by exact HSB.out _ HB0) ?_; (try simp only [Act.put, ptL]); refine tk 4 rfl (by exact HSB.out _ HB0) ?_; (try simp only [Act.put, ptL]); refine tk 5 rfl (by exact HSB.out _ HB0) ?_; (try simp only [Act.put, ptL]); refine wpAnyH_done (by kernel_rfl) ?_ _; have HBF := Lib.hid (HBR.out.trans (HB0.mono HBR.out.size)); clear HSB HB0; go_wp2; go_ret; exact ⟨⟨_, rfl, .inl ⟨by omega, HM.out⟩⟩, HB.out.trans (HBF.out.mono HB.out.size)⟩
      · have HN2 := Lib.hid (show ∀ j, j < k + 1 → gm xs j ≠ (x1, x2) from fun j hj => by
          by_cases h : j < k
          · exact HN.out j h
          · obtain rfl : j = k := by omega
            rw [HY.out]; intro e; exact he ⟨(congrArg Prod.fst e).symm, (congrArg Prod.snd e).symm⟩)
        by_cases h1 : x1 = y1
        · have h2 : ¬ x2 = y2 := fun h => he ⟨h1, h⟩
          clear he; go_wp2; refine held4 c0 c1 d0 d1 (fun W0 HB0 => ?_); clear c0 c1 d0 d1; refine tk 0 rfl (by exact HSB.out _ HB0) ?_; (try simp only [Act.put, ptL]); refine tk 1 rfl (by exact HSB.out _ HB0) ?_; (try simp only [Act.put, ptL]); refine tk 2 rfl (by exact HSB.out _ HB0) ?_; (try simp only [Act.put, ptL]); refine tk 3 rfl (by exact HSB.out _ HB0) ?_; (try simp only [Act.put, ptL]); refine tk 4 rfl (by exact HSB.out _ HB0) ?_; (try simp only [Act.put, ptL]); refine tk 5 rfl (by exact HSB.out _ HB0) ?_; (try simp only [Act.put, ptL]); refine wpAnyH_done (by kernel_rfl) ?_ _; have HBF := Lib.hid (HBR.out.trans (HB0.mono HBR.out.size)); clear HSB HB0; go_wp2; go_roundw
          case rel => exact ⟨k + 1, by omega, by go_num, HN2, HBF⟩
          case measure => simp [intOf]; omega
        · clear he
          go_wp2; refine held4 c0 c1 d0 d1 (fun W0 HB0 => ?_); clear c0 c1 d0 d1; refine tk 0 rfl (by exact HSB.out _ HB0) ?_; (try simp only [Act.put, ptL]); refine tk 1 rfl (by exact HSB.out _ HB0) ?_; (try simp only [Act.put, ptL]); refine tk 2 rfl (by exact HSB.out _ HB0) ?_; (try simp only [Act.put, ptL]); refine tk 3 rfl (by exact HSB.out _ HB0) ?_; (try simp only [Act.put, ptL]); refine tk 4 rfl (by exact HSB.out _ HB0) ?_; (try simp only [Act.put, ptL]); refine tk 5 rfl (by exact HSB.out _ HB0) ?_; (try simp only [Act.put, ptL]); refine wpAnyH_done (by kernel_rfl) ?_ _; have HBF := Lib.hid (HBR.out.trans (HB0.mono HBR.out.size)); clear HSB HB0; go_wp2; go_roundw
          case rel => exact ⟨k + 1, by omega, by go_num, HN2, HBF⟩
          case measure => simp [intOf]; omega
    · obtain rfl : k = xs.length := by omega
      have hltI : decide ((xs.length : Int) < (xs.length : Int)) = false := by simp
      have HM := Lib.hid (show xs.contains (x1, x2) = false by
        rw [← Bool.not_eq_true, List.contains_iff_mem]; intro hm; obtain ⟨j, hj, e⟩ := List.getElem_of_mem hm; exact HN.out j hj (by rw [gm_get _ _ hj]; exact e))
      go_wp2; go_ret; exact ⟨⟨_, rfl, .inr ⟨rfl, HM.out⟩⟩, HB.out.trans (HBR.out.mono HB.out.size)⟩
theorem t_hasFr (p : Option Addr) (cap : Nat) (xs : List (Int × Int)) (x1 x2 : Int) (w : World) (hx : RdS w p xs) (hl : xs.length ≤ 1000000) :
    Calls Tryz.prog 129 #[.slice p xs.length cap, .agg #[.int .i64 x1, .int .i64 x2]] w fun e w' => e = .returned (.bool (xs.contains (x1, x2))) ∧ Below w.heap.size w w' := by
  obtain ⟨w1, e1, HS1, c0, c1, b1⟩ := box2 w (.int .i64 x1) (.int .i64 x2) 27; have h := t_ixFr p cap xs x1 x2 w1 (hx.below b1) hl; have HB := Lib.hid b1; clear hx b1
  go_enter Tryz.func129, Tryz.ntmps129
  go_wp2_with fail; refine h.mono ?_; clear h; rintro e w2 ⟨⟨r, rfl, ⟨h0, hm⟩ | ⟨rfl, hm⟩⟩, b2⟩
  · have HM := Lib.hid hm
    have hd : decide (r ≥ 0) = true := decide_eq_true h0; have HB2 := Lib.hid (HB.out.trans (b2.mono HB.out.size)); clear hm b2; go_wp2; go_ret; exact ⟨by rw [HM.out]; rfl, HB2.out⟩
  · have HM := Lib.hid hm
    have HB2 := Lib.hid (HB.out.trans (b2.mono HB.out.size)); clear hm b2; go_wp2; go_ret; exact ⟨by rw [HM.out]; rfl, HB2.out⟩
set_option maxHeartbeats 1600000 in
set_option maxRecDepth 100000 in
theorem a_same (p q : Option Addr) (c c' : Nat) (xs : List (Int × Int)) (w : World) (hx : RdS w p xs) (hy : RdS w q xs) (hl : xs.length ≤ 1000000) :
    Calls Tryz.prog 31 #[.slice p xs.length c, .slice q xs.length c'] w fun e w' => e = .returned (.bool true) ∧ Below w.heap.size w w' := by
  have HX := Lib.hid hx; have HY := Lib.hid hy; clear hx hy
  go_enter Tryz.func31, Tryz.ntmps31
  go_wp2
  go_loopw [5] (fun i wr => ∃ k : Nat, k ≤ xs.length ∧ i = .int .i64 k ∧ Hid (Below w.heap.size w wr)) (fun i _ => xs.length - (intOf i).toNat)
  case atStart => exact ⟨0, Nat.zero_le _, rfl, Lib.hid (Below.refl _ _)⟩
  case round =>
    obtain ⟨k, hk, rfl, HBR⟩ := hrel
    by_cases hlt : k < xs.length
    · have hltI : decide ((k : Int) < (xs.length : Int)) = true := by simp; omega
      obtain ⟨b, off, rfl, hc⟩ := (HX.out.below HBR.out).at hlt; obtain ⟨b', off', rfl, hc'⟩ := (HY.out.below HBR.out).at hlt; obtain ⟨d0, d1⟩ := hc k hlt; obtain ⟨c0, c1⟩ := hc' k hlt; obtain ⟨⟨y1, y2⟩, hy⟩ : ∃ y, gm xs k = y := ⟨_, rfl⟩; rw [hy] at d0 d1 c0 c1; simp only at d0 d1 c0 c1; clear hc hc' hy; have HSB := Lib.hid (cl4 c0 c1 d0 d1); have hkI : (k : Int) < (xs.length : Int) := by omega
      go_wp2; refine held4 c0 c1 d0 d1 (fun W0 HB0 => ?_); clear c0 c1 d0 d1; refine tk 0 rfl (by exact HSB.out _ HB0) ?_; (try simp only [Act.put, ptL]); refine tk 1 rfl (by exact HSB.out _ HB0) ?_; (try simp only [Act.put, ptL]); refine tk 2 rfl (by exact HSB.out _ HB0) ?_; (try simp only [Act.put, ptL]); refine tk 3 rfl (by exact HSB.out _ HB0) ?_; (try simp only [Act.put, ptL]); refine tk 4 rfl (by exact HSB.out _ HB0) ?_; (try simp only [Act.put, ptL]); refine tk 5 rfl (by exact HSB.out _ HB0) ?_; (try simp only [Act.put, ptL]); refine tk 6 rfl (by exact HSB.out _ HB0) ?_; (try simp only [Act.put, ptL]); refine tk 7 rfl (by exact HSB.out _ HB0) ?_; (try simp only [Act.put, ptL]); refine tk 8 rfl (by exact HSB.out _ HB0) ?_; (try simp only [Act.put, ptL]); refine wpAnyH_done (by kernel_rfl) ?_ _; have HBF := Lib.hid (HBR.out.trans (HB0.mono HBR.out.size)); clear HSB HB0; go_wp2; go_roundw
      case rel => exact ⟨k + 1, by omega, by go_num, HBF⟩
      case measure => simp [intOf]; omega
    · obtain rfl : k = xs.length := by omega
      have hltI : decide ((xs.length : Int) < (xs.length : Int)) = false := by simp
      go_wp2; go_ret; exact ⟨rfl, HBR.out⟩
def gk (l : List (Int × Int × Int)) (i : Nat) : Int × Int × Int := l.getD i (0, 0, 0)
def RdLk (w : World) (p : Option Addr) (ls : List (Int × Int × Int)) : Prop :=
  ls = [] ∨ ∃ b off, p = some ⟨b, off, none⟩ ∧ ∀ i, i < ls.length → w.cell? ⟨b, off + i * 3, none⟩ = some (.int .i64 (gk ls i).1) ∧ w.cell? ⟨b, off + i * 3 + 1, none⟩ = some (.int .i64 (gk ls i).2.1) ∧ w.cell? ⟨b, off + i * 3 + 2, none⟩ = some (.int .i64 (gk ls i).2.2)
theorem RdLk.at {w : World} {p : Option Addr} {ls : List (Int × Int × Int)} (h : RdLk w p ls) {i : Nat} (hi : i < ls.length) :
    ∃ b off, p = some ⟨b, off, none⟩ ∧ ∀ i, i < ls.length → w.cell? ⟨b, off + i * 3, none⟩ = some (.int .i64 (gk ls i).1) ∧ w.cell? ⟨b, off + i * 3 + 1, none⟩ = some (.int .i64 (gk ls i).2.1) ∧ w.cell? ⟨b, off + i * 3 + 2, none⟩ = some (.int .i64 (gk ls i).2.2) := by
  rcases h with h | h
  · subst h; simp at hi
  · exact h
theorem RdLk.below {w w' : World} {p : Option Addr} {ls : List (Int × Int × Int)} (h : RdLk w p ls) (hb : Below w.heap.size w w') : RdLk w' p ls := by
  rcases h with h | ⟨b, off, rfl, hc⟩
  · exact .inl h
  · refine .inr ⟨b, off, rfl, fun i hi => ?_⟩
    obtain ⟨h1, h2, h3⟩ := hc i hi; exact ⟨(hb.cell (lt_of_cellq h1)).trans h1, (hb.cell (lt_of_cellq h2)).trans h2, (hb.cell (lt_of_cellq h3)).trans h3⟩
theorem e_pair (a b : Int) (w : World) : Calls Tryz.prog 65 #[.int .i64 a, .int .i64 b] w fun e w' => e = .returned (.agg #[.int .i64 a, .int .i64 b]) ∧ Below w.heap.size w w' := by
  obtain ⟨w1, e1, HS1, c0, c1, b1⟩ := box2 w (.int .i64 a) (.int .i64 b) 99
  go_enter Tryz.func65, Tryz.ntmps65
  go_wp2; refine bodyPost_ret (v := .agg #[.int .i64 a, .int .i64 b]) ?_ rfl ⟨rfl, b1⟩; simp [results, Tryz.results65, go_sem, c0, c1]
def shopE : List (Int × Int × Int) := [(0, 10, 20), (1, 12, 18), (1, 15, 10)]
def PPost (w : World) (e : Ending) (w' : World) : Prop := ∃ p c q d, e = .returned (.agg #[.slice p shopE.length c, .slice q [(2 : Int), 3].length d]) ∧ RdLk w' p shopE ∧ RdI w' q [2, 3] ∧ shopE.length ≤ c ∧ Below w.heap.size w w'
set_option maxHeartbeats 1600000 in
set_option maxRecDepth 100000 in
theorem e_P (w : World) : Calls Tryz.prog 28 #[] w (PPost w) := by
  go_enter Tryz.func28, Tryz.ntmps28
  obtain ⟨w1, e1, HS1, x0, x1, b1⟩ := box2 w (.slice none 0 0) (.slice none 0 0) 47; have k1 := alloc_new w (.cells #[.slice none 0 0, .slice none 0 0] 47); rw [e1] at k1; go_wp2_with fail; refine (e_pair _ _ _).mono ?_; rintro e w2 ⟨rfl, b2⟩; have k2 := (b2.block _ (block_lt k1)).trans k1; have B2 := Lib.hid (b1.trans (b2.mono b1.size)); clear b1 b2 e1 x0 x1 k1; go_wp2_with fail; refine (e_pair _ _ _).mono ?_; rintro e w3 ⟨rfl, b3⟩; have k3 := (b3.block _ (block_lt k2)).trans k2; have B3 := Lib.hid (B2.out.trans (b3.mono B2.out.size)); clear b3 k2; go_wp2_with fail; refine (e_pair _ _ _).mono ?_; rintro e w4 ⟨rfl, b4⟩; have k4 := (b4.block _ (block_lt k3)).trans k3; have B4 := Lib.hid (B3.out.trans (b4.mono B3.out.size)); clear b4 k3; obtain ⟨w5, e5⟩ : ∃ w5, w4.alloc (.cells #[.int .i64 0, .int .i64 10, .int .i64 20, .int .i64 1, .int .i64 12, .int .i64 18, .int .i64 1, .int .i64 15, .int .i64 10] 130) = w5 := ⟨_, rfl⟩
  have k5 := alloc_new w4 (.cells #[.int .i64 0, .int .i64 10, .int .i64 20, .int .i64 1, .int .i64 12, .int .i64 18, .int .i64 1, .int .i64 15, .int .i64 10] 130); have b5 : Below w4.heap.size w4 w5 := by rw [← e5]; exact below_alloc1 _ _
  rw [e5] at k5; obtain ⟨w6, e6⟩ : ∃ w6, w5.alloc (.cells #[.int .i64 2, .int .i64 3] 3) = w6 := ⟨_, rfl⟩; have k6 := alloc_new w5 (.cells #[.int .i64 2, .int .i64 3] 3); have b6 : Below w5.heap.size w5 w6 := by rw [← e6]; exact below_alloc1 _ _
  rw [e6] at k6; have q4 := ((b5.trans (b6.mono b5.size)).block _ (block_lt k4)).trans k4; have q5 := (b6.block _ (block_lt k5)).trans k5; have B6 := Lib.hid (B4.out.trans ((b5.trans (b6.mono b5.size)).mono B4.out.size)); obtain ⟨w7, w8, s7, s8, ⟨y0, f0⟩, ⟨y1, f1⟩, h8, hk8, HZ8, hb8⟩ := set2 w6 w.heap.size 47 _ _ (.slice (some ⟨w4.heap.size, 0, none⟩) 3 3) (.slice (some ⟨w5.heap.size, 0, none⟩) 2 2) q4; have hne5 : w4.heap.size ≠ w.heap.size := by have := block_lt k4; omega
  have hne6 : w5.heap.size ≠ w.heap.size := by have := block_lt k4; have := b5.size; omega
  have r5 := (hk8 _ hne5).trans q5; have r6 := (hk8 _ hne6).trans k6; have B8 := Lib.hid (hb8 w w.heap.size (Nat.le_refl _) B6.out); obtain ⟨z0, z1⟩ := cells2 h8; clear b5 b6 k4 k5 k6 q4 q5 hk8 hb8 h8; go_wp2; refine bodyPost_ret (v := .agg #[.slice (some ⟨w4.heap.size, 0, none⟩) 3 3, .slice (some ⟨w5.heap.size, 0, none⟩) 2 2]) ?_ rfl ?_
  · simp [results, Tryz.results28, go_sem, z0, z1]
  · refine ⟨_, _, _, _, rfl, .inr ⟨_, _, rfl, ?_⟩, .inr ⟨_, _, rfl, ?_⟩, Nat.le_refl 3, B8.out⟩
    · intro j hj
      have hj' : j = 0 ∨ j = 1 ∨ j = 2 := by have : shopE.length = 3 := rfl; omega
      rcases hj' with rfl | rfl | rfl <;> exact ⟨by rw [cell_of_row _ _ _ _ _ _ r5]; rfl, by rw [cell_of_row _ _ _ _ _ _ r5]; rfl, by rw [cell_of_row _ _ _ _ _ _ r5]; rfl⟩
    · intro j hj
      have hj' : j = 0 ∨ j = 1 := by simp only [List.length_cons, List.length_nil] at hj; omega
      rcases hj' with rfl | rfl <;> (rw [cell_of_row _ _ _ _ _ _ r6]; rfl)
end Go.Proofs.YtchclaipbahiiaaGreat
end

section
namespace Go.Proofs.YtchclaipbahiiaaGreat
open Go Go.ChangeShapes Go.WideShapes Go.ChangeAt Go.RowKit Go.Proofs
set_option linter.unusedVariables false
theorem ownT : ownKnob Tryz.prog.godebug = none := by kernel_rfl
theorem laidOutT : laidOutB Tryz.prog = true := by kernel_rfl
theorem tc_int : Tryz.prog.cellsOf 3 = 1 := by kernel_rfl
theorem add_plainT (b off i : Nat) : (⟨b, off, none⟩ : Addr).add i = ⟨b, off + i, none⟩ := by unfold Addr.add; split <;> simp_all
section
variable {H : Type} {enc : TypeId × Value → H} {W : World}
theorem rd_ints {fuel : Nat} {cs : List Value} {x : DataW H × List MemPlace} (h : DataW.trod enc Tryz.prog W 0 (fun _ => true) true fuel 23 cs = some x) :
    ∃ p cap xs, cs = [.slice p (List.length xs) cap] ∧ RdI W p xs ∧ xs.length ≤ maxLen := by
  rcases open_ints Tryz.underlying23 Tryz.underlying3 tc_int h with ⟨hcs, _⟩ | ⟨a, l, c, zs, hcs, _, hl, hm, hz, _, hcell, _⟩
  · exact ⟨none, 0, [], hcs, .inl rfl, by simp⟩
  · have hzl : zs.length = c := by simpa using hz
    have hxl : (zs.take l).length = l := by rw [List.length_take]; omega
    refine ⟨some a, c, zs.take l, by rw [hxl]; exact hcs, ?_, by omega⟩
    rcases Nat.eq_zero_or_pos l with h0 | h0
    · left; rw [h0]; rfl
    · obtain ⟨b, off, spot⟩ := a
      have hc := hcell 0 (by omega); have hspot : spot = none := by simpa [Addr.add] using World.cell?_spot hc
      subst hspot; refine .inr ⟨b, off, rfl, fun i hi => ?_⟩; rw [hxl] at hi; have := hcell i (by omega); rw [add_plainT] at this; rw [this]; unfold gi; rw [List.getD_eq_getElem?_getD, List.getD_eq_getElem?_getD, List.getElem?_take, if_pos hi]
theorem int_ofT {fuel : Nat} {v : Value} {x : DataW H × List MemPlace} (h : DataW.trod enc Tryz.prog W 0 (fun _ => true) true fuel 3 [v] = some x) : ∃ n : Int, v = .int .i64 n ∧ -9223372036854775808 ≤ n ∧ n ≤ 9223372036854775807 := by
  obtain ⟨n, hc, _, wn⟩ := DataW.trod_int Tryz.underlying3 h; exact ⟨n, by simpa using hc, bounds_i64 wn⟩
theorem trod_lt {t : TypeId} {v : Value} {d : DataW H} {ps : List MemPlace} (h : DataW.Trod enc Tryz.prog W 0 (fun _ => true) true t v d ps) : ∀ x ∈ ps, x.block < W.heap.size := by
  obtain ⟨m, hm⟩ := h; exact DataW.trod_lt m _ _ _ hm
end
end Go.Proofs.YtchclaipbahiiaaGreat
end

section
namespace Go.Proofs.YtchclaipbahiiaaGreat
open Go Go.RowKit Go.Proofs
set_option linter.unusedVariables false
set_option linter.unusedSimpArgs false
attribute [local go_sem] imax2 imin2
theorem h_pair (a b : Int) (w : World) (h1 : 4 ≤ a ∧ a ≤ 60) (h2 : 4 ≤ b ∧ b ≤ 60) : Calls Tryz.prog 95 #[.agg #[.int .i64 a, .int .i64 b]] w fun e w' => e = .returned (.bool true) ∧ Below w.heap.size w w' := by
  obtain ⟨w0, e0, HS0, k0, k1, b0⟩ := box2 w (.int .i64 a) (.int .i64 b) 99; have HB := Lib.hid b0; have g1 : inB a 4 60 = true := inB_iff.2 h1; have g2 : inB b 4 60 = true := inB_iff.2 h2; clear b0 h1 h2
  go_enter Tryz.func95, Tryz.ntmps95
  go_wp2_with fail; refine (h_teeth _ _).mono ?_; rw [g1]; rintro e w' ⟨rfl, rfl⟩; go_wp2_with fail; refine (h_teeth _ _).mono ?_; rw [g2]; rintro e w' ⟨rfl, rfl⟩; go_wp2; go_ret; exact ⟨rfl, HB.out⟩
theorem t_isTrain (p : Option Addr) (c : Nat) (xs : List (Int × Int)) (w : World) (hx : RdS w p xs) (hl : 1 ≤ xs.length ∧ xs.length ≤ 3) (hok : xs.all pairB = true) :
    Calls Tryz.prog 99 #[.slice p xs.length c] w fun e w' => e = .returned (.bool true) ∧ Below w.heap.size w w' := by
  have hcf := cf_pair p c xs w hx (by omega); rw [hok] at hcf; have g1 : inB (xs.length : Int) 1 3 = true := inB_iff.2 ⟨by omega, by omega⟩; clear hx hl
  go_enter Tryz.func99, Tryz.ntmps99
  go_wp2_with fail; refine (t_in _ _ _ _).mono ?_; rw [g1]; rintro e w' ⟨rfl, rfl⟩; go_wp2_with fail; refine hcf.mono ?_; rintro e w1 ⟨rfl, b1⟩; have HB := Lib.hid b1; clear b1 hcf; go_wp2; go_ret; exact ⟨rfl, HB.out⟩
theorem h_spotNot (x : Int) (bP n : Nat) (q : Option Addr) (c : Nat) (w : World) (h : w.cell? ⟨bP, 0, none⟩ = some (.slice q n c)) : Calls Tryz.prog 97 #[.int .i64 x, .pointer (some ⟨bP, 0, none⟩)] w fun e w' => e = .returned (.bool (!inB x 1 n)) ∧ Below w.heap.size w w' := by
  go_enter Tryz.func97, Tryz.ntmps97
  go_wp2_with fail; refine (h_in _ _ _ _).mono ?_; rintro e w' ⟨rfl, rfl⟩; go_wp2; go_ret; exact ⟨rfl, Below.refl _ _⟩
set_option maxHeartbeats 400000 in
set_option maxRecDepth 100000 in
theorem h_ixSpot (p : Option Addr) (cap : Nat) (xs : List Int) (bP n : Nat) (q : Option Addr) (c : Nat) (w : World) (hx : RdI w p xs) (hl : xs.length ≤ 1000000) (kP : w.cell? ⟨bP, 0, none⟩ = some (.slice q n c)) :
    Calls Tryz.prog 89 #[.slice p xs.length cap, .func (.func 97) #[] #[.pointer (some ⟨bP, 0, none⟩)]] w (BadPost xs.length (fun j => (fun x => inB x 1 n) (gi xs j)) w) := by
  have HX := Lib.hid hx; have HKP := Lib.hid kP; clear hx kP
  go_enter Tryz.func89, Tryz.ntmps89
  go_wp2
  go_loopw [8] (fun i wr => ∃ k : Nat, k ≤ xs.length ∧ i = .int .i64 k ∧ Hid (∀ j, j < k → (fun x => inB x 1 n) (gi xs j) = true) ∧ Below w.heap.size w wr) (fun i _ => xs.length - (intOf i).toNat)
  case atStart => exact ⟨0, by omega, rfl, Lib.hid (by intro j hj; omega), Below.refl _ _⟩
  case round =>
    obtain ⟨k, hk, rfl, HH, hnx⟩ := hrel; have HN := Lib.hid hnx
    by_cases hlt : k < xs.length
    · obtain ⟨b, off, rfl, hc⟩ := (HX.out.below hnx).at hlt
      obtain e1 := hc k hlt; have hcl : Calls Tryz.prog 97 #[.int .i64 (gi xs k), .pointer (some ⟨bP, 0, none⟩)] wr fun e w' => e = .returned (.bool (!(fun x => inB x 1 n) (gi xs k))) ∧ Below wr.heap.size wr w' := h_spotNot (gi xs k) bP n q c wr ((hnx.cell (lt_of_cellq HKP.out)).trans HKP.out)
      clear hc hnx
      rcases hb : (fun x => inB x 1 n) (gi xs k) with _ | _
      · have HB := Lib.hid hb
        rw [hb] at hcl; clear hb; go_wp2_with fail; refine hcl.mono ?_; rintro e w4 ⟨rfl, b4⟩; have HN2 := Lib.hid (HN.out.trans (b4.mono HN.out.size)); clear hcl b4; go_wp2; go_ret; exact ⟨k, .inr ⟨by omega, k, hlt, HB.out⟩, rfl, HN2.out⟩
      · have HB := Lib.hid hb
        rw [hb] at hcl; clear hb; go_wp2_with fail; refine hcl.mono ?_; rintro e w4 ⟨rfl, b4⟩; have HN2 := Lib.hid (HN.out.trans (b4.mono HN.out.size)); clear hcl b4; go_wp2; go_roundw
        case rel =>
          refine ⟨k + 1, by omega, by go_num, Lib.hid fun j hj => ?_, HN2.out⟩
          rcases Nat.lt_or_ge j k with h | h
          · exact HH.out j h
          · obtain rfl : j = k := by omega
            exact HB.out
        case measure => simp [intOf]; omega
    · obtain rfl : k = xs.length := by omega
      go_wp2; go_ret; exact ⟨-1, .inl ⟨rfl, HH.out⟩, rfl, HN.out⟩
set_option maxRecDepth 100000 in
theorem h_cfSpot (p : Option Addr) (cap : Nat) (xs : List Int) (bP n : Nat) (q : Option Addr) (c : Nat) (w : World) (hx : RdI w p xs) (hl : xs.length ≤ 1000000) (kP : w.cell? ⟨bP, 0, none⟩ = some (.slice q n c)) :
    Calls Tryz.prog 42 #[.slice p xs.length cap, .func (.func 97) #[] #[.pointer (some ⟨bP, 0, none⟩)]] w fun e w' => e = .returned (.bool (!xs.all (fun x => inB x 1 n))) ∧ Below w.heap.size w w' := by
  have h := h_ixSpot p cap xs bP n q c w hx hl kP; clear hx kP
  go_enter Tryz.func42, Tryz.ntmps42
  go_wp2_with fail; refine h.mono ?_; rintro e w' ⟨r, hr, rfl, hb⟩; have HB := Lib.hid hb; clear h hb
  rcases hr with ⟨rfl, hh⟩ | ⟨h0, j, hj, hb⟩
  · have HG := Lib.hid (all_ok (f := (fun x => inB x 1 n)) (d := 0) (l := xs) hh)
    clear hh; go_wp2; go_ret; exact ⟨by rw [HG.out]; rfl, HB.out⟩
  · have HG := Lib.hid (all_bad (f := (fun x => inB x 1 n)) (d := 0) (l := xs) hj hb)
    clear hb; go_wp2; go_ret; exact ⟨by rw [HG.out]; simp, HB.out⟩
def LkOk (ls : List (Int × Int × Int)) : Prop := ls.length ≤ 5 ∧ ∀ i : Nat, i < ls.length → 0 ≤ (gk ls i).1 ∧ (gk ls i).1 ≤ i
def pathF (ls : List (Int × Int × Int)) : Nat → Nat → List Nat
  | 0, _ => []
  | _, 0 => []
  | d + 1, a + 1 => pathF ls d (gk ls a).1.toNat ++ [a]
theorem pathF_at (ls : List (Int × Int × Int)) (d : Nat) : pathF ls d 0 = [] := by cases d <;> rfl
theorem pathF_succ (ls : List (Int × Int × Int)) (d a : Nat) : pathF ls (d + 1) (a + 1) = pathF ls d (gk ls a).1.toNat ++ [a] := rfl
theorem pathF_in {ls : List (Int × Int × Int)} (h : LkOk ls) : ∀ (d a : Nat), a ≤ ls.length → ∀ x ∈ pathF ls d a, x < ls.length := by
  intro d
  induction d with
  | zero => intro a _ x hx; simp [pathF] at hx
  | succ d ih =>
    intro a ha x hx
    cases a with
    | zero => simp [pathF] at hx
    | succ a =>
      rw [pathF_succ, List.mem_append] at hx
      rcases hx with hx | hx
      · have := h.2 a (by omega)
        exact ih _ (by omega) x hx
      · simp only [List.mem_singleton] at hx; omega
theorem pathF_len {ls : List (Int × Int × Int)} : ∀ (d a : Nat), (pathF ls d a).length ≤ d := by
  intro d
  induction d with
  | zero => intro a; simp [pathF]
  | succ d ih =>
    intro a
    cases a with
    | zero => simp [pathF]
    | succ a => rw [pathF_succ, List.length_append]; have := ih (gk ls a).1.toNat; simp; omega
theorem h_path (p : Option Addr) (n c : Nat) (a : Int) (w : World) :
    Calls Tryz.prog 98 #[.slice p n c, .int .i64 a] w fun e w' => e = .returned (.func (.func 135) #[] #[.pointer (some ⟨w.heap.size, 0, none⟩), .pointer (some ⟨w.heap.size + 1, 0, none⟩)]) ∧
      (w.alloc (.cells #[.slice p n c] 45)).alloc (.cells #[.int .i64 a] 3) = w' := by
  go_enter Tryz.func98, Tryz.ntmps98
  go_wp2; go_ret; exact ⟨rfl, rfl⟩
end Go.Proofs.YtchclaipbahiiaaGreat
end

section
namespace Go.Proofs.YtchclaipbahiiaaGreat
open Go Go.RowKit Go.Proofs
set_option linter.unusedVariables false
theorem bx6 (w : World) (a0 a1 a2 a3 a4 a5 : Value) (t : TypeId) : ∃ w0, w.alloc (.cells #[a0, a1, a2, a3, a4, a5] t) = w0 ∧ Hid (w0.heap.size = w.heap.size + 1) ∧ w0.heap[w.heap.size]? = some (.cells #[a0, a1, a2, a3, a4, a5] t (0, 0)) ∧ Below w.heap.size w w0 :=
  ⟨_, rfl, Lib.hid (by simp), alloc_new _ _, below_alloc1 _ _⟩
theorem cells6 {w : World} {B : Nat} {t : TypeId} {a0 a1 a2 a3 a4 a5 : Value} (h : w.heap[B]? = some (.cells #[a0, a1, a2, a3, a4, a5] t)) : w.cell? ⟨B, 0, none⟩ = some a0 ∧ w.cell? ⟨B, 1, none⟩ = some a1 ∧ w.cell? ⟨B, 2, none⟩ = some a2 ∧ w.cell? ⟨B, 3, none⟩ = some a3 ∧ w.cell? ⟨B, 4, none⟩ = some a4 ∧ w.cell? ⟨B, 5, none⟩ = some a5 := by
  refine ⟨?_, ?_, ?_, ?_, ?_, ?_⟩ <;> (rw [cell_of_row _ _ _ _ _ _ h]; rfl)
theorem put6_0 (w : World) (B : Nat) (t : TypeId) (a0 a1 a2 a3 a4 a5 x : Value) (h : w.heap[B]? = some (.cells #[a0, a1, a2, a3, a4, a5] t)) : ∃ w1, w.setCell ⟨B, 0, none⟩ x = w1 ∧ w.cell? ⟨B, 0, none⟩ = some a0 ∧ w.frozen? ⟨B, 0, none⟩ = false ∧
    w1.heap[B]? = some (.cells #[x, a1, a2, a3, a4, a5] t) ∧ (∀ k, k ≠ B → w1.heap[k]? = w.heap[k]?) ∧ Hid (w1.heap.size = w.heap.size) ∧ ∀ W n0, n0 ≤ B → Below n0 W w → Below n0 W w1 :=
  ⟨_, rfl, by rw [cell_of_row _ _ _ _ _ _ h]; rfl, frozen_of_row _ _ _ _ _ h, by rw [heap_setCell_same w B 0 _ t x h]; rfl, fun k hk => Below.heap_setCell _ _ _ k hk, Lib.hid (by simp), fun W n0 hn hb => hb.setCell hn _⟩
theorem put6_1 (w : World) (B : Nat) (t : TypeId) (a0 a1 a2 a3 a4 a5 x : Value) (h : w.heap[B]? = some (.cells #[a0, a1, a2, a3, a4, a5] t)) : ∃ w1, w.setCell ⟨B, 1, none⟩ x = w1 ∧ w.cell? ⟨B, 1, none⟩ = some a1 ∧ w.frozen? ⟨B, 1, none⟩ = false ∧
    w1.heap[B]? = some (.cells #[a0, x, a2, a3, a4, a5] t) ∧ (∀ k, k ≠ B → w1.heap[k]? = w.heap[k]?) ∧ Hid (w1.heap.size = w.heap.size) ∧ ∀ W n0, n0 ≤ B → Below n0 W w → Below n0 W w1 :=
  ⟨_, rfl, by rw [cell_of_row _ _ _ _ _ _ h]; rfl, frozen_of_row _ _ _ _ _ h, by rw [heap_setCell_same w B 1 _ t x h]; rfl, fun k hk => Below.heap_setCell _ _ _ k hk, Lib.hid (by simp), fun W n0 hn hb => hb.setCell hn _⟩
theorem put6_2 (w : World) (B : Nat) (t : TypeId) (a0 a1 a2 a3 a4 a5 x : Value) (h : w.heap[B]? = some (.cells #[a0, a1, a2, a3, a4, a5] t)) : ∃ w1, w.setCell ⟨B, 2, none⟩ x = w1 ∧ w.cell? ⟨B, 2, none⟩ = some a2 ∧ w.frozen? ⟨B, 2, none⟩ = false ∧
    w1.heap[B]? = some (.cells #[a0, a1, x, a3, a4, a5] t) ∧ (∀ k, k ≠ B → w1.heap[k]? = w.heap[k]?) ∧ Hid (w1.heap.size = w.heap.size) ∧ ∀ W n0, n0 ≤ B → Below n0 W w → Below n0 W w1 :=
  ⟨_, rfl, by rw [cell_of_row _ _ _ _ _ _ h]; rfl, frozen_of_row _ _ _ _ _ h, by rw [heap_setCell_same w B 2 _ t x h]; rfl, fun k hk => Below.heap_setCell _ _ _ k hk, Lib.hid (by simp), fun W n0 hn hb => hb.setCell hn _⟩
theorem put6_3 (w : World) (B : Nat) (t : TypeId) (a0 a1 a2 a3 a4 a5 x : Value) (h : w.heap[B]? = some (.cells #[a0, a1, a2, a3, a4, a5] t)) : ∃ w1, w.setCell ⟨B, 3, none⟩ x = w1 ∧ w.cell? ⟨B, 3, none⟩ = some a3 ∧ w.frozen? ⟨B, 3, none⟩ = false ∧
    w1.heap[B]? = some (.cells #[a0, a1, a2, x, a4, a5] t) ∧ (∀ k, k ≠ B → w1.heap[k]? = w.heap[k]?) ∧ Hid (w1.heap.size = w.heap.size) ∧ ∀ W n0, n0 ≤ B → Below n0 W w → Below n0 W w1 :=
  ⟨_, rfl, by rw [cell_of_row _ _ _ _ _ _ h]; rfl, frozen_of_row _ _ _ _ _ h, by rw [heap_setCell_same w B 3 _ t x h]; rfl, fun k hk => Below.heap_setCell _ _ _ k hk, Lib.hid (by simp), fun W n0 hn hb => hb.setCell hn _⟩
theorem put6_4 (w : World) (B : Nat) (t : TypeId) (a0 a1 a2 a3 a4 a5 x : Value) (h : w.heap[B]? = some (.cells #[a0, a1, a2, a3, a4, a5] t)) : ∃ w1, w.setCell ⟨B, 4, none⟩ x = w1 ∧ w.cell? ⟨B, 4, none⟩ = some a4 ∧ w.frozen? ⟨B, 4, none⟩ = false ∧
    w1.heap[B]? = some (.cells #[a0, a1, a2, a3, x, a5] t) ∧ (∀ k, k ≠ B → w1.heap[k]? = w.heap[k]?) ∧ Hid (w1.heap.size = w.heap.size) ∧ ∀ W n0, n0 ≤ B → Below n0 W w → Below n0 W w1 :=
  ⟨_, rfl, by rw [cell_of_row _ _ _ _ _ _ h]; rfl, frozen_of_row _ _ _ _ _ h, by rw [heap_setCell_same w B 4 _ t x h]; rfl, fun k hk => Below.heap_setCell _ _ _ k hk, Lib.hid (by simp), fun W n0 hn hb => hb.setCell hn _⟩
theorem put6_5 (w : World) (B : Nat) (t : TypeId) (a0 a1 a2 a3 a4 a5 x : Value) (h : w.heap[B]? = some (.cells #[a0, a1, a2, a3, a4, a5] t)) : ∃ w1, w.setCell ⟨B, 5, none⟩ x = w1 ∧ w.cell? ⟨B, 5, none⟩ = some a5 ∧ w.frozen? ⟨B, 5, none⟩ = false ∧
    w1.heap[B]? = some (.cells #[a0, a1, a2, a3, a4, x] t) ∧ (∀ k, k ≠ B → w1.heap[k]? = w.heap[k]?) ∧ Hid (w1.heap.size = w.heap.size) ∧ ∀ W n0, n0 ≤ B → Below n0 W w → Below n0 W w1 :=
  ⟨_, rfl, by rw [cell_of_row _ _ _ _ _ _ h]; rfl, frozen_of_row _ _ _ _ _ h, by rw [heap_setCell_same w B 5 _ t x h]; rfl, fun k hk => Below.heap_setCell _ _ _ k hk, Lib.hid (by simp), fun W n0 hn hb => hb.setCell hn _⟩
theorem set6 (w : World) (B : Nat) (t : TypeId) (a0 a1 a2 a3 a4 a5 x0 x1 x2 x3 x4 x5 : Value) (h : w.heap[B]? = some (.cells #[a0, a1, a2, a3, a4, a5] t)) :
    ∃ w1 w2 w3 w4 w5 w6, w.setCell ⟨B, 0, none⟩ x0 = w1 ∧ w1.setCell ⟨B, 1, none⟩ x1 = w2 ∧ w2.setCell ⟨B, 2, none⟩ x2 = w3 ∧ w3.setCell ⟨B, 3, none⟩ x3 = w4 ∧ w4.setCell ⟨B, 4, none⟩ x4 = w5 ∧ w5.setCell ⟨B, 5, none⟩ x5 = w6 ∧
      (w.cell? ⟨B, 0, none⟩ = some a0 ∧ w.frozen? ⟨B, 0, none⟩ = false) ∧ (w1.cell? ⟨B, 1, none⟩ = some a1 ∧ w1.frozen? ⟨B, 1, none⟩ = false) ∧ (w2.cell? ⟨B, 2, none⟩ = some a2 ∧ w2.frozen? ⟨B, 2, none⟩ = false) ∧ (w3.cell? ⟨B, 3, none⟩ = some a3 ∧ w3.frozen? ⟨B, 3, none⟩ = false) ∧ (w4.cell? ⟨B, 4, none⟩ = some a4 ∧ w4.frozen? ⟨B, 4, none⟩ = false) ∧ (w5.cell? ⟨B, 5, none⟩ = some a5 ∧ w5.frozen? ⟨B, 5, none⟩ = false) ∧
      w6.heap[B]? = some (.cells #[x0, x1, x2, x3, x4, x5] t) ∧ (∀ k, k ≠ B → w6.heap[k]? = w.heap[k]?) ∧ Hid (w6.heap.size = w.heap.size) ∧ ∀ W n0, n0 ≤ B → Below n0 W w → Below n0 W w6 := by
  obtain ⟨w1, s0, c0, f0, h0, k0, z0, b0⟩ := put6_0 w B t a0 a1 a2 a3 a4 a5 x0 h; obtain ⟨w2, s1, c1, f1, h1, k1, z1, b1⟩ := put6_1 w1 B t x0 a1 a2 a3 a4 a5 x1 h0; obtain ⟨w3, s2, c2, f2, h2, k2, z2, b2⟩ := put6_2 w2 B t x0 x1 a2 a3 a4 a5 x2 h1; obtain ⟨w4, s3, c3, f3, h3, k3, z3, b3⟩ := put6_3 w3 B t x0 x1 x2 a3 a4 a5 x3 h2; obtain ⟨w5, s4, c4, f4, h4, k4, z4, b4⟩ := put6_4 w4 B t x0 x1 x2 x3 a4 a5 x4 h3; obtain ⟨w6, s5, c5, f5, h5, k5, z5, b5⟩ := put6_5 w5 B t x0 x1 x2 x3 x4 a5 x5 h4; exact ⟨w1, w2, w3, w4, w5, w6, s0, s1, s2, s3, s4, s5, ⟨c0, f0⟩, ⟨c1, f1⟩, ⟨c2, f2⟩, ⟨c3, f3⟩, ⟨c4, f4⟩, ⟨c5, f5⟩, h5, fun k hk => (k5 k hk) |>.trans (k4 k hk) |>.trans (k3 k hk) |>.trans (k2 k hk) |>.trans (k1 k hk) |>.trans (k0 k hk), Lib.hid (by rw [z5.out, z4.out, z3.out, z2.out, z1.out, z0.out]), fun W n0 hn hb => b5 W n0 hn (b4 W n0 hn (b3 W n0 hn (b2 W n0 hn (b1 W n0 hn (b0 W n0 hn (hb))))))⟩
theorem bx8 (w : World) (a0 a1 a2 a3 a4 a5 a6 a7 : Value) (t : TypeId) : ∃ w0, w.alloc (.cells #[a0, a1, a2, a3, a4, a5, a6, a7] t) = w0 ∧ Hid (w0.heap.size = w.heap.size + 1) ∧ w0.heap[w.heap.size]? = some (.cells #[a0, a1, a2, a3, a4, a5, a6, a7] t (0, 0)) ∧ Below w.heap.size w w0 :=
  ⟨_, rfl, Lib.hid (by simp), alloc_new _ _, below_alloc1 _ _⟩
theorem cells8 {w : World} {B : Nat} {t : TypeId} {a0 a1 a2 a3 a4 a5 a6 a7 : Value} (h : w.heap[B]? = some (.cells #[a0, a1, a2, a3, a4, a5, a6, a7] t)) : w.cell? ⟨B, 0, none⟩ = some a0 ∧ w.cell? ⟨B, 1, none⟩ = some a1 ∧ w.cell? ⟨B, 2, none⟩ = some a2 ∧ w.cell? ⟨B, 3, none⟩ = some a3 ∧ w.cell? ⟨B, 4, none⟩ = some a4 ∧ w.cell? ⟨B, 5, none⟩ = some a5 ∧ w.cell? ⟨B, 6, none⟩ = some a6 ∧ w.cell? ⟨B, 7, none⟩ = some a7 := by
  refine ⟨?_, ?_, ?_, ?_, ?_, ?_, ?_, ?_⟩ <;> (rw [cell_of_row _ _ _ _ _ _ h]; rfl)
theorem put8_0 (w : World) (B : Nat) (t : TypeId) (a0 a1 a2 a3 a4 a5 a6 a7 x : Value) (h : w.heap[B]? = some (.cells #[a0, a1, a2, a3, a4, a5, a6, a7] t)) : ∃ w1, w.setCell ⟨B, 0, none⟩ x = w1 ∧ w.cell? ⟨B, 0, none⟩ = some a0 ∧ w.frozen? ⟨B, 0, none⟩ = false ∧
    w1.heap[B]? = some (.cells #[x, a1, a2, a3, a4, a5, a6, a7] t) ∧ (∀ k, k ≠ B → w1.heap[k]? = w.heap[k]?) ∧ Hid (w1.heap.size = w.heap.size) ∧ ∀ W n0, n0 ≤ B → Below n0 W w → Below n0 W w1 :=
  ⟨_, rfl, by rw [cell_of_row _ _ _ _ _ _ h]; rfl, frozen_of_row _ _ _ _ _ h, by rw [heap_setCell_same w B 0 _ t x h]; rfl, fun k hk => Below.heap_setCell _ _ _ k hk, Lib.hid (by simp), fun W n0 hn hb => hb.setCell hn _⟩
theorem put8_1 (w : World) (B : Nat) (t : TypeId) (a0 a1 a2 a3 a4 a5 a6 a7 x : Value) (h : w.heap[B]? = some (.cells #[a0, a1, a2, a3, a4, a5, a6, a7] t)) : ∃ w1, w.setCell ⟨B, 1, none⟩ x = w1 ∧ w.cell? ⟨B, 1, none⟩ = some a1 ∧ w.frozen? ⟨B, 1, none⟩ = false ∧
    w1.heap[B]? = some (.cells #[a0, x, a2, a3, a4, a5, a6, a7] t) ∧ (∀ k, k ≠ B → w1.heap[k]? = w.heap[k]?) ∧ Hid (w1.heap.size = w.heap.size) ∧ ∀ W n0, n0 ≤ B → Below n0 W w → Below n0 W w1 :=
  ⟨_, rfl, by rw [cell_of_row _ _ _ _ _ _ h]; rfl, frozen_of_row _ _ _ _ _ h, by rw [heap_setCell_same w B 1 _ t x h]; rfl, fun k hk => Below.heap_setCell _ _ _ k hk, Lib.hid (by simp), fun W n0 hn hb => hb.setCell hn _⟩
theorem put8_2 (w : World) (B : Nat) (t : TypeId) (a0 a1 a2 a3 a4 a5 a6 a7 x : Value) (h : w.heap[B]? = some (.cells #[a0, a1, a2, a3, a4, a5, a6, a7] t)) : ∃ w1, w.setCell ⟨B, 2, none⟩ x = w1 ∧ w.cell? ⟨B, 2, none⟩ = some a2 ∧ w.frozen? ⟨B, 2, none⟩ = false ∧
    w1.heap[B]? = some (.cells #[a0, a1, x, a3, a4, a5, a6, a7] t) ∧ (∀ k, k ≠ B → w1.heap[k]? = w.heap[k]?) ∧ Hid (w1.heap.size = w.heap.size) ∧ ∀ W n0, n0 ≤ B → Below n0 W w → Below n0 W w1 :=
  ⟨_, rfl, by rw [cell_of_row _ _ _ _ _ _ h]; rfl, frozen_of_row _ _ _ _ _ h, by rw [heap_setCell_same w B 2 _ t x h]; rfl, fun k hk => Below.heap_setCell _ _ _ k hk, Lib.hid (by simp), fun W n0 hn hb => hb.setCell hn _⟩
theorem put8_3 (w : World) (B : Nat) (t : TypeId) (a0 a1 a2 a3 a4 a5 a6 a7 x : Value) (h : w.heap[B]? = some (.cells #[a0, a1, a2, a3, a4, a5, a6, a7] t)) : ∃ w1, w.setCell ⟨B, 3, none⟩ x = w1 ∧ w.cell? ⟨B, 3, none⟩ = some a3 ∧ w.frozen? ⟨B, 3, none⟩ = false ∧
    w1.heap[B]? = some (.cells #[a0, a1, a2, x, a4, a5, a6, a7] t) ∧ (∀ k, k ≠ B → w1.heap[k]? = w.heap[k]?) ∧ Hid (w1.heap.size = w.heap.size) ∧ ∀ W n0, n0 ≤ B → Below n0 W w → Below n0 W w1 :=
  ⟨_, rfl, by rw [cell_of_row _ _ _ _ _ _ h]; rfl, frozen_of_row _ _ _ _ _ h, by rw [heap_setCell_same w B 3 _ t x h]; rfl, fun k hk => Below.heap_setCell _ _ _ k hk, Lib.hid (by simp), fun W n0 hn hb => hb.setCell hn _⟩
theorem put8_4 (w : World) (B : Nat) (t : TypeId) (a0 a1 a2 a3 a4 a5 a6 a7 x : Value) (h : w.heap[B]? = some (.cells #[a0, a1, a2, a3, a4, a5, a6, a7] t)) : ∃ w1, w.setCell ⟨B, 4, none⟩ x = w1 ∧ w.cell? ⟨B, 4, none⟩ = some a4 ∧ w.frozen? ⟨B, 4, none⟩ = false ∧
    w1.heap[B]? = some (.cells #[a0, a1, a2, a3, x, a5, a6, a7] t) ∧ (∀ k, k ≠ B → w1.heap[k]? = w.heap[k]?) ∧ Hid (w1.heap.size = w.heap.size) ∧ ∀ W n0, n0 ≤ B → Below n0 W w → Below n0 W w1 :=
  ⟨_, rfl, by rw [cell_of_row _ _ _ _ _ _ h]; rfl, frozen_of_row _ _ _ _ _ h, by rw [heap_setCell_same w B 4 _ t x h]; rfl, fun k hk => Below.heap_setCell _ _ _ k hk, Lib.hid (by simp), fun W n0 hn hb => hb.setCell hn _⟩
theorem put8_5 (w : World) (B : Nat) (t : TypeId) (a0 a1 a2 a3 a4 a5 a6 a7 x : Value) (h : w.heap[B]? = some (.cells #[a0, a1, a2, a3, a4, a5, a6, a7] t)) : ∃ w1, w.setCell ⟨B, 5, none⟩ x = w1 ∧ w.cell? ⟨B, 5, none⟩ = some a5 ∧ w.frozen? ⟨B, 5, none⟩ = false ∧
    w1.heap[B]? = some (.cells #[a0, a1, a2, a3, a4, x, a6, a7] t) ∧ (∀ k, k ≠ B → w1.heap[k]? = w.heap[k]?) ∧ Hid (w1.heap.size = w.heap.size) ∧ ∀ W n0, n0 ≤ B → Below n0 W w → Below n0 W w1 :=
  ⟨_, rfl, by rw [cell_of_row _ _ _ _ _ _ h]; rfl, frozen_of_row _ _ _ _ _ h, by rw [heap_setCell_same w B 5 _ t x h]; rfl, fun k hk => Below.heap_setCell _ _ _ k hk, Lib.hid (by simp), fun W n0 hn hb => hb.setCell hn _⟩
theorem put8_6 (w : World) (B : Nat) (t : TypeId) (a0 a1 a2 a3 a4 a5 a6 a7 x : Value) (h : w.heap[B]? = some (.cells #[a0, a1, a2, a3, a4, a5, a6, a7] t)) : ∃ w1, w.setCell ⟨B, 6, none⟩ x = w1 ∧ w.cell? ⟨B, 6, none⟩ = some a6 ∧ w.frozen? ⟨B, 6, none⟩ = false ∧
    w1.heap[B]? = some (.cells #[a0, a1, a2, a3, a4, a5, x, a7] t) ∧ (∀ k, k ≠ B → w1.heap[k]? = w.heap[k]?) ∧ Hid (w1.heap.size = w.heap.size) ∧ ∀ W n0, n0 ≤ B → Below n0 W w → Below n0 W w1 :=
  ⟨_, rfl, by rw [cell_of_row _ _ _ _ _ _ h]; rfl, frozen_of_row _ _ _ _ _ h, by rw [heap_setCell_same w B 6 _ t x h]; rfl, fun k hk => Below.heap_setCell _ _ _ k hk, Lib.hid (by simp), fun W n0 hn hb => hb.setCell hn _⟩
theorem put8_7 (w : World) (B : Nat) (t : TypeId) (a0 a1 a2 a3 a4 a5 a6 a7 x : Value) (h : w.heap[B]? = some (.cells #[a0, a1, a2, a3, a4, a5, a6, a7] t)) : ∃ w1, w.setCell ⟨B, 7, none⟩ x = w1 ∧ w.cell? ⟨B, 7, none⟩ = some a7 ∧ w.frozen? ⟨B, 7, none⟩ = false ∧
    w1.heap[B]? = some (.cells #[a0, a1, a2, a3, a4, a5, a6, x] t) ∧ (∀ k, k ≠ B → w1.heap[k]? = w.heap[k]?) ∧ Hid (w1.heap.size = w.heap.size) ∧ ∀ W n0, n0 ≤ B → Below n0 W w → Below n0 W w1 :=
  ⟨_, rfl, by rw [cell_of_row _ _ _ _ _ _ h]; rfl, frozen_of_row _ _ _ _ _ h, by rw [heap_setCell_same w B 7 _ t x h]; rfl, fun k hk => Below.heap_setCell _ _ _ k hk, Lib.hid (by simp), fun W n0 hn hb => hb.setCell hn _⟩
theorem set8 (w : World) (B : Nat) (t : TypeId) (a0 a1 a2 a3 a4 a5 a6 a7 x0 x1 x2 x3 x4 x5 x6 x7 : Value) (h : w.heap[B]? = some (.cells #[a0, a1, a2, a3, a4, a5, a6, a7] t)) :
    ∃ w1 w2 w3 w4 w5 w6 w7 w8, w.setCell ⟨B, 0, none⟩ x0 = w1 ∧ w1.setCell ⟨B, 1, none⟩ x1 = w2 ∧ w2.setCell ⟨B, 2, none⟩ x2 = w3 ∧ w3.setCell ⟨B, 3, none⟩ x3 = w4 ∧ w4.setCell ⟨B, 4, none⟩ x4 = w5 ∧ w5.setCell ⟨B, 5, none⟩ x5 = w6 ∧ w6.setCell ⟨B, 6, none⟩ x6 = w7 ∧ w7.setCell ⟨B, 7, none⟩ x7 = w8 ∧
      (w.cell? ⟨B, 0, none⟩ = some a0 ∧ w.frozen? ⟨B, 0, none⟩ = false) ∧ (w1.cell? ⟨B, 1, none⟩ = some a1 ∧ w1.frozen? ⟨B, 1, none⟩ = false) ∧ (w2.cell? ⟨B, 2, none⟩ = some a2 ∧ w2.frozen? ⟨B, 2, none⟩ = false) ∧ (w3.cell? ⟨B, 3, none⟩ = some a3 ∧ w3.frozen? ⟨B, 3, none⟩ = false) ∧ (w4.cell? ⟨B, 4, none⟩ = some a4 ∧ w4.frozen? ⟨B, 4, none⟩ = false) ∧ (w5.cell? ⟨B, 5, none⟩ = some a5 ∧ w5.frozen? ⟨B, 5, none⟩ = false) ∧ (w6.cell? ⟨B, 6, none⟩ = some a6 ∧ w6.frozen? ⟨B, 6, none⟩ = false) ∧ (w7.cell? ⟨B, 7, none⟩ = some a7 ∧ w7.frozen? ⟨B, 7, none⟩ = false) ∧
      w8.heap[B]? = some (.cells #[x0, x1, x2, x3, x4, x5, x6, x7] t) ∧ (∀ k, k ≠ B → w8.heap[k]? = w.heap[k]?) ∧ Hid (w8.heap.size = w.heap.size) ∧ ∀ W n0, n0 ≤ B → Below n0 W w → Below n0 W w8 := by
  obtain ⟨w1, s0, c0, f0, h0, k0, z0, b0⟩ := put8_0 w B t a0 a1 a2 a3 a4 a5 a6 a7 x0 h; obtain ⟨w2, s1, c1, f1, h1, k1, z1, b1⟩ := put8_1 w1 B t x0 a1 a2 a3 a4 a5 a6 a7 x1 h0; obtain ⟨w3, s2, c2, f2, h2, k2, z2, b2⟩ := put8_2 w2 B t x0 x1 a2 a3 a4 a5 a6 a7 x2 h1; obtain ⟨w4, s3, c3, f3, h3, k3, z3, b3⟩ := put8_3 w3 B t x0 x1 x2 a3 a4 a5 a6 a7 x3 h2; obtain ⟨w5, s4, c4, f4, h4, k4, z4, b4⟩ := put8_4 w4 B t x0 x1 x2 x3 a4 a5 a6 a7 x4 h3; obtain ⟨w6, s5, c5, f5, h5, k5, z5, b5⟩ := put8_5 w5 B t x0 x1 x2 x3 x4 a5 a6 a7 x5 h4; obtain ⟨w7, s6, c6, f6, h6, k6, z6, b6⟩ := put8_6 w6 B t x0 x1 x2 x3 x4 x5 a6 a7 x6 h5; obtain ⟨w8, s7, c7, f7, h7, k7, z7, b7⟩ := put8_7 w7 B t x0 x1 x2 x3 x4 x5 x6 a7 x7 h6; exact ⟨w1, w2, w3, w4, w5, w6, w7, w8, s0, s1, s2, s3, s4, s5, s6, s7, ⟨c0, f0⟩, ⟨c1, f1⟩, ⟨c2, f2⟩, ⟨c3, f3⟩, ⟨c4, f4⟩, ⟨c5, f5⟩, ⟨c6, f6⟩, ⟨c7, f7⟩, h7, fun k hk => (k7 k hk) |>.trans (k6 k hk) |>.trans (k5 k hk) |>.trans (k4 k hk) |>.trans (k3 k hk) |>.trans (k2 k hk) |>.trans (k1 k hk) |>.trans (k0 k hk), Lib.hid (by rw [z7.out, z6.out, z5.out, z4.out, z3.out, z2.out, z1.out, z0.out]), fun W n0 hn hb => b7 W n0 hn (b6 W n0 hn (b5 W n0 hn (b4 W n0 hn (b3 W n0 hn (b2 W n0 hn (b1 W n0 hn (b0 W n0 hn (hb))))))))⟩
end Go.Proofs.YtchclaipbahiiaaGreat
end

section
namespace Go.Proofs.YtchclaipbahiiaaGreat
open Go Go.RowKit Go.Proofs
set_option linter.unusedVariables false
set_option linter.unusedSimpArgs false
attribute [local go_sem] imax2 imin2
def tthTo (lo : Int) (nv : List Int) (k : Nat) : List Int := ((List.range k).map fun (i : Nat) => lo + (i : Int)).filter fun n => !nv.contains n
theorem tthTo_succ (lo : Int) (nv : List Int) (k : Nat) : tthTo lo nv (k + 1) = if nv.contains (lo + (k : Int)) = true then tthTo lo nv k else tthTo lo nv k ++ [lo + (k : Int)] := by
  unfold tthTo; rw [List.range_succ, List.map_append, List.filter_append]
  by_cases h : nv.contains (lo + (k : Int)) = true
  · rw [if_pos h]; simp at h ⊢; exact h
  · rw [if_neg h]; simp at h ⊢; exact h
theorem tthTo_len (lo : Int) (nv : List Int) (k : Nat) : (tthTo lo nv k).length ≤ k := by
  unfold tthTo; exact Nat.le_trans (List.length_filter_le _ _) (by simp)
theorem tthF_to (lo hi : Int) (nv : List Int) : tthF lo hi nv = tthTo lo nv (hi - lo + 1).toNat := rfl
theorem own_notE2 {w : World} {b : Nat} {cur : Array Value} {ty e : TypeId} {fr : Nat × Nat} {base size n : Nat} {v : Value} {xs : List Value} (hb : w.heap[b]? = some (.cells cur ty fr)) (hlt : b < base) (ho : w.ownsRow base e size v n xs) : some b ≠ v.ownBlock := fun h => by
  have := (ho.lt b h.symm).1; omega
def RuledPost (lo hi pr se : Int) (p : Option Addr) (cap : Nat) (nv : List Int) (w : World) (e : Ending) (w' : World) : Prop :=
  ∃ q c, e = .returned (.agg #[.int .i64 lo, .int .i64 hi, .int .i64 pr, .int .i64 se, .slice p nv.length cap, .slice q (tthF lo hi nv).length c]) ∧ RdI w' q (tthF lo hi nv) ∧ Below w.heap.size w w'
set_option maxRecDepth 100000 in
set_option maxHeartbeats 3200000 in
theorem t_ruled (lo hi pr se : Int) (p : Option Addr) (cap : Nat) (nv : List Int) (w : World) (hx : RdI w p nv) (h : RuleOk lo hi pr se nv) :
    Calls Tryz.prog 36 #[.agg #[.int .i64 lo, .int .i64 hi, .int .i64 pr, .int .i64 se, .slice p nv.length cap]] w (RuledPost lo hi pr se p cap nv w) := by
  obtain ⟨i0, hi0, hy0, hy1, hy2⟩ := info_parts infI; obtain ⟨w0, e0, HS0, k0, k1, k2, k3, k4, b0⟩ := box5 w (.int .i64 lo) (.int .i64 hi) (.int .i64 pr) (.int .i64 se) (.slice p nv.length cap) 25; obtain ⟨w1, e1, HS1, kz, b1⟩ := bx6 w0 (.int .i64 0) (.int .i64 0) (.int .i64 0) (.int .i64 0) (.slice none 0 0) (.slice none 0 0) 89; obtain ⟨w2, e2, HS2, kr, b2⟩ := bx6 w1 (.int .i64 lo) (.int .i64 hi) (.int .i64 pr) (.int .i64 se) (.slice p nv.length cap) (.slice none 0 0) 89; obtain ⟨w3, s5, c5, f5, kr3, hk5, HZ5, hb5⟩ := put6_5 w2 w1.heap.size 89 _ _ _ _ _ _ (.slice none 0 0) kr; have b23 : Below w1.heap.size w1 w3 := hb5 w1 w1.heap.size (Nat.le_refl _) b2; have b13 := b1.trans (b23.mono b1.size); have HRD := Lib.hid (hx.below (b0.trans (b1.mono b0.size))); have HBw := Lib.hid (b0.trans (b1.mono b0.size)); have HB3 := Lib.hid b23; have HKZ := Lib.hid kz; have HKR := Lib.hid kr3; have HK0 := Lib.hid (show w1.cell? ⟨w.heap.size, 0, none⟩ = some (.int .i64 lo) from (b1.cell (lt_of_cellq k0)).trans k0)
  have HK1 := Lib.hid (show w1.cell? ⟨w.heap.size, 1, none⟩ = some (.int .i64 hi) from (b1.cell (lt_of_cellq k1)).trans k1); have HK4 := Lib.hid (show w1.cell? ⟨w.heap.size, 4, none⟩ = some (.slice p nv.length cap) from (b1.cell (lt_of_cellq k4)).trans k4); have k0 := (b1.cell (lt_of_cellq k0)).trans k0; have k1 := (b1.cell (lt_of_cellq k1)).trans k1; have k2 := (b1.cell (lt_of_cellq k2)).trans k2; have k3 := (b1.cell (lt_of_cellq k3)).trans k3; have k4 := (b1.cell (lt_of_cellq k4)).trans k4; have l0 := (b23.cell (lt_of_cellq HK0.out)).trans HK0.out; have HZ := Lib.hid (show w.heap.size < w1.heap.size ∧ w1.heap.size + 1 = w3.heap.size ∧ w0.heap.size < w1.heap.size ∧ w.heap.size ≤ w0.heap.size by have := HS0.out; have := HS1.out; have := HS2.out; have := HZ5.out; omega); obtain ⟨cnt, hcnt⟩ : ∃ cnt : Nat, hi - lo + 1 = cnt := ⟨(hi - lo + 1).toNat, by have := h.fle; omega⟩; have hcn : cnt ≤ 60 := by have := h.flo; have := h.fhi; omega
  have hlo := h.flo; have hnl : nv.length ≤ 6 := h.flen; have HTF := Lib.hid (show tthF lo hi nv = tthTo lo nv cnt by rw [tthF_to, hcnt]; rfl); have HCN := Lib.hid hcnt; clear hcnt h hx b0 b1 b2 b23 b13 kz kr kr3 hk5 hb5
  go_enter Tryz.func36, Tryz.ntmps36
  go_wp2; clear e0 e1 e2 HS0 HS1 HS2 k0 k1 k2 k3 k4 l0 s5 c5 f5
  go_loopw [4] (fun n wr => ∃ (k : Nat) (v : Value), k ≤ cnt ∧ n = .int .i64 (lo + (k : Int)) ∧ Hid (wr.heap[w1.heap.size]? = some (.cells #[.int .i64 lo, .int .i64 hi, .int .i64 pr, .int .i64 se, .slice p nv.length cap, v] 89 (0, 0))) ∧ Hid (wr.ownsRow w3.heap.size 3 1 v (tthTo lo nv k).length (inV (tthTo lo nv k))) ∧ Hid (w3.heap.size ≤ wr.heap.size) ∧ Hid (Below w1.heap.size w1 wr)) (fun n _ => cnt + 1 - (intOf n - lo).toNat)
  case atStart => exact ⟨0, .slice none 0 0, Nat.zero_le _, by simp, HKR, Lib.hid (World.ownsRow_nil _ _ _ _), Lib.hid (Nat.le_refl _), HB3⟩
  case round =>
    obtain ⟨k, v, hk, rfl, HX, HO, HSZ, HB⟩ := hrel; have l1 := (HB.out.cell (lt_of_cellq HK1.out)).trans HK1.out; have l4 := (HB.out.cell (lt_of_cellq HK4.out)).trans HK4.out; have hLk := tthTo_len lo nv k; have hcI := HCN.out
    by_cases hlt : k < cnt
    · have hle : lo + (k : Int) ≤ hi := by omega
      have hleI : decide (lo + (k : Int) ≤ hi) = true := decide_eq_true hle; have hct := t_contains p cap nv (lo + (k : Int)) wr (HRD.out.below HB.out) (by omega); have hwk : IntKind.i64.wrap (lo + (k : Int) + 1) = lo + (k : Int) + 1 := w64 _ (by omega) (by omega); have HSU := Lib.hid (tthTo_succ lo nv k)
      rcases hcb : nv.contains (lo + (k : Int)) with _ | _
      · rw [hcb] at hct HSU
        have HSU2 := Lib.hid (show tthTo lo nv (k + 1) = tthTo lo nv k ++ [lo + (k : Int)] by rw [HSU.out, if_neg (by decide)]); obtain ⟨L, hL⟩ : ∃ L, (tthTo lo nv k).length = L := ⟨_, rfl⟩; rw [hL] at HO hLk; have HL := Lib.hid hL; clear hcb hL HSU hcI; go_wp2_with fail; refine hct.mono ?_; clear hct; rintro e w' ⟨rfl, rfl⟩; obtain ⟨o0, o1, o2, o3, o4, o5⟩ := cells6 HX.out; go_wp2_with (at_builtin; refine wpList_append_own _ rfl _ _ 23 rfl w3.heap.size 3 i0 _ 1 8 Tryz.underlying23 hi0 hy0 hy1 hy2 rfl (by decide) _ _ _ rfl (HO.out.alloc _) ⟨wr.heap.size, 0, none⟩ 1 1 [.int .i64 (lo + (k : Int))] rfl rfl ?c1 ?c2 ?c3 ?c4 ?c5 ?_)
        case c1 => exact news_of _ _ _
        case c2 => intro u hu; simp at hu; subst hu; rfl
        case c3 => unfold maxLen; omega
        case c4 => omega
        case c5 => have := HSZ.out; simp; omega
        intro v' w5 hown' hgrow _; obtain ⟨g', cap', rfl⟩ := own_form hown'; have hx5 := (hgrow.block w1.heap.size (block_lt (alloc_old wr (.cells #[.int .i64 (lo + (k : Int))] 3) HX.out)) (own_notE2 (alloc_old wr (.cells #[.int .i64 (lo + (k : Int))] 3) HX.out) (by have := HZ.out; omega) (HO.out.alloc _))).trans (alloc_old wr (.cells #[.int .i64 (lo + (k : Int))] 3) HX.out); have hb5 := (HB.out.alloc HB.out.size (.cells #[.int .i64 (lo + (k : Int))] 3)).grown hgrow (by have := HB.out.size; simp; omega) (fun j hj => by have := (HO.out.lt j hj).1; have := HZ.out; omega); have hs5 := hgrow.size; obtain ⟨w6, s6, c6, f6, hx6, hxk, HZ6, hxb⟩ := put6_5 w5 w1.heap.size 89 _ _ _ _ _ _ (.slice (some ⟨g', 0, none⟩) (L + 1) cap') hx5; have HX6 := Lib.hid hx6; have HO6 := Lib.hid (own_same hown' (fun g'' hg'' => hxk g'' (by have := (hown'.lt g'' hg'').1; have := HZ.out; omega))); have HB6 := Lib.hid (hxb w1 w1.heap.size (Nat.le_refl _) hb5)
        have HSZ6 := Lib.hid (show w3.heap.size ≤ w6.heap.size by have := HZ6.out; have := HSZ.out; simp at hs5; omega); clear hx5 hb5 hs5 hx6 hxk hxb hown' hgrow o0 o1 o2 o3 o4 o5 l4; go_wp2; go_roundw
        case rel => exact ⟨k + 1, _, by omega, by simp; omega, HX6, Lib.hid (by rw [HSU2.out, List.length_append, HL.out, inV_append]; exact HO6.out), HSZ6, HB6⟩
        case measure => simp [intOf]; omega
      · rw [hcb] at hct HSU
        have HSU2 := Lib.hid (show tthTo lo nv (k + 1) = tthTo lo nv k by rw [HSU.out, if_pos rfl]); clear hcb HSU hcI; go_wp2_with fail; refine hct.mono ?_; clear hct; rintro e w' ⟨rfl, rfl⟩; go_wp2; go_roundw
        case rel => exact ⟨k + 1, v, by omega, by simp; omega, HX, Lib.hid (by rw [HSU2.out]; exact HO.out), HSZ, HB⟩
        case measure => simp [intOf]; omega
    · obtain rfl : k = cnt := by omega
      have hle : ¬ lo + (k : Int) ≤ hi := by omega
      have hleI : decide (lo + (k : Int) ≤ hi) = false := decide_eq_false hle; obtain ⟨q, c, rfl, hrd⟩ := rd_of_own HO.out; obtain ⟨o0, o1, o2, o3, o4, o5⟩ := cells6 HX.out; obtain ⟨y1, y2, y3, y4, y5, y6, s1, s2, s3, s4, s5, s6, ⟨c1, f1⟩, ⟨c2, f2⟩, ⟨c3, f3⟩, ⟨c4, f4⟩, ⟨c5, f5⟩, ⟨c6, f6⟩, hx6, hxk, HZ6, hxb⟩ := set6 wr w0.heap.size 89 _ _ _ _ _ _ (.int .i64 lo) (.int .i64 hi) (.int .i64 pr) (.int .i64 se) (.slice p nv.length cap) (.slice q (tthTo lo nv k).length c) ((HB.out.block _ (by have := HZ.out; omega)).trans HKZ.out); obtain ⟨r0, r1, r2, r3, r4, r5⟩ := cells6 hx6; have hO6 := own_same (w' := y6) HO.out (fun g'' hg'' => hxk g'' (by have := (HO.out.lt g'' hg'').1; have := HZ.out; omega)); obtain ⟨q', c', he, hrd6⟩ := rd_of_own hO6
      injection he with e1 e2 e3
      subst e1; have HRF := Lib.hid hrd6; have HBF := Lib.hid (hxb w w.heap.size (by have := HZ.out; omega) (HBw.out.trans (HB.out.mono (by have := HZ.out; omega)))); have HLN := Lib.hid (show (tthF lo hi nv).length = (tthTo lo nv k).length by rw [HTF.out]); clear hx6 hxk hxb hO6 hrd6 hrd e2 e3 hcI; go_wp2; refine bodyPost_ret (v := .agg #[.int .i64 lo, .int .i64 hi, .int .i64 pr, .int .i64 se, .slice p nv.length cap, .slice q (tthTo lo nv k).length c]) (by simp [results, Tryz.results36, go_sem, r0, r1, r2, r3, r4, r5]) rfl ?_; exact ⟨q, c, by rw [HLN.out], by rw [HTF.out]; exact HRF.out, HBF.out⟩
end Go.Proofs.YtchclaipbahiiaaGreat
end

section
namespace Go.Proofs
open Go.Shelf
def Tryz.lays212_ren : Go.Shelf.Ren := ⟨fun | 212 => 120 | 263 => 153 | 264 => 154 | n => n, fun | 46 => 189 | 51 => 214 | 146 => 215 | 53 => 217 | 148 => 218 | n => n, fun | n => n⟩
theorem Tryz.lays212 : Go.Proofs.Lays.n212 Tryz.prog Tryz.lays212_ren := {
  mixed := by kernel_rfl
  f212 := Tryz.func120.trans (congrArg some (by kernel_rfl))
  f263 := Tryz.func153.trans (congrArg some (by kernel_rfl))
  f264 := Tryz.func154.trans (congrArg some (by kernel_rfl))
  t46 := Tryz.underlying189
  a46 := Tryz.isAgg189
  z46 := Tryz.sizeOf189
  v46 := Tryz.zeroValue189
  t51 := Tryz.underlying214
  a51 := Tryz.isAgg214
  z51 := Tryz.sizeOf214
  v51 := Tryz.zeroValue214
  t53 := Tryz.underlying217
  a53 := Tryz.isAgg217
  z53 := Tryz.sizeOf217
  v53 := Tryz.zeroValue217
  t146 := Tryz.underlying215
  a146 := Tryz.isAgg215
  z146 := Tryz.sizeOf215
  v146 := Tryz.zeroValue215
  t148 := Tryz.underlying218
  a148 := Tryz.isAgg218
  z148 := Tryz.sizeOf218
  v148 := Tryz.zeroValue218 }
open Go.RowKit Go.Lib in
theorem Tryz.bits_Mul (x y : Nat) (hx : x < 18446744073709551616) (hy : y < 18446744073709551616) (w : World) :
    Calls Tryz.prog 120 #[.int .u64 x, .int .u64 y] w fun e w' => e = .returned (.tuple #[.int .u64 ((x * y / 18446744073709551616 : Nat) : Int), .int .u64 ((x * y % 18446744073709551616 : Nat) : Int)]) ∧ w' = w := Any.bits_Mul Tryz.lays212 x y hx hy w
end Go.Proofs
end

section
namespace Go.Proofs.YtchclaipbahiiaaGreat
open Go Go.RowKit Go.Proofs
set_option linter.unusedVariables false
section
variable {P : Program}
theorem run_copy_sz (w : World) (dT sT ty elem : TypeId) (sz g o dLen dCap : Nat) (a : Addr) (sLen sCap : Nat) (cur : Array Value) (t : TypeId) (cs : List Value)
    (hu : P.underlying dT = some (.slice elem)) (hs : (P.info? elem).map (·.size) = some sz)
    (hg : w.heap[g]? = some (.cells cur t (0, 0))) (hn : cs.length = Nat.min sLen dLen * sz)
    (hsrc : ∀ j v, cs[j]? = some v → w.cell? (a.add j) = some v) (hfit : o + cs.length ≤ cur.size) (h1 : ∀ v ∈ cs, v.oneCell' = true) :
    (Builtin.copy_ #[dT, sT] ty #[.slice (some ⟨g, o, none⟩) dLen dCap, .slice (some a) sLen sCap]).run P w =
      .ok (goInt (Nat.min sLen dLen)) (w.setRow g (cur.toList.take o ++ cs ++ cur.toList.drop (o + cs.length)).toArray) := by
  have hl := run_loadCells_list (P := P) w a cs hsrc; have hst := run_storeCells_at P g o t cs 0 cur w hg (by simpa using hfit) h1
  cases hq : P.info? elem with
  | none => simp [hq] at hs
  | some i =>
    have hi : i.size = sz := by simpa [hq] using hs
    simp [Builtin.copy_, run_underlying hu, Builtin.lenOf, Builtin.firstCells, sizeOf, typeInfo, hq, hi, ← hn, hl, hst]
theorem run_copy_ex (w : World) (dT sT ty elem : TypeId) (sz g o dLen dCap : Nat) (a : Addr) (sLen sCap N : Nat) (cur : List Value) (t : TypeId) (cs : List Value)
    (hu : P.underlying dT = some (.slice elem)) (hs : (P.info? elem).map (·.size) = some sz)
    (hg : w.heap[g]? = some (.cells cur.toArray t (0, 0))) (hN : Nat.min sLen dLen = N) (hn : cs.length = N * sz)
    (hsrc : ∀ j v, cs[j]? = some v → w.cell? (a.add j) = some v) (hfit : o + cs.length ≤ cur.length) (h1 : ∀ v ∈ cs, v.oneCell' = true) (B : Nat) (w0 : World) (hb : Below B w0 w) (hBg : B ≤ g) :
    ∃ w', (Builtin.copy_ #[dT, sT] ty #[.slice (some ⟨g, o, none⟩) dLen dCap, .slice (some a) sLen sCap]).run P w = .ok (.int .i64 (N : Int)) w' ∧
      w'.heap[g]? = some (.cells (splice cur o cs).toArray t (0, 0)) ∧ Below B w0 w' := by
  have h := run_copy_sz (P := P) w dT sT ty elem sz g o dLen dCap a sLen sCap cur.toArray t cs hu hs hg (by rw [hN]; exact hn) hsrc (by simpa using hfit) h1; rw [hN] at h; refine ⟨_, h, ?_, below_setRow hb hBg _⟩; rw [setRow_heap w g _ _ t _ hg]; simp [splice]
end
def repC (c : List Value) : Nat → List Value
  | 0 => []
  | k + 1 => c ++ repC c k
theorem repC_length (c : List Value) (k : Nat) : (repC c k).length = k * c.length := by
  induction k with
  | zero => simp [repC]
  | succ k ih => simp only [repC, List.length_append, ih]; rw [Nat.succ_mul]; omega
theorem repC_add (c : List Value) (k l : Nat) : repC c (k + l) = repC c k ++ repC c l := by
  induction k with
  | zero => simp [repC]
  | succ k ih => rw [show k + 1 + l = (k + l) + 1 by omega]; simp only [repC, ih, List.append_assoc]
theorem repC_mem {c : List Value} {k : Nat} {v : Value} (h : v ∈ repC c k) : v ∈ c := by
  induction k with
  | zero => simp [repC] at h
  | succ k ih => simp only [repC, List.mem_append] at h; rcases h with h | h; exact h; exact ih h
def fillC (c z : List Value) (n k : Nat) : List Value := repC c k ++ repC z (n - k)
theorem fillC_length (c z : List Value) (hz : z.length = c.length) (n k : Nat) (hk : k ≤ n) : (fillC c z n k).length = n * c.length := by
  unfold fillC; rw [List.length_append, repC_length, repC_length, hz, ← Nat.add_mul]; congr 1; omega
theorem fillC_splice (c z : List Value) (hz : z.length = c.length) (n k m : Nat) (h : k + m ≤ n) : splice (fillC c z n k) (k * c.length) (repC c m) = fillC c z n (k + m) := by
  unfold splice fillC
  have e1 : (repC c k ++ repC z (n - k)).take (k * c.length) = repC c k := by
    rw [List.take_append_of_le_length (by rw [repC_length]; exact Nat.le_refl _), List.take_of_length_le (by rw [repC_length]; exact Nat.le_refl _)]
  have e2 : (repC c k ++ repC z (n - k)).drop (k * c.length + (repC c m).length) = repC z (n - (k + m)) := by
    rw [repC_length, show n - k = m + (n - (k + m)) by omega, repC_add, ← List.append_assoc]; rw [List.drop_append_of_le_length (by rw [List.length_append, repC_length, repC_length, hz]; exact Nat.le_refl _), List.drop_of_length_le (by rw [List.length_append, repC_length, repC_length, hz]; exact Nat.le_refl _)]
    simp
  rw [e1, e2, repC_add, List.append_assoc]
theorem fillC_get (c z : List Value) (n k : Nat) (hk : k ≤ n) (m : Nat) (hm : m ≤ k) : ∀ (j : Nat) (v : Value), (repC c m)[j]? = some v → (fillC c z n k)[j]? = some v := by
  intro j v h; unfold fillC; rw [show k = m + (k - m) by omega, repC_add, List.append_assoc, List.getElem?_append_left (by rw [List.getElem?_eq_some_iff] at h; exact h.1)]; exact h
theorem fillC_zero (c z : List Value) (n : Nat) : fillC c z n 0 = repC z n := by simp [fillC, repC]
theorem fillC_full (c z : List Value) (n : Nat) : fillC c z n n = repC c n := by simp [fillC, repC]
theorem made_all (z : Array Value) (v : Value) (hz : ∀ j, z[j % z.size]! = v) (n : Nat) : (madeCells z n).toList = List.replicate n v := by
  rw [List.eq_replicate_iff]; refine ⟨by simp [madeCells], fun b hb => ?_⟩; unfold madeCells at hb; simp only [Array.toList_map, List.mem_map] at hb; obtain ⟨j, _, rfl⟩ := hb; exact hz j
theorem repC_rep (v : Value) (m n : Nat) : repC (List.replicate m v) n = List.replicate (n * m) v := by
  induction n with
  | zero => simp [repC]
  | succ n ih => simp only [repC, ih]; rw [List.replicate_append_replicate, Nat.succ_mul]; congr 1; omega
theorem made1 (n : Nat) : (madeCells #[Value.int .i64 0] n).toList = repC [.int .i64 0] n := by
  rw [made_all _ (.int .i64 0) (fun j => by rw [show (#[Value.int .i64 0] : Array Value).size = 1 from rfl, Nat.mod_one]; rfl)]; have := repC_rep (.int .i64 0) 1 n; rw [Nat.mul_one] at this; exact this.symm
theorem mul1 (n : Nat) (hn : n ≤ 1000) (w : World) : Calls Tryz.prog 120 #[.int .u64 1, .int .u64 (n : Int)] w fun e w' => e = .returned (.tuple #[.int .u64 0, .int .u64 (n : Int)]) ∧ w = w' := by
  have h := Tryz.bits_Mul 1 n (by omega) (by omega) w; refine h.mono ?_; rintro e w' ⟨rfl, rfl⟩; refine ⟨?_, rfl⟩; rw [show 1 * n / 18446744073709551616 = 0 by omega, show 1 * n % 18446744073709551616 = n by omega]
  rfl
set_option maxRecDepth 100000 in
theorem makeLI (n : Nat) (hn : n ≤ 1000) (w : World) : (Instr.makeSlice 23 (.int .i64 (n : Int)) (.int .i64 (n : Int))).run Tryz.prog w = .ok (.slice (some ⟨w.heap.size, 0, none⟩) n n) (w.alloc (.cells (repC [.int .i64 0] n).toArray 3)) := by
  obtain ⟨i0, hi0, hz0, hz1, hz2⟩ := info_parts infI; have h := run_make (P := Tryz.prog) w 23 3 i0 _ Tryz.underlying23 hi0 hz0 .i64 .i64 (n : Int) (n : Int) (by omega) (Int.le_refl _) (by rw [hz2]; omega) (by omega); simp only [Int.toNat_natCast, hz1] at h; rw [h]
  congr 3
  rw [← made1 n]
  simp
  rfl
def RepPost (v : Int) (n : Nat) (w : World) (e : Ending) (w' : World) : Prop :=
  ∃ g, e = .returned (.slice (some ⟨g, 0, none⟩) n n) ∧ w.heap.size ≤ g ∧ w'.heap[g]? = some (.cells (repC [.int .i64 v] n).toArray 3 (0, 0)) ∧ Below w.heap.size w w'
set_option maxRecDepth 100000 in
set_option maxHeartbeats 1000000 in
theorem t_repeat (b off cap : Nat) (v : Int) (n : Nat) (h1 : 1 ≤ n) (hn : n ≤ 1000) (w : World) (hsrc : ∀ j u, ([.int .i64 v] : List Value)[j]? = some u → w.cell? ((⟨b, off, none⟩ : Addr).add j) = some u) :
    Calls Tryz.prog 75 #[.slice (some ⟨b, off, none⟩) 1 cap, .int .i64 n] w (RepPost v n w) := by
  have hmul := mul1 n hn; have hmk := makeLI n hn; have hg1 : decide ((n : Int) > 9223372036854775807) = false := by simp; omega
  have hg0 : decide ((n : Int) < 0) = false := by simp
  have hu : IntKind.u64.wrap (n : Int) = (n : Int) := by rw [IntKind.wrap_u64]; omega
  have hu1 : IntKind.u64.wrap 1 = 1 := by rw [IntKind.wrap_u64]; omega
  have HS := Lib.hid hsrc; have HC1 := Lib.hid (show ∀ u ∈ ([.int .i64 v] : List Value), u.oneCell' = true by intro u hu; simp at hu; subst hu; rfl); clear hsrc
  go_enter Tryz.func75, Tryz.ntmps75
  obtain ⟨w1, hcp, hw1, hb1⟩ : ∃ w1, (Builtin.copy_ #[23, 23] 3 #[.slice (some ⟨w.heap.size, 0, none⟩) n n, .slice (some ⟨b, off, none⟩) 1 cap]).run Tryz.prog (w.alloc (.cells (repC [.int .i64 0] n).toArray 3)) = .ok (.int .i64 1) w1 ∧
      w1.heap[w.heap.size]? = some (.cells (fillC [.int .i64 v] [.int .i64 0] n 1).toArray 3 (0, 0)) ∧ Below w.heap.size w w1 := by
    have h := run_copy_ex (P := Tryz.prog) (w.alloc (.cells (repC [.int .i64 0] n).toArray 3)) 23 23 3 3 1 w.heap.size 0 n n ⟨b, off, none⟩ 1 cap 1 (repC [.int .i64 0] n) 3 [.int .i64 v] Tryz.underlying23 szI (alloc_new _ _) (Nat.min_eq_left h1) rfl
      (fun j u hj => ((below_alloc1 w _).cell (lt_of_cellq (HS.out j u hj))).trans (HS.out j u hj)) (by simp [repC_length]; omega) HC1.out w.heap.size w (below_alloc1 _ _) (Nat.le_refl _)
    have e := fillC_splice [.int .i64 v] [.int .i64 0] rfl n 0 1 (by omega); rw [Nat.zero_mul, Nat.zero_add, show repC [.int .i64 v] 1 = [.int .i64 v] from List.append_nil _, fillC_zero] at e; rw [e] at h; exact h
  have HW1 := Lib.hid hw1; have HB1 := Lib.hid hb1; clear hw1 hb1; go_wp2_with fail; refine (hmul _).mono ?_; rintro e w' ⟨rfl, rfl⟩; go_wp2; clear hmul hmk hg1 hg0 hu hu1 hcp
  go_loopw [8] (fun vv wr => ∃ k : Nat, 1 ≤ k ∧ k ≤ n ∧ vv = .int .i64 k ∧ Hid (wr.heap[w.heap.size]? = some (.cells (fillC [.int .i64 v] [.int .i64 0] n k).toArray 3 (0, 0))) ∧ Hid (Below w.heap.size w wr)) (fun v _ => n - (intOf v).toNat)
  case atStart => exact ⟨1, by omega, h1, rfl, HW1, HB1⟩
  case round =>
    obtain ⟨k, hk1, hkn, rfl, HW, HB⟩ := hrel
    by_cases hlt : k < n
    · have hsl : decide ((k : Int) < (n : Int)) = true := by simp; omega
      obtain ⟨m, hm⟩ : ∃ m, Nat.min k (n - k) = m := ⟨_, rfl⟩; have hm1 : 1 ≤ m := by rw [← hm]; exact Nat.le_min.2 ⟨hk1, by omega⟩
      have hmk : m ≤ k := by rw [← hm]; exact Nat.min_le_left _ _
      have hmn : k + m ≤ n := by have : m ≤ n - k := by rw [← hm]; exact Nat.min_le_right _ _
                                 omega
      obtain ⟨w2, hcp, hw2, hb2⟩ : ∃ w2, (Builtin.copy_ #[23, 23] 3 #[.slice (some ⟨w.heap.size, k, none⟩) (n - k) (n - k), .slice (some ⟨w.heap.size, 0, none⟩) k n]).run Tryz.prog wr.drew = .ok (.int .i64 m) w2 ∧
          w2.heap[w.heap.size]? = some (.cells (fillC [.int .i64 v] [.int .i64 0] n (k + m)).toArray 3 (0, 0)) ∧ Below w.heap.size w w2 := by
        have h := run_copy_ex (P := Tryz.prog) wr.drew 23 23 3 3 1 w.heap.size (k * 1) (n - k) (n - k) ⟨w.heap.size, 0, none⟩ k n m (fillC [.int .i64 v] [.int .i64 0] n k) 3 (repC [.int .i64 v] m) Tryz.underlying23 szI HW.out hm (by rw [repC_length]; rfl)
          (fun j u hj => by rw [add_new]; exact cell_of_list (w := wr.drew) HW.out (fillC_get [.int .i64 v] [.int .i64 0] n k hkn m hmk j u hj)) (by rw [fillC_length [.int .i64 v] [.int .i64 0] rfl n k hkn]; simp [repC_length]; omega) (fun u hu => HC1.out u (repC_mem hu)) w.heap.size w HB.out.drew (Nat.le_refl _)
        have e := fillC_splice [.int .i64 v] [.int .i64 0] rfl n k m hmn; simp only [List.length_cons, List.length_nil] at e; rw [e] at h
        simpa using h
      have HW2 := Lib.hid hw2; have HB2 := Lib.hid hb2; clear hw2 hb2 hm; have hwr : IntKind.i64.wrap ((k : Int) + (m : Int)) = (k : Int) + (m : Int) := w64 _ (by omega) (by omega); go_wp2
      go_region_held3 (fun _ => True) (trivial) (fail)
      all_goals
        clear hcp; go_wp2; go_roundw
        case rel => exact ⟨k + m, by omega, by omega, by go_num, HW2, HB2⟩
        case measure => simp [intOf]; omega
    · obtain rfl : k = n := by omega
      have hsl : decide ((k : Int) < (k : Int)) = false := by simp
      go_wp2; go_ret; exact ⟨w.heap.size, rfl, Nat.le_refl _, by have := HW.out; rw [fillC_full] at this; exact this, HB.out⟩
end Go.Proofs.YtchclaipbahiiaaGreat
end

section
namespace Go.Proofs.YtchclaipbahiiaaGreat
open Go Go.RowKit Go.Proofs
set_option linter.unusedVariables false
def SeqMem {α : Type} (F : Fence) (n : Nat) (P : Program) (g : Nat) (lb : Array Value) (encs : α → Array Value) (Kp : World → World → Prop) (Mem : α → World → Prop) (S : List α → Prop) (N : Nat) (w : World) : Prop :=
  ∀ (l : Nat) (J : List α → World → Prop) (W : World), Below w.heap.size w W → AbidesFrom W.heap.size J →
    (∀ pre x W1, J pre W1 → Mem x W1 → pre.length < N → YieldAt F (n - 1) P l (encs x) W1 fun e W' => e = .returned (.bool true) ∧ J (pre ++ [x]) W' ∧ Kp W1 W') →
    J [] W →
    CallsIn F n P g (#[.func (.yield l) #[] #[]] ++ lb) W fun e W' => (∃ v, e = .returned v) ∧ ∃ xs, S xs ∧ J xs W' ∧ ∀ x ∈ xs, Mem x W'
def StayPost (B : Nat) (Kp : World → World → Prop) (K : World → Prop) (W : World) : Exit → Act → World → Prop
  | .normal, _, W' => KeepsFrom B W W' ∧ Kp W W' ∧ K W'
  | _, _, _ => False
theorem wpIn_rangeFunc_mem {F : Fence} {n : Nat} {P : Program} {α : Type} {g : Operand} {ps : Array Tmp} {assign body : Code} {Q : Exit → Act → World → Prop} {a : Act} {w : World}
    (hro : F.round = none) (h1 : 1 ≤ n) {gf : Nat} {lb : Array Value} (hg : a.eval g = .func (.func gf) #[] lb) (hFg : F.fn gf) (eg : ∀ args w, (callFunc gf args).run P w = .ok (.enter gf args) w)
    {encs : α → Array Value} {Kp : World → World → Prop} {Mem : α → World → Prop} {S : List α → Prop} {N : Nat} {w0 : World} (hseq : SeqMem F (n - 1) P gf lb encs Kp Mem S N w0)
    (hKt : ∀ {A B C : World}, Kp A B → Kp B C → Kp A C) (hKb : ∀ (W : World) (l : Nat) (o o' : Obj), w.heap.size ≤ l → W.heap[l]? = some o → o.isCells = false → o.isWalk = false → Kp W (W.putObj l o'))
    (hMb : ∀ (x : α) (W : World) (l : Nat) (o o' : Obj), W.heap[l]? = some o → o.isCells = false → Mem x W → Mem x (W.putObj l o')) (hb0 : Below w0.heap.size w0 w) (hps : ∀ x, (encs x).size = ps.size)
    (I : List α → World → Prop) (hI : OwnFrom w.heap.size I) (h0 : I [] w) (Ax : α → Act → World → Prop) (hAx : ∀ x a', OwnFrom w.heap.size (fun (_ : Unit) W => Ax x a' W))
    (hassign : ∀ (l : Nat) (pre : List α) (x : α) (W : World) (K : Act → World → Prop), I pre W → Mem x W → (∀ a' W', KeepsFrom w.heap.size W W' → Kp W W' → I pre W' → Mem x W' → Ax x a' W' → K a' W') →
      assign.wpIn (F.inRound l) (n - 1 - 1) P (Exit.then K (fun _ _ _ => False)) { tmps := (ps.zip (encs x)).foldl (fun t (p, v) => t.setIfInBounds p v) a.tmps, defers := [] } W)
    (hbody : ∀ (l : Nat) (pre : List α) (x : α) (a' : Act) (W : World), I pre W → Mem x W → Ax x a' W → pre.length < N → body.wpIn (F.inRound l) (n - 1 - 1) P (StayPost w.heap.size Kp (I (pre ++ [x])) W) a' W)
    (hdone : ∀ (D : Nat) (xs : List α) (W : World), w.heap.size ≤ D → S xs → I xs W → (∀ x ∈ xs, Mem x W) → W.heap[D]? = some (.deferred (some [])) → Q .normal { a with defers := { target := .collected D, args := #[] } :: a.defers } W) :
    (Code.rangeFunc g ps assign body).wpIn F n P Q a w := by
  refine wpIn_rangeFunc ?_; intro fn hfn; rw [hro]; obtain ⟨rec, hrec⟩ : ∃ rec : LoopState → Option Code → Loop, rec = fun st pe => { state := st, pending := pe, fn, tmps := a.tmps, params := ps, assign, body, defers := w.heap.size } := ⟨_, rfl⟩
  obtain ⟨W1, hW1⟩ : ∃ W1, (w.alloc (.deferred (some []))).alloc (.loop (rec .ready none)) = W1 := ⟨_, rfl⟩; have hz1 : W1.heap.size = w.heap.size + 2 := by rw [← hW1]; simp
  have hL1 : W1.heap[w.heap.size + 1]? = some (.loop (rec .ready none)) := by
    have := World.alloc_heap_new (w.alloc (.deferred (some []))) (.loop (rec .ready none)); rw [World.size_alloc, hW1] at this; exact this
  have hK1 : W1.heap[w.heap.size]? = some (.deferred (some [])) := by
    rw [← hW1]; exact (Below.heap_alloc _ _ _ (by simp)).trans (World.alloc_heap_new w _)
  have hI1 : I [] W1 := by rw [← hW1]; exact hI.alloc _ (hI.alloc _ h0)
  have hb1 : Below w0.heap.size w0 W1 := by
    rw [← hW1]; exact hb0.trans ((((Below.refl _ w).alloc (Nat.le_refl _) _).alloc (by simp) _).mono hb0.size)
  refine ⟨w.heap.size + 1, [{ target := .collected w.heap.size, args := #[] }], W1, { target := .fn (.func gf) lb, args := #[.func (.yield (w.heap.size + 1)) #[] #[]] }, W1, gf,
    #[.func (.yield (w.heap.size + 1)) #[] #[]] ++ lb, W1, (by rw [← hW1, hrec]; exact run_enterLoop_outer _ _ _ _ _), (by simp only [resolve, hg]; simp [go_sem]), (fun f' hf' => by simp [Target.leads] at hf'; subst hf'; exact hFg), (by simp [invoke, go_sem, eg]), fun _ => h1, ?_⟩
  have far : ∀ {A : World} {row : Option Nat}, (∀ r, row = some r → W1.heap.size ≤ r ∧ ∃ o : Obj, A.heap[r]? = some o ∧ o.isWalk = true) → ∀ r, row = some r → w.heap.size ≤ r ∧ ∃ o : Obj, A.heap[r]? = some o ∧ o.isCells = false :=
    fun hr r e => by obtain ⟨hB, o, ho, hw⟩ := hr r e; exact ⟨by omega, o, ho, Obj.not_cells_of_walk hw⟩
  refine (hseq (w.heap.size + 1) (fun pre W => I pre W ∧ W.heap[w.heap.size + 1]? = some (.loop (rec .ready none)) ∧ W.heap[w.heap.size]? = some (.deferred (some []))) W1 hb1
    (fun s A B row hs hg' hr => ⟨hI s A B row hs.1 hg' (far hr), (grownBy_keeps hg' (fun r e => (hr r e).2) hs.2.1 rfl).trans hs.2.1, (grownBy_keeps hg' (fun r e => (hr r e).2) hs.2.2 rfl).trans hs.2.2⟩)
    ?round ⟨hI1, hL1, hK1⟩).mono ?after
  case round =>
    rintro pre x W ⟨hi, hl, hk⟩ hm hlen; have hy := run_yield (P := P) (args := encs x) hl (by rw [hrec]; exact hps x); rw [hrec] at hy; refine ⟨fn, _, assign, body, hy, roundIn_of_wpIn hfn (hassign _ pre x W _ hi hm ?_)⟩; intro a' Wa hka hkp hia hma hax; have hla := hka.same _ _ (by omega) hl rfl; have hkk := hka.same _ _ (Nat.le_refl _) hk rfl; have hlt : w.heap.size + 1 < Wa.heap.size := (Array.getElem?_eq_some_iff.1 hla).1; refine ⟨_, run_beginRound hla (by rw [hrec]), ?_⟩; obtain ⟨W2, hW2⟩ : ∃ W2, Wa.putObj (w.heap.size + 1) (.loop { rec .ready none with state := .busy }) = W2 := ⟨_, rfl⟩; have hl2 : W2.heap[w.heap.size + 1]? = some (.loop { rec .ready none with state := .busy }) := by rw [← hW2]; exact World.putObj_heap_same hlt
    have hk2 : W2.heap[w.heap.size]? = some (.deferred (some [])) := by rw [← hW2]; exact (World.putObj_heap_other (by omega)).trans hkk
    have hp2 : Kp W W2 := by rw [← hW2]; exact hKt hkp (hKb _ _ _ _ (by omega) hla rfl rfl)
    have hi2 : I pre W2 := by rw [← hW2]; exact hI.putObj _ hia (by omega) hla rfl
    have hm2 : Mem x W2 := by rw [← hW2]; exact hMb _ _ _ _ _ hla rfl hma
    have hx2 : Ax x a' W2 := by rw [← hW2]; exact (hAx x a').putObj (s := ()) _ hax (by omega) hla rfl
    rw [hW2]; refine wpIn_mono (hbody _ pre x a' _ hi2 hm2 hx2 hlen) ?_; rintro e a3 W3 hp
    cases e with
    | normal =>
      obtain ⟨hk3, hp3, hi3⟩ := hp; have hl3 := hk3.same _ _ (by omega) hl2 rfl; have hr := run_endRound (P := P) none hl3; rw [hrec] at hr hl3 ⊢; have hk4 := (World.putObj_heap_other (w := W3) (o := .loop { state := .ready, pending := none, fn, tmps := a.tmps, params := ps, assign, body, defers := w.heap.size }) (show w.heap.size ≠ w.heap.size + 1 by omega)).trans (hk3.same _ _ (Nat.le_refl _) hk2 rfl); exact ⟨_, _, hr, rfl, ⟨hI.putObj _ hi3 (by omega) hl3 rfl, World.putObj_heap_same (Array.getElem?_eq_some_iff.1 hl3).1, hk4⟩, hKt (hKt hp2 hp3) (hKb _ _ _ _ (by omega) hl3 rfl rfl)⟩
    | ret => exact hp.elim
    | exit id => exact hp.elim
    | goto t => exact hp.elim
    | panic ch => exact hp.elim
    | outgrown => exact hp.elim
  case after =>
    rintro e W2 ⟨⟨v, rfl⟩, xs, hS, ⟨hi, hl, hk⟩, hm⟩; have hr := run_endLoop (P := P) hl (by rw [hrec]; simp); rw [hrec] at hr; exact ⟨none, _, hr, hdone _ xs _ (Nat.le_refl _) hS (hI.putObj _ hi (by omega) hl rfl) (fun x hx => hMb _ _ _ _ _ hl rfl (hm x hx)) ((World.putObj_heap_other (by omega)).trans hk)⟩
structure Tv where
  pl : List Int
  q : Option Addr
  cq : Nat
  g : Nat
  cg : Nat
def MemT (p : Pc) (n0 : Nat) (x : Tv) (w : World) : Prop := x.pl.length = p.ms.length ∧ (endF p x.pl).length = p.ms.length + 1 ∧ w.ownsRow n0 3 1 (.slice x.q x.pl.length x.cq) x.pl.length (inV x.pl) ∧ w.ownsRow n0 3 1 (.slice (some ⟨x.g, 0, none⟩) (x.pl.length + 1) x.cg) (x.pl.length + 1) (inV (endF p x.pl))
def KpT (n0 kx : Nat) (w w' : World) : Prop := BelX (fun x => x = kx) n0 w w' ∧ ∀ (b : Nat) (cur : Array Value) (ty : TypeId) (fr : Nat × Nat), w.heap[b]? = some (.cells cur ty fr) → b ≠ kx → ty ≠ 125 → w'.heap[b]? = w.heap[b]?
theorem KpT.refl (n0 kx : Nat) (w : World) : KpT n0 kx w w := ⟨BelX.refl _ _ _, fun _ _ _ _ _ _ _ => rfl⟩
theorem KpT.trans {n0 kx : Nat} {a b c : World} (h : KpT n0 kx a b) (k : KpT n0 kx b c) : KpT n0 kx a c :=
  ⟨h.1.trans k.1, fun b cur ty fr hb h1 h2 => by
    have e := h.2 b cur ty fr hb h1 h2; exact (k.2 b cur ty fr (e.trans hb) h1 h2).trans e⟩
theorem KpT.of_below {n0 kx : Nat} {w w' : World} (h : Below w.heap.size w w') (hn : n0 ≤ w.heap.size) : KpT n0 kx w w' :=
  ⟨(belX_of h).mono hn, fun b cur ty fr hb _ _ => h.block b (block_lt hb)⟩
theorem KpT.keeps {n0 kx : Nat} {w w' : World} (h : KpT n0 kx w w') {b : Nat} {cur : Array Value} {ty : TypeId} {fr : Nat × Nat} (hb : w.heap[b]? = some (.cells cur ty fr)) (h1 : b ≠ kx) (h2 : ty ≠ 125) : w'.heap[b]? = some (.cells cur ty fr) :=
  (h.2 b cur ty fr hb h1 h2).trans hb
theorem KpT.own {n0 kx B size n : Nat} {ty : TypeId} {v : Value} {xs : List Value} {w w' : World} (h : KpT n0 kx w w') (hk : kx < B) (h2 : ty ≠ 125) (ho : w.ownsRow B ty size v n xs) : w'.ownsRow B ty size v n xs := by
  refine own_same ho fun g hg => ?_
  rcases ho.2 with ⟨rfl, _⟩ | ⟨g', cap, cur, rfl, hb, hh, _⟩
  · simp [Value.ownBlock] at hg
  · simp [Value.ownBlock] at hg
    subst hg; exact h.2 _ _ _ _ hh (by omega) h2
theorem KpT.below {n0 kx B : Nat} {w w' : World} (h : KpT n0 kx w w') (h1 : B ≤ kx) (h2 : B ≤ n0) : Below B w w' := (h.1.mono h2).below (Nat.le_refl _) (fun x hx => by subst hx; exact h1)
theorem KpT.putObj {n0 kx : Nat} {W : World} {l : Nat} {o o' : Obj} (hn : n0 ≤ l) (hl : W.heap[l]? = some o) (ho : o.isCells = false) : KpT n0 kx W (W.putObj l o') := by
  have hg := grownBy_putObj' W l o'; refine ⟨⟨hg.os, hg.tape, hg.output, hg.size, fun k hk _ => World.putObj_heap_other (by omega)⟩, fun b cur ty fr hb _ _ => World.putObj_heap_other ?_⟩; intro e; subst e; rw [hl] at hb
  cases hb
  cases ho
theorem KpT.setCell {n0 kx : Nat} {a w : World} (h : KpT n0 kx a w) (j : Nat) (v : Value) : KpT n0 kx a (w.setCell ⟨kx, j, none⟩ v) :=
  h.trans ⟨BelX.setCell (X := fun x => x = kx) (BelX.refl _ _ _) (p := ⟨kx, j, none⟩) (.inl rfl) v, fun b cur ty fr hb h1 _ => Below.heap_setCell _ _ _ _ h1⟩
theorem KpT.alloc {n0 kx : Nat} {a w : World} (h : KpT n0 kx a w) (hn : n0 ≤ w.heap.size) (o : Obj) : KpT n0 kx a (w.alloc o) := h.trans (KpT.of_below (below_alloc1 w o) hn)
theorem MemT.kept {p : Pc} {n0 kx : Nat} {x : Tv} {w w' : World} (h : MemT p n0 x w) (hk : KpT n0 kx w w') (hx : kx < n0) : MemT p n0 x w' :=
  ⟨h.1, h.2.1, hk.own hx (by decide) h.2.2.1, hk.own hx (by decide) h.2.2.2⟩
theorem MemT.putObj {p : Pc} {n0 : Nat} {x : Tv} {W : World} {l : Nat} {o o' : Obj} (hl : W.heap[l]? = some o) (ho : o.isCells = false) (h : MemT p n0 x W) : MemT p n0 x (W.putObj l o') := by
  have key : ∀ (v : Value) (n : Nat) (xs : List Value), W.ownsRow n0 3 1 v n xs → (W.putObj l o').ownsRow n0 3 1 v n xs := by
    intro v n xs hr; refine own_same hr fun g hg => ?_
    rcases hr.2 with ⟨rfl, _⟩ | ⟨g', cap, cur, rfl, hb, hh, _⟩
    · simp [Value.ownBlock] at hg
    · simp [Value.ownBlock] at hg
      subst hg; refine World.putObj_heap_other ?_; intro e; subst e; rw [hl] at hh
      cases hh
      cases ho
  exact ⟨h.1, h.2.1, key _ _ _ h.2.2.1, key _ _ _ h.2.2.2⟩
end Go.Proofs.YtchclaipbahiiaaGreat
end

section
namespace Go.Proofs.YtchclaipbahiiaaGreat
open Go Go.RowKit Go.Proofs Go.Shelf
set_option linter.unusedVariables false
attribute [local go_sem] Oper.semAt_some imax2 imin2
theorem RoundIn.anyDepth {F : Fence} (hd : F.depth = none) {m m' : Nat} {P : Program} {l : Nat} {f : FuncId} {tmps : Array Value} {assign body : Code} {w : World} {R : Ending → World → Prop}
    (h : RoundIn F m P l f tmps assign body w R) : RoundIn F m' P l f tmps assign body w R := ⟨h.1, fun c cs _ => h.2 c cs (fun d e => by rw [hd] at e; cases e)⟩
theorem YieldAt.anyDepth {F : Fence} (hd : F.depth = none) {m : Nat} (m' : Nat) {P : Program} {l : Nat} {args : Array Value} {W : World} {R : Ending → World → Prop} (h : YieldAt F m P l args W R) : YieldAt F m' P l args W R := by
  obtain ⟨fn, tmps, assign, body, hy, hR⟩ := h; exact ⟨fn, tmps, assign, body, hy, RoundIn.anyDepth hd hR⟩
structure Sx (p : Pc) (pm pv pr : Option Addr) (cm cv cr bp bY bs l : Nat) (we W : World) : Prop where
  kp : W.heap[bp]? = some (.cells #[.slice pm p.ms.length cm, .slice pv p.mv.length cv, .slice pr p.rs.length cr] 59 (0, 0))
  ky : W.heap[bY]? = some (.cells #[.func (.yield l) #[] #[]] 207 (0, 0))
  ks : W.heap[bs]? = some (.cells #[.func (.func 145) #[] #[.pointer (some ⟨bp, 0, none⟩), .pointer (some ⟨bY, 0, none⟩), .pointer (some ⟨bs, 0, none⟩)]] 110 (0, 0))
  below : Below we.heap.size we W
structure Sk (n0 kx bp bY bs : Nat) (we : World) : Prop where
  p : bp ≠ kx
  y : bY ≠ kx
  s : bs ≠ kx
  k : kx < n0
  e : we.heap.size ≤ kx
theorem Sx.kept {p : Pc} {pm pv pr : Option Addr} {cm cv cr bp bY bs l n0 kx : Nat} {we W W' : World} (h : Sx p pm pv pr cm cv cr bp bY bs l we W) (hs : Sk n0 kx bp bY bs we) (hk : KpT n0 kx W W') : Sx p pm pv pr cm cv cr bp bY bs l we W' :=
  ⟨hk.keeps h.kp hs.p (by decide), hk.keeps h.ky hs.y (by decide), hk.keeps h.ks hs.s (by decide), h.below.trans (hk.below hs.e (by have := hs.e; have := hs.k; omega))⟩
end Go.Proofs.YtchclaipbahiiaaGreat
end

section
namespace Go.Proofs.YtchclaipbahiiaaGreat
open Go Go.RowKit Go.Proofs Go.Shelf
set_option linter.unusedVariables false
set_option linter.unusedSimpArgs false
attribute [local go_sem] Oper.semAt_some imax2 imin2
structure Sy (a0 a1 a2 a3 a4 : Value) (q : Option Addr) (L c bR bY bs l : Nat) (we W : World) : Prop where
  kr : W.heap[bR]? = some (.cells #[a0, a1, a2, a3, a4, .slice q L c] 89 (0, 0))
  ky : W.heap[bY]? = some (.cells #[.func (.yield l) #[] #[]] 97 (0, 0))
  ks : W.heap[bs]? = some (.cells #[.func (.func 122) #[] #[.pointer (some ⟨bY, 0, none⟩), .pointer (some ⟨bR, 0, none⟩), .pointer (some ⟨bs, 0, none⟩)]] 72 (0, 0))
  below : Below we.heap.size we W
theorem Sy.kept {a0 a1 a2 a3 a4 : Value} {q : Option Addr} {L c bR bY bs l n0 kx : Nat} {we W W' : World} (h : Sy a0 a1 a2 a3 a4 q L c bR bY bs l we W) (hs : Sk n0 kx bR bY bs we) (hk : KpT n0 kx W W') : Sy a0 a1 a2 a3 a4 q L c bR bY bs l we W' :=
  ⟨hk.keeps h.kr hs.p (by decide), hk.keeps h.ky hs.y (by decide), hk.keeps h.ks hs.s (by decide), h.below.trans (hk.below hs.e (by have := hs.e; have := hs.k; omega))⟩
def PrPost (n0 kx : Nat) (xs : List Int) (J : List Int → World → Prop) (pre : List Int) (W : World) (e : Ending) (W' : World) : Prop :=
  e = .returned (.bool true) ∧ J (pre ++ xs) W' ∧ KpT n0 kx W W'
def YieldOk (n0 kx N : Nat) (Px : Int → Prop) (l : Nat) (J : List Int → World → Prop) : Prop :=
  ∀ m pre x W1, J pre W1 → Px x → pre.length < N → YieldAt Fence.wide m Tryz.prog l #[.int .i64 x] W1 fun e W' => e = .returned (.bool true) ∧ J (pre ++ [x]) W' ∧ KpT n0 kx W1 W'
set_option maxHeartbeats 1600000 in
set_option maxRecDepth 100000 in
theorem p_end (n : Nat) (hn : 1 ≤ n) (a0 a1 a2 a3 a4 : Value) (q : Option Addr) (L c bR bY bs l n0 kx N : Nat) (we : World) (Px : Int → Prop) (J : List Int → World → Prop) (hY : YieldOk n0 kx N Px l J)
    (fr now : Int) (pre : List Int) (W : World) (hx : Px now) (hW : Sy a0 a1 a2 a3 a4 q L c bR bY bs l we W) (hj : J pre W) (hN : pre.length + 1 ≤ N) :
    CallsIn Fence.wide n Tryz.prog 122 #[.int .i64 fr, .int .i64 0, .int .i64 now, .pointer (some ⟨bY, 0, none⟩), .pointer (some ⟨bR, 0, none⟩), .pointer (some ⟨bs, 0, none⟩)] W (PrPost n0 kx [now] J pre W) := by
  have ky : W.cell? ⟨bY, 0, none⟩ = some (.func (.yield l) #[] #[]) := by rw [cell_of_row _ _ _ _ _ _ hW.ky]; rfl
  obtain ⟨fn, tmps, assign, body, hy, hR⟩ := hY (n - 1) pre now W hj hx (by omega); clear hY hW hj hN hx; refine callsIn_of_wp Tryz.func122 rfl trivial ?_ rfl; simp only [Tryz.ntmps122, List.size_toArray, List.length_cons, List.length_nil, Nat.reduceAdd, Nat.reduceSub, Array.replicate_succ, Array.replicate_zero, List.push_toArray, List.append_toArray, List.nil_append, List.cons_append]
  gi_wp2_with fail
  refine hR.mono ?_; rintro e w5 ⟨rfl, hj5, hk5⟩; have HJ5 := Lib.hid hj5; have HK5 := Lib.hid hk5; clear hR hy hj5 hk5
  gi_wp2
  go_ret; exact ⟨rfl, HJ5.out, HK5.out⟩
def prdTo (t : List Int) (d : Nat) (now : Int) (k j : Nat) : List Int := (List.range' k j).flatMap fun i => prdF t d i (now * gi t i)
theorem prdTo_succ (t : List Int) (d : Nat) (now : Int) (k j : Nat) : prdTo t d now k (j + 1) = prdTo t d now k j ++ prdF t d (k + j) (now * gi t (k + j)) := by
  unfold prdTo; rw [List.range'_1_concat, List.flatMap_append]; simp
theorem prdTo_all (t : List Int) (d : Nat) (now : Int) (k : Nat) : prdTo t d now k (t.length - k) = prdF t (d + 1) k now := rfl
theorem prdTo_len (t : List Int) (d : Nat) (now : Int) (k : Nat) : ∀ m j, j ≤ m → (prdTo t d now k j).length ≤ (prdTo t d now k m).length := by
  intro m
  induction m with
  | zero => intro j hj; obtain rfl : j = 0 := by omega
            exact Nat.le_refl _
  | succ m ih =>
    intro j hj
    by_cases h : j = m + 1
    · rw [h]; exact Nat.le_refl _
    · have := ih j (by omega)
      rw [prdTo_succ, List.length_append]; omega
def Tth (t : List Int) : Prop := t.length ≤ 60 ∧ ∀ i, i < t.length → 1 ≤ gi t i ∧ gi t i ≤ 60
set_option maxHeartbeats 1600000 in
set_option maxRecDepth 100000 in
theorem p_node (a0 a1 a2 a3 a4 : Value) (q : Option Addr) (c bR bY bs l n0 kx N : Nat) (t : List Int) (we : World) (hRD : RdI we q t) (ht : Tth t) (hs : Sk n0 kx bR bY bs we)
    (J : List Int → World → Prop) (hJB : ∀ pre W W', J pre W → Below W.heap.size W W' → J pre W') (M : Int) (hM : M ≤ 1000000)
    (d k : Nat) (now : Int) (pre : List Int) (W : World) (hk : k ≤ t.length) (h1 : 1 ≤ now) (h2 : now * 60 ^ (d + 1) ≤ M) (hW : Sy a0 a1 a2 a3 a4 q t.length c bR bY bs l we W) (hn0 : n0 ≤ W.heap.size) (hj : J pre W) (hN : pre.length + (prdF t (d + 1) k now).length ≤ N)
    (ih : ∀ (i : Nat) (now' : Int) (pre' : List Int) (W' : World), i ≤ t.length → 1 ≤ now' → now' * 60 ^ d ≤ M → Sy a0 a1 a2 a3 a4 q t.length c bR bY bs l we W' → n0 ≤ W'.heap.size → J pre' W' → pre'.length + (prdF t d i now').length ≤ N →
      Calls Tryz.prog 122 #[.int .i64 i, .int .i64 d, .int .i64 now', .pointer (some ⟨bY, 0, none⟩), .pointer (some ⟨bR, 0, none⟩), .pointer (some ⟨bs, 0, none⟩)] W' (PrPost n0 kx (prdF t d i now') J pre' W')) :
    Calls Tryz.prog 122 #[.int .i64 k, .int .i64 ((d : Int) + 1), .int .i64 now, .pointer (some ⟨bY, 0, none⟩), .pointer (some ⟨bR, 0, none⟩), .pointer (some ⟨bs, 0, none⟩)] W (PrPost n0 kx (prdF t (d + 1) k now) J pre W) := by
  have HRD := Lib.hid hRD; have HT := Lib.hid ht; have HS := Lib.hid hs; have HJB := Lib.hid hJB; have HW := Lib.hid hW; have HN0 := Lib.hid hn0; have HN := Lib.hid hN; have HIH := Lib.hid ih; have HJ0 := Lib.hid (show J (pre ++ prdTo t d now k 0) W by rw [show prdTo t d now k 0 = [] from rfl, List.append_nil]; exact hj); have HALL := Lib.hid (prdTo_all t d now k); have HLEN := Lib.hid (prdTo_len t d now k); have HSU := Lib.hid (prdTo_succ t d now k); have H2 := Lib.hid h2; have hl := ht.1; have hd1 : ((d : Int) + 1 == 0) = false := by rw [beq_eq_false_iff_ne]; omega
  have hpw : 1 ≤ (60 : Int) ^ d := Int.pow_pos (by decide); have HPW := Lib.hid hpw
  have hn60 : now * 60 ≤ M := by
    have e : now * 60 ^ (d + 1) = (now * 60) * 60 ^ d := by rw [Int.pow_succ, Int.mul_assoc, Int.mul_comm 60 (60 ^ d)]
    rw [e] at h2; have := Int.mul_le_mul_of_nonneg_left (a := 1) (b := (60 : Int) ^ d) (c := now * 60) hpw (by omega); omega
  have hd5 : d ≤ 1000000 := by
    have : (d : Int) < 60 ^ d := by
      clear hpw HPW h2 H2 hN HN ih HIH HALL HLEN HSU hj HJ0 hd1 hn60
      induction d with
      | zero => decide
      | succ d ihd => rw [Int.pow_succ]; omega
    have h3 : (60 : Int) ^ d ≤ M := by
      have e : now * 60 ^ (d + 1) = (now * 60) * 60 ^ d := by rw [Int.pow_succ, Int.mul_assoc, Int.mul_comm 60 (60 ^ d)]
      rw [e] at h2; have := Int.mul_le_mul_of_nonneg_right (a := 1) (b := now * 60) (c := (60 : Int) ^ d) (by omega) (by omega); omega
    omega
  clear hRD ht hs hJB hW hn0 hN ih hj h2 hpw
  go_enter Tryz.func122, Tryz.ntmps122
  go_wp2
  go_loopw [10] (fun v wr => ∃ i j : Nat, k + j = i ∧ i ≤ t.length ∧ v = .int .i64 i ∧ Hid (J (pre ++ prdTo t d now k j) wr) ∧ Hid (KpT n0 kx W wr)) (fun v _ => t.length - (intOf v).toNat)
  case atStart => exact ⟨k, 0, by omega, hk, rfl, HJ0, Lib.hid (KpT.refl _ _ _)⟩
  case round =>
    obtain ⟨i, j, hij, hi, rfl, HJ, HK⟩ := hrel; have HWR := Lib.hid (HW.out.kept HS.out HK.out); have r5 : wr.cell? ⟨bR, 5, none⟩ = some (.slice q t.length c) := by rw [cell_of_row _ _ _ _ _ _ HWR.out.kr]; rfl
    have rs0 : wr.cell? ⟨bs, 0, none⟩ = some (.func (.func 122) #[] #[.pointer (some ⟨bY, 0, none⟩), .pointer (some ⟨bR, 0, none⟩), .pointer (some ⟨bs, 0, none⟩)]) := by rw [cell_of_row _ _ _ _ _ _ HWR.out.ks]; rfl
    have hwj : IntKind.i64.wrap ((i : Int) + 1) = (i : Int) + 1 := w64 _ (by omega) (by omega); have HIJ := Lib.hid hij
    by_cases hlt : i < t.length
    · have hltI : decide ((i : Int) < (t.length : Int)) = true := decide_eq_true (by omega)
      obtain ⟨b, off, rfl, hc⟩ := (HRD.out.below HWR.out.below).at hlt; have d0 := hc i hlt; have hgi := HT.out.2 i hlt; have HSJ := Lib.hid (show prdTo t d now k (j + 1) = prdTo t d now k j ++ prdF t d i (now * gi t i) by rw [HSU.out, hij])
      have HNJ := Lib.hid (show (pre ++ prdTo t d now k j).length + (prdF t d i (now * gi t i)).length ≤ N by
        have h1 := HLEN.out (t.length - k) (j + 1) (by omega); rw [HALL.out, HSU.out, hij, List.length_append] at h1; have := HN.out; rw [List.length_append]; omega)
      have hdd : IntKind.i64.wrap (d : Int) = (d : Int) := w64 _ (by omega) (by omega); obtain ⟨y, hy⟩ : ∃ y, gi t i = y := ⟨_, rfl⟩; have HY := Lib.hid hy; rw [hy] at d0 hgi HSJ HNJ
      have hny : 1 ≤ now * y ∧ now * y ≤ now * 60 := ⟨by
        have := Int.mul_le_mul_of_nonneg_left (a := 1) (b := y) (c := now) hgi.1 (by omega); omega, Int.mul_le_mul_of_nonneg_left hgi.2 (by omega)⟩
      have HNY := Lib.hid (show now * y * 60 ^ d ≤ M by
        have e : now * 60 ^ (d + 1) = (now * 60) * 60 ^ d := by rw [Int.pow_succ, Int.mul_assoc, Int.mul_comm 60 (60 ^ d)]
        have h2 := H2.out; rw [e] at h2; exact Int.le_trans (Int.mul_le_mul_of_nonneg_right hny.2 (by have := HPW.out; omega)) h2)
      obtain ⟨P, hP⟩ : ∃ P, now * y = P := ⟨_, rfl⟩; rw [hP] at hny HSJ HNJ HNY; have hwm : IntKind.i64.wrap (now * y) = P := by rw [hP]; exact w64 _ (by omega) (by omega)
      have HCL := Lib.hid (fun W0 (hb : Below wr.heap.size wr W0) => HIH.out i P (pre ++ prdTo t d now k j) W0 (by omega) hny.1 HNY.out (HWR.out.kept HS.out (KpT.of_below hb (Nat.le_trans HN0.out HK.out.1.size))) (Nat.le_trans HN0.out (Nat.le_trans HK.out.1.size hb.size)) (HJB.out _ _ _ HJ.out hb) HNJ.out); have HKB := Lib.hid (fun W0 (hb : Below wr.heap.size wr W0) => (KpT.of_below hb (Nat.le_trans HN0.out HK.out.1.size) : KpT n0 kx wr W0)); clear hc hy hP hij; go_wp2; have HSB := Lib.hid (cl3 rs0 r5 d0); refine held3 rs0 r5 d0 (fun W0 HB0 => ?_); refine tk 0 rfl (by exact HSB.out _ HB0) ?_; (try simp only [Act.put, ptL]); refine tk 1 rfl (by exact HSB.out _ HB0) ?_; (try simp only [Act.put, ptL]); refine tk 2 rfl (by exact HSB.out _ HB0) ?_; (try simp only [Act.put, ptL]); refine tk 3 rfl (by exact HSB.out _ HB0) ?_; (try simp only [Act.put, ptL]); refine tk 4 rfl (by exact HSB.out _ HB0) ?_; (try simp only [Act.put, ptL]); refine tk 5 rfl (by exact HSB.out _ HB0) ?_; (try simp only [Act.put, ptL]); refine tk 6 rfl (by exact HSB.out _ HB0) ?_; (try simp only [Act.put, ptL]); refine tk 7 rfl (by exact HSB.out _ HB0) ?_; (try simp only [Act.put, ptL]); refine tk 8 rfl (by exact HSB.out _ HB0) ?_; (try simp only [Act.put, ptL]); refine tk 9 rfl (by exact HSB.out _ HB0) ?_; (try simp only [Act.put, ptL]); refine tk 10 rfl (by exact HSB.out _ HB0) ?_; (try simp only [Act.put, ptL])
      refine rz1 11 rfl ?_; intro K hK; go_simp; refine (HCL.out _ HB0).mono ?_; rintro e W1 ⟨rfl, hj1, hk1⟩; have HJ1 := Lib.hid (show J (pre ++ prdTo t d now k (j + 1)) W1 by rw [HSJ.out, ← List.append_assoc]; exact hj1); have HK1 := Lib.hid (HK.out.trans ((HKB.out _ HB0).trans hk1)); have hw1 := HW.out.kept HS.out HK1.out; have r5' : W1.cell? ⟨bR, 5, none⟩ = some (.slice (some ⟨b, off, none⟩) t.length c) := by rw [cell_of_row _ _ _ _ _ _ hw1.kr]; rfl
      have rs0' : W1.cell? ⟨bs, 0, none⟩ = some (.func (.func 122) #[] #[.pointer (some ⟨bY, 0, none⟩), .pointer (some ⟨bR, 0, none⟩), .pointer (some ⟨bs, 0, none⟩)]) := by rw [cell_of_row _ _ _ _ _ _ hw1.ks]; rfl
      have d0' : W1.cell? ⟨b, off + i, none⟩ = some (.int .i64 y) := by
        obtain ⟨b', off', he, hc'⟩ := (HRD.out.below hw1.below).at hlt
        injection he with he
        injection he with e1 e2
        subst e1 e2; rw [hc' i hlt, HY.out]
      refine kz hK (by exact ⟨rs0', r5', d0'⟩) ?_; clear hK K; (try simp only [Act.put, ptL]); refine tk 12 rfl (by exact ⟨rs0', r5', d0'⟩) ?_; (try simp only [Act.put, ptL]); refine wpAnyH_done (by kernel_rfl) ?_ _; clear hj1 hk1 hw1 r5' rs0' d0' HSB HB0 r5 rs0 d0 HCL HKB HNJ HSJ HJ HK HNY; go_wp2; go_roundw
      case rel => exact ⟨k + (j + 1), j + 1, rfl, by have := HIJ.out; omega, by have := HIJ.out; simp; omega, HJ1, HK1⟩
      case measure => simp [intOf]; omega
    · obtain rfl : i = t.length := by omega
      have hltI : decide ((t.length : Int) < (t.length : Int)) = false := by simp
      have HE := Lib.hid (show prdTo t d now k j = prdF t (d + 1) k now by rw [← HALL.out, show t.length - k = j by have := HIJ.out; omega]); go_wp2; go_ret; exact ⟨rfl, by rw [← HE.out]; exact HJ.out, HK.out⟩
set_option maxRecDepth 100000 in
theorem p_search (a0 a1 a2 a3 a4 : Value) (q : Option Addr) (c bR bY bs l n0 kx N : Nat) (t : List Int) (we : World) (hRD : RdI we q t) (ht : Tth t) (hs : Sk n0 kx bR bY bs we) (M : Int) (hM : M ≤ 1000000)
    (J : List Int → World → Prop) (hJB : ∀ pre W W', J pre W → Below W.heap.size W W' → J pre W') (hY : YieldOk n0 kx N (fun x => 1 ≤ x ∧ x ≤ M) l J) :
    ∀ (d k : Nat) (now : Int) (pre : List Int) (W : World), k ≤ t.length → 1 ≤ now → now * 60 ^ d ≤ M → Sy a0 a1 a2 a3 a4 q t.length c bR bY bs l we W → n0 ≤ W.heap.size → J pre W → pre.length + (prdF t d k now).length ≤ N →
      Calls Tryz.prog 122 #[.int .i64 k, .int .i64 d, .int .i64 now, .pointer (some ⟨bY, 0, none⟩), .pointer (some ⟨bR, 0, none⟩), .pointer (some ⟨bs, 0, none⟩)] W (PrPost n0 kx (prdF t d k now) J pre W) := by
  intro d
  induction d with
  | zero =>
    intro k now pre W hk h1 h2 hW hn0 hj hN; exact (callsIn_wide (n := 1)).1 (p_end 1 (by omega) a0 a1 a2 a3 a4 q t.length c bR bY bs l n0 kx N we _ J hY k now pre W ⟨h1, by simpa using h2⟩ hW hj (by simpa [prdF] using hN))
  | succ d ih =>
    intro k now pre W hk h1 h2 hW hn0 hj hN; exact p_node a0 a1 a2 a3 a4 q c bR bY bs l n0 kx N t we hRD ht hs J hJB M hM d k now pre W hk h1 h2 hW hn0 hj hN ih
end Go.Proofs.YtchclaipbahiiaaGreat
end

section
namespace Go.Proofs.YtchclaipbahiiaaGreat
open Go Go.RowKit Go.Proofs
set_option linter.unusedVariables false
attribute [local go_sem] imax2 imin2
theorem gi_self (a : List Int) (n : Int) : inV a ++ [Value.int .i64 n] = inV (a ++ [n]) := by rw [inV_append]; rfl
end Go.Proofs.YtchclaipbahiiaaGreat
end

section
namespace Go.Proofs.YtchclaipbahiiaaGreat
open Go Go.RowKit Go.Proofs Go.Shelf
set_option linter.unusedVariables false
attribute [local go_sem] Oper.semAt_some imax2 imin2

end Go.Proofs.YtchclaipbahiiaaGreat
end

section
namespace Go.Proofs.YtchclaipbahiiaaGreat
open Go Go.RowKit Go.Proofs Go.Shelf
set_option linter.unusedVariables false
set_option linter.unusedSimpArgs false
attribute [local go_sem] Oper.semAt_some imax2 imin2
theorem prdF_in {t : List Int} (ht : Tth t) {M : Int} : ∀ (d k : Nat) (now : Int), 1 ≤ now → now * 60 ^ d ≤ M → ∀ x ∈ prdF t d k now, 1 ≤ x ∧ x ≤ M := by
  intro d
  induction d with
  | zero =>
    intro k now h1 h2 x hx; rw [prdF, List.mem_singleton] at hx; subst hx; exact ⟨h1, by simpa using h2⟩
  | succ d ih =>
    intro k now h1 h2 x hx; rw [prdF] at hx; obtain ⟨i, hi, hx⟩ := List.mem_flatMap.1 hx; have hi' : i < t.length := by have := List.mem_range'_1.1 hi; omega
    obtain ⟨g1, g2⟩ := ht.2 i hi'; have e : now * 60 ^ (d + 1) = (now * 60) * 60 ^ d := by rw [Int.pow_succ, Int.mul_assoc, Int.mul_comm 60 (60 ^ d)]
    rw [e] at h2; have hp : 0 ≤ (60 : Int) ^ d := Int.le_of_lt (Int.pow_pos (by decide)); refine ih i (now * gi t i) ?_ (Int.le_trans (Int.mul_le_mul_of_nonneg_right (Int.mul_le_mul_of_nonneg_left g2 (by omega)) hp) h2) x hx; have := Int.mul_le_mul_of_nonneg_left (a := 1) (b := gi t i) (c := now) g1 (by omega); omega
set_option maxHeartbeats 1600000 in
set_option maxRecDepth 100000 in
theorem products_seq (n : Nat) (hn : 2 ≤ n) (a0 a1 a2 a3 a4 : Value) (q : Option Addr) (c bR bN n0 kx d : Nat) (t : List Int) (we w : World) (hRD : RdI we q t) (ht : Tth t) (M : Int) (hM : M ≤ 1000000) (hd : (60 : Int) ^ d ≤ M) (hn0 : n0 ≤ w.heap.size)
    (hkr : w.heap[bR]? = some (.cells #[a0, a1, a2, a3, a4, .slice q t.length c] 89 (0, 0))) (hkn : w.cell? ⟨bN, 0, none⟩ = some (.int .i64 d)) (hbk : bR ≠ kx) (hkx : kx < n0) (hwe : we.heap.size ≤ kx) (hb : Below we.heap.size we w) :
    SeqMem Fence.wide n Tryz.prog 121 #[.pointer (some ⟨bR, 0, none⟩), .pointer (some ⟨bN, 0, none⟩)] (fun x : Int => #[.int .i64 x]) (KpT n0 kx) (fun x _ => 1 ≤ x ∧ x ≤ M) (fun xs => xs = prodsL t d) (prodsL t d).length w := by
  intro l J W hW hJ hY h0; have hJB : ∀ pre W1 W2, J pre W1 → Below W1.heap.size W1 W2 → J pre W2 := fun pre W1 W2 h b => hJ pre W1 W2 none h ⟨b.os, b.tape, b.output, b.size, fun i hi _ => b.block i hi⟩ (fun r e => by cases e)
  have hYY : YieldOk n0 kx (prodsL t d).length (fun x => 1 ≤ x ∧ x ≤ M) l J := fun m pre x W1 h1 h2 h3 => YieldAt.anyDepth rfl m (hY pre x W1 h1 h2 h3)
  have hsz := hW.size; obtain ⟨w1, e1, HS1, y0, yf, b1⟩ := box1 W (.func (.yield l) #[] #[]) 97; have ky := alloc_new W (.cells #[.func (.yield l) #[] #[]] 97); rw [e1] at ky; obtain ⟨w2, e2, HS2, s0, sf, b2⟩ := box1 w1 .nilFunc 72; have ks := alloc_new w1 (.cells #[.nilFunc] 72); rw [e2] at ks; have fs : w2.frozen? ⟨w1.heap.size, 0, none⟩ = false := frozen_of_row _ _ _ _ _ ks; obtain ⟨F, hF⟩ : ∃ F : Value, Value.func (.func 122) #[] #[.pointer (some ⟨W.heap.size, 0, none⟩), .pointer (some ⟨bR, 0, none⟩), .pointer (some ⟨w1.heap.size, 0, none⟩)] = F := ⟨_, rfl⟩; obtain ⟨w3, s3⟩ : ∃ w3, w2.setCell ⟨w1.heap.size, 0, none⟩ F = w3 := ⟨_, rfl⟩; have ks3 : w3.heap[w1.heap.size]? = some (.cells #[F] 72 (0, 0)) := by rw [← s3, heap_setCell_same w2 w1.heap.size 0 _ _ _ ks]; rfl
  have b3 : Below w1.heap.size w1 w3 := by rw [← s3]; exact b2.setCell (Nat.le_refl _) _
  have bW : Below W.heap.size W w3 := b1.trans (b3.mono b1.size); have c3 : w3.cell? ⟨w1.heap.size, 0, none⟩ = some F := by rw [cell_of_row _ _ _ _ _ _ ks3]; rfl
  have n3 : w3.cell? ⟨bN, 0, none⟩ = some (.int .i64 d) := by
    have h1 := (hW.cell (lt_of_cellq hkn)).trans hkn; exact (bW.cell (lt_of_cellq h1)).trans h1
  have hk3 := (bW.block bR (by have := block_lt hkr; omega)).trans ((hW.block bR (block_lt hkr)).trans hkr); have hz1 := HS1.out; have hSx : Sy a0 a1 a2 a3 a4 q t.length c bR W.heap.size w1.heap.size l we w3 := ⟨hk3, (b3.block _ (block_lt ky)).trans ky, by rw [ks3, ← hF], hb.trans ((hW.mono hb.size).trans (bW.mono (by have := hb.size; omega)))⟩; have hSk : Sk n0 kx bR W.heap.size w1.heap.size we := ⟨hbk, by omega, by omega, hkx, hwe⟩; have hcl := p_search a0 a1 a2 a3 a4 q c bR W.heap.size w1.heap.size l n0 kx (prodsL t d).length t we hRD ht hSk M hM J hJB hYY d 0 1 [] w3 (Nat.zero_le _) (Int.le_refl _) (by rw [Int.one_mul]; exact hd) hSx (by have := bW.size; omega) (hJB _ _ _ h0 bW) (by unfold prodsL; simp); have hin := prdF_in ht (M := M) d 0 1 (Int.le_refl _) (by rw [Int.one_mul]; exact hd); have HIN := Lib.hid hin; have hd1 : 1 ≤ n - 1 := by omega
  clear hSx hSk hk3 bW b3 ks3 ks ky hJB hYY hY hJ h0 hz1 b1 b2 hkr hb hRD hW hsz hwe hkx hbk hn0 hkn hin hd hM ht; rw [← hF] at s3 c3; subst hF; show CallsIn Fence.wide n Tryz.prog 121 #[.func (.yield l) #[] #[], .pointer (some ⟨bR, 0, none⟩), .pointer (some ⟨bN, 0, none⟩)] W _; refine callsIn_of_wp Tryz.func121 rfl trivial ?_ rfl; simp only [Tryz.ntmps121, List.size_toArray, List.length_cons, List.length_nil, Nat.reduceAdd, Nat.reduceSub, Array.replicate_succ, Array.replicate_zero, List.push_toArray, List.append_toArray, List.nil_append, List.cons_append]
  gi_wp2_with fail
  refine ⟨trivial, fun _ => (by omega), ?_⟩; refine (callsIn_wide.2 hcl).mono ?_; clear hcl; rintro e w4 ⟨rfl, hj4, hk4⟩; have H2 := Lib.hid hj4; clear hj4 hk4
  gi_wp2
  go_end0
  exact ⟨⟨_, rfl⟩, prodsL t d, rfl, by have := H2.out; rw [List.nil_append] at this; exact this, HIN.out⟩
theorem t_products (a0 a1 a2 a3 a4 a5 : Value) (d : Int) (w : World) :
    Calls Tryz.prog 76 #[.agg #[a0, a1, a2, a3, a4, a5], .int .i64 d] w fun e w' => e = .returned (.func (.func 121) #[] #[.pointer (some ⟨w.heap.size, 0, none⟩), .pointer (some ⟨w.heap.size + 1, 0, none⟩)]) ∧
      (w.alloc (.cells #[a0, a1, a2, a3, a4, a5] 89)).alloc (.cells #[.int .i64 d] 3) = w' := by
  go_enter Tryz.func76, Tryz.ntmps76
  go_wp2; go_ret; exact ⟨rfl, rfl⟩
end Go.Proofs.YtchclaipbahiiaaGreat
end

section
namespace Go.Proofs.YtchclaipbahiiaaGreat
open Go Go.RowKit Go.Proofs Go.Shelf
set_option linter.unusedVariables false
def KpP (n0 kx : Nat) (w w' : World) : Prop := BelX (fun x => x = kx) n0 w w' ∧ ∀ (b : Nat) (cur : Array Value) (ty : TypeId) (fr : Nat × Nat), w.heap[b]? = some (.cells cur ty fr) → b ≠ kx → ty ≠ 99 → w'.heap[b]? = w.heap[b]?
theorem KpP.refl (n0 kx : Nat) (w : World) : KpP n0 kx w w := ⟨BelX.refl _ _ _, fun _ _ _ _ _ _ _ => rfl⟩
theorem KpP.trans {n0 kx : Nat} {a b c : World} (h : KpP n0 kx a b) (k : KpP n0 kx b c) : KpP n0 kx a c :=
  ⟨h.1.trans k.1, fun b cur ty fr hb h1 h2 => by
    have e := h.2 b cur ty fr hb h1 h2; exact (k.2 b cur ty fr (e.trans hb) h1 h2).trans e⟩
theorem KpP.of_below {n0 kx : Nat} {w w' : World} (h : Below w.heap.size w w') (hn : n0 ≤ w.heap.size) : KpP n0 kx w w' :=
  ⟨(belX_of h).mono hn, fun b cur ty fr hb _ _ => h.block b (block_lt hb)⟩
theorem KpP.keeps {n0 kx : Nat} {w w' : World} (h : KpP n0 kx w w') {b : Nat} {cur : Array Value} {ty : TypeId} {fr : Nat × Nat} (hb : w.heap[b]? = some (.cells cur ty fr)) (h1 : b ≠ kx) (h2 : ty ≠ 99) : w'.heap[b]? = some (.cells cur ty fr) :=
  (h.2 b cur ty fr hb h1 h2).trans hb
theorem KpP.own {n0 kx B size n : Nat} {ty : TypeId} {v : Value} {xs : List Value} {w w' : World} (h : KpP n0 kx w w') (hk : kx < B) (h2 : ty ≠ 99) (ho : w.ownsRow B ty size v n xs) : w'.ownsRow B ty size v n xs := by
  refine own_same ho fun g hg => ?_
  rcases ho.2 with ⟨rfl, _⟩ | ⟨g', cap, cur, rfl, hb, hh, _⟩
  · simp [Value.ownBlock] at hg
  · simp [Value.ownBlock] at hg
    subst hg; exact h.2 _ _ _ _ hh (by omega) h2
theorem KpP.below {n0 kx B : Nat} {w w' : World} (h : KpP n0 kx w w') (h1 : B ≤ kx) (h2 : B ≤ n0) : Below B w w' := (h.1.mono h2).below (Nat.le_refl _) (fun x hx => by subst hx; exact h1)
theorem KpP.putObj {n0 kx : Nat} {W : World} {l : Nat} {o o' : Obj} (hn : n0 ≤ l) (hl : W.heap[l]? = some o) (ho : o.isCells = false) : KpP n0 kx W (W.putObj l o') := by
  have hg := grownBy_putObj' W l o'; refine ⟨⟨hg.os, hg.tape, hg.output, hg.size, fun k hk _ => World.putObj_heap_other (by omega)⟩, fun b cur ty fr hb _ _ => World.putObj_heap_other ?_⟩; intro e; subst e; rw [hl] at hb
  cases hb
  cases ho
theorem KpP.setCell {n0 kx : Nat} {a w : World} (h : KpP n0 kx a w) (j : Nat) (v : Value) : KpP n0 kx a (w.setCell ⟨kx, j, none⟩ v) :=
  h.trans ⟨BelX.setCell (X := fun x => x = kx) (BelX.refl _ _ _) (p := ⟨kx, j, none⟩) (.inl rfl) v, fun b cur ty fr hb h1 _ => Below.heap_setCell _ _ _ _ h1⟩
theorem KpP.alloc {n0 kx : Nat} {a w : World} (h : KpP n0 kx a w) (hn : n0 ≤ w.heap.size) (o : Obj) : KpP n0 kx a (w.alloc o) := h.trans (KpP.of_below (below_alloc1 w o) hn)
theorem KpP.grown {n0 kx size n : Nat} {v : Value} {xs : List Value} {W W' : World} (ho : W.ownsRow n0 99 size v n xs) (hn : n0 ≤ W.heap.size) (hg : W.grownBy W' v.ownBlock) : KpP n0 kx W W' := by
  have key : ∀ j, v.ownBlock = some j → n0 ≤ j ∧ ∃ cur fr, W.heap[j]? = some (.cells cur 99 fr) := by
    intro j hj
    rcases ho.2 with ⟨rfl, _⟩ | ⟨g', cap, cur, rfl, hb, hh, _⟩
    · simp [Value.ownBlock] at hj
    · simp [Value.ownBlock] at hj
      subst hj; exact ⟨hb, _, _, hh⟩
  refine ⟨⟨hg.os, hg.tape, hg.output, hg.size, fun k hk _ => hg.block k (by omega) (fun e => by have := (key k e.symm).1; omega)⟩, fun b cur ty fr hb _ h2 => hg.block b (block_lt hb) (fun e => ?_)⟩; obtain ⟨_, cur', fr', h⟩ := key b e.symm; rw [hb] at h
  cases h
  exact h2 rfl
def PpPost (n0 kx : Nat) (xs : List Int) (J : List Int → World → Prop) (pre : List Int) (W : World) (e : Ending) (W' : World) : Prop :=
  e = .returned (.bool true) ∧ J (pre ++ xs) W' ∧ KpP n0 kx W W'
def YpOk (n0 kx N : Nat) (Px : Int → Prop) (l : Nat) (J : List Int → World → Prop) : Prop :=
  ∀ m pre x W1, J pre W1 → Px x → pre.length < N → YieldAt Fence.wide m Tryz.prog l #[.int .i64 x] W1 fun e W' => e = .returned (.bool true) ∧ J (pre ++ [x]) W' ∧ KpP n0 kx W1 W'
end Go.Proofs.YtchclaipbahiiaaGreat
end
