/-
  The nearest train of a rule: contract.
  The document's pairs, and its train of an arbor: contracts.
  The document's check of a shop's piece: contract.
  The references' comparisons of lists of numbers and of spans.
  The references' words on what is as defined, and short lists: contracts.
  The references' word on what a piece is: contract.
  Known, Plays, all arguments: contracts (printed by slkknown.py).
  By how much the crank can be turned on, and back, before an arbor moves; arbors, places and limits: contracts.
  By how much the crank can be turned on, and back, before an arbor moves: contract of the method.
  over, for whatever function of a truth: contract.
  What each truth has of lost motion, of the crank turned on and back, of a move: contracts of the closures.
  What each truth has of a move more: contract of the closure (printed by slkclos.py).
  What is a hand: contracts (printed by slkhand.py).
  What is a hand, in the document's words; a number rounded down: contracts.
  Small functions of the top statements, and the document's check of a train: contracts.
  Quotients, sums, ways of the sky: contracts.
  Where the bodies of a sky are: contracts.
  How far the moon is ahead of the sun: contract.
  Whether the moon is new: contract.
  The days of a sky: an iterator: contract.
  A sky that is as defined: contracts.
  The next new moon: contract.
  The example of a sky, and its first new moon: contracts.
  The examples of a rule, a fraction, a train: contracts.
  The examples that the top statements ask for: contract.
  TopCuttable, plain: products of some wheels, sorted; a train is found for whatever two products.
-/
import Derived.Test.YtchclaipbahiiaaGreatFZT21
import Derived.Test.YtchclaipbahiiaaGreatFZT22
import Derived.Test.YtchclaipbahiiaaGreatFZT23
import Derived.Test.YtchclaipbahiiaaGreatFZT25
section
namespace Go.Proofs.YtchclaipbahiiaaGreat
open Go Go.RowKit Go.Proofs
set_option linter.unusedVariables false
set_option linter.unusedSimpArgs false
attribute [local go_sem] imax2 imin2
theorem tth_ok {lo hi pr se : Int} {nv : List Int} (h : RuleOk lo hi pr se nv) : Tth (tthF lo hi nv) := by
  refine ⟨?_, fun i hi' => ?_⟩
  · unfold tthF
    have h1 := List.length_filter_le (fun n => !nv.contains n) (rng lo hi); have h2 := rng_len lo hi; have := h.flo; have := h.fhi; omega
  · rw [gi_of hi']
    have hm := List.getElem_mem hi'; unfold tthF at hm; have h1 := (mem_rng).1 (List.mem_filter.1 hm).1; unfold tthF; have := h.flo; have := h.fhi; omega
def NstPost (o : Option (List (Int × Int))) (w : World) (e : Ending) (w' : World) : Prop :=
  (match o with
    | none => e = .returned (.tuple #[.slice none 0 0, .int .i64 5])
    | some l => ∃ q c, e = .returned (.tuple #[.slice q l.length c, .int .i64 0]) ∧ RdS w' q l) ∧ Below w.heap.size w w'
set_option maxHeartbeats 1600000 in
set_option maxRecDepth 100000 in
theorem t_Nearest (lo hi pr se : Int) (p : Option Addr) (cap : Nat) (nv : List Int) (f1 f2 : Int) (w : World) (hx : RdI w p nv) (h : RuleOk lo hi pr se nv) (h1 : 0 ≤ f1 ∧ f1 ≤ 50000) (h2 : 1 ≤ f2 ∧ f2 ≤ 50000) :
    Calls Tryz.prog 9 #[.agg #[.int .i64 lo, .int .i64 hi, .int .i64 pr, .int .i64 se, .slice p nv.length cap], .agg #[.int .i64 f1, .int .i64 f2]] w (NstPost (nrstF (tthF lo hi nv) se pr.toNat (f1, f2)) w) := by
  obtain ⟨P, rfl⟩ : ∃ P : Nat, pr = (P : Int) := ⟨pr.toNat, by have := h.fpr; omega⟩; rw [Int.toNat_natCast]; obtain ⟨w1, e1, HS1, k0, k1, k2, k3, k4, b1⟩ := box5 w (.int .i64 lo) (.int .i64 hi) (.int .i64 P) (.int .i64 se) (.slice p nv.length cap) 25; obtain ⟨w2, e2, HS2, f0, f0', b2⟩ := box2 w1 (.int .i64 f1) (.int .i64 f2) 27; have k0 := (b2.cell (lt_of_cellq k0)).trans k0; have k1 := (b2.cell (lt_of_cellq k1)).trans k1; have k2 := (b2.cell (lt_of_cellq k2)).trans k2; have k3 := (b2.cell (lt_of_cellq k3)).trans k3; have k4 := (b2.cell (lt_of_cellq k4)).trans k4; have hB2 := b1.trans (b2.mono b1.size); have HX := Lib.hid (hx.below hB2); have HB := Lib.hid hB2; have HR := Lib.hid h; have HF := Lib.hid (And.intro h1 h2); have hfr := fun W => t_isFraction f1 f2 W
  rw [show (inB f1 0 50000 && inB f2 1 50000) = true by rw [inB_iff.2 h1, inB_iff.2 h2]; rfl] at hfr; have HFR := Lib.hid hfr; clear hx h h1 h2 b1 b2 hB2 hfr
  go_enter Tryz.func9, Tryz.ntmps9
  go_wp2_with fail; refine (t_isRule lo hi P se p cap nv _ HX.out HR.out).mono ?_; rintro e w3 ⟨rfl, b3⟩; have HX3 := Lib.hid (HX.out.below b3); have HB3 := Lib.hid (HB.out.trans (b3.mono HB.out.size)); have k0 := (b3.cell (lt_of_cellq k0)).trans k0; have k1 := (b3.cell (lt_of_cellq k1)).trans k1; have k2 := (b3.cell (lt_of_cellq k2)).trans k2; have k3 := (b3.cell (lt_of_cellq k3)).trans k3; have k4 := (b3.cell (lt_of_cellq k4)).trans k4; have f0 := (b3.cell (lt_of_cellq f0)).trans f0; have f0' := (b3.cell (lt_of_cellq f0')).trans f0'; clear b3 e1 e2; go_wp2_with fail; refine (HFR.out _).mono ?_; rintro e w4 ⟨rfl, b4⟩; have HX4 := Lib.hid (HX3.out.below b4); have HB4 := Lib.hid (HB3.out.trans (b4.mono HB3.out.size)); have k0 := (b4.cell (lt_of_cellq k0)).trans k0; have k1 := (b4.cell (lt_of_cellq k1)).trans k1; have k2 := (b4.cell (lt_of_cellq k2)).trans k2; have k3 := (b4.cell (lt_of_cellq k3)).trans k3
  have k4 := (b4.cell (lt_of_cellq k4)).trans k4; have f0 := (b4.cell (lt_of_cellq f0)).trans f0; have f0' := (b4.cell (lt_of_cellq f0')).trans f0'; clear b4; go_upto_region 3 with (fail); have HSB := Lib.hid (cl7 k0 k1 k2 k3 k4 f0 f0'); refine held7 k0 k1 k2 k3 k4 f0 f0' (fun W0 HB0 => ?_); clear k0 k1 k2 k3 k4 f0 f0'; refine tk 0 rfl (by exact HSB.out _ HB0) ?_; (try simp only [Act.put, ptL]); refine tk 3 rfl (by exact HSB.out _ HB0) ?_; (try simp only [Act.put, ptL]); refine rz1 1 rfl ?_; intro K hK; go_simp; refine (t_ruled lo hi P se p cap nv W0 (HX4.out.below HB0) HR.out).mono ?_; rintro e W1 ⟨qt, ct, rfl, hrt, c1⟩; have HB1 := HB0.trans (c1.mono HB0.size); refine kz hK (by exact HSB.out _ HB1) ?_; clear hK K; (try simp only [Act.put, ptL]); obtain ⟨t, ht⟩ : ∃ t, tthF lo hi nv = t := ⟨_, rfl⟩; have hth := tth_ok HR.out; rw [ht] at hrt hth ⊢; refine rz1 2 rfl ?_; intro K hK; go_simp
  refine (t_prepared lo hi se p nv.length cap P qt ct t W1 hrt hth (by have := HR.out.fpr; omega)).mono ?_; rintro e W2 ⟨qs, cs, qm, cm, rfl, hrs, hrm, c2⟩; have HB2 := HB1.trans (c2.mono HB1.size); refine kz hK (by exact HSB.out _ HB2) ?_; clear hK K; (try simp only [Act.put, ptL]); refine rz1 4 rfl ?_; intro K hK; go_simp; refine (t_nearestW lo hi se P p nv.length cap qt ct t qs cs qm cm f1 f2 W2 (hrt.below c2) hrs hrm hth (by have := HR.out.fpr; omega) HR.out.fse HF.out.1 HF.out.2).mono ?_; rintro e W3 ⟨v, rfl, hv, c3⟩; have HB3' := HB2.trans (c3.mono HB2.size); have HEND := Lib.hid (HB4.out.trans (HB3'.mono HB4.out.size))
  cases hoo : nrstF t se P (f1, f2) with
  | none =>
    rw [hoo] at hv; have hv' : v = .slice none 0 0 := hv; subst hv'; have HOO := Lib.hid (show nrstF (tthF lo hi nv) se P (f1, f2) = none by rw [ht]; exact hoo); refine kz hK (by exact HSB.out _ HB3') ?_; clear hK K; (try simp only [Act.put, ptL]); refine tk 5 rfl (by exact HSB.out _ HB3') ?_; (try simp only [Act.put, ptL]); refine tk 6 rfl (by exact HSB.out _ HB3') ?_; (try simp only [Act.put, ptL]); refine tk 7 rfl (by exact HSB.out _ HB3') ?_; (try simp only [Act.put, ptL]); refine tk 8 rfl (by exact HSB.out _ HB3') ?_; (try simp only [Act.put, ptL]); refine tk 9 rfl (by exact HSB.out _ HB3') ?_; (try simp only [Act.put, ptL]); refine wpAnyH_done (by kernel_rfl) ?_ _; clear hv hoo HSB HB0 HB1 HB2 HB3' c1 c2 c3 hrt hrs hrm; go_wp2; refine bodyPost_ret (v := .tuple #[.slice none 0 0, .int .i64 5]) (by simp [results, Tryz.results9, go_sem]) rfl ?_; unfold NstPost; rw [HOO.out]; exact ⟨rfl, HEND.out⟩
  | some l =>
    rw [hoo] at hv; obtain ⟨qv, cv, rfl, hrv, _⟩ := hv; have HOO := Lib.hid (show nrstF (tthF lo hi nv) se P (f1, f2) = some l by rw [ht]; exact hoo); have HRV := Lib.hid hrv; obtain ⟨nl, hnl⟩ : ∃ n, l.length = n := ⟨_, rfl⟩; have HNL := Lib.hid hnl; rw [hnl]; refine kz hK (by exact HSB.out _ HB3') ?_; clear hK K; (try simp only [Act.put, ptL]); refine tk 5 rfl (by exact HSB.out _ HB3') ?_; (try simp only [Act.put, ptL]); refine tk 6 rfl (by exact HSB.out _ HB3') ?_; (try simp only [Act.put, ptL]); refine tk 7 rfl (by exact HSB.out _ HB3') ?_; (try simp only [Act.put, ptL]); refine tk 8 rfl (by exact HSB.out _ HB3') ?_; (try simp only [Act.put, ptL]); refine tk 9 rfl (by exact HSB.out _ HB3') ?_; (try simp only [Act.put, ptL]); refine wpAnyH_done (by kernel_rfl) ?_ _; clear hoo HSB HB0 HB1 HB2 HB3' c1 c2 c3 hrt hrs hrm hrv hnl; go_wp2; refine bodyPost_ret (v := .tuple #[.slice qv nl cv, .int .i64 0]) (by simp [results, Tryz.results9, go_sem]) rfl ?_
    unfold NstPost; rw [HOO.out]; exact ⟨⟨qv, cv, by rw [HNL.out], HRV.out⟩, HEND.out⟩
def LkTo (ls : List (Int × Int × Int)) (a : Nat) : Prop := ∀ j : Nat, j < a → 0 ≤ (gk ls j).1 ∧ (gk ls j).1 ≤ j
structure LkGd (ls : List (Int × Int × Int)) (k : Nat) : Prop where
  frm : LkTo ls k
  one : ∀ i : Nat, i < k → 4 ≤ (gk ls i).2.1 ∧ (gk ls i).2.1 ≤ 60
  two : ∀ i : Nat, i < k → 4 ≤ (gk ls i).2.2 ∧ (gk ls i).2.2 ≤ 60
  len : ∀ i : Nat, i < k → (trnF ls (i + 1)).length ≤ 3
end Go.Proofs.YtchclaipbahiiaaGreat
end

section
namespace Go.Proofs.YtchclaipbahiiaaGreat
open Go Go.RowKit Go.Proofs
set_option linter.unusedVariables false
attribute [local go_sem] imax2 imin2

end Go.Proofs.YtchclaipbahiiaaGreat
end

section
namespace Go.Proofs.YtchclaipbahiiaaGreat
open Go Go.RowKit Go.Proofs
set_option linter.unusedVariables false
set_option linter.unusedSimpArgs false
attribute [local go_sem] imax2 imin2


end Go.Proofs.YtchclaipbahiiaaGreat
end

section
namespace Go.Proofs.YtchclaipbahiiaaGreat
open Go Go.RowKit Go.Proofs
set_option linter.unusedVariables false
attribute [local go_sem] imax2 imin2

theorem RdI.take {w : World} {p : Option Addr} {xs : List Int} (h : RdI w p xs) (a : Nat) : RdI w p (xs.take a) := by
  rcases h with h | ⟨b, off, rfl, hc⟩
  · exact .inl (by rw [h]; simp)
  · refine .inr ⟨b, off, rfl, fun i hi => ?_⟩
    rw [List.length_take] at hi; have := hc i (by omega); rw [this]
    congr 2
    unfold gi; rw [List.getD_eq_getElem?_getD, List.getD_eq_getElem?_getD, List.getElem?_take_of_lt (by omega)]
theorem PlOk.take {pl : List Int} (h : PlOk pl) (a : Nat) : PlOk (pl.take a) := by
  refine ⟨by have := h.len; rw [List.length_take]; omega, fun i hi => ?_⟩; rw [List.length_take] at hi; have := h.in' i (by omega)
  have e : gi (pl.take a) i = gi pl i := by
    unfold gi; rw [List.getD_eq_getElem?_getD, List.getD_eq_getElem?_getD, List.getElem?_take_of_lt (by omega)]
  rw [e]; exact this





end Go.Proofs.YtchclaipbahiiaaGreat
end

section
namespace Go.Proofs.YtchclaipbahiiaaGreat
open Go Go.RowKit Go.Proofs
set_option linter.unusedVariables false
set_option linter.unusedSimpArgs false
attribute [local go_sem] imax2 imin2

theorem a_in' (x lo hi : Int) (h : inB x lo hi = true) (w : World) : Calls Tryz.prog 24 #[.int .i64 x, .int .i64 lo, .int .i64 hi] w fun e w' => e = .returned (.bool true) ∧ w = w' := by
  have := a_in x lo hi w; rw [h] at this; exact this
set_option maxHeartbeats 1600000 in
set_option maxRecDepth 100000 in
theorem a_Train (p : Option Addr) (c : Nat) (xs : List (Int × Int)) (w : World) (hx : RdS w p xs) (hl : 1 ≤ xs.length ∧ xs.length ≤ 3) (hok : xs.all pairB = true) :
    Calls Tryz.prog 10 #[.slice p xs.length c] w fun e w' => e = .returned (.bool true) ∧ w = w' := by
  have HX := Lib.hid hx
  have HO := Lib.hid (show ∀ i, i < xs.length → inB (gm xs i).1 4 60 = true ∧ inB (gm xs i).2 4 60 = true from fun i hi => by
    have h := List.all_eq_true.1 hok (gm xs i) (by unfold gm; rw [List.getD_eq_getElem?_getD, List.getElem?_eq_getElem hi]; exact List.getElem_mem hi); unfold pairB at h; rw [Bool.and_eq_true] at h; exact h)
  have HL := Lib.hid hl; have hl3 := hl.2; clear hx hok hl
  go_enter Tryz.func10, Tryz.ntmps10
  go_wp2
  go_loopw [3] (fun a wr => ∃ k : Nat, k ≤ xs.length ∧ a = .int .i64 k ∧ w = wr) (fun a _ => xs.length - (intOf a).toNat)
  case atStart => exact ⟨0, Nat.zero_le _, rfl, rfl⟩
  case round =>
    obtain ⟨k, hk, rfl, rfl⟩ := hrel
    by_cases hlt : k < xs.length
    · have hltI : decide ((k : Int) < (xs.length : Int)) = true := decide_eq_true (by omega)
      have hkI : (k : Int) < (xs.length : Int) := by omega
      have hwk : IntKind.i64.wrap ((k : Int) + 1) = (k : Int) + 1 := w64 _ (by omega) (by omega); obtain ⟨b, off, rfl, hc⟩ := HX.out.at hlt; obtain ⟨d0, d1⟩ := hc k hlt; have h1 := fun W => a_teeth (gm xs k).1 W
      have h2 := fun W => a_teeth (gm xs k).2 W
      rw [(HO.out k hlt).1] at h1; rw [(HO.out k hlt).2] at h2; obtain ⟨T1, hT1⟩ : ∃ T1, (gm xs k).1 = T1 := ⟨_, rfl⟩; obtain ⟨T2, hT2⟩ : ∃ T2, (gm xs k).2 = T2 := ⟨_, rfl⟩; rw [hT1] at d0 h1; rw [hT2] at d1 h2; have H1 := Lib.hid h1; have H2 := Lib.hid h2; clear hc hT1 hT2 h1 h2; go_wp2_with fail; refine (H1.out _).mono ?_; rintro e w' ⟨rfl, rfl⟩; go_wp2_with fail; refine (H2.out _).mono ?_; rintro e w' ⟨rfl, rfl⟩; go_wp2; go_roundw
      case rel => exact ⟨k + 1, by omega, by go_num, trivial⟩
      case measure => simp [intOf]; omega
    · obtain rfl : k = xs.length := by omega
      have hltI : decide ((xs.length : Int) < (xs.length : Int)) = false := by simp
      have hin := a_in' (xs.length : Int) 1 3 (inB_iff.2 ⟨by have := HL.out; omega, by omega⟩) w; go_wp2_with fail; refine hin.mono ?_; rintro e w' ⟨rfl, rfl⟩; go_wp2; go_ret; exact ⟨rfl, rfl⟩
set_option maxRecDepth 100000 in
theorem y_floor (a b : Int) (w : World) (hb : 0 < b) (hb2 : b ≤ 100000) (ha : -10000000000000 ≤ a ∧ a ≤ 10000000000000) :
    Calls Tryz.prog 150 #[.int .i64 a, .int .i64 b] w fun e w' => e = .returned (.tuple #[.int .i64 (a / b), .int .i64 (a % b)]) ∧ Below w.heap.size w w' := by
  obtain ⟨ha1, ha2⟩ := ha; have hb0 : ¬ b = 0 := by omega
  have hd := tdiv_down (a := a) hb; have h2 := Int.tmod_lt_of_pos a hb
  have h3 : -10000000000000 ≤ a / b ∧ a / b ≤ 10000000000000 := by
    have e1 := Int.mul_ediv_add_emod a b; have e2 := Int.emod_nonneg a hb0; have e3 := Int.emod_lt_of_pos a hb; refine ⟨?_, ?_⟩
    · exact Int.le_ediv_of_mul_le hb (by have : (-10000000000000 : Int) * b ≤ -10000000000000 * 1 := Int.mul_le_mul_of_nonpos_left (by omega) (by omega); omega)
    · exact Int.ediv_le_of_le_mul hb (by have : (10000000000000 : Int) * 1 ≤ 10000000000000 * b := Int.mul_le_mul_of_nonneg_left (by omega) (by omega); omega)
  have h4 := Int.emod_nonneg a hb0; have h5 := Int.emod_lt_of_pos a hb; obtain ⟨h31, h32⟩ := h3
  by_cases h : a.tmod b < 0
  · rw [if_pos h, if_pos h] at hd
    obtain ⟨hd1, hd2⟩ := hd; have HD := Lib.hid (And.intro hd1 hd2); have w1 : IntKind.i64.wrap (a.tdiv b) = a.tdiv b := w64 _ (by omega) (by omega); have w2 : IntKind.i64.wrap (a.tmod b) = a.tmod b := w64 _ (by omega) (by omega); have w3 : IntKind.i64.wrap (a.tdiv b - 1) = a.tdiv b - 1 := w64 _ (by omega) (by omega); have w4 : IntKind.i64.wrap (a.tmod b + b) = a.tmod b + b := w64 _ (by omega) (by omega); clear hd1 hd2 h31 h32 h4 h5 h2; rw [HD.out.1, HD.out.2]
    go_enter Tryz.func150, Tryz.ntmps150
    go_wp2
    go_quiet (fail)
    go_wp2; refine bodyPost_ret (v := .tuple #[.int .i64 (a.tdiv b - 1), .int .i64 (a.tmod b + b)]) (by simp [results, Tryz.results150, go_sem]) rfl ?_; exact ⟨rfl, below_drewN (Below.refl _ _) _⟩
  · rw [if_neg h, if_neg h] at hd
    obtain ⟨hd1, hd2⟩ := hd; have HD := Lib.hid (And.intro hd1 hd2); have w1 : IntKind.i64.wrap (a.tdiv b) = a.tdiv b := w64 _ (by omega) (by omega); have w2 : IntKind.i64.wrap (a.tmod b) = a.tmod b := w64 _ (by omega) (by omega); clear hd1 hd2 h31 h32 h4 h5 h2; rw [HD.out.1, HD.out.2]
    go_enter Tryz.func150, Tryz.ntmps150
    go_wp2
    go_quiet (fail)
    go_wp2; refine bodyPost_ret (v := .tuple #[.int .i64 (a.tdiv b), .int .i64 (a.tmod b)]) (by simp [results, Tryz.results150, go_sem]) rfl ?_; exact ⟨rfl, below_drewN (Below.refl _ _) _⟩
theorem y_around (a : Int) (w : World) (ha : -10000000000000 ≤ a ∧ a ≤ 10000000000000) : Calls Tryz.prog 165 #[.int .i64 a] w fun e w' => e = .returned (.int .i64 (a % 21600)) ∧ Below w.heap.size w w' := by
  have h := y_floor a 21600 w (by decide) (by decide) ha; clear ha
  go_enter Tryz.func165, Tryz.ntmps165
  go_wp2_with fail; refine h.mono ?_; clear h; rintro e w' ⟨rfl, b⟩; have HB := Lib.hid b; clear b; go_wp2; go_ret; exact ⟨rfl, HB.out⟩
set_option maxRecDepth 100000 in
theorem y_sum (p : Option Addr) (cap : Nat) (xs : List Int) (w : World) (hx : RdI w p xs) (hl : xs.length ≤ 1000) (hm : ∀ k, k ≤ xs.length → Mid (sumT xs k)) :
    Calls Tryz.prog 166 #[.slice p xs.length cap] w fun e w' => e = .returned (.int .i64 (sumT xs xs.length)) ∧ w = w' := by
  have HX := Lib.hid hx; have HM := Lib.hid hm; clear hx hm
  go_enter Tryz.func166, Tryz.ntmps166
  go_wp2
  go_loopw [3, 8] (fun v i wr => ∃ k : Nat, k ≤ xs.length ∧ i = .int .i64 k ∧ v = .int .i64 (sumT xs k) ∧ w = wr) (fun _ i _ => xs.length - (intOf i).toNat)
  case atStart => exact ⟨0, Nat.zero_le _, rfl, rfl, rfl⟩
  case round =>
    obtain ⟨k, hk, rfl, rfl, rfl⟩ := hrel
    by_cases hlt : k < xs.length
    · have hltI : decide ((k : Int) < (xs.length : Int)) = true := by simp; omega
      obtain ⟨b, off, rfl, hc⟩ := HX.out.at hlt; have d0 := hc k hlt; have HS := Lib.hid (show sumT xs (k + 1) = sumT xs k + gi xs k from rfl); have hmm := HM.out (k + 1) (by omega); rw [HS.out] at hmm; unfold Mid at hmm; obtain ⟨P, hP⟩ : ∃ P, sumT xs k = P := ⟨_, rfl⟩; obtain ⟨x, hxx⟩ : ∃ x, gi xs k = x := ⟨_, rfl⟩; rw [hP, hxx] at HS hmm; rw [hxx] at d0; rw [hP]; have hw : IntKind.i64.wrap (P + x) = P + x := w64 _ (by omega) (by omega); clear hP hxx hc; go_wp2; go_roundw
      case rel => exact ⟨k + 1, by omega, by go_num, by rw [HS.out], trivial⟩
      case measure => simp [intOf]; omega
    · obtain rfl : k = xs.length := by omega
      have hltI : decide ((xs.length : Int) < (xs.length : Int)) = false := by simp
      go_wp2; go_ret; exact ⟨rfl, rfl⟩
theorem y_passes (a b : Int) (w : World) (ha : -10000000000000 ≤ a ∧ a ≤ 10000000000000) (hb : -10000000000000 ≤ b ∧ b ≤ 10000000000000) : Calls Tryz.prog 118 #[.int .i64 a, .int .i64 b] w fun e w' => e = .returned (.bool (decide (b / 21600 > a / 21600))) ∧ Below w.heap.size w w' := by
  have h := y_floor a 21600 w (by decide) (by decide) ha; have HB2 := Lib.hid (fun W => y_floor b 21600 W (by decide) (by decide) hb); clear ha hb
  go_enter Tryz.func118, Tryz.ntmps118
  go_wp2_with fail; refine h.mono ?_; clear h; rintro e w1 ⟨rfl, b1⟩; have HB := Lib.hid b1; clear b1; go_wp2_with fail; refine (HB2.out _).mono ?_; rintro e w2 ⟨rfl, b2⟩; have HBB := Lib.hid (HB.out.trans (b2.mono HB.out.size)); clear b2; go_wp2; go_ret; exact ⟨rfl, HBB.out⟩
def goneF (num den day : Int) : Int := day * 21600 * den / num
set_option maxRecDepth 100000 in
theorem y_gone (v0 v1 v2 v3 : Value) (day num den : Int) (w : World) (hd : 0 ≤ day ∧ day ≤ 20000) (hn : 1 ≤ num ∧ num ≤ 10000) (hde : 1 ≤ den ∧ den ≤ 10000) :
    Calls Tryz.prog 170 #[.agg #[v0, v1, v2, v3, .int .i64 day], .agg #[.int .i64 num, .int .i64 den]] w fun e w' => e = .returned (.int .i64 (goneF num den day)) ∧ Below w.heap.size w w' := by
  obtain ⟨w0, e0, HS0, z0, z1, z2, z3, z4, b0⟩ := box5 w v0 v1 v2 v3 (.int .i64 day) 135; obtain ⟨w1, e1, HS1, x0, x1, b1⟩ := box2 w0 (.int .i64 num) (.int .i64 den) 79; have z4 := (b1.cell (lt_of_cellq z4)).trans z4; have HB := Lib.hid (b0.trans (b1.mono b0.size))
  have hp : 0 ≤ day * 21600 * den ∧ day * 21600 * den ≤ 4320000000000 := ⟨Int.mul_nonneg (by omega) (by omega), by
    have := Int.mul_le_mul_of_nonneg_left (a := den) (b := 10000) (c := day * 21600) hde.2 (by omega); omega⟩
  have HG := Lib.hid (show goneF num den day = day * 21600 * den / num from rfl); obtain ⟨P, hP⟩ : ∃ P, day * 21600 * den = P := ⟨_, rfl⟩; rw [hP] at hp HG; have hw0 : IntKind.i64.wrap (day * 21600) = day * 21600 := w64 _ (by omega) (by omega); have hw1 : IntKind.i64.wrap (day * 21600 * den) = P := by rw [hP]; exact w64 _ (by omega) (by omega)
  have hf := y_floor P num w1 (by omega) (by omega) (by omega); clear hP b0 b1 z0 z1 z2 z3
  go_enter Tryz.func170, Tryz.ntmps170
  go_wp2_with fail; refine hf.mono ?_; clear hf; rintro e w2 ⟨rfl, b2⟩; have HBB := Lib.hid (HB.out.trans (b2.mono HB.out.size)); clear b2; go_wp2; go_ret; exact ⟨by rw [HG.out]; rfl, HBB.out⟩
structure Bd where
  num : Int
  den : Int
  start : Int
  road : List Int
def bd0 : Bd := ⟨1, 1, 0, []⟩
def gb (l : List Bd) (i : Nat) : Bd := l.getD i bd0
def RdBd (w : World) (p : Option Addr) (bs : List Bd) : Prop :=
  ∃ b off, p = some ⟨b, off, none⟩ ∧ ∀ i, i < bs.length → w.cell? ⟨b, off + i * 4, none⟩ = some (.int .i64 (gb bs i).num) ∧ w.cell? ⟨b, off + i * 4 + 1, none⟩ = some (.int .i64 (gb bs i).den) ∧ w.cell? ⟨b, off + i * 4 + 2, none⟩ = some (.int .i64 (gb bs i).start) ∧
    ∃ q c, w.cell? ⟨b, off + i * 4 + 3, none⟩ = some (.slice q (gb bs i).road.length c) ∧ RdI w q (gb bs i).road
theorem RdBd.below {w w' : World} {p : Option Addr} {bs : List Bd} (h : RdBd w p bs) (hb : Below w.heap.size w w') : RdBd w' p bs := by
  obtain ⟨b, off, e, hc⟩ := h; refine ⟨b, off, e, fun i hi => ?_⟩; obtain ⟨h1, h2, h3, q, c, h4, h5⟩ := hc i hi; exact ⟨(hb.cell (lt_of_cellq h1)).trans h1, (hb.cell (lt_of_cellq h2)).trans h2, (hb.cell (lt_of_cellq h3)).trans h3, q, c, (hb.cell (lt_of_cellq h4)).trans h4, h5.below hb⟩
structure BdOk (b : Bd) : Prop where
  num : 1 ≤ b.num ∧ b.num ≤ 10000
  den : 1 ≤ b.den ∧ b.den ≤ 10000
  start : 0 ≤ b.start ∧ b.start ≤ 21599
  len : 1 ≤ b.road.length ∧ b.road.length ≤ 8
  err : ∀ i, i < b.road.length → -600 ≤ gi b.road i ∧ gi b.road i ≤ 600
def meanF (b : Bd) (day : Int) : Int := b.start + goneF b.num b.den day
theorem gone_range {num den day : Int} (hd : 0 ≤ day ∧ day ≤ 20000) (hn : 1 ≤ num ∧ num ≤ 10000) (hde : 1 ≤ den ∧ den ≤ 10000) : 0 ≤ goneF num den day ∧ goneF num den day ≤ 4320000000000 := by
  unfold goneF
  have hp : 0 ≤ day * 21600 * den ∧ day * 21600 * den ≤ 4320000000000 := ⟨Int.mul_nonneg (by omega) (by omega), by
    have := Int.mul_le_mul_of_nonneg_left (a := den) (b := 10000) (c := day * 21600) hde.2 (by omega); omega⟩
  refine ⟨Int.ediv_nonneg hp.1 (by omega), Int.ediv_le_of_le_mul (by omega) ?_⟩; have := Int.mul_le_mul_of_nonneg_left (a := 1) (b := num) (c := 4320000000000) hn.1 (by omega); omega
set_option maxHeartbeats 1600000 in
set_option maxRecDepth 100000 in
theorem y_mean (p : Option Addr) (c : Nat) (bs : List Bd) (v1 v2 v3 : Value) (day : Int) (k : Nat) (w : World) (hx : RdBd w p bs) (hk : k < bs.length) (hok : BdOk (gb bs k)) (hd : 0 ≤ day ∧ day ≤ 20000) (hl : bs.length ≤ 100) :
    Calls Tryz.prog 164 #[.agg #[.slice p bs.length c, v1, v2, v3, .int .i64 day], .int .i64 k] w fun e w' => e = .returned (.int .i64 (meanF (gb bs k) day)) ∧ Below w.heap.size w w' := by
  obtain ⟨w0, e0, HS0, z0, z1, z2, z3, z4, b0⟩ := box5 w (.slice p bs.length c) v1 v2 v3 (.int .i64 day) 135; obtain ⟨b, off, rfl, hc⟩ := hx.below b0; obtain ⟨d0, d1, d2, q, cq, d3, hr⟩ := hc k hk; have HME := Lib.hid (show meanF (gb bs k) day = (gb bs k).start + goneF (gb bs k).num (gb bs k).den day from rfl); have hgr := gone_range hd hok.num hok.den; have hst := hok.start; have hnu := hok.num; have hde := hok.den; obtain ⟨B, hB⟩ : ∃ B, gb bs k = B := ⟨_, rfl⟩; rw [hB] at d0 d1 d2 d3 hr HME hgr hst hnu hde; rw [hB]; obtain ⟨num, den, start, road⟩ := B; simp only at d0 d1 d2 d3 hr HME hgr hst hnu hde; have HGO := Lib.hid (fun W => y_gone (.slice (some ⟨b, off, none⟩) bs.length c) v1 v2 v3 day num den W hd hnu hde); obtain ⟨G, hG⟩ : ∃ G, goneF num den day = G := ⟨_, rfl⟩; rw [hG] at HME hgr HGO; obtain ⟨w1, e1, HS1, x0, x1, x2, x3, b1⟩ := box4 w0 (.int .i64 num) (.int .i64 den) (.int .i64 start) (.slice q road.length cq) 141
  have hkI : (k : Int) < (bs.length : Int) := by omega
  have HB := Lib.hid (b0.trans (b1.mono b0.size)); have HZ := Lib.hid (cl5 z0 z1 z2 z3 z4 w1 b1); clear hc hx hB hG b1 hok
  go_enter Tryz.func164, Tryz.ntmps164
  go_wp2; clear e0 e1 d0 d1 d2 d3 z0 z1 z2 z3 z4; obtain ⟨z0, z1, z2, z3, z4⟩ := HZ.out; have HSB := Lib.hid (cl8 z0 z1 z2 z3 z4 x0 x1 x2); refine held8 z0 z1 z2 z3 z4 x0 x1 x2 (fun W0 HB0 => ?_); refine tk 0 rfl (by exact HSB.out _ HB0) ?_; (try simp only [Act.put, ptL]); refine tk 1 rfl (by exact HSB.out _ HB0) ?_; (try simp only [Act.put, ptL]); refine tk 2 rfl (by exact HSB.out _ HB0) ?_; (try simp only [Act.put, ptL]); refine tk 3 rfl (by exact HSB.out _ HB0) ?_; (try simp only [Act.put, ptL]); refine tk 4 rfl (by exact HSB.out _ HB0) ?_; (try simp only [Act.put, ptL]); refine rz1 5 rfl ?_; intro K hK; go_simp; refine (HGO.out _).mono ?_; rintro e W1 ⟨rfl, c1⟩; have HB1 := HB0.trans (c1.mono HB0.size); clear c1; refine kz hK (by exact HSB.out _ HB1) ?_; clear hK K; (try simp only [Act.put, ptL]); refine rz1 6 rfl ?_; intro K hK; go_simp; obtain ⟨W2, e2⟩ : ∃ W2, W1.alloc (.cells #[.int .i64 start, .int .i64 G] 3) = W2 := ⟨_, rfl⟩
  rw [e2]; have HB2 : Below w1.heap.size w1 W2 := by rw [← e2]; exact HB1.alloc HB1.size _
  have hsu := y_sum (some ⟨W1.heap.size, 0, none⟩) 2 [start, G] W2 (by rw [← e2]; exact rd_new2 W1 start G 3) (by simp) (fun j hj => by
    match j, hj with
    | 0, _ => show Mid 0; unfold Mid; omega
    | 1, _ => show Mid (0 + start); unfold Mid; omega
    | 2, _ => show Mid (0 + start + G); unfold Mid; omega)
  refine kz hK (by exact HSB.out _ HB2) ?_; clear hK K; (try simp only [Act.put, ptL]); refine rz1 7 rfl ?_; intro K hK; go_simp; refine hsu.mono ?_; clear hsu; rintro e W3 ⟨rfl, hb3⟩; subst hb3; refine kz hK (by exact HSB.out _ HB2) ?_; clear hK K; (try simp only [Act.put, ptL]); refine tk 8 rfl (by exact HSB.out _ HB2) ?_; (try simp only [Act.put, ptL]); refine wpAnyH_done (by kernel_rfl) ?_ _; have HBZ := Lib.hid (HB.out.trans (HB2.mono HB.out.size)); have HS := Lib.hid (show sumT [start, G] 2 = start + G by show 0 + start + G = _; omega); clear HSB HB0 HB1 HB2 z0 z1 z2 z3 z4 x0 x1 x2 x3 e2; go_wp2; go_ret; exact ⟨by rw [HME.out, ← HS.out]; rfl, HBZ.out⟩
def stepY (b : Bd) (m : Int) : Nat := ((m % 21600) * (b.road.length : Int) / 21600).toNat
def partY (b : Bd) (m : Int) : Int := (gi b.road ((stepY b m + 1) % b.road.length) - gi b.road (stepY b m)) * ((m % 21600) * (b.road.length : Int) % 21600) / 21600
def wayF (b : Bd) (day : Int) : Int := meanF b day + gi b.road (stepY b (meanF b day)) + partY b (meanF b day)
set_option maxHeartbeats 3200000 in
set_option maxRecDepth 100000 in
theorem y_way (p : Option Addr) (c : Nat) (bs : List Bd) (v1 v2 v3 : Value) (day : Int) (k : Nat) (w : World) (hx : RdBd w p bs) (hk : k < bs.length) (hok : BdOk (gb bs k)) (hd : 0 ≤ day ∧ day ≤ 20000) (hl : bs.length ≤ 100) :
    Calls Tryz.prog 149 #[.agg #[.slice p bs.length c, v1, v2, v3, .int .i64 day], .int .i64 k] w fun e w' => e = .returned (.int .i64 (wayF (gb bs k) day)) ∧ Below w.heap.size w w' := by
  obtain ⟨w0, e0, HS0, z0, z1, z2, z3, z4, b0⟩ := box5 w (.slice p bs.length c) v1 v2 v3 (.int .i64 day) 135; have hme := y_mean p c bs v1 v2 v3 day k w0 (hx.below b0) hk hok hd hl; obtain ⟨b, off, rfl, hc⟩ := hx.below b0; obtain ⟨d0, d1, d2, q, cq, d3, hr⟩ := hc k hk; have HB := Lib.hid b0
  have hmr : 0 ≤ meanF (gb bs k) day ∧ meanF (gb bs k) day ≤ 4320000021599 := by
    have := gone_range hd hok.num hok.den; have := hok.start; unfold meanF; omega
  have hlen := hok.len; have herr := hok.err; have HW := Lib.hid (show wayF (gb bs k) day = meanF (gb bs k) day + gi (gb bs k).road (stepY (gb bs k) (meanF (gb bs k) day)) + partY (gb bs k) (meanF (gb bs k) day) from rfl); have hst : stepY (gb bs k) (meanF (gb bs k) day) = ((meanF (gb bs k) day % 21600) * ((gb bs k).road.length : Int) / 21600).toNat := rfl; have hpt : partY (gb bs k) (meanF (gb bs k) day) = (gi (gb bs k).road ((stepY (gb bs k) (meanF (gb bs k) day) + 1) % (gb bs k).road.length) - gi (gb bs k).road (stepY (gb bs k) (meanF (gb bs k) day))) * ((meanF (gb bs k) day % 21600) * ((gb bs k).road.length : Int) % 21600) / 21600 := rfl; obtain ⟨m, hm⟩ : ∃ m, meanF (gb bs k) day = m := ⟨_, rfl⟩; rw [hm] at hme hmr HW hst hpt; obtain ⟨s, hs⟩ : ∃ s, stepY (gb bs k) m = s := ⟨_, rfl⟩; rw [hs] at HW hst hpt; obtain ⟨P, hP⟩ : ∃ P, partY (gb bs k) m = P := ⟨_, rfl⟩; rw [hP] at HW hpt; obtain ⟨road, hrd⟩ : ∃ road, (gb bs k).road = road := ⟨_, rfl⟩
  rw [hrd] at HW hst hpt hlen herr hr d3; obtain ⟨L, hL⟩ : ∃ L, road.length = L := ⟨_, rfl⟩; have HR := Lib.hid hr; have HLL := Lib.hid hL; rw [hL] at hst hpt hlen herr d3; obtain ⟨A, hA⟩ : ∃ A, m % 21600 = A := ⟨_, rfl⟩; have hAr : 0 ≤ A ∧ A ≤ 21599 := by omega
  have har := fun W => y_around m W ⟨by omega, by omega⟩
  rw [hA] at hst hpt har; have hAL : 0 ≤ A * (L : Int) ∧ A * (L : Int) ≤ 21599 * L := ⟨Int.mul_nonneg hAr.1 (by omega), Int.mul_le_mul_of_nonneg_right hAr.2 (by omega)⟩; obtain ⟨Q, hQ⟩ : ∃ Q, A * (L : Int) = Q := ⟨_, rfl⟩; rw [hQ] at hst hpt hAL; have hwq : IntKind.i64.wrap (A * (L : Int)) = Q := by rw [hQ]; exact w64 _ (by omega) (by omega)
  have hfl := fun W => y_floor Q 21600 W (by decide) (by decide) ⟨by omega, by omega⟩
  have hsQ : Q / 21600 = (s : Int) := by rw [hst]; omega
  obtain ⟨R, hR⟩ : ∃ R, Q % 21600 = R := ⟨_, rfl⟩; have hRr : 0 ≤ R ∧ R ≤ 21599 := by omega
  rw [hsQ, hR] at hfl; rw [hR] at hpt; have hsL : s < L := by omega
  obtain ⟨nx, hnx⟩ : ∃ nx, (s + 1) % L = nx := ⟨_, rfl⟩; have hnL : nx < L := by rw [← hnx]; exact Nat.mod_lt _ (by omega)
  rw [hnx] at hpt; have hL0 : ¬ L = 0 := by omega
  have hr1 : ((s : Int) + 1) % (L : Int) = (nx : Int) := by rw [← hnx]; rfl
  have hr2 : ((s : Int) + 1).tmod (L : Int) = (nx : Int) := by rw [Int.tmod_eq_emod_of_nonneg (by omega)]; exact hr1
  have g1 := herr s hsL; have g2 := herr nx hnL; have HRD := Lib.hid (fun W (hb : Below w0.heap.size w0 W) => (HR.out.below hb)); obtain ⟨y, hy⟩ : ∃ y, gi road s = y := ⟨_, rfl⟩; obtain ⟨z, hz⟩ : ∃ z, gi road nx = z := ⟨_, rfl⟩; rw [hy] at g1 hpt HW; rw [hz] at g2 hpt; have HY := Lib.hid hy; have HZ := Lib.hid hz
  have hD : -1200 * 21599 ≤ (z - y) * R ∧ (z - y) * R ≤ 1200 * 21599 := by
    have e1 : (z - y) * R ≤ 1200 * R := Int.mul_le_mul_of_nonneg_right (by omega) hRr.1; have e2 : -1200 * R ≤ (z - y) * R := Int.mul_le_mul_of_nonneg_right (by omega) hRr.1; omega
  obtain ⟨D, hDe⟩ : ∃ D, (z - y) * R = D := ⟨_, rfl⟩; rw [hDe] at hD hpt; have hwd : IntKind.i64.wrap ((z - y) * R) = D := by rw [hDe]; exact w64 _ (by omega) (by omega)
  have hwz : IntKind.i64.wrap (z - y) = z - y := w64 _ (by omega) (by omega); have hfd := fun W => y_floor D 21600 W (by decide) (by decide) ⟨by omega, by omega⟩
  rw [← hpt] at hfd; have hPr : -1200 * 21599 ≤ P ∧ P ≤ 1200 * 21599 := by omega
  have hws : IntKind.i64.wrap ((s : Int) + 1) = (s : Int) + 1 := w64 _ (by omega) (by omega); have hwn : IntKind.i64.wrap (nx : Int) = (nx : Int) := w64 _ (by omega) (by omega); have H1 := Lib.hid har; have H2 := Lib.hid hfl; have H3 := Lib.hid hfd; have hkI : (k : Int) < (bs.length : Int) := by omega
  clear hm hs hP hrd hL hA hQ hR hnx hy hz hDe hst hpt hsQ har hfl hfd hc hx d0 d1 d2 b0 herr hr hok hD hAL
  go_enter Tryz.func149, Tryz.ntmps149
  go_wp2_with fail; refine hme.mono ?_; clear hme e0; rintro e w1 ⟨rfl, b1⟩; have HB1 := Lib.hid b1; clear b1 d3 z0 z1 z2 z3 z4; go_wp2_with fail; refine (H1.out _).mono ?_; rintro e w2 ⟨rfl, b2⟩; have HB2 := Lib.hid (HB1.out.trans (b2.mono HB1.out.size)); clear b2; go_wp2_with fail; refine (H2.out _).mono ?_; rintro e w3 ⟨rfl, b3⟩; have HB3 := Lib.hid (HB2.out.trans (b3.mono HB2.out.size)); clear b3; obtain ⟨b', off', rfl, hcr⟩ := (HRD.out _ HB3.out).at (i := s) (by rw [HLL.out]; exact hsL); have f1 := hcr s (by rw [HLL.out]; exact hsL); have f2 := hcr nx (by rw [HLL.out]; exact hnL); rw [HY.out] at f1; rw [HZ.out] at f2; clear hcr; go_wp2_with fail; refine (H3.out _).mono ?_; rintro e w4 ⟨rfl, b4⟩; have HB4 := Lib.hid (HB3.out.trans (b4.mono HB3.out.size)); have f1 := (b4.cell (lt_of_cellq f1)).trans f1; clear b4 f2; obtain ⟨w5, e5, HS5, _, _, _, b5⟩ := box3 w4 (.int .i64 m) (.int .i64 y) (.int .i64 P) 3
  have hsu := y_sum (some ⟨w4.heap.size, 0, none⟩) 3 [m, y, P] w5 (by rw [← e5]; exact .inr ⟨_, 0, rfl, fun i hi => match i, hi with
    | 0, _ => by rw [at_new]; rfl
    | 1, _ => by rw [at_new]; rfl
    | 2, _ => by rw [at_new]; rfl⟩) (by simp) (fun j hj => by
    match j, hj with
    | 0, _ => show Mid 0; unfold Mid; omega
    | 1, _ => show Mid (0 + m); unfold Mid; omega
    | 2, _ => show Mid (0 + m + y); unfold Mid; omega
    | 3, _ => show Mid (0 + m + y + P); unfold Mid; omega)
  have HB5 := Lib.hid (HB.out.trans ((HB4.out.trans (b5.mono HB4.out.size)).mono HB.out.size)); have HS := Lib.hid (show sumT [m, y, P] 3 = m + y + P by show 0 + m + y + P = _; omega); clear b5; go_wp2_with fail; refine hsu.mono ?_; clear hsu; rintro e w6 ⟨rfl, rfl⟩; go_wp2; go_ret; exact ⟨by rw [HW.out, ← HS.out]; rfl, HB5.out⟩
set_option maxRecDepth 100000 in
theorem y_sun (p : Option Addr) (c : Nat) (bs : List Bd) (v1 v2 v3 : Value) (day : Int) (w : World) (hx : RdBd w p bs) (hk : 0 < bs.length) (hok : BdOk (gb bs 0)) (hd : 0 ≤ day ∧ day ≤ 20000) (hl : bs.length ≤ 100) :
    Calls Tryz.prog 151 #[.agg #[.slice p bs.length c, v1, v2, v3, .int .i64 day]] w fun e w' => e = .returned (.int .i64 (wayF (gb bs 0) day)) ∧ Below w.heap.size w w' := by
  obtain ⟨w0, e0, HS0, z0, z1, z2, z3, z4, b0⟩ := box5 w (.slice p bs.length c) v1 v2 v3 (.int .i64 day) 135; have hw : Calls Tryz.prog 149 #[.agg #[.slice p bs.length c, v1, v2, v3, .int .i64 day], .int .i64 0] w0 fun e w' => e = .returned (.int .i64 (wayF (gb bs 0) day)) ∧ Below w0.heap.size w0 w' := y_way p c bs v1 v2 v3 day 0 w0 (hx.below b0) hk hok hd hl
  have HB := Lib.hid b0; clear b0 hx
  go_enter Tryz.func151, Tryz.ntmps151
  go_wp2_with fail; refine hw.mono ?_; clear hw; rintro e w1 ⟨rfl, b1⟩; have HBB := Lib.hid (HB.out.trans (b1.mono HB.out.size)); clear b1; go_wp2; go_ret; exact ⟨rfl, HBB.out⟩
set_option maxRecDepth 100000 in
theorem y_moon (p : Option Addr) (c : Nat) (bs : List Bd) (v1 v2 v3 : Value) (day : Int) (w : World) (hx : RdBd w p bs) (hk : 1 < bs.length) (hok : BdOk (gb bs 1)) (hd : 0 ≤ day ∧ day ≤ 20000) (hl : bs.length ≤ 100) :
    Calls Tryz.prog 152 #[.agg #[.slice p bs.length c, v1, v2, v3, .int .i64 day]] w fun e w' => e = .returned (.int .i64 (wayF (gb bs 1) day)) ∧ Below w.heap.size w w' := by
  obtain ⟨w0, e0, HS0, z0, z1, z2, z3, z4, b0⟩ := box5 w (.slice p bs.length c) v1 v2 v3 (.int .i64 day) 135; have hw : Calls Tryz.prog 149 #[.agg #[.slice p bs.length c, v1, v2, v3, .int .i64 day], .int .i64 1] w0 fun e w' => e = .returned (.int .i64 (wayF (gb bs 1) day)) ∧ Below w0.heap.size w0 w' := y_way p c bs v1 v2 v3 day 1 w0 (hx.below b0) hk hok hd hl
  have HB := Lib.hid b0; clear b0 hx
  go_enter Tryz.func152, Tryz.ntmps152
  go_wp2_with fail; refine hw.mono ?_; clear hw; rintro e w1 ⟨rfl, b1⟩; have HBB := Lib.hid (HB.out.trans (b1.mono HB.out.size)); clear b1; go_wp2; go_ret; exact ⟨rfl, HBB.out⟩
theorem ixG0 (f g : Value) (w : World) : (Instr.index 213 (.agg #[f, g]) (.int .i64 0)).run Tryz.prog w = .ok f w := by kernel_rfl
theorem ixG1 (f g : Value) (w : World) : (Instr.index 213 (.agg #[f, g]) (.int .i64 1)).run Tryz.prog w = .ok g w := by kernel_rfl
def lunarF (bs : List Bd) (day : Int) : Int := wayF (gb bs 1) day - wayF (gb bs 0) day
theorem way_range {b : Bd} {day : Int} (hok : BdOk b) (hd : 0 ≤ day ∧ day ≤ 20000) : -100000000 ≤ wayF b day ∧ wayF b day ≤ 4320100000000 := by
  have hmr : 0 ≤ meanF b day ∧ meanF b day ≤ 4320000021599 := by
    have := gone_range hd hok.num hok.den; have := hok.start; unfold meanF; omega
  have hl := hok.len; unfold wayF; obtain ⟨m, hm⟩ : ∃ m, meanF b day = m := ⟨_, rfl⟩; rw [hm] at hmr ⊢; have hA : 0 ≤ m % 21600 ∧ m % 21600 ≤ 21599 := by omega
  obtain ⟨A, hAe⟩ : ∃ A, m % 21600 = A := ⟨_, rfl⟩; obtain ⟨L, hL⟩ : ∃ L, b.road.length = L := ⟨_, rfl⟩; have hst : stepY b m = (A * (L : Int) / 21600).toNat := by unfold stepY; rw [hAe, hL]
  have hpt : partY b m = (gi b.road ((stepY b m + 1) % L) - gi b.road (stepY b m)) * (A * (L : Int) % 21600) / 21600 := by unfold partY; rw [hAe, hL]
  rw [hAe] at hA; rw [hL] at hl; have hAL : 0 ≤ A * (L : Int) ∧ A * (L : Int) ≤ 21599 * L := ⟨Int.mul_nonneg hA.1 (by omega), Int.mul_le_mul_of_nonneg_right hA.2 (by omega)⟩; obtain ⟨Q, hQ⟩ : ∃ Q, A * (L : Int) = Q := ⟨_, rfl⟩; rw [hQ] at hst hpt hAL; have hs : stepY b m < L := by omega
  have hn : (stepY b m + 1) % L < L := Nat.mod_lt _ (by omega); have g1 := hok.err _ (by rw [hL]; exact hs); have g2 := hok.err _ (by rw [hL]; exact hn); obtain ⟨y, hy⟩ : ∃ y, gi b.road (stepY b m) = y := ⟨_, rfl⟩; obtain ⟨z, hz⟩ : ∃ z, gi b.road ((stepY b m + 1) % L) = z := ⟨_, rfl⟩; obtain ⟨R, hR⟩ : ∃ R, Q % 21600 = R := ⟨_, rfl⟩; have hRr : 0 ≤ R ∧ R ≤ 21599 := by omega
  rw [hy] at g1 hpt; rw [hz] at g2 hpt; rw [hR] at hpt; have e1 : (z - y) * R ≤ 1200 * R := Int.mul_le_mul_of_nonneg_right (by omega) hRr.1; have e2 : -1200 * R ≤ (z - y) * R := Int.mul_le_mul_of_nonneg_right (by omega) hRr.1; rw [hy, hpt]; obtain ⟨D, hD⟩ : ∃ D, (z - y) * R = D := ⟨_, rfl⟩; rw [hD] at e1 e2 ⊢; omega
set_option maxHeartbeats 1600000 in
set_option maxRecDepth 100000 in
theorem y_lunar (p : Option Addr) (c : Nat) (bs : List Bd) (v1 v2 v3 : Value) (day : Int) (w : World) (hx : RdBd w p bs) (hk : 2 ≤ bs.length) (h0 : BdOk (gb bs 0)) (h1 : BdOk (gb bs 1)) (hd : 0 ≤ day ∧ day ≤ 20000) (hl : bs.length ≤ 100) :
    Calls Tryz.prog 119 #[.agg #[.slice p bs.length c, v1, v2, v3, .int .i64 day]] w fun e w' => e = .returned (.int .i64 (lunarF bs day)) ∧ Below w.heap.size w w' := by
  have hi0 := ixG0; have hi1 := ixG1; have hmf : ∀ (fn : Fn) (first cap : Array Value) (w : World), (Instr.makeFunc fn first cap).run Tryz.prog w = .ok (.func fn first cap) w := fun _ _ _ _ => rfl
  obtain ⟨w1, e1, HS1, z0, z1, z2, z3, z4, b1⟩ := box5 w (.slice p bs.length c) v1 v2 v3 (.int .i64 day) 135; have ko := alloc_new w1 (.cells #[.int .i64 0, .int .i64 0] 195); obtain ⟨w2, e2, HS2, _, _, b2⟩ := box2 w1 (.int .i64 0) (.int .i64 0) 195; rw [e2] at ko; obtain ⟨z0, z1, z2, z3, z4⟩ := cl5 z0 z1 z2 z3 z4 w2 b2; have HZ0 := Lib.hid (show w2.cell? ⟨w.heap.size, 0, none⟩ = some (.slice p bs.length c) ∧ True from ⟨z0, trivial⟩); have HB := Lib.hid (b1.trans (b2.mono b1.size)); have HO := Lib.hid ko; have HZ := Lib.hid (show w.heap.size < w1.heap.size ∧ w1.heap.size < w2.heap.size from ⟨by have := HS1.out; omega, by have := HS2.out; omega⟩); have HLU := Lib.hid (show lunarF bs day = wayF (gb bs 1) day - wayF (gb bs 0) day from rfl); have r0 := way_range h0 hd; have r1 := way_range h1 hd; have HF0 := Lib.hid (fun (wr : World) (hb : Below w.heap.size w wr) => y_sun p c bs v1 v2 v3 day wr (hx.below hb) (by omega) h0 hd hl)
  have HF1 := Lib.hid (fun (wr : World) (hb : Below w.heap.size w wr) => y_moon p c bs v1 v2 v3 day wr (hx.below hb) (by omega) h1 hd hl); obtain ⟨A, hA⟩ : ∃ A, wayF (gb bs 0) day = A := ⟨_, rfl⟩; obtain ⟨C, hC⟩ : ∃ C, wayF (gb bs 1) day = C := ⟨_, rfl⟩; rw [hA] at HLU r0 HF0; rw [hC] at HLU r1 HF1; have hws : IntKind.i64.wrap (C - A) = C - A := w64 _ (by omega) (by omega); clear hA hC ko b1 b2 hx h0 h1 hd
  go_enter Tryz.func119, Tryz.ntmps119
  go_wp2; clear e1 e2
  go_loopw [4, 5, 11] (fun _ _ i wr => ∃ (k : Nat) (x y : Int), k ≤ 2 ∧ i = .int .i64 k ∧ Hid (wr.heap[w1.heap.size]? = some (.cells #[.int .i64 x, .int .i64 y] 195 (0, 0))) ∧ Hid ((1 ≤ k → x = A) ∧ (2 ≤ k → y = C)) ∧ Hid (BelX (fun x => x = w1.heap.size) w2.heap.size w2 wr)) (fun _ _ i _ => 2 - (intOf i).toNat)
  case atStart => exact ⟨0, 0, 0, by omega, rfl, HO, Lib.hid ⟨fun h => by omega, fun h => by omega⟩, Lib.hid (BelX.refl _ _ _)⟩
  case round =>
    obtain ⟨k, x, y, hk, rfl, HX, HXY, HY⟩ := hrel; have hz := HZ.out; have hBr : Below w.heap.size w wr := ((belX_of (X := fun x => x = w1.heap.size) HB.out).trans (HY.out.mono (by omega))).below (B' := w.heap.size) (Nat.le_refl _) (fun x hx => by subst hx; omega)
    rcases (show k = 0 ∨ k = 1 ∨ k = 2 by omega) with hk0 | hk0 | hk0
    · have hca := (HF0.out wr hBr)
      subst hk0; have x0 := (cells2 HX.out).1; have x1 := (cells2 HX.out).2; have z0 := (HY.out.cell (lt_of_cellq HZ0.out.1) (by have := HZ.out; show ¬ (w.heap.size = w1.heap.size); omega)).trans HZ0.out.1; clear hBr hz; go_wp2_with fail; refine hca.mono ?_; clear hca; rintro e' w4 ⟨rfl, b4⟩; have HX4 := Lib.hid ((b4.block _ (block_lt HX.out)).trans HX.out); have y0 : w4.cell? ⟨w1.heap.size, 0, none⟩ = some (.int .i64 x) := by rw [cell_of_row _ _ _ _ _ _ HX4.out]; rfl
      have yf : w4.frozen? ⟨w1.heap.size, 0, none⟩ = false := frozen_of_row _ _ _ _ _ HX4.out; obtain ⟨w5, s5⟩ : ∃ w5, w4.setCell ⟨w1.heap.size, 0, none⟩ (.int .i64 A) = w5 := ⟨_, rfl⟩; have HX5 := Lib.hid (show w5.heap[w1.heap.size]? = some (.cells #[.int .i64 A, .int .i64 y] 195 (0, 0)) by rw [← s5, heap_setCell_same w4 w1.heap.size 0 _ _ _ HX4.out]; rfl)
      have HY5 := Lib.hid (show BelX (fun x => x = w1.heap.size) w2.heap.size w2 w5 by
        have g := (HY.out.trans ((belX_of b4).mono HY.out.size)).setCell (p := ⟨w1.heap.size, 0, none⟩) (.inl rfl) (.int .i64 A); rw [s5] at g; exact g)
      clear b4 HX4 x0 x1; go_wp2; go_roundw
      case rel => exact ⟨1, A, y, by omega, rfl, HX5, Lib.hid ⟨fun _ => rfl, fun h => by omega⟩, HY5⟩
      case measure => simp [intOf]
    · have hca := (HF1.out wr hBr)
      subst hk0; have x0 := (cells2 HX.out).1; have x1 := (cells2 HX.out).2; have z0 := (HY.out.cell (lt_of_cellq HZ0.out.1) (by have := HZ.out; show ¬ (w.heap.size = w1.heap.size); omega)).trans HZ0.out.1; clear hBr hz; go_wp2_with fail; refine hca.mono ?_; clear hca; rintro e' w4 ⟨rfl, b4⟩; have HX4 := Lib.hid ((b4.block _ (block_lt HX.out)).trans HX.out); have y0 : w4.cell? ⟨w1.heap.size, 1, none⟩ = some (.int .i64 y) := by rw [cell_of_row _ _ _ _ _ _ HX4.out]; rfl
      have yf : w4.frozen? ⟨w1.heap.size, 1, none⟩ = false := frozen_of_row _ _ _ _ _ HX4.out; obtain ⟨w5, s5⟩ : ∃ w5, w4.setCell ⟨w1.heap.size, 1, none⟩ (.int .i64 C) = w5 := ⟨_, rfl⟩; have HX5 := Lib.hid (show w5.heap[w1.heap.size]? = some (.cells #[.int .i64 x, .int .i64 C] 195 (0, 0)) by rw [← s5, heap_setCell_same w4 w1.heap.size 1 _ _ _ HX4.out]; rfl)
      have HY5 := Lib.hid (show BelX (fun x => x = w1.heap.size) w2.heap.size w2 w5 by
        have g := (HY.out.trans ((belX_of b4).mono HY.out.size)).setCell (p := ⟨w1.heap.size, 1, none⟩) (.inl rfl) (.int .i64 C); rw [s5] at g; exact g)
      clear b4 HX4 x0 x1; go_wp2; go_roundw
      case rel => exact ⟨2, x, C, by omega, rfl, HX5, Lib.hid ⟨fun _ => HXY.out.1 (by omega), fun _ => rfl⟩, HY5⟩
      case measure => simp [intOf]
    · subst hk0
      obtain rfl := HXY.out.1 (by omega); obtain rfl := HXY.out.2 (by omega); obtain ⟨x0, x1⟩ := cells2 HX.out; have HBB := Lib.hid hBr; clear hBr hz; go_wp2; go_ret; exact ⟨by rw [HLU.out]; rfl, HBB.out⟩
theorem as_meeting (v : Value) (w : World) : (Instr.typeAssert (.iface 188 v) 138 183 true).run Tryz.prog w = .ok (.tuple #[.agg #[.int .i64 0, .int .i64 0], .bool false]) w := by kernel_rfl
theorem as_full (v : Value) (w : World) : (Instr.typeAssert (.iface 188 v) 138 186 true).run Tryz.prog w = .ok (.tuple #[.agg #[], .bool false]) w := by kernel_rfl
theorem y_moonOf (w : World) : Calls Tryz.prog 70 #[.bool false] w fun e w' => e = .returned (.iface 188 (.agg #[])) ∧ w = w' := by
  go_enter Tryz.func70, Tryz.ntmps70
  go_wp2; go_ret; exact ⟨rfl, rfl⟩
def newB (bs : List Bd) (day : Int) : Bool := decide (lunarF bs day / 21600 > lunarF bs (day - 1) / 21600)
set_option maxHeartbeats 1600000 in
set_option maxRecDepth 100000 in
theorem y_has (p : Option Addr) (c : Nat) (bs : List Bd) (n1 n2 n3 : Int) (day : Int) (w : World) (hx : RdBd w p bs) (hk : 2 ≤ bs.length) (h0 : BdOk (gb bs 0)) (h1 : BdOk (gb bs 1)) (hd : 1 ≤ day ∧ day ≤ 20000) (hl : bs.length ≤ 100) :
    Calls Tryz.prog 69 #[.agg #[.slice p bs.length c, .int .i64 n1, .int .i64 n2, .int .i64 n3, .int .i64 day], .iface 188 (.agg #[])] w fun e w' => e = .returned (.bool (newB bs day)) ∧ Below w.heap.size w w' := by
  have ha1 := as_meeting (.agg #[]); have ha2 := as_full (.agg #[]); obtain ⟨w1, e1, HS1, z0, z1, z2, z3, z4, b1⟩ := box5 w (.slice p bs.length c) (.int .i64 n1) (.int .i64 n2) (.int .i64 n3) (.int .i64 day) 135; obtain ⟨w2, e2, HS2, y0, y1, y2, y3, y4, b2⟩ := box5 w1 (.slice p bs.length c) (.int .i64 n1) (.int .i64 n2) (.int .i64 n3) (.int .i64 (day - 1)) 135; have HB := Lib.hid (b1.trans (b2.mono b1.size)); have HC := Lib.hid (cl5 z0 z1 z2 z3 z4 w2 b2); have hws : IntKind.i64.wrap (day - 1) = day - 1 := w64 _ (by omega) (by omega); have HL0 := Lib.hid (fun (wr : World) (hb : Below w2.heap.size w2 wr) => y_lunar p c bs (.int .i64 n1) (.int .i64 n2) (.int .i64 n3) (day - 1) wr (hx.below (HB.out.trans (hb.mono HB.out.size))) hk h0 h1 ⟨by omega, by omega⟩ hl); have HL1 := Lib.hid (fun (wr : World) (hb : Below w2.heap.size w2 wr) => y_lunar p c bs (.int .i64 n1) (.int .i64 n2) (.int .i64 n3) day wr (hx.below (HB.out.trans (hb.mono HB.out.size))) hk h0 h1 ⟨by omega, by omega⟩ hl)
  have HN := Lib.hid (show newB bs day = decide (lunarF bs day / 21600 > lunarF bs (day - 1) / 21600) from rfl); have r0 := way_range h0 (day := day) ⟨by omega, by omega⟩; have r1 := way_range h1 (day := day) ⟨by omega, by omega⟩; have s0 := way_range h0 (day := day - 1) ⟨by omega, by omega⟩; have s1 := way_range h1 (day := day - 1) ⟨by omega, by omega⟩; have hA : -5000000000000 ≤ lunarF bs (day - 1) ∧ lunarF bs (day - 1) ≤ 5000000000000 := by unfold lunarF; omega
  have hC : -5000000000000 ≤ lunarF bs day ∧ lunarF bs day ≤ 5000000000000 := by unfold lunarF; omega
  obtain ⟨A, hAe⟩ : ∃ A, lunarF bs (day - 1) = A := ⟨_, rfl⟩; obtain ⟨C, hCe⟩ : ∃ C, lunarF bs day = C := ⟨_, rfl⟩; rw [hAe] at HL0 HN hA; rw [hCe] at HL1 HN hC; have HP := Lib.hid (fun W => y_passes A C W ⟨by omega, by omega⟩ ⟨by omega, by omega⟩); clear hAe hCe hx h0 h1 b1 b2 r0 r1 s0 s1 hA hC
  go_enter Tryz.func69, Tryz.ntmps69
  go_wp2; clear e1 e2 z0 z1 z2 z3 z4; obtain ⟨z0, z1, z2, z3, z4⟩ := HC.out; have HSB := Lib.hid (cl10 y0 y1 y2 y3 y4 z0 z1 z2 z3 z4); refine held10 y0 y1 y2 y3 y4 z0 z1 z2 z3 z4 (fun W0 HB0 => ?_); refine tk 0 rfl (by exact HSB.out _ HB0) ?_; (try simp only [Act.put, ptL]); refine tk 2 rfl (by exact HSB.out _ HB0) ?_; (try simp only [Act.put, ptL]); refine rz1 1 rfl ?_; intro K hK; go_simp; refine (HL0.out _ HB0).mono ?_; rintro e W1 ⟨rfl, c1⟩; have HB1 := HB0.trans (c1.mono HB0.size); clear c1; refine kz hK (by exact HSB.out _ HB1) ?_; clear hK K; (try simp only [Act.put, ptL]); refine rz1 3 rfl ?_; intro K hK; go_simp; refine (HL1.out _ HB1).mono ?_; rintro e W2 ⟨rfl, c2⟩; have HB2 := HB1.trans (c2.mono HB1.size); clear c2; refine kz hK (by exact HSB.out _ HB2) ?_; clear hK K; (try simp only [Act.put, ptL]); refine rz1 4 rfl ?_; intro K hK; go_simp; refine (HP.out _).mono ?_; rintro e W3 ⟨rfl, c3⟩
  have HB3 := HB2.trans (c3.mono HB2.size); clear c3; refine kz hK (by exact HSB.out _ HB3) ?_; clear hK K; (try simp only [Act.put, ptL]); refine tk 5 rfl (by exact HSB.out _ HB3) ?_; (try simp only [Act.put, ptL]); refine wpAnyH_done (by kernel_rfl) ?_ _; have HBZ := Lib.hid (HB.out.trans (HB3.mono HB.out.size)); clear HSB HB0 HB1 HB2 HB3 y0 y1 y2 y3 y4 z0 z1 z2 z3 z4; go_wp2; go_ret; exact ⟨by rw [HN.out]; rfl, HBZ.out⟩
end Go.Proofs.YtchclaipbahiiaaGreat
end

section
namespace Go.Proofs.YtchclaipbahiiaaGreat
open Go Go.RowKit Go.Proofs Go.Shelf
set_option linter.unusedVariables false
set_option linter.unusedSimpArgs false
attribute [local go_sem] Oper.semAt_some imax2 imin2
set_option maxRecDepth 100000 in
set_option maxHeartbeats 1000000 in
theorem y_days1 (n : Nat) (hn : 2 ≤ n) (l bF bT bS n₀ N : Nat) (sv : Value) (n1 n2 n3 : Int) (f g : Int) (hf : 0 ≤ f ∧ f ≤ 20001) (hg : f + N = g + 1) (hg2 : g ≤ 20000) (J Jx : List Nat → World → Prop) (W : World)
    (hn0 : n₀ ≤ W.heap.size) (hb1 : bF < n₀) (hb2 : bT < n₀) (hb3 : bS < n₀)
    (hJ : AbidesFrom W.heap.size J)
    (hY : ∀ pre x W1, J pre W1 → pre.length < N → YieldAt Fence.wide (n - 1) Tryz.prog l #[.agg #[sv, .int .i64 n1, .int .i64 n2, .int .i64 n3, .int .i64 (f + ((x % N : Nat) : Int))]] W1 fun e W' =>
      (e = .returned (.bool true) ∧ J (pre ++ [x]) W' ∧ Below n₀ W1 W') ∨ (e = .returned (.bool false) ∧ Jx (pre ++ [x]) W'))
    (kF : W.cell? ⟨bF, 0, none⟩ = some (.int .i64 f)) (kT : W.cell? ⟨bT, 0, none⟩ = some (.int .i64 g))
    (k0 : W.cell? ⟨bS, 0, none⟩ = some sv) (k1 : W.cell? ⟨bS, 1, none⟩ = some (.int .i64 n1)) (k2 : W.cell? ⟨bS, 2, none⟩ = some (.int .i64 n2)) (k3 : W.cell? ⟨bS, 3, none⟩ = some (.int .i64 n3)) (h0 : J [] W) :
    CallsIn Fence.wide n Tryz.prog 116 #[.func (.yield l) #[] #[], .pointer (some ⟨bF, 0, none⟩), .pointer (some ⟨bT, 0, none⟩), .pointer (some ⟨bS, 0, none⟩)] W fun e W' => (∃ v, e = .returned v) ∧
      ((∃ ys, ys = List.range N ∧ J ys W') ∨ (∃ pre, (∃ k, k ≤ N ∧ pre = List.range k) ∧ Jx pre W')) := by
  refine callsIn_of_wp Tryz.func116 rfl trivial ?_ rfl; simp only [Tryz.ntmps116, List.size_toArray, List.length_cons, List.length_nil, Nat.reduceAdd, Nat.reduceSub, Array.replicate_succ, Array.replicate_zero, List.push_toArray, List.append_toArray, List.nil_append, List.cons_append]; have HGG := Lib.hid hg
  gi_wp2
  gi_loopw [5] (fun i wr => ∃ k : Nat, k ≤ N ∧ i = .int .i64 (f + k) ∧ J (List.range k) wr ∧ Below n₀ W wr) (fun i _ => (g + 1 - intOf i).toNat)
  case atStart => exact ⟨0, Nat.zero_le _, by simp, h0, Below.refl _ _⟩
  case round =>
    obtain ⟨k, hk, rfl, hJs, hnx⟩ := hrel; have HJS := Lib.hid hJs; have HNX := Lib.hid hnx
    by_cases hlt : k < N
    · have r1 := (hnx.cell hb2).trans kT
      have z0 := (hnx.cell hb3).trans k0; have z1 := (hnx.cell hb3).trans k1; have z2 := (hnx.cell hb3).trans k2; have z3 := (hnx.cell hb3).trans k3; have hj2 : ∀ w2 : World, Below wr.heap.size wr w2 → J (List.range k) w2 := fun w2 b => hJ _ wr w2 none hJs ⟨b.os, b.tape, b.output, b.size, fun i hi _ => b.block i hi⟩ (fun r e => by cases e)
      obtain ⟨fn, tmps, assign, body, hy, hR⟩ := hY (List.range k) k wr hJs (by rw [List.length_range]; exact hlt); have hw1 : IntKind.i64.wrap (f + (k : Int) + 1) = f + (k : Int) + 1 := w64 _ (by omega) (by omega); have hle : decide (f + (k : Int) ≤ g) = true := by simp; omega
      have hd : 1 ≤ n - 1 := by omega
      have hn1 : n₀ ≤ wr.heap.size := by have := hnx.size; omega
      rw [Nat.mod_eq_of_lt hlt] at hy; clear hJs hnx hj2 hY hJ hg
      gi_wp2_with fail
      refine ⟨fun _ => (by omega), ?_⟩; refine hR.mono ?_; intro e W3 h3
      obtain ⟨bb, rfl, HB3⟩ : ∃ bb : Bool, e = .returned (.bool bb) ∧ Hid ((bb = true ∧ J (List.range k ++ [k]) W3 ∧ Below n₀ wr W3) ∨ (bb = false ∧ Jx (List.range k ++ [k]) W3)) := by
        rcases h3 with ⟨h, h'⟩ | ⟨h, h'⟩
        · exact ⟨true, h, Lib.hid (.inl ⟨rfl, h'⟩)⟩
        · exact ⟨false, h, Lib.hid (.inr ⟨rfl, h'⟩)⟩
      clear h3
      rcases HB3.out with ⟨rfl, hJ3, hk3⟩ | ⟨rfl, hJx3⟩
      · have HW3 := Lib.hid (HNX.out.trans hk3)
        have HJ3 := Lib.hid hJ3; clear hk3 hJ3 HB3 hR hy
        gi_wp2
        go_roundw
        case rel => exact ⟨k + 1, by omega, by rw [show f + ((k + 1 : Nat) : Int) = f + (k : Int) + 1 by omega], by rw [List.range_succ]; exact HJ3.out, HW3.out⟩
        case measure => have := HGG.out; simp [intOf]; omega
      · have HJ3 := Lib.hid hJx3
        clear hJx3 HB3 hR hy
        gi_wp2
        refine bodyPost_ret (results_none rfl _ _ _) rfl ?_; exact ⟨⟨_, rfl⟩, .inr ⟨_, ⟨k + 1, by omega, List.range_succ.symm⟩, HJ3.out⟩⟩
    · obtain rfl : k = N := by omega
      have r1 := (hnx.cell hb2).trans kT; have hle : decide (f + (k : Int) ≤ g) = false := by simp; omega
      clear hJs hnx hY hJ hg
      gi_wp2
      go_end0
      exact ⟨⟨_, rfl⟩, .inl ⟨_, rfl, HJS.out⟩⟩
theorem days_stops (n : Nat) (hn : 2 ≤ n) (bF bT bS n₀ N : Nat) (sv : Value) (n1 n2 n3 : Int) (f g : Int) (hf : 0 ≤ f ∧ f ≤ 20001) (hg : f + N = g + 1) (hg2 : g ≤ 20000) (w : World) (hn0 : n₀ ≤ w.heap.size) (hb1 : bF < n₀) (hb2 : bT < n₀) (hb3 : bS < n₀)
    (kF : w.cell? ⟨bF, 0, none⟩ = some (.int .i64 f)) (kT : w.cell? ⟨bT, 0, none⟩ = some (.int .i64 g))
    (k0 : w.cell? ⟨bS, 0, none⟩ = some sv) (k1 : w.cell? ⟨bS, 1, none⟩ = some (.int .i64 n1)) (k2 : w.cell? ⟨bS, 2, none⟩ = some (.int .i64 n2)) (k3 : w.cell? ⟨bS, 3, none⟩ = some (.int .i64 n3)) :
    SeqStopsK Fence.wide n Tryz.prog 116 #[.pointer (some ⟨bF, 0, none⟩), .pointer (some ⟨bT, 0, none⟩), .pointer (some ⟨bS, 0, none⟩)] (fun x : Nat => #[Value.agg #[sv, .int .i64 n1, .int .i64 n2, .int .i64 n3, .int .i64 (f + ((x % N : Nat) : Int))]]) (Below n₀) (fun ys => ys = List.range N)
      (fun pre => ∃ k, k ≤ N ∧ pre = List.range k) N w := fun l J Jx W hW hJ hJx hY h0 =>
  y_days1 n hn l bF bT bS n₀ N sv n1 n2 n3 f g hf hg hg2 J Jx W (Nat.le_trans hn0 hW.size) hb1 hb2 hb3 hJ hY ((hW.cell (lt_of_cellq kF)).trans kF) ((hW.cell (lt_of_cellq kT)).trans kT) ((hW.cell (lt_of_cellq k0)).trans k0) ((hW.cell (lt_of_cellq k1)).trans k1) ((hW.cell (lt_of_cellq k2)).trans k2) ((hW.cell (lt_of_cellq k3)).trans k3) h0
theorem y_days (a0 a1 a2 a3 : Value) (f g : Int) (w : World) :
    Calls Tryz.prog 68 #[.agg #[a0, a1, a2, a3], .int .i64 f, .int .i64 g] w fun e w' => e = .returned (.func (.func 116) #[] #[.pointer (some ⟨w.heap.size + 1, 0, none⟩), .pointer (some ⟨w.heap.size + 1 + 1, 0, none⟩), .pointer (some ⟨w.heap.size, 0, none⟩)]) ∧
      ((w.alloc (.cells #[a0, a1, a2, a3] 83)).alloc (.cells #[.int .i64 f] 3)).alloc (.cells #[.int .i64 g] 3) = w' := by
  go_enter Tryz.func68, Tryz.ntmps68
  go_wp2; go_ret; exact ⟨rfl, rfl⟩
end Go.Proofs.YtchclaipbahiiaaGreat
end

section
namespace Go.Proofs.YtchclaipbahiiaaGreat
open Go Go.RowKit Go.Proofs
set_option linter.unusedVariables false
set_option linter.unusedSimpArgs false
attribute [local go_sem] imax2 imin2
theorem y_isPlace (x : Int) (w : World) : Calls Tryz.prog 112 #[.int .i64 x] w fun e w' => e = .returned (.bool (inB x 0 21599)) ∧ w = w' := by
  go_enter Tryz.func112, Tryz.ntmps112
  go_wp2_with fail; refine (y_in _ _ _ _).mono ?_; rintro e w' ⟨rfl, rfl⟩; go_wp2; go_ret; exact ⟨rfl, rfl⟩
theorem y_isDay (x : Int) (w : World) : Calls Tryz.prog 67 #[.int .i64 x] w fun e w' => e = .returned (.bool (inB x 0 20000)) ∧ w = w' := by
  go_enter Tryz.func67, Tryz.ntmps67
  go_wp2_with fail; refine (y_in _ _ _ _).mono ?_; rintro e w' ⟨rfl, rfl⟩; go_wp2; go_ret; exact ⟨rfl, rfl⟩
theorem y_errNot (x : Int) (w : World) : Calls Tryz.prog 115 #[.int .i64 x] w fun e w' => e = .returned (.bool (!inB x (-600) 600)) ∧ Below w.heap.size w w' := by
  go_enter Tryz.func115, Tryz.ntmps115
  go_wp2_with fail; refine (y_in _ _ _ _).mono ?_; rintro e w' ⟨rfl, rfl⟩; go_wp2; go_ret; exact ⟨rfl, Below.refl _ _⟩
theorem y_isPeriod (num den : Int) (w : World) (h1 : 1 ≤ num ∧ num ≤ 10000) (h2 : 1 ≤ den ∧ den ≤ 10000) (h3 : 4 * den ≤ num) :
    Calls Tryz.prog 111 #[.agg #[.int .i64 num, .int .i64 den]] w fun e w' => e = .returned (.bool true) ∧ Below w.heap.size w w' := by
  obtain ⟨w0, e0, HS0, k0, k1, b0⟩ := box2 w (.int .i64 num) (.int .i64 den) 79; have HB := Lib.hid b0; have g1 : inB num 1 10000 = true := inB_iff.2 h1; have g2 : inB den 1 10000 = true := inB_iff.2 h2; have hws : IntKind.i64.wrap (4 * den) = 4 * den := w64 _ (by omega) (by omega); have g3 : decide (num ≥ 4 * den) = true := decide_eq_true h3; clear b0 h1 h2
  go_enter Tryz.func111, Tryz.ntmps111
  go_wp2_with fail; refine (y_in _ _ _ _).mono ?_; rw [g1]; rintro e w' ⟨rfl, rfl⟩; go_wp2_with fail; refine (y_in _ _ _ _).mono ?_; rw [g2]; rintro e w' ⟨rfl, rfl⟩; go_wp2; go_ret; exact ⟨rfl, HB.out⟩
set_option maxHeartbeats 400000 in
set_option maxRecDepth 100000 in
theorem y_ixErr (p : Option Addr) (cap : Nat) (xs : List Int) (w : World) (hx : RdI w p xs) (hl : xs.length ≤ 1000000) :
    Calls Tryz.prog 89 #[.slice p xs.length cap, .func (.func 115) #[] #[]] w (BadPost xs.length (fun j => (fun x => inB x (-600) 600) (gi xs j)) w) := by
  have HX := Lib.hid hx; clear hx
  go_enter Tryz.func89, Tryz.ntmps89
  go_wp2
  go_loopw [8] (fun i wr => ∃ k : Nat, k ≤ xs.length ∧ i = .int .i64 k ∧ Hid (∀ j, j < k → (fun x => inB x (-600) 600) (gi xs j) = true) ∧ Below w.heap.size w wr) (fun i _ => xs.length - (intOf i).toNat)
  case atStart => exact ⟨0, by omega, rfl, Lib.hid (by intro j hj; omega), Below.refl _ _⟩
  case round =>
    obtain ⟨k, hk, rfl, HH, hnx⟩ := hrel; have HN := Lib.hid hnx
    by_cases hlt : k < xs.length
    · obtain ⟨b, off, rfl, hc⟩ := (HX.out.below hnx).at hlt
      obtain e1 := hc k hlt; have hcl : Calls Tryz.prog 115 #[.int .i64 (gi xs k)] wr fun e w' => e = .returned (.bool (!(fun x => inB x (-600) 600) (gi xs k))) ∧ Below wr.heap.size wr w' := y_errNot (gi xs k) wr
      clear hc hnx
      rcases hb : (fun x => inB x (-600) 600) (gi xs k) with _ | _
      · have HB := Lib.hid hb
        rw [hb] at hcl; clear hb; go_wp2_with fail; refine hcl.mono ?_; rintro e w4 ⟨rfl, b4⟩; have HN2 := Lib.hid (HN.out.trans (b4.mono HN.out.size)); clear hcl b4; go_wp2; go_ret; exact ⟨k, .inr ⟨by omega, k, hlt, HB.out⟩, rfl, HN2.out⟩
      · have HB := Lib.hid hb
        rw [hb] at hcl; clear hb; go_wp2_with fail; refine hcl.mono ?_; rintro e w4 ⟨rfl, b4⟩; have HN2 := Lib.hid (HN.out.trans (b4.mono HN.out.size)); clear hcl b4; go_wp2; go_roundw
        case rel =>
          refine ⟨k + 1, by omega, by go_num, Lib.hid fun j hj => ?_, HN2.out⟩
          rcases Nat.lt_or_ge j k with h | h
          · exact HH.out j h
          · obtain rfl : j = k := by omega
            exact HB.out
        case measure => simp [intOf]; omega
    · obtain rfl : k = xs.length := by omega
      go_wp2; go_ret; exact ⟨-1, .inl ⟨rfl, HH.out⟩, rfl, HN.out⟩
set_option maxRecDepth 100000 in
theorem y_cfErr (p : Option Addr) (cap : Nat) (xs : List Int) (w : World) (hx : RdI w p xs) (hl : xs.length ≤ 1000000) :
    Calls Tryz.prog 42 #[.slice p xs.length cap, .func (.func 115) #[] #[]] w fun e w' => e = .returned (.bool (!xs.all (fun x => inB x (-600) 600))) ∧ Below w.heap.size w w' := by
  have h := y_ixErr p cap xs w hx hl; clear hx
  go_enter Tryz.func42, Tryz.ntmps42
  go_wp2_with fail; refine h.mono ?_; rintro e w' ⟨r, hr, rfl, hb⟩; have HB := Lib.hid hb; clear h hb
  rcases hr with ⟨rfl, hh⟩ | ⟨h0, j, hj, hb⟩
  · have HG := Lib.hid (all_ok (f := (fun x => inB x (-600) 600)) (d := 0) (l := xs) hh)
    clear hh; go_wp2; go_ret; exact ⟨by rw [HG.out]; rfl, HB.out⟩
  · have HG := Lib.hid (all_bad (f := (fun x => inB x (-600) 600)) (d := 0) (l := xs) hj hb)
    clear hb; go_wp2; go_ret; exact ⟨by rw [HG.out]; simp, HB.out⟩
structure BdGood (b : Bd) : Prop where
  ok : BdOk b
  four : 4 * b.den ≤ b.num
theorem y_bodyNot (num den start : Int) (road : List Int) (q : Option Addr) (c : Nat) (w : World) (hx : RdI w q road) (h : BdGood ⟨num, den, start, road⟩) :
    Calls Tryz.prog 114 #[.agg #[.int .i64 num, .int .i64 den, .int .i64 start, .slice q road.length c]] w fun e w' => e = .returned (.bool false) ∧ Below w.heap.size w w' := by
  obtain ⟨w0, e0, HS0, k0, k1, k2, k3, b0⟩ := box4 w (.int .i64 num) (.int .i64 den) (.int .i64 start) (.slice q road.length c) 141; have HB := Lib.hid b0; obtain ⟨⟨h1, h2, h3, h4, h5⟩, h6⟩ := h; simp only at h1 h2 h3 h4 h5 h6; have HP := Lib.hid (fun W => y_isPeriod num den W h1 h2 h6); have g3 : inB start 0 21599 = true := inB_iff.2 h3; have g4 : inB (road.length : Int) 1 8 = true := inB_iff.2 ⟨by omega, by omega⟩; have HX := Lib.hid (hx.below b0)
  have HG := Lib.hid (show (!road.all fun x => inB x (-600) 600) = false by
    rw [Bool.not_eq_false', List.all_eq_true]; intro x hm; obtain ⟨j, hj, e⟩ := List.getElem_of_mem hm; have := h5 j hj; rw [gi_get _ _ hj] at this; rw [← e]; exact inB_iff.2 this)
  have hl : road.length ≤ 1000000 := by omega
  clear b0 h1 h2 h3 h4 h5 h6 hx
  go_enter Tryz.func114, Tryz.ntmps114
  go_wp2_with fail; clear e0; refine (HP.out _).mono ?_; rintro e w1 ⟨rfl, b1⟩; have HX1 := Lib.hid (HX.out.below b1); have HB1 := Lib.hid (HB.out.trans (b1.mono HB.out.size)); have k0 := (b1.cell (lt_of_cellq k0)).trans k0; have k1 := (b1.cell (lt_of_cellq k1)).trans k1; have k2 := (b1.cell (lt_of_cellq k2)).trans k2; have k3 := (b1.cell (lt_of_cellq k3)).trans k3; clear b1; go_wp2_with fail; refine (y_isPlace _ _).mono ?_; rw [g3]; rintro e w' ⟨rfl, rfl⟩; go_wp2_with fail; refine (y_in _ _ _ _).mono ?_; rw [g4]; rintro e w' ⟨rfl, rfl⟩; go_wp2_with fail; refine (y_cfErr q c road _ HX1.out hl).mono ?_; rw [HG.out]; rintro e w2 ⟨rfl, b2⟩; have HB2 := Lib.hid (HB1.out.trans (b2.mono HB1.out.size)); clear b2; go_wp2; go_ret; exact ⟨rfl, HB2.out⟩
set_option maxHeartbeats 400000 in
set_option maxRecDepth 100000 in
theorem y_ixBody (p : Option Addr) (cap : Nat) (bs : List Bd) (w : World) (hx : RdBd w p bs) (hl : bs.length ≤ 1000000) (hg : ∀ i, i < bs.length → BdGood (gb bs i)) :
    Calls Tryz.prog 148 #[.slice p bs.length cap, .func (.func 114) #[] #[]] w fun e w' => e = .returned (.int .i64 (-1)) ∧ Below w.heap.size w w' := by
  have HX := Lib.hid hx; have HG := Lib.hid hg; clear hx hg
  go_enter Tryz.func148, Tryz.ntmps148
  go_wp2
  go_loopw [8] (fun i wr => ∃ k : Nat, k ≤ bs.length ∧ i = .int .i64 k ∧ Below w.heap.size w wr) (fun i _ => bs.length - (intOf i).toNat)
  case atStart => exact ⟨0, by omega, rfl, Below.refl _ _⟩
  case round =>
    obtain ⟨k, hk, rfl, hnx⟩ := hrel; have HN := Lib.hid hnx
    by_cases hlt : k < bs.length
    · obtain ⟨b, off, rfl, hc⟩ := HX.out.below hnx
      obtain ⟨e1, e2, e3, q, c, e4, hr⟩ := hc k hlt; have hgb := HG.out k hlt; obtain ⟨B, hB⟩ : ∃ B, gb bs k = B := ⟨_, rfl⟩; rw [hB] at e1 e2 e3 e4 hr hgb; obtain ⟨num, den, start, road⟩ := B; simp only at e1 e2 e3 e4 hr; have hcl := y_bodyNot num den start road q c wr hr hgb; clear hc hnx hr hgb hB; go_wp2_with fail; refine hcl.mono ?_; rintro e w4 ⟨rfl, b4⟩; have HN2 := Lib.hid (HN.out.trans (b4.mono HN.out.size)); clear hcl b4; go_wp2; go_roundw
      case rel => exact ⟨k + 1, by omega, by go_num, HN2.out⟩
      case measure => simp [intOf]; omega
    · obtain rfl : k = bs.length := by omega
      go_wp2; go_ret; exact ⟨rfl, HN.out⟩
theorem y_cfBody (p : Option Addr) (cap : Nat) (bs : List Bd) (w : World) (hx : RdBd w p bs) (hl : bs.length ≤ 1000000) (hg : ∀ i, i < bs.length → BdGood (gb bs i)) :
    Calls Tryz.prog 113 #[.slice p bs.length cap, .func (.func 114) #[] #[]] w fun e w' => e = .returned (.bool false) ∧ Below w.heap.size w w' := by
  have h := y_ixBody p cap bs w hx hl hg; clear hx hg
  go_enter Tryz.func113, Tryz.ntmps113
  go_wp2_with fail; refine h.mono ?_; rintro e w' ⟨rfl, hb⟩; have HB := Lib.hid hb; clear h hb; go_wp2; go_ret; exact ⟨rfl, HB.out⟩
structure SkGood (bs : List Bd) (n1 n2 n3 : Int) : Prop where
  len : 2 ≤ bs.length ∧ bs.length ≤ 4
  num : 1 ≤ n1 ∧ n1 ≤ 10000
  den : 1 ≤ n2 ∧ n2 ≤ 10000
  four : 4 * n2 ≤ n1
  at' : 0 ≤ n3 ∧ n3 ≤ 21599
  bodies : ∀ i, i < bs.length → BdGood (gb bs i)
theorem y_isSky (p : Option Addr) (c : Nat) (bs : List Bd) (n1 n2 n3 : Int) (w : World) (hx : RdBd w p bs) (h : SkGood bs n1 n2 n3) :
    Calls Tryz.prog 66 #[.agg #[.slice p bs.length c, .int .i64 n1, .int .i64 n2, .int .i64 n3]] w fun e w' => e = .returned (.bool true) ∧ Below w.heap.size w w' := by
  obtain ⟨w0, e0, HS0, k0, k1, k2, k3, b0⟩ := box4 w (.slice p bs.length c) (.int .i64 n1) (.int .i64 n2) (.int .i64 n3) 83; have HB := Lib.hid b0; obtain ⟨h1, h2, h3, h4, h5, h6⟩ := h; have HP := Lib.hid (fun W => y_isPeriod n1 n2 W h2 h3 h4); have g3 : inB n3 0 21599 = true := inB_iff.2 h5; have g4 : inB (bs.length : Int) 2 4 = true := inB_iff.2 ⟨by omega, by omega⟩; have HX := Lib.hid (hx.below b0); have hl : bs.length ≤ 1000000 := by omega
  have HG := Lib.hid h6; clear b0 h1 h2 h3 h4 h5 h6 hx
  go_enter Tryz.func66, Tryz.ntmps66
  go_wp2_with fail; clear e0; refine (y_in _ _ _ _).mono ?_; rw [g4]; rintro e w' ⟨rfl, rfl⟩; go_wp2_with fail; refine (HP.out _).mono ?_; rintro e w1 ⟨rfl, b1⟩; have HX1 := Lib.hid (HX.out.below b1); have HB1 := Lib.hid (HB.out.trans (b1.mono HB.out.size)); have k0 := (b1.cell (lt_of_cellq k0)).trans k0; have k1 := (b1.cell (lt_of_cellq k1)).trans k1; have k2 := (b1.cell (lt_of_cellq k2)).trans k2; have k3 := (b1.cell (lt_of_cellq k3)).trans k3; clear b1; go_wp2_with fail; refine (y_isPlace _ _).mono ?_; rw [g3]; rintro e w' ⟨rfl, rfl⟩; go_wp2_with fail; refine (y_cfBody p c bs _ HX1.out hl HG.out).mono ?_; rintro e w2 ⟨rfl, b2⟩; have HB2 := Lib.hid (HB1.out.trans (b2.mono HB1.out.size)); clear b2; go_wp2; go_ret; exact ⟨rfl, HB2.out⟩
end Go.Proofs.YtchclaipbahiiaaGreat
end

section
namespace Go.Proofs.YtchclaipbahiiaaGreat
open Go Go.RowKit Go.Proofs Go.Shelf
set_option linter.unusedVariables false
set_option linter.unusedSimpArgs false
attribute [local go_sem] Oper.semAt_some imax2 imin2
theorem row_kept {X Y : World} {row : Option Nat} {B : Nat} {vs : Array Value} {t : TypeId} (h : X.heap[B]? = some (.cells vs t (0, 0))) (hg : X.grownBy Y row) (hr : ∀ r, row = some r → ∃ o, X.heap[r]? = some o ∧ o.isCells = false) : Y.heap[B]? = some (.cells vs t (0, 0)) :=
  (hg.block B (block_lt h) (fun e' => by obtain ⟨o, ho, hc⟩ := hr B e'.symm; rw [h] at ho; cases ho; cases hc)).trans h
theorem keeps_below {B : Nat} {W W' : World} (h : Below W.heap.size W W') : KeepsFrom B W W' := ⟨h.size, fun k o _ hk _ => (h.block k (Array.getElem?_eq_some_iff.1 hk).1).trans hk⟩
theorem fr_other {w : World} {B B' : Nat} (o o' : Nat) (v : Value) (h : B ≠ B') : (w.setCell ⟨B', o', none⟩ v).frozen? ⟨B, o, none⟩ = w.frozen? ⟨B, o, none⟩ := by
  have e := Below.heap_setCell w ⟨B', o', none⟩ v B h; simp only [World.frozen?, e]
def NextPost (day : Int) (w : World) (e : Ending) (w' : World) : Prop := e = .returned (.tuple #[.int .i64 day, .int .i64 0]) ∧ Below w.heap.size w w'
set_option maxRecDepth 100000 in
set_option maxHeartbeats 2000000 in
theorem y_next (p : Option Addr) (c : Nat) (bs : List Bd) (n1 n2 n3 : Int) (w : World) (hx : RdBd w p bs) (h : SkGood bs n1 n2 n3) (m : Nat) (hm : m < 20000) (hno : ∀ i : Nat, i < m → newB bs (1 + i) = false) (hyes : newB bs (1 + m) = true) :
    Calls Tryz.prog 29 #[.agg #[.slice p bs.length c, .int .i64 n1, .int .i64 n2, .int .i64 n3], .int .i64 1, .bool false] w (NextPost (1 + m) w) := by
  refine (callsIn_wide (n := 6)).1 ?_; refine callsIn_of_wp_marks Tryz.func29 rfl trivial ?_ rfl; simp only [Tryz.ntmps29, List.size_toArray, List.length_cons, List.length_nil, Nat.reduceAdd, Nat.reduceSub, Array.replicate_succ, Array.replicate_zero, List.push_toArray, List.append_toArray, List.nil_append, List.cons_append]; obtain ⟨w1, e1, HS1, a0, a1, a2, a3, b1⟩ := box4 w (.slice p bs.length c) (.int .i64 n1) (.int .i64 n2) (.int .i64 n3) 83; obtain ⟨w2, e2, HS2, f0, ff, b2⟩ := box1 w1 (.bool false) 4; obtain ⟨w3, e3, HS3, r0, rf, b3⟩ := box1 w2 (.int .i64 0) 3; obtain ⟨w4, e4, HS4, s0, sf, b4⟩ := box1 w3 (.int .i64 0) 35; have b34 := b3.trans (b4.mono b3.size); have b24 := b2.trans (b34.mono b2.size); have HB4 := Lib.hid (b1.trans (b24.mono b1.size)); have HSK := Lib.hid (y_isSky p c bs n1 n2 n3 w4 (hx.below HB4.out) h); have HX := Lib.hid hx; have HH := Lib.hid h; have HNO := Lib.hid hno
  have HY := Lib.hid hyes; have HA := Lib.hid (cl4 a0 a1 a2 a3 w4 b24); have HF := Lib.hid ((b34.cell (lt_of_cellq f0)).trans f0); have HR := Lib.hid (And.intro ((b4.cell (lt_of_cellq r0)).trans r0) ((b4.frozen (lt_of_cellq r0)).trans rf)); have HSS := Lib.hid (And.intro s0 sf); have hd1 : inB 1 0 20000 = true := by decide
  clear hx h hno hyes b1 b2 b3 b4 b34 b24; clear a0 a1 a2 a3 f0 ff r0 rf s0 sf; obtain ⟨q0, q1, q2, q3⟩ := HA.out
  gi_wp2_with fail
  clear e1 e2 e3 e4; refine ⟨trivial, ?_⟩; refine (callsIn_wide.2 HSK.out).mono ?_; rintro e w5 ⟨rfl, b5⟩; have HB5 := Lib.hid (HB4.out.trans (b5.mono HB4.out.size)); have HA5 := Lib.hid (cl4 q0 q1 q2 q3 w5 b5); have HF5 := Lib.hid ((b5.cell (lt_of_cellq HF.out)).trans HF.out); have HR5 := Lib.hid (And.intro ((b5.cell (lt_of_cellq HR.out.1)).trans HR.out.1) ((b5.frozen (lt_of_cellq HR.out.1)).trans HR.out.2)); have HS5 := Lib.hid (And.intro ((b5.cell (lt_of_cellq HSS.out.1)).trans HSS.out.1) ((b5.frozen (lt_of_cellq HSS.out.1)).trans HSS.out.2)); clear b5 q0 q1 q2 q3 HA HF HR HSS HSK
  gi_wp2_with fail
  refine ⟨trivial, ?_⟩; refine (callsIn_wide.2 (y_isDay _ _)).mono ?_; rw [hd1]; rintro e w' ⟨rfl, rfl⟩; obtain ⟨q0, q1, q2, q3⟩ := HA5.out; obtain ⟨w6, e6, HS6, a0, a1, a2, a3, b6⟩ := box4 w5 (.slice p bs.length c) (.int .i64 n1) (.int .i64 n2) (.int .i64 n3) 83; obtain ⟨w7, e7, HS7, f0, ff, b7⟩ := box1 w6 (.int .i64 1) 3; obtain ⟨w8, e8, HS8, g0, gf, b8⟩ := box1 w7 (.int .i64 20000) 3; have hs6 := HS6.out.symm; have hs7 := HS7.out.symm; have b78 := b7.trans (b8.mono b7.size); have HB8 := Lib.hid (HB5.out.trans ((b6.trans (b78.mono b6.size)).mono HB5.out.size)); have b58 := b6.trans (b78.mono b6.size); have HSZ := Lib.hid (show w5.heap.size < w6.heap.size ∧ w6.heap.size < w7.heap.size ∧ w7.heap.size < w8.heap.size from ⟨by omega, by omega, by have := HS8.out; omega⟩); have hD := y_days (.slice p bs.length c) (.int .i64 n1) (.int .i64 n2) (.int .i64 n3) 1 20000 w5; simp only [e6, e7, e8, hs6, hs7] at hD
  have HSEQ := Lib.hid (days_stops 5 (by omega) w6.heap.size w7.heap.size w5.heap.size w8.heap.size 20000 (.slice p bs.length c) n1 n2 n3 1 20000 (by omega) (by omega) (by omega) w8 (Nat.le_refl _) (by have := HSZ.out; omega) (by have := HSZ.out; omega) (by have := HSZ.out; omega)
    ((b8.cell (lt_of_cellq f0)).trans f0) g0 ((b78.cell (lt_of_cellq a0)).trans a0) ((b78.cell (lt_of_cellq a1)).trans a1) ((b78.cell (lt_of_cellq a2)).trans a2) ((b78.cell (lt_of_cellq a3)).trans a3))
  have HF8 := Lib.hid ((b58.cell (lt_of_cellq HF5.out)).trans HF5.out); have HR8 := Lib.hid (And.intro ((b58.cell (lt_of_cellq HR5.out.1)).trans HR5.out.1) ((b58.frozen (lt_of_cellq HR5.out.1)).trans HR5.out.2)); have HS8' := Lib.hid (And.intro ((b58.cell (lt_of_cellq HS5.out.1)).trans HS5.out.1) ((b58.frozen (lt_of_cellq HS5.out.1)).trans HS5.out.2)); have HBK := Lib.hid (show w.heap.size ≤ w1.heap.size ∧ w.heap.size ≤ w2.heap.size ∧ w2.heap.size < w3.heap.size ∧ w3.heap.size < w8.heap.size from ⟨by have := HS1.out; omega, by have := HS1.out; have := HS2.out; omega, by have := HS3.out; omega, lt_of_cellq HS8'.out.1⟩); clear e6 e7 e8 a0 a1 a2 a3 f0 ff g0 gf b6 b7 b8 b78 b58 hs6 hs7 HA5 HF5 HR5 HS5
  gi_wp2_with fail
  refine ⟨trivial, ?_⟩; refine (callsIn_wide.2 hD).mono ?_; rintro e w' ⟨rfl, rfl⟩; clear hD q0 q1 q2 q3
  gi_wp2_with fail
  refine wpIn_rangeFunc_ownH rfl (by omega) (gf := 116) (lb := #[.pointer (some ⟨w6.heap.size, 0, none⟩), .pointer (some ⟨w7.heap.size, 0, none⟩), .pointer (some ⟨w5.heap.size, 0, none⟩)]) rfl trivial (enters_of Tryz.func116 (by kernel_rfl) rfl)
    HSEQ.out belowK_t (belowK_b (Nat.le_refl _)) (Below.refl _ _) (fun _ => rfl)
    (fun pre W => ((∀ d ∈ pre, newB bs (1 + ((d % 20000 : Nat) : Int)) = false) ∧ W.cell? ⟨w1.heap.size, 0, none⟩ = some (.bool false) ∧ W.cell? ⟨w2.heap.size, 0, none⟩ = some (.int .i64 0) ∧ W.frozen? ⟨w2.heap.size, 0, none⟩ = false ∧ W.cell? ⟨w3.heap.size, 0, none⟩ = some (.int .i64 0) ∧ W.frozen? ⟨w3.heap.size, 0, none⟩ = false) ∧ Below w8.heap.size w8 W)
    (fun c pre W => (c = .ret ∧ ∃ ini last, pre = ini ++ [last] ∧ (∀ d ∈ ini, newB bs (1 + ((d % 20000 : Nat) : Int)) = false) ∧ newB bs (1 + ((last % 20000 : Nat) : Int)) = true ∧ W.cell? ⟨w2.heap.size, 0, none⟩ = some (.int .i64 (1 + ((last % 20000 : Nat) : Int))) ∧ W.cell? ⟨w3.heap.size, 0, none⟩ = some (.int .i64 0)) ∧ Below w.heap.size w W)
    (OwnFrom.and (Own.from (fun s A B row hs hg hr => ⟨hs.1, cell_kept hs.2.1 hg hr, cell_kept hs.2.2.1 hg hr, (frozen_kept hs.2.2.1 hg hr).trans hs.2.2.2.1, cell_kept hs.2.2.2.2.1 hg hr, (frozen_kept hs.2.2.2.2.1 hg hr).trans hs.2.2.2.2.2⟩) _) (ownFrom_below (Nat.le_refl _) (Nat.le_refl _)))
    (fun c => OwnFrom.and (Own.from (fun s A B row hs hg hr => by obtain ⟨hc, ini, last, h1, h2, h3, h4, h5⟩ := hs; exact ⟨hc, ini, last, h1, h2, h3, cell_kept h4 hg hr, cell_kept h5 hg hr⟩) _) (ownFrom_below (Nat.le_refl _) (by have := HBK.out; omega)))
    ⟨⟨by simp, HF8.out, HR8.out.1, HR8.out.2, HS8'.out.1, HS8'.out.2⟩, Below.refl _ _⟩
    (fun x a' W => ∃ Bx, w8.heap.size ≤ Bx ∧ W.heap[Bx]? = some (.cells #[.slice p bs.length c, .int .i64 n1, .int .i64 n2, .int .i64 n3, .int .i64 (1 + ((x % 20000 : Nat) : Int))] 135 (0, 0)) ∧ a' = { tmps := #[.agg #[.slice p bs.length c, .int .i64 n1, .int .i64 n2, .int .i64 n3], .int .i64 1, .bool false, .pointer (some ⟨w.heap.size, 0, none⟩), undef, .pointer (some ⟨w1.heap.size, 0, none⟩), .pointer (some ⟨w2.heap.size, 0, none⟩), .pointer (some ⟨w3.heap.size, 0, none⟩), .pointer (some ⟨Bx, 0, none⟩), .agg #[.slice p bs.length c, .int .i64 n1, .int .i64 n2, .int .i64 n3], .bool true, .bool false, .bool false, .int .i64 1, .bool true, .bool false, .bool false, .agg #[.slice p bs.length c, .int .i64 n1, .int .i64 n2, .int .i64 n3], .int .i64 1, .int .i64 1, .func (.func 116) #[] #[.pointer (some ⟨w6.heap.size, 0, none⟩), .pointer (some ⟨w7.heap.size, 0, none⟩), .pointer (some ⟨w5.heap.size, 0, none⟩)], .agg #[.slice p bs.length c, .int .i64 n1, .int .i64 n2, .int .i64 n3, .int .i64 (1 + ((x % 20000 : Nat) : Int))], undef, undef, undef, undef, undef, undef], defers := [] })
    (fun x a' _ X Y row hs hg hr => by obtain ⟨Bx, h1, h2, h3⟩ := hs; exact ⟨Bx, h1, row_kept h2 hg (fun r e => (hr r e).2), h3⟩)
    ?assign ?body ?done ?stop
  case assign =>
    rintro l pre x W K ⟨⟨hp, hf, hr, hrf, hs, hsf⟩, hB⟩ hK; have hB8W := hB.size; obtain ⟨y, hy⟩ : ∃ y : Int, 1 + ((x % 20000 : Nat) : Int) = y := ⟨_, rfl⟩; simp only [hy] at hK ⊢; obtain ⟨W1, e1, HS1', x0, x1, x2, x3, x4, b1⟩ := box5 W (.slice p bs.length c) (.int .i64 n1) (.int .i64 n2) (.int .i64 n3) (.int .i64 y) 135; have kx := alloc_new W (.cells #[.slice p bs.length c, .int .i64 n1, .int .i64 n2, .int .i64 n3, .int .i64 y] 135); rw [e1] at kx; have hfin := hK { tmps := #[.agg #[.slice p bs.length c, .int .i64 n1, .int .i64 n2, .int .i64 n3], .int .i64 1, .bool false, .pointer (some ⟨w.heap.size, 0, none⟩), undef, .pointer (some ⟨w1.heap.size, 0, none⟩), .pointer (some ⟨w2.heap.size, 0, none⟩), .pointer (some ⟨w3.heap.size, 0, none⟩), .pointer (some ⟨W.heap.size, 0, none⟩), .agg #[.slice p bs.length c, .int .i64 n1, .int .i64 n2, .int .i64 n3], .bool true, .bool false, .bool false, .int .i64 1, .bool true, .bool false, .bool false, .agg #[.slice p bs.length c, .int .i64 n1, .int .i64 n2, .int .i64 n3], .int .i64 1, .int .i64 1, .func (.func 116) #[] #[.pointer (some ⟨w6.heap.size, 0, none⟩), .pointer (some ⟨w7.heap.size, 0, none⟩), .pointer (some ⟨w5.heap.size, 0, none⟩)], .agg #[.slice p bs.length c, .int .i64 n1, .int .i64 n2, .int .i64 n3, .int .i64 y], undef, undef, undef, undef, undef, undef], defers := [] } W1 (keeps_below b1) (b1.mono hB8W) ⟨⟨hp, (b1.cell (lt_of_cellq hf)).trans hf, (b1.cell (lt_of_cellq hr)).trans hr, (b1.frozen (lt_of_cellq hr)).trans hrf, (b1.cell (lt_of_cellq hs)).trans hs, (b1.frozen (lt_of_cellq hs)).trans hsf⟩, hB.trans (b1.mono hB.size)⟩ ⟨W.heap.size, hB8W, kx, rfl⟩
    gi_wp2
    exact hfin
  case body =>
    rintro l pre x a' W hl hrec ⟨⟨hp, hf, hr, hrf, hs, hsf⟩, hB⟩ ⟨Bx, hBx, kx, rfl⟩ hlt; have hd : 1 ≤ 4 := by omega
    have hmx : Tryz.prog.follows .mixedOrders = true := by kernel_rfl
    have HBW := Lib.hid (HB8.out.trans (hB.mono HB8.out.size)); have HPR := Lib.hid hp; have HB8W := Lib.hid hB.size; have HBO := Lib.hid hB; have hday : 1 ≤ 1 + ((x % 20000 : Nat) : Int) ∧ 1 + ((x % 20000 : Nat) : Int) ≤ 20000 := by have := Nat.mod_lt x (show 20000 > 0 by decide); omega
    obtain ⟨y, hy⟩ : ∃ y : Int, 1 + ((x % 20000 : Nat) : Int) = y := ⟨_, rfl⟩; rw [hy] at hday kx; simp only [hy]; have HYY := Lib.hid hy; clear hy; have HHAS := Lib.hid (fun W2 (b : Below W.heap.size W W2) => y_has p c bs n1 n2 n3 y W2 (HX.out.below (HBW.out.trans (b.mono HBW.out.size))) HH.out.len.1 (HH.out.bodies 0 (by have := HH.out.len; omega)).ok (HH.out.bodies 1 (by have := HH.out.len; omega)).ok hday (by have := HH.out.len; omega))
    obtain ⟨x0, x1, x2, x3, x4⟩ : W.cell? ⟨Bx, 0, none⟩ = some (.slice p bs.length c) ∧ W.cell? ⟨Bx, 1, none⟩ = some (.int .i64 n1) ∧ W.cell? ⟨Bx, 2, none⟩ = some (.int .i64 n2) ∧ W.cell? ⟨Bx, 3, none⟩ = some (.int .i64 n3) ∧ W.cell? ⟨Bx, 4, none⟩ = some (.int .i64 y) := by
      refine ⟨?_, ?_, ?_, ?_, ?_⟩ <;> (rw [cell_of_row _ _ _ _ _ _ kx]; rfl)
    have HXX := Lib.hid x4; have HRR := Lib.hid (And.intro hr hrf); have HSS := Lib.hid (And.intro hs hsf); clear hp hr hrf hs hsf hB hrec kx; have HFF := Lib.hid hf; clear hf
    rcases hnb : newB bs y with _ | _
    · rw [hnb] at HHAS
      have HNB := Lib.hid hnb; clear hnb; have hf := HFF.out
      gi_wp2
      gi_region_with_o (first
        | (refine ⟨trivial, ?_⟩; refine (CallsIn.inRound l (callsIn_wide.2 (y_moonOf _))).mono ?_; rintro e w' ⟨rfl, rfl⟩)
        | (refine ⟨trivial, ?_⟩; refine (CallsIn.inRound l (callsIn_wide.2 (HHAS.out _ (by first | exact Below.refl _ _ | exact (Below.refl _ _).drew | exact (Below.refl _ _).drew.drew)))).mono ?_; rintro e W2 ⟨rfl, b2⟩))
      all_goals
        have hbW : Below W.heap.size W W2 := by first | exact b2 | exact (Below.refl _ _).drew.trans b2 | exact (Below.refl _ _).drew.drew.trans b2
        have HBW2 := Lib.hid hbW; clear hbW b2 x0 x1 x2 x3 x4 hf
        gi_wp2
        have hI : ∀ W3 : World, Below W.heap.size W W3 → _ := fun W3 b => (And.intro (keeps_below (B := w8.heap.size) b) (And.intro (b.mono HB8W.out) (And.intro (show (∀ d ∈ pre ++ [x], newB bs (1 + ((d % 20000 : Nat) : Int)) = false) ∧ W3.cell? ⟨w1.heap.size, 0, none⟩ = some (.bool false) ∧ W3.cell? ⟨w2.heap.size, 0, none⟩ = some (.int .i64 0) ∧ W3.frozen? ⟨w2.heap.size, 0, none⟩ = false ∧ W3.cell? ⟨w3.heap.size, 0, none⟩ = some (.int .i64 0) ∧ W3.frozen? ⟨w3.heap.size, 0, none⟩ = false from
          ⟨fun d hd' => (List.mem_append.1 hd').elim (HPR.out d) (fun e => by simp only [List.mem_singleton] at e; rw [e, HYY.out]; exact HNB.out), (b.cell (lt_of_cellq HFF.out)).trans HFF.out, (b.cell (lt_of_cellq HRR.out.1)).trans HRR.out.1, (b.frozen (lt_of_cellq HRR.out.1)).trans HRR.out.2, (b.cell (lt_of_cellq HSS.out.1)).trans HSS.out.1, (b.frozen (lt_of_cellq HSS.out.1)).trans HSS.out.2⟩) (HBO.out.trans (b.mono HBO.out.size)))))
        first | exact hI _ HBW2.out | exact hI _ HBW2.out.drew | exact hI _ HBW2.out.drew.drew
    · rw [hnb] at HHAS
      have HNB := Lib.hid hnb; clear hnb; have hf := HFF.out
      gi_wp2
      gi_region_with_o (first
        | (refine ⟨trivial, ?_⟩; refine (CallsIn.inRound l (callsIn_wide.2 (y_moonOf _))).mono ?_; rintro e w' ⟨rfl, rfl⟩)
        | (refine ⟨trivial, ?_⟩; refine (CallsIn.inRound l (callsIn_wide.2 (HHAS.out _ (by first | exact Below.refl _ _ | exact (Below.refl _ _).drew | exact (Below.refl _ _).drew.drew)))).mono ?_; rintro e W2 ⟨rfl, b2⟩))
      all_goals
        have hbW : Below W.heap.size W W2 := by first | exact b2 | exact (Below.refl _ _).drew.trans b2 | exact (Below.refl _ _).drew.drew.trans b2
        have HBW2 := Lib.hid hbW; have m4 := (hbW.cell (lt_of_cellq HXX.out)).trans HXX.out; have m5 := (hbW.cell (lt_of_cellq HRR.out.1)).trans HRR.out.1; have m6 := (hbW.frozen (lt_of_cellq HRR.out.1)).trans HRR.out.2; have m7 := (hbW.cell (lt_of_cellq HSS.out.1)).trans HSS.out.1; have m8 := (hbW.frozen (lt_of_cellq HSS.out.1)).trans HSS.out.2; have hne : w3.heap.size ≠ w2.heap.size := by have := HBK.out; omega
        obtain ⟨W3, s3⟩ : ∃ W3, W2.setCell ⟨w2.heap.size, 0, none⟩ (.int .i64 y) = W3 := ⟨_, rfl⟩; have u7 : W3.cell? ⟨w3.heap.size, 0, none⟩ = some (.int .i64 0) := by rw [← s3, World.cell?_setCell_other _ _ _ _ (by intro h; have := congrArg Addr.block h; simp only at this; omega)]; exact m7
        have u8 : W3.frozen? ⟨w3.heap.size, 0, none⟩ = false := by rw [← s3, fr_other _ _ _ hne]; exact m8
        have u5 : W3.cell? ⟨w2.heap.size, 0, none⟩ = some (.int .i64 y) := by rw [← s3]; exact World.cell?_setCell_same' _ _ _ (by rw [m5]; rfl)
        obtain ⟨W4, s4⟩ : ∃ W4, W3.setCell ⟨w3.heap.size, 0, none⟩ (.int .i64 0) = W4 := ⟨_, rfl⟩; have t7 : W4.cell? ⟨w3.heap.size, 0, none⟩ = some (.int .i64 0) := by rw [← s4]; exact World.cell?_setCell_same' _ _ _ (by rw [u7]; rfl)
        have t5 : W4.cell? ⟨w2.heap.size, 0, none⟩ = some (.int .i64 y) := by rw [← s4, World.cell?_setCell_other _ _ _ _ (by intro h; have := congrArg Addr.block h; simp only at this; omega)]; exact u5
        have HK := Lib.hid (show KeepsFrom w8.heap.size W W4 by
          rw [← s4, ← s3]; exact (keeps_below hbW).trans (((KeepsOthers.setCell _ _ _).trans (KeepsOthers.setCell _ _ _)).from _))
        have HBF := Lib.hid (show Below w.heap.size w W4 by
          rw [← s4, ← s3]; exact ((HBW.out.trans (hbW.mono HBW.out.size)).setCell (p := ⟨w2.heap.size, 0, none⟩) (by have := HBK.out; show _ ≤ w2.heap.size; omega) _).setCell (p := ⟨w3.heap.size, 0, none⟩) (by have := HBK.out; show _ ≤ w3.heap.size; omega) _)
        have HT := Lib.hid (And.intro t5 t7); clear hbW b2 x0 x1 x2 x3 x4 hf u5 t5 t7
        gi_wp2
        exact ⟨HK.out, ⟨rfl, pre, x, rfl, HPR.out, by rw [HYY.out]; exact HNB.out, by rw [HYY.out]; exact HT.out.1, HT.out.2⟩, HBF.out⟩
  case done =>
    rintro D xs W hD rfl ⟨⟨hp, _⟩, _⟩ hK; have := hp m (List.mem_range.2 hm); rw [Nat.mod_eq_of_lt hm, HY.out] at this
    cases this
  case stop =>
    rintro D cc pre W hD ⟨k, hk, rfl⟩ ⟨⟨rfl, ini, last, g1, g2, g3, g4, g5⟩, hB⟩ hK; have G1 := Lib.hid g1; have G2 := Lib.hid g2; have G3 := Lib.hid g3; clear g1 g2 g3
    gi_wp2
    refine ⟨by simp, .inl ⟨_, _, rfl, run_takeDeferred hK, ?_⟩⟩; have c5 := cell_kept g4 (grownBy_putObj' _ D (.deferred none)) (fun r e => by cases e; exact ⟨_, hK, rfl⟩); have c7 := cell_kept g5 (grownBy_putObj' _ D (.deferred none)) (fun r e => by cases e; exact ⟨_, hK, rfl⟩); have g1 := G1.out
    obtain ⟨k', rfl⟩ : ∃ k', k = k' + 1 := by
      cases k with
      | zero => simp at g1
      | succ k' => exact ⟨k', rfl⟩
    rw [List.range_succ] at g1; obtain ⟨rfl, h5⟩ := List.append_inj' g1 rfl; obtain rfl : k' = last := by simpa using h5
    have hkm : k' = m := by
      rcases Nat.lt_trichotomy k' m with h | h | h
      · have h2 := HNO.out k' h
        have h3 := G3.out; rw [Nat.mod_eq_of_lt (by omega), h2] at h3
        cases h3
      · exact h
      · have h2 := G2.out m (List.mem_range.2 h)
        rw [Nat.mod_eq_of_lt hm, HY.out] at h2
        cases h2
    subst hkm; rw [Nat.mod_eq_of_lt hm] at c5; refine ⟨.tuple #[.int .i64 (1 + k'), .int .i64 0], ?_, rfl, hB.trans (belowK_b (w := w) (Nat.le_refl _) W D _ _ (by have := HBK.out; omega) hK rfl rfl)⟩; simp [results, Tryz.results29, go_sem, c5, c7]
end Go.Proofs.YtchclaipbahiiaaGreat
end

section
namespace Go.Proofs.YtchclaipbahiiaaGreat
open Go Go.RowKit Go.Proofs
set_option linter.unusedVariables false
set_option linter.unusedSimpArgs false
attribute [local go_sem] imax2 imin2
def skyE : List Bd := [⟨360, 1, 0, [0]⟩, ⟨27, 1, 0, [0, 300, 0, -300]⟩]
theorem skyE_no : ∀ i : Nat, i < 29 → newB skyE (1 + i) = false := by decide +kernel
theorem skyE_yes : newB skyE (1 + (29 : Nat)) = true := by decide +kernel
theorem skyE_good : SkGood skyE 6000 1 1000 := by
  refine ⟨by decide, by decide, by decide, by decide, by decide, ?_⟩; intro i hi; have : i = 0 ∨ i = 1 := by have : skyE.length = 2 := rfl; omega
  rcases this with rfl | rfl
  · exact ⟨⟨by decide, by decide, by decide, by decide, by decide⟩, by decide⟩
  · exact ⟨⟨by decide, by decide, by decide, by decide, by decide⟩, by decide⟩
def SPost (w : World) (e : Ending) (w' : World) : Prop := ∃ p c, e = .returned (.agg #[.slice p skyE.length c, .int .i64 6000, .int .i64 1, .int .i64 1000]) ∧ RdBd w' p skyE ∧ Below w.heap.size w w'
theorem e_S (w : World) : Calls Tryz.prog 30 #[] w (SPost w) := by
  go_enter Tryz.func30, Tryz.ntmps30
  go_wp2; obtain ⟨w1, e1⟩ : ∃ w1, w.alloc (.cells #[.slice (some ⟨w.heap.size + 1 + 1 + 1, 0, none⟩) 2 2, .int .i64 6000, .int .i64 1, .int .i64 1000] 83) = w1 := ⟨_, rfl⟩; have k1 := alloc_new w (.cells #[.slice (some ⟨w.heap.size + 1 + 1 + 1, 0, none⟩) 2 2, .int .i64 6000, .int .i64 1, .int .i64 1000] 83); have s1 : w1.heap.size = w.heap.size + 1 := by rw [← e1]; simp
  have b1 : Below w.heap.size w w1 := by rw [← e1]; exact below_alloc1 _ _
  rw [e1] at k1 ⊢; obtain ⟨w2, e2⟩ : ∃ w2, w1.alloc (.cells #[.int .i64 0] 3) = w2 := ⟨_, rfl⟩; have k2 := alloc_new w1 (.cells #[.int .i64 0] 3); have s2 : w2.heap.size = w1.heap.size + 1 := by rw [← e2]; simp
  have b2 : Below w1.heap.size w1 w2 := by rw [← e2]; exact below_alloc1 _ _
  rw [e2] at k2 ⊢; obtain ⟨w3, e3⟩ : ∃ w3, w2.alloc (.cells #[.int .i64 0, .int .i64 300, .int .i64 0, .int .i64 (-300)] 3) = w3 := ⟨_, rfl⟩; have k3 := alloc_new w2 (.cells #[.int .i64 0, .int .i64 300, .int .i64 0, .int .i64 (-300)] 3); have s3 : w3.heap.size = w2.heap.size + 1 := by rw [← e3]; simp
  have b3 : Below w2.heap.size w2 w3 := by rw [← e3]; exact below_alloc1 _ _
  rw [e3] at k3 ⊢; obtain ⟨w4, e4⟩ : ∃ w4, w3.alloc (.cells #[.int .i64 360, .int .i64 1, .int .i64 0, .slice (some ⟨w.heap.size + 1, 0, none⟩) 1 1, .int .i64 27, .int .i64 1, .int .i64 0, .slice (some ⟨w.heap.size + 1 + 1, 0, none⟩) 4 4] 141) = w4 := ⟨_, rfl⟩; have k4 := alloc_new w3 (.cells #[.int .i64 360, .int .i64 1, .int .i64 0, .slice (some ⟨w.heap.size + 1, 0, none⟩) 1 1, .int .i64 27, .int .i64 1, .int .i64 0, .slice (some ⟨w.heap.size + 1 + 1, 0, none⟩) 4 4] 141); have b4 : Below w3.heap.size w3 w4 := by rw [← e4]; exact below_alloc1 _ _
  rw [e4] at k4 ⊢; have b34 := b3.trans (b4.mono b3.size); have b24 := b2.trans (b34.mono b2.size); have q1 := (b24.block _ (block_lt k1)).trans k1; have q2 := (b34.block _ (block_lt k2)).trans k2; have q3 := (b4.block _ (block_lt k3)).trans k3; have hb := b1.trans (b24.mono b1.size); rw [show w3.heap.size = w.heap.size + 1 + 1 + 1 by omega] at k4; rw [show w2.heap.size = w.heap.size + 1 + 1 by omega] at q3; rw [s1] at q2; clear e1 e2 e3 e4 s1 s2 s3 b1 b2 b3 b4 b34 b24 k1 k2 k3; have c0 : w4.cell? ⟨w.heap.size, 0, none⟩ = some (.slice (some ⟨w.heap.size + 1 + 1 + 1, 0, none⟩) 2 2) := by rw [cell_of_row _ _ _ _ _ _ q1]; rfl
  have c1 : w4.cell? ⟨w.heap.size, 1, none⟩ = some (.int .i64 6000) := by rw [cell_of_row _ _ _ _ _ _ q1]; rfl
  have c2 : w4.cell? ⟨w.heap.size, 2, none⟩ = some (.int .i64 1) := by rw [cell_of_row _ _ _ _ _ _ q1]; rfl
  have c3 : w4.cell? ⟨w.heap.size, 3, none⟩ = some (.int .i64 1000) := by rw [cell_of_row _ _ _ _ _ _ q1]; rfl
  refine bodyPost_ret (v := .agg #[.slice (some ⟨w.heap.size + 1 + 1 + 1, 0, none⟩) 2 2, .int .i64 6000, .int .i64 1, .int .i64 1000]) ?_ rfl ?_
  · simp [results, Tryz.results30, go_sem, c0, c1, c2, c3]
  · refine ⟨some ⟨w.heap.size + 1 + 1 + 1, 0, none⟩, 2, rfl, ⟨_, _, rfl, ?_⟩, hb⟩
    intro i hi; have hi' : i = 0 ∨ i = 1 := by have : skyE.length = 2 := rfl; omega
    rcases hi' with rfl | rfl
    · refine ⟨?_, ?_, ?_, some ⟨w.heap.size + 1, 0, none⟩, 1, ?_, .inr ⟨_, _, rfl, ?_⟩⟩
      iterate 4 (rw [cell_of_row _ _ _ _ _ _ k4]; rfl)
      intro j hj; obtain rfl : j = 0 := by have : (gb skyE 0).road.length = 1 := rfl; omega
      rw [cell_of_row _ _ _ _ _ _ q2]; rfl
    · refine ⟨?_, ?_, ?_, some ⟨w.heap.size + 1 + 1, 0, none⟩, 4, ?_, .inr ⟨_, _, rfl, ?_⟩⟩
      iterate 4 (rw [cell_of_row _ _ _ _ _ _ k4]; rfl)
      intro j hj; have hj' : j = 0 ∨ j = 1 ∨ j = 2 ∨ j = 3 := by have : (gb skyE 1).road.length = 4 := rfl; omega
      rcases hj' with rfl | rfl | rfl | rfl <;> (rw [cell_of_row _ _ _ _ _ _ q3]; rfl)
theorem e_next (p : Option Addr) (c : Nat) (w : World) (hx : RdBd w p skyE) : Calls Tryz.prog 29 #[.agg #[.slice p skyE.length c, .int .i64 6000, .int .i64 1, .int .i64 1000], .int .i64 1, .bool false] w (NextPost 30 w) :=
  y_next p c skyE 6000 1 1000 w hx skyE_good 29 (by omega) skyE_no skyE_yes
def RPost (w : World) (e : Ending) (w' : World) : Prop := ∃ p c, e = .returned (.agg #[.int .i64 6, .int .i64 12, .int .i64 2, .int .i64 1, .slice p [(7 : Int)].length c]) ∧ RdI w' p [7] ∧ Below w.heap.size w w'
theorem e_R (w : World) : Calls Tryz.prog 26 #[] w (RPost w) := by
  go_enter Tryz.func26, Tryz.ntmps26
  go_wp2; obtain ⟨w1, e1⟩ : ∃ w1, w.alloc (.cells #[.int .i64 6, .int .i64 12, .int .i64 2, .int .i64 1, .slice (some ⟨w.heap.size + 1, 0, none⟩) 1 1] 25) = w1 := ⟨_, rfl⟩; have k1 := alloc_new w (.cells #[.int .i64 6, .int .i64 12, .int .i64 2, .int .i64 1, .slice (some ⟨w.heap.size + 1, 0, none⟩) 1 1] 25); have s1 : w1.heap.size = w.heap.size + 1 := by rw [← e1]; simp
  have b1 : Below w.heap.size w w1 := by rw [← e1]; exact below_alloc1 _ _
  rw [e1] at k1 ⊢; obtain ⟨w2, e2⟩ : ∃ w2, w1.alloc (.cells #[.int .i64 7] 3) = w2 := ⟨_, rfl⟩; have k2 := alloc_new w1 (.cells #[.int .i64 7] 3); have b2 : Below w1.heap.size w1 w2 := by rw [← e2]; exact below_alloc1 _ _
  rw [e2] at k2 ⊢; have q1 := (b2.block _ (block_lt k1)).trans k1; have hb := b1.trans (b2.mono b1.size); rw [s1] at k2; clear e1 e2 b1 b2 k1 s1; have c0 : w2.cell? ⟨w.heap.size, 0, none⟩ = some (.int .i64 6) := by rw [cell_of_row _ _ _ _ _ _ q1]; rfl
  have c1 : w2.cell? ⟨w.heap.size, 1, none⟩ = some (.int .i64 12) := by rw [cell_of_row _ _ _ _ _ _ q1]; rfl
  have c2 : w2.cell? ⟨w.heap.size, 2, none⟩ = some (.int .i64 2) := by rw [cell_of_row _ _ _ _ _ _ q1]; rfl
  have c3 : w2.cell? ⟨w.heap.size, 3, none⟩ = some (.int .i64 1) := by rw [cell_of_row _ _ _ _ _ _ q1]; rfl
  have c4 : w2.cell? ⟨w.heap.size, 4, none⟩ = some (.slice (some ⟨w.heap.size + 1, 0, none⟩) 1 1) := by rw [cell_of_row _ _ _ _ _ _ q1]; rfl
  refine bodyPost_ret (v := .agg #[.int .i64 6, .int .i64 12, .int .i64 2, .int .i64 1, .slice (some ⟨w.heap.size + 1, 0, none⟩) 1 1]) ?_ rfl ?_
  · simp [results, Tryz.results26, go_sem, c0, c1, c2, c3, c4]
  · refine ⟨_, _, rfl, .inr ⟨_, _, rfl, ?_⟩, hb⟩
    intro j hj; obtain rfl : j = 0 := by simp only [List.length_cons, List.length_nil] at hj; omega
    rw [cell_of_row _ _ _ _ _ _ k2]; rfl
theorem e_F (w : World) : Calls Tryz.prog 27 #[] w fun e w' => e = .returned (.agg #[.int .i64 43, .int .i64 30]) ∧ Below w.heap.size w w' := by
  obtain ⟨w1, e1, HS1, c0, c1, b1⟩ := box2 w (.int .i64 43) (.int .i64 30) 27
  go_enter Tryz.func27, Tryz.ntmps27
  go_wp2; refine bodyPost_ret (v := .agg #[.int .i64 43, .int .i64 30]) ?_ rfl ⟨rfl, b1⟩; simp [results, Tryz.results27, go_sem, c0, c1]
def TPost (w : World) (e : Ending) (w' : World) : Prop := ∃ p c, e = .returned (.slice p [((12 : Int), (10 : Int)), (12, 10)].length c) ∧ RdS w' p [(12, 10), (12, 10)] ∧ Below w.heap.size w w'
theorem e_T (w : World) : Calls Tryz.prog 32 #[] w (TPost w) := by
  go_enter Tryz.func32, Tryz.ntmps32
  go_wp2; have k1 := alloc_new w (.cells #[.int .i64 12, .int .i64 10, .int .i64 12, .int .i64 10] 99); have b1 := below_alloc1 w (.cells #[.int .i64 12, .int .i64 10, .int .i64 12, .int .i64 10] 99); go_ret; refine ⟨_, _, rfl, ?_, b1⟩; refine .inr ⟨_, _, rfl, ?_⟩; intro j hj; have hj' : j = 0 ∨ j = 1 := by simp only [List.length_cons, List.length_nil] at hj; omega
  rcases hj' with rfl | rfl
  · exact ⟨by rw [cell_of_row _ _ _ _ _ _ k1]; rfl, by rw [cell_of_row _ _ _ _ _ _ k1]; rfl⟩
  · exact ⟨by rw [cell_of_row _ _ _ _ _ _ k1]; rfl, by rw [cell_of_row _ _ _ _ _ _ k1]; rfl⟩
theorem shopE_far : ∀ i : Nat, i < 3 → farF (shopE.take i) (gk shopE i).1.toNat ≤ 2 := by decide +kernel
theorem shopE_good : PcGood shopE [2, 3] := by
  refine ⟨by decide, by decide, fun i hi => ?_, fun i hi => ?_, fun i hi => ?_, fun i hi => shopE_far i hi, by decide⟩ <;>
  · have : i = 0 ∨ i = 1 ∨ i = 2 := by have : shopE.length = 3 := rfl; omega
    rcases this with rfl | rfl | rfl <;> decide
theorem shopE_rat : gm (ratTo shopE 3) 3 = (3, 4) := by decide +kernel
theorem shopE_sen : (senTo shopE 3).getD 3 false = true := by decide +kernel
theorem ruleE : RuleOk 6 12 2 1 [7] := ⟨by decide, by decide, by decide, by decide, by decide, by decide, by decide⟩
set_option maxHeartbeats 3200000 in
set_option maxRecDepth 100000 in
theorem d_known (w : World) : Calls Tryz.prog 8 #[] w fun e w' => e = .returned (.bool true) ∧ Below w.heap.size w w' := by
  go_enter Tryz.func8, Tryz.ntmps8
  go_wp2_with fail; refine (e_R _).mono ?_; rintro e w1 ⟨pn, cn, rfl, hrn, b1⟩; have HRN := Lib.hid hrn; have HB1 := Lib.hid b1; clear hrn b1; go_wp2_with fail; refine (e_F _).mono ?_; rintro e w2 ⟨rfl, b2⟩; have hn := t_Nearest 6 12 2 1 pn cn [7] 43 30 w2 (HRN.out.below b2) ruleE (by decide) (by decide); rw [show (2 : Int).toNat = 2 from rfl] at hn; unfold NstPost at hn; rw [ex_nearest] at hn; have HB2 := Lib.hid (HB1.out.trans (b2.mono HB1.out.size)); clear b2; go_wp2_with fail; refine hn.mono ?_; clear hn; rintro e w3 ⟨⟨pl, cl, rfl, hrl⟩, b3⟩; have HRL := Lib.hid hrl; have HB3 := Lib.hid (HB2.out.trans (b3.mono HB2.out.size)); clear hrl b3; go_wp2_with fail; refine (e_P _).mono ?_; rintro e w4 ⟨pp, cp, qp, dp, rfl, hlk, hsp, hcap, b4⟩; have hr := h_Rates pp qp cp dp shopE [2, 3] w4 hlk hsp shopE_good hcap; have HB4 := Lib.hid (HB3.out.trans (b4.mono HB3.out.size)); have HRL4 := Lib.hid (HRL.out.below b4)
  clear hlk hsp hcap b4; go_wp2_with fail; refine hr.mono ?_; clear hr; rintro e w5 ⟨pr, cr, ps, cs, rfl, hrr, hrs, b5⟩; have HRR := Lib.hid hrr; have HRS := Lib.hid hrs; have HB5 := Lib.hid (HB4.out.trans (b5.mono HB4.out.size)); have HRL5 := Lib.hid (HRL4.out.below b5); clear hrr hrs b5; go_wp2_with fail; refine (e_S _).mono ?_; rintro e w6 ⟨pk, ck, rfl, hsk, b6⟩; have hnx := e_next pk ck w6 hsk; have HB6 := Lib.hid (HB5.out.trans (b6.mono HB5.out.size)); have HRL6 := Lib.hid (HRL5.out.below b6); have HRR6 := Lib.hid (HRR.out.below b6); have HRS6 := Lib.hid (HRS.out.below b6); clear hsk b6; go_wp2_with fail; refine hnx.mono ?_; clear hnx; rintro e w7 ⟨rfl, b7⟩; have HB7 := Lib.hid (HB6.out.trans (b7.mono HB6.out.size)); have HRL7 := Lib.hid (HRL6.out.below b7); have HRR7 := Lib.hid (HRR6.out.below b7); have HRS7 := Lib.hid (HRS6.out.below b7); clear b7; go_wp2_with fail; refine (e_T _).mono ?_
  rintro e w8 ⟨pt, ct, rfl, hrt, b8⟩; have HB8 := Lib.hid (HB7.out.trans (b8.mono HB7.out.size)); have hsm := a_same pl pt cl ct [((12 : Int), (10 : Int)), (12, 10)] w8 (HRL7.out.below b8) hrt (by decide); have HRR8 := Lib.hid (HRR7.out.below b8); have HRS8 := Lib.hid (HRS7.out.below b8); clear b8 hrt; go_wp2_with fail; refine hsm.mono ?_; clear hsm; rintro e w9 ⟨rfl, b9⟩; have HB9 := Lib.hid (HB8.out.trans (b9.mono HB8.out.size)); obtain ⟨br, or, rfl, hc⟩ := (HRR8.out.below b9).at (i := 3) (by rw [ratTo_len]; decide); obtain ⟨d0, d1⟩ := hc 3 (by rw [ratTo_len]; decide); rw [show gm (ratTo shopE shopE.length) 3 = (3, 4) from shopE_rat] at d0 d1; obtain ⟨bs, os, rfl, hc2⟩ := HRS8.out.below b9; have d2 := hc2 3 (by rw [senTo_len]; decide); rw [show (senTo shopE shopE.length).getD 3 false = true from shopE_sen] at d2; simp only [] at d0 d1; clear b9 hc hc2; go_wp2; go_ret; exact ⟨rfl, HB9.out⟩
end Go.Proofs.YtchclaipbahiiaaGreat
end

section
namespace Go.Proofs.YtchclaipbahiiaaGreat
set_option linter.unusedVariables false
def prodI (t : List Int) : List Nat → Int
  | [] => 1
  | i :: r => gi t i * prodI t r
theorem prodI_perm {t : List Int} {a b : List Nat} (h : a.Perm b) : prodI t a = prodI t b := by
  induction h with
  | nil => rfl
  | cons x _ ih => simp only [prodI, ih]
  | swap x y l => simp only [prodI]; rw [← Int.mul_assoc, ← Int.mul_assoc, Int.mul_comm (gi t y)]
  | trans _ _ h1 h2 => exact h1.trans h2
theorem prdF_sorted {t : List Int} : ∀ (l : List Nat) (k : Nat) (now : Int), (∀ i ∈ l, k ≤ i ∧ i < t.length) → l.Pairwise (· ≤ ·) → now * prodI t l ∈ prdF t l.length k now := by
  intro l
  induction l with
  | nil => intro k now _ _; simp [prodI, prdF]
  | cons i r ih =>
    intro k now h hp; obtain ⟨h1, h2⟩ := h i (.head _); rw [List.pairwise_cons] at hp; show now * (gi t i * prodI t r) ∈ (List.range' k (t.length - k)).flatMap fun i => prdF t r.length i (now * gi t i)
    rw [List.mem_flatMap]; refine ⟨i, by rw [List.mem_range'_1]; omega, ?_⟩; rw [← Int.mul_assoc]; exact ih i _ (fun j hj => ⟨hp.1 j hj, (h j (.tail _ hj)).2⟩) hp.2
theorem prods_any {t : List Int} (l : List Nat) (h : ∀ i ∈ l, i < t.length) : prodI t l ∈ prodsL t l.length := by
  have hp := List.mergeSort_perm l (fun a b => decide (a ≤ b)); have hs := List.pairwise_mergeSort (le := fun (a b : Nat) => decide (a ≤ b)) (fun a b c h1 h2 => by simp at *; omega) (fun a b => by simp; omega) l; have h1 := prdF_sorted (t := t) (l.mergeSort fun a b => decide (a ≤ b)) 0 1 (fun i hi => ⟨Nat.zero_le _, h i (hp.mem_iff.1 hi)⟩) (hs.imp fun h => by simpa using h); rw [Int.one_mul, prodI_perm hp, hp.length_eq] at h1; exact h1
theorem prdF_of {t : List Int} : ∀ (n k : Nat) (now x : Int), x ∈ prdF t n k now → ∃ l : List Nat, l.length = n ∧ (∀ i ∈ l, i < t.length) ∧ x = now * prodI t l := by
  intro n
  induction n with
  | zero => intro k now x h; exact ⟨[], rfl, (fun i hi => by cases hi), by simpa [prdF, prodI] using h⟩
  | succ n ih =>
    intro k now x h; have h2 : x ∈ (List.range' k (t.length - k)).flatMap fun i => prdF t n i (now * gi t i) := h
    rw [List.mem_flatMap] at h2; obtain ⟨i, hi, hx⟩ := h2; obtain ⟨l, e1, e2, e3⟩ := ih i _ x hx; rw [List.mem_range'_1] at hi; refine ⟨i :: l, by simp [e1], fun j hj => ?_, by rw [e3, Int.mul_assoc]; rfl⟩
    rcases List.mem_cons.1 hj with rfl | hj
    · omega
    · exact e2 j hj
theorem srtF_of {t : List Int} {n : Nat} {x : Int} (h : x ∈ srtF t n) : ∃ l : List Nat, l.length = n ∧ (∀ i ∈ l, i < t.length) ∧ x = prodI t l := by
  unfold srtF at h; rw [List.mem_map] at h; obtain ⟨y, hy, rfl⟩ := h; rw [List.mem_filter] at hy; have h2 := hy.2; rw [List.contains_iff_mem] at h2; obtain ⟨l, e1, e2, e3⟩ := prdF_of n 0 1 _ h2; exact ⟨l, e1, e2, by rw [e3, Int.one_mul]⟩
def prodV : List Int → Int
  | [] => 1
  | a :: r => a * prodV r
theorem prodV_in {l : List Int} (h : ∀ x ∈ l, 1 ≤ x ∧ x ≤ 60) : 1 ≤ prodV l ∧ prodV l ≤ 60 ^ l.length := by
  induction l with
  | nil => exact ⟨Int.le_refl 1, Int.le_refl 1⟩
  | cons a r ih =>
    obtain ⟨h1, h2⟩ := ih fun x hx => h x (.tail _ hx)
    obtain ⟨g1, g2⟩ := h a (.head _); show 1 ≤ a * prodV r ∧ a * prodV r ≤ 60 ^ (r.length + 1); have a1 := Int.mul_le_mul_of_nonneg_right (a := 1) (b := a) (c := prodV r) g1 (by omega); have a2 := Int.mul_le_mul_of_nonneg_right (a := a) (b := 60) (c := prodV r) g2 (by omega); rw [Int.pow_succ]; omega
theorem prodV_mem {t : List Int} : ∀ (l : List Int), (∀ x ∈ l, x ∈ t) → ∃ l' : List Nat, l'.length = l.length ∧ (∀ i ∈ l', i < t.length) ∧ prodV l = prodI t l' := by
  intro l
  induction l with
  | nil => intro _; exact ⟨[], rfl, (fun i hi => by cases hi), rfl⟩
  | cons a r ih =>
    intro h; obtain ⟨l', e1, e2, e3⟩ := ih fun x hx => h x (.tail _ hx)
    obtain ⟨i, hi, e⟩ := List.getElem_of_mem (h a (.head _)); refine ⟨i :: l', by simp [e1], fun j hj => ?_, ?_⟩
    · rcases List.mem_cons.1 hj with rfl | hj
      · exact hi
      · exact e2 j hj
    · show a * prodV r = gi t i * prodI t l'
      have eg : gi t i = a := by unfold gi; rw [List.getD_eq_getElem?_getD, List.getElem?_eq_getElem hi]; exact e
      rw [e3, eg]
theorem prodV_prods {t : List Int} {l : List Int} (h : ∀ x ∈ l, x ∈ t) : prodV l ∈ prodsL t l.length := by
  obtain ⟨l', e1, e2, e3⟩ := prodV_mem l h; rw [e3, ← e1]; exact prods_any l' e2
theorem cop_mul {x y A B : Int} (hx : 1 ≤ x) (hy : 1 ≤ y) (hA : 1 ≤ A) (hB : 1 ≤ B) (hg : Int.gcd x y = 1) (h : x * B = y * A) : ∃ n : Nat, 1 ≤ n ∧ A = n * x ∧ B = n * y := by
  obtain ⟨X, rfl⟩ := Int.eq_ofNat_of_zero_le (show 0 ≤ x by omega); obtain ⟨Y, rfl⟩ := Int.eq_ofNat_of_zero_le (show 0 ≤ y by omega); obtain ⟨C, rfl⟩ := Int.eq_ofNat_of_zero_le (show 0 ≤ A by omega); obtain ⟨D, rfl⟩ := Int.eq_ofNat_of_zero_le (show 0 ≤ B by omega)
  have hN : X * D = Y * C := by
    have : ((X * D : Nat) : Int) = ((Y * C : Nat) : Int) := by rw [Int.natCast_mul, Int.natCast_mul]; exact h
    exact Int.ofNat.inj this
  have hc : Nat.Coprime X Y := hg; have hd : X ∣ C := hc.dvd_of_dvd_mul_left ⟨D, hN.symm⟩; obtain ⟨n, rfl⟩ := hd
  have e : D = Y * n := by
    have : X * D = X * (Y * n) := by rw [hN, Nat.mul_left_comm]
    exact Nat.eq_of_mul_eq_mul_left (by omega) this
  subst e; refine ⟨n, ?_, by rw [Int.natCast_mul, Int.mul_comm], by rw [Int.natCast_mul, Int.mul_comm]⟩
  cases n with
  | zero => simp at hA
  | succ n => omega
theorem red_facts {n d : Int} (hn : 1 ≤ n) (hd : 1 ≤ d) : ∃ g : Int, 1 ≤ g ∧ (redF n d).1 * g = n ∧ (redF n d).2 * g = d ∧ Int.gcd (redF n d).1 (redF n d).2 = 1 ∧ 1 ≤ (redF n d).1 ∧ 1 ≤ (redF n d).2 := by
  have hg : 0 < Int.gcd n d := Int.gcd_pos_of_ne_zero_left _ (by omega); have e1 : (redF n d).1 * (Int.gcd n d : Int) = n := Int.ediv_mul_cancel (Int.gcd_dvd_left ..); have e2 : (redF n d).2 * (Int.gcd n d : Int) = d := Int.ediv_mul_cancel (Int.gcd_dvd_right ..); refine ⟨Int.gcd n d, by omega, e1, e2, Int.gcd_ediv_gcd_ediv_gcd hg, ?_, ?_⟩
  · rcases Int.lt_or_le 0 (redF n d).1 with h | h
    · omega
    · have := Int.mul_nonpos_of_nonpos_of_nonneg h (show (0 : Int) ≤ Int.gcd n d by omega); omega
  · rcases Int.lt_or_le 0 (redF n d).2 with h | h
    · omega
    · have := Int.mul_nonpos_of_nonpos_of_nonneg h (show (0 : Int) ≤ Int.gcd n d by omega); omega
theorem canF_ok {t : List Int} {us vs : List Int} {k : Nat} {x : Int × Int} (ht : ∀ x ∈ t, 1 ≤ x ∧ x ≤ 60) (ha : ∀ y ∈ us, y ∈ t) (hb : ∀ y ∈ vs, y ∈ t) (hla : us.length = k) (hlb : vs.length = k) (hx : 1 ≤ x.1) (hy : 1 ≤ x.2) (hg : Int.gcd x.1 x.2 = 1) (h : x.1 * prodV vs = x.2 * prodV us) : canF t k x = true := by
  obtain ⟨a1, a2⟩ := prodV_in (l := us) fun y hy => ht y (ha y hy)
  obtain ⟨b1, b2⟩ := prodV_in (l := vs) fun y hy => ht y (hb y hy)
  obtain ⟨n, n1, e1, e2⟩ := cop_mul hx hy a1 b1 hg h; have m1 := prodV_prods ha; have m2 := prodV_prods hb; rw [hla, e1] at m1; rw [hlb, e2] at m2; rw [hla, e1] at a2; rw [hlb, e2] at b2; have hT : ((topN k : Nat) : Int) = 60 ^ k := by unfold topN; simp
  unfold canF; rw [List.any_eq_true]; refine ⟨n, ?_, ?_⟩
  · rw [List.mem_range]
    have : (n : Int) * 1 ≤ n * x.1 := Int.mul_le_mul_of_nonneg_left hx (by omega); omega
  · rw [Bool.and_eq_true, Bool.and_eq_true, Bool.and_eq_true, decide_eq_true_eq, decide_eq_true_eq, List.contains_iff_mem, List.contains_iff_mem]
    refine ⟨n1, ?_, m1, m2⟩; rw [hT]
    rcases Int.le_total x.1 x.2 with h | h
    · rw [Int.max_eq_right h]; exact b2
    · rw [Int.max_eq_left h]; exact a2
theorem fst_some {t : List Int} (ht : ∀ x ∈ t, 1 ≤ x ∧ x ≤ 60) : ∀ (ps : List (Int × Int)) (now : List (Int × Int)) (left : Int × Int), (∀ p ∈ ps, p.1 ∈ t ∧ p.2 ∈ t) → ps.Pairwise (fun x y => ordB y x = false) → (∀ l, now.getLast? = some l → ∀ p ∈ ps, ordB p l = false) → 1 ≤ left.1 → 1 ≤ left.2 →
    left.1 * prodV (ps.map Prod.snd) = left.2 * prodV (ps.map Prod.fst) → fstF t ps.length now left ≠ none := by
  intro ps
  induction ps with
  | nil => intro now left _ _ _ _ _ _ h; cases h
  | cons p r ih =>
    obtain ⟨a, b⟩ := p; intro now left hm hp hl h1 h2 he; obtain ⟨ma, mb⟩ := hm (a, b) (.head _); have ba := ht a ma; have bb := ht b mb; rw [List.pairwise_cons] at hp; have hn : 1 ≤ left.1 * b := by have := Int.mul_le_mul h1 bb.1 (by omega) (by omega); omega
    have hd : 1 ≤ left.2 * a := by have := Int.mul_le_mul h2 ba.1 (by omega) (by omega); omega
    obtain ⟨g, g1, e1, e2, e3, e4, e5⟩ := red_facts hn hd; obtain ⟨x, hx⟩ : ∃ x, redF (left.1 * b) (left.2 * a) = x := ⟨_, rfl⟩; rw [hx] at e1 e2 e3 e4 e5; have hmr : ∀ p ∈ r, p.1 ∈ t ∧ p.2 ∈ t := fun p hp => hm p (.tail _ hp)
    have he2 : x.1 * prodV (r.map Prod.snd) = x.2 * prodV (r.map Prod.fst) := by
      have he' : left.1 * (b * prodV (r.map Prod.snd)) = left.2 * (a * prodV (r.map Prod.fst)) := he; rw [← Int.mul_assoc, ← Int.mul_assoc, ← e1, ← e2] at he'
      have h3 : g * (x.1 * prodV (r.map Prod.snd)) = g * (x.2 * prodV (r.map Prod.fst)) := by
        rw [← Int.mul_assoc, ← Int.mul_assoc, Int.mul_comm g x.1, Int.mul_comm g x.2]; exact he'
      exact Int.eq_of_mul_eq_mul_left (by omega) h3
    have hc : canF t r.length (redF (left.1 * b) (left.2 * a)) = true := by
      rw [hx]; exact canF_ok (us := r.map Prod.fst) (vs := r.map Prod.snd) ht (fun y hy => by rw [List.mem_map] at hy; obtain ⟨p, hp, rfl⟩ := hy; exact (hmr p hp).1) (fun y hy => by rw [List.mem_map] at hy; obtain ⟨p, hp, rfl⟩ := hy; exact (hmr p hp).2) (by simp) (by simp) e4 e5 e3 he2
    have hlast : now.getLast?.any (fun l => ordB (a, b) l) = false := by
      cases hh : now.getLast? with
      | none => rfl
      | some l => exact hl l hh (a, b) (.head _)
    have hgo := fstG_go (t := t) (k := r.length) (now := now) (left := left) hlast hc
    have hih := ih (now ++ [(a, b)]) x hmr hp.2 (fun l hl' p hp' => by
      rw [List.getLast?_concat] at hl'
      cases hl'
      exact hp.1 p hp') e4 e5 he2
    show fstF t (r.length + 1) now left ≠ none; rw [fstF_succ]; intro hno; rw [List.findSome?_eq_none_iff] at hno; have h4 := hno a ma; rw [List.findSome?_eq_none_iff] at h4; have h5 := h4 b mb; rw [hgo, hx] at h5; exact hih h5
end Go.Proofs.YtchclaipbahiiaaGreat
end
