/-
  The laws of feet (the walks).
  The laws of two cams that are turned against each other (the walks).
-/
import Derived.Test.YtncfgkhbenmpoaaGreatDoorGl
import Derived.Test.YtncfgkhbenmpoaaGreatDoorGj
section
namespace Go.Proofs.YtncfgkhbenmpoaaGreatDoor
open Go Go.RowKit Go.Proofs
set_option linter.unusedVariables false
attribute [local go_sem] imax2 imin2

set_option maxRecDepth 100000 in
set_option maxHeartbeats 1000000 in
theorem law7 (p : Option Addr) (cap : Nat) (xs : List Int) (f : Int) (w : World) (hx : RdI w p xs) :
    Calls Tryz.prog 7 #[.slice p xs.length cap, .int .i64 f] w (LawPost w) := by
  have HX := Lib.hid hx
  have HB := Lib.hid (Below.refl w.heap.size w)
  clear hx
  go_enter Tryz.func7, Tryz.ntmps7
  (go_wp2_with fail); refine (c24 p xs.length cap _).mono ?_; rintro e wn ⟨rfl, rfl⟩
  cases hTT : (decide (xs.length ≤ 27)); (case false => ((clear hTT); (go_wp2_with fail); refine (c25 _).mono ?_; rintro e wn ⟨rfl, bq⟩; replace HB := Lib.hid (HB.out.trans (bq.mono HB.out.size)); clear bq; go_wp2; go_ret; exact ⟨rfl, HB.out⟩)); have S1 := Lib.hid hTT; clear hTT
  have hl1 := of_decide_eq_true S1.out
  cases hok : (camB xs && inB f 0 5) with
  | false =>
    have HOK := Lib.hid hok
    clear hok
    (go_wp2_with fail); refine (c38_no rfl HX.out (by omega) HOK.out).mono ?_; rintro e wn ⟨rfl, bq⟩; replace HB := Lib.hid (HB.out.trans (bq.mono HB.out.size)); replace HX := Lib.hid (HX.out.below bq); clear bq
    (go_wp2_with fail); refine (c39_no rfl HX.out (by omega) HOK.out).mono ?_; rintro e wn ⟨rfl, bq⟩; replace HB := Lib.hid (HB.out.trans (bq.mono HB.out.size)); replace HX := Lib.hid (HX.out.below bq); clear bq
    (go_wp2_with fail); refine (c28 p cap xs _ HX.out (by omega)).mono ?_; rintro e wn ⟨rfl, rfl⟩
    cases hTT : (camB xs); (case false => ((clear hTT); (go_wp2_with fail); refine (c25 _).mono ?_; rintro e wn ⟨rfl, bq⟩; replace HB := Lib.hid (HB.out.trans (bq.mono HB.out.size)); clear bq; go_wp2; go_ret; exact ⟨rfl, HB.out⟩)); have H1 := Lib.hid hTT; clear hTT
    (go_wp2_with fail); refine (c40 _ _).mono ?_; rintro e wn ⟨rfl, rfl⟩
    cases hTT : (inB f 0 5); (case false => ((clear hTT); (go_wp2_with fail); refine (c25 _).mono ?_; rintro e wn ⟨rfl, bq⟩; replace HB := Lib.hid (HB.out.trans (bq.mono HB.out.size)); clear bq; go_wp2; go_ret; exact ⟨rfl, HB.out⟩)); have H2 := Lib.hid hTT; clear hTT
    exact absurd HOK.out (by rw [H1.out, H2.out]; simp)
  | true =>
    rw [Bool.and_eq_true] at hok
    obtain ⟨h1, h2⟩ := hok
    have H1 := Lib.hid h1
    have H2 := Lib.hid h2
    obtain ⟨hf1, hf2⟩ : 0 ≤ f ∧ f ≤ 5 := by unfold inB at h2; simpa using h2
    obtain ⟨f, rfl⟩ : ∃ n : Nat, f = n := ⟨f.toNat, by omega⟩
    clear h1 h2
    (go_wp2_with fail); refine (c38n rfl HX.out H1.out (by omega)).mono ?_; rintro e wn ⟨⟨p1, c1, rfl, hr⟩, bq⟩; replace HB := Lib.hid (HB.out.trans (bq.mono HB.out.size)); replace HX := Lib.hid (HX.out.below bq); clear bq
    have HR1 := Lib.hid hr
    clear hr
    (go_wp2_with fail); refine (c39n rfl HX.out H1.out (by omega)).mono ?_; rintro e wn ⟨⟨p2, c2, er, her, hk1, hk2, rfl, hr⟩, bq⟩; replace HB := Lib.hid (HB.out.trans (bq.mono HB.out.size)); replace HX := Lib.hid (HX.out.below bq); replace HR1 := Lib.hid (HR1.out.below bq); clear bq
    have HR2 := Lib.hid hr
    have HK1 := Lib.hid hk1
    have HK2 := Lib.hid hk2
    clear hr hk1 hk2
    (go_wp2_with fail); refine (c28 p cap xs _ HX.out (by omega)).mono ?_; rw [H1.out]; rintro e wn ⟨rfl, rfl⟩
    (go_wp2_with fail); refine (c40 _ _).mono ?_; rw [H2.out]; rintro e wn ⟨rfl, rfl⟩
    (go_wp2_with fail); refine (c41 p cap xs f _ HX.out H1.out (by omega)).mono ?_; rintro e wn ⟨⟨p3, c3, er2, her2, hk1, hk2, rfl, hr⟩, bq⟩; replace HB := Lib.hid (HB.out.trans (bq.mono HB.out.size)); replace HX := Lib.hid (HX.out.below bq); replace HR1 := Lib.hid (HR1.out.below bq); replace HR2 := Lib.hid (HR2.out.below bq); clear bq
    obtain rfl := least_er HK1.out HK2.out hk1 hk2
    have HR3 := Lib.hid hr
    clear hr hk1 hk2
    have hee : ((er : Int) == (er : Int)) = true := by simp
    (go_wp2_with fail); refine (c42n rfl HX.out H1.out (by omega)).mono ?_; rintro e wn ⟨⟨p4, c4, rfl, hr⟩, bq⟩; replace HB := Lib.hid (HB.out.trans (bq.mono HB.out.size)); replace HX := Lib.hid (HX.out.below bq); replace HR1 := Lib.hid (HR1.out.below bq); replace HR2 := Lib.hid (HR2.out.below bq); replace HR3 := Lib.hid (HR3.out.below bq); clear bq
    have HR4 := Lib.hid hr
    clear hr
    (go_wp2_with fail); refine (c30t (followF_length _ _) (followF_length _ _) rfl HR1.out HR4.out (by omega)).mono ?_; rintro e wn ⟨rfl, nq, hq⟩; (have bq := below_dr hq); clear hq; replace HB := Lib.hid (HB.out.trans (bq.mono HB.out.size)); replace HR2 := Lib.hid (HR2.out.below bq); replace HR3 := Lib.hid (HR3.out.below bq); clear bq
    (go_wp2_with fail); refine (c30t (carveAt_length _ _ _) (carveAt_length _ _ _) rfl HR2.out HR3.out (by omega)).mono ?_; rintro e wn ⟨rfl, nq, hq⟩; (have bq := below_dr hq); clear hq; replace HB := Lib.hid (HB.out.trans (bq.mono HB.out.size)); clear bq
    (go_wp2_with fail); refine (c25 _).mono ?_; rintro e wn ⟨rfl, bq⟩; replace HB := Lib.hid (HB.out.trans (bq.mono HB.out.size)); clear bq; go_wp2; go_ret; exact ⟨rfl, HB.out⟩

set_option maxRecDepth 100000 in
set_option maxHeartbeats 1000000 in
theorem law8 (p : Option Addr) (cap : Nat) (xs : List Int) (q : Option Addr) (cap' : Nat) (ys : List Int) (f m s : Int) (w : World) (hx : RdI w p xs) (hy : RdI w q ys) :
    Calls Tryz.prog 8 #[.slice p xs.length cap, .slice q ys.length cap', .int .i64 f, .int .i64 m, .int .i64 s] w (LawPost w) := by
  have HX := Lib.hid hx
  have HY := Lib.hid hy
  have HB := Lib.hid (Below.refl w.heap.size w)
  clear hx hy
  go_enter Tryz.func8, Tryz.ntmps8
  (go_wp2_with fail); refine (c24 p xs.length cap _).mono ?_; rintro e wn ⟨rfl, rfl⟩
  cases hTT : (decide (xs.length ≤ 27)); (case false => ((clear hTT); (go_wp2_with fail); refine (c25 _).mono ?_; rintro e wn ⟨rfl, bq⟩; replace HB := Lib.hid (HB.out.trans (bq.mono HB.out.size)); clear bq; go_wp2; go_ret; exact ⟨rfl, HB.out⟩)); have S1 := Lib.hid hTT; clear hTT
  (go_wp2_with fail); refine (c24 q ys.length cap' _).mono ?_; rintro e wn ⟨rfl, rfl⟩
  cases hTT : (decide (ys.length ≤ 27)); (case false => ((clear hTT); (go_wp2_with fail); refine (c25 _).mono ?_; rintro e wn ⟨rfl, bq⟩; replace HB := Lib.hid (HB.out.trans (bq.mono HB.out.size)); clear bq; go_wp2; go_ret; exact ⟨rfl, HB.out⟩)); have S2 := Lib.hid hTT; clear hTT
  have hl1 := of_decide_eq_true S1.out
  have hl2 := of_decide_eq_true S2.out
  (go_wp2_with fail); refine (c28 p cap xs _ HX.out (by omega)).mono ?_; rintro e wn ⟨rfl, rfl⟩
  cases hTT : (camB xs); (case false => ((clear hTT); (go_wp2_with fail); refine (c25 _).mono ?_; rintro e wn ⟨rfl, bq⟩; replace HB := Lib.hid (HB.out.trans (bq.mono HB.out.size)); clear bq; go_wp2; go_ret; exact ⟨rfl, HB.out⟩)); have H1 := Lib.hid hTT; clear hTT
  (go_wp2_with fail); refine (c28 q cap' ys _ HY.out (by omega)).mono ?_; rintro e wn ⟨rfl, rfl⟩
  cases hTT : (camB ys); (case false => ((clear hTT); (go_wp2_with fail); refine (c25 _).mono ?_; rintro e wn ⟨rfl, bq⟩; replace HB := Lib.hid (HB.out.trans (bq.mono HB.out.size)); clear bq; go_wp2; go_ret; exact ⟨rfl, HB.out⟩)); have H2 := Lib.hid hTT; clear hTT
  by_cases h3 : ys.length = xs.length
  case neg =>
    have h3' : ((ys.length : Int) != (xs.length : Int)) = true := by simp; omega
    have H3 := Lib.hid h3
    clear h3
    (go_wp2_with fail); refine (c25 _).mono ?_; rintro e wn ⟨rfl, bq⟩; replace HB := Lib.hid (HB.out.trans (bq.mono HB.out.size)); clear bq; go_wp2; go_ret; exact ⟨rfl, HB.out⟩
  have h3' : ((ys.length : Int) != (xs.length : Int)) = false := by simp [h3]
  have H3 := Lib.hid h3
  clear h3
  (go_wp2_with fail); refine (c40 _ _).mono ?_; rintro e wn ⟨rfl, rfl⟩
  cases hTT : (inB f 0 5); (case false => ((clear hTT); (go_wp2_with fail); refine (c25 _).mono ?_; rintro e wn ⟨rfl, bq⟩; replace HB := Lib.hid (HB.out.trans (bq.mono HB.out.size)); clear bq; go_wp2; go_ret; exact ⟨rfl, HB.out⟩)); have H4 := Lib.hid hTT; clear hTT
  (go_wp2_with fail); refine (c40 _ _).mono ?_; rintro e wn ⟨rfl, rfl⟩
  cases hTT : (inB m 0 5); (case false => ((clear hTT); (go_wp2_with fail); refine (c25 _).mono ?_; rintro e wn ⟨rfl, bq⟩; replace HB := Lib.hid (HB.out.trans (bq.mono HB.out.size)); clear bq; go_wp2; go_ret; exact ⟨rfl, HB.out⟩)); have H5 := Lib.hid hTT; clear hTT
  obtain ⟨hf1, hf2⟩ : 0 ≤ f ∧ f ≤ 5 := by have h := H4.out; unfold inB at h; simpa using h
  obtain ⟨hm1, hm2⟩ : 0 ≤ m ∧ m ≤ 5 := by have h := H5.out; unfold inB at h; simpa using h
  by_cases h6 : s < 0
  case pos => (go_wp2_with fail); refine (c25 _).mono ?_; rintro e wn ⟨rfl, bq⟩; replace HB := Lib.hid (HB.out.trans (bq.mono HB.out.size)); clear bq; go_wp2; go_ret; exact ⟨rfl, HB.out⟩
  by_cases h7 : s ≥ (xs.length : Int)
  case pos => (go_wp2_with fail); refine (c25 _).mono ?_; rintro e wn ⟨rfl, bq⟩; replace HB := Lib.hid (HB.out.trans (bq.mono HB.out.size)); clear bq; go_wp2; go_ret; exact ⟨rfl, HB.out⟩
  obtain ⟨s, rfl⟩ : ∃ n : Nat, s = n := ⟨s.toNat, by omega⟩
  obtain ⟨f, rfl⟩ : ∃ n : Nat, f = n := ⟨f.toNat, by omega⟩
  obtain ⟨m, rfl⟩ : ∃ n : Nat, m = n := ⟨m.toNat, by omega⟩
  have hl3 := (camB_parts H1.out).1
  have h0 : 0 < xs.length := by omega
  have hsl : s ≤ 1000 := by omega
  have HCF := Lib.hid (camB_follow xs f H1.out)
  (go_wp2_with fail); refine (c38n rfl HX.out H1.out (by omega)).mono ?_; rintro e wn ⟨⟨p1, c1, rfl, hr⟩, bq⟩; replace HB := Lib.hid (HB.out.trans (bq.mono HB.out.size)); replace HX := Lib.hid (HX.out.below bq); replace HY := Lib.hid (HY.out.below bq); clear bq
  have HR1 := Lib.hid hr
  clear hr
  (go_wp2_with fail); refine (c38n rfl HY.out H2.out (by omega)).mono ?_; rintro e wn ⟨⟨p2, c2, rfl, hr⟩, bq⟩; replace HB := Lib.hid (HB.out.trans (bq.mono HB.out.size)); replace HX := Lib.hid (HX.out.below bq); replace HY := Lib.hid (HY.out.below bq); replace HR1 := Lib.hid (HR1.out.below bq); clear bq
  have HR2 := Lib.hid hr
  clear hr
  (go_wp2_with fail); refine (c43n rfl HX.out (by omega) hsl).mono ?_; rintro e wn ⟨⟨p3, c3, rfl, hr⟩, bq⟩; replace HB := Lib.hid (HB.out.trans (bq.mono HB.out.size)); replace HX := Lib.hid (HX.out.below bq); replace HY := Lib.hid (HY.out.below bq); replace HR1 := Lib.hid (HR1.out.below bq); replace HR2 := Lib.hid (HR2.out.below bq); clear bq
  have HR3 := Lib.hid hr
  clear hr
  (go_wp2_with fail); refine (c38n (turnF_length _ _) HR3.out (camB_turn xs s H1.out) (by omega)).mono ?_; rintro e wn ⟨⟨p4, c4, rfl, hr⟩, bq⟩; replace HB := Lib.hid (HB.out.trans (bq.mono HB.out.size)); replace HX := Lib.hid (HX.out.below bq); replace HY := Lib.hid (HY.out.below bq); replace HR1 := Lib.hid (HR1.out.below bq); replace HR2 := Lib.hid (HR2.out.below bq); clear bq
  rw [followF_turnF xs h0] at hr
  have HR4 := Lib.hid hr
  clear hr HR3
  (go_wp2_with fail); refine (c28n (followF_length _ _) HR1.out (by omega)).mono ?_; rw [HCF.out]; rintro e wn ⟨rfl, rfl⟩
  have hb1 := c44n (c := cap) (d := c1) rfl (followF_length xs f) HX.out HR1.out (by omega) rfl
  rw [belB_iff.2 (follow_ge xs f)] at hb1
  (go_wp2_with fail); refine (hb1).mono ?_; rintro e wn ⟨rfl, nq, hq⟩; (have bq := below_dr hq); clear hq; replace HB := Lib.hid (HB.out.trans (bq.mono HB.out.size)); replace HX := Lib.hid (HX.out.below bq); replace HY := Lib.hid (HY.out.below bq); replace HR1 := Lib.hid (HR1.out.below bq); replace HR2 := Lib.hid (HR2.out.below bq); replace HR4 := Lib.hid (HR4.out.below bq); clear bq
  clear hb1
  have hm1 := c45n (c := c1) (followF_length xs f) HR1.out (by omega) (by omega)
  rw [max_follow xs f h0] at hm1
  have hm2 := c45n (c := cap) rfl HX.out (by omega) (by omega)
  obtain ⟨M, hM⟩ : ∃ M, maxTo xs xs.length = M := ⟨_, rfl⟩
  rw [hM] at hm1 hm2
  have hMM : (M != M) = false := by simp
  clear hM
  (go_wp2_with fail); refine (hm1).mono ?_; rintro e wn ⟨rfl, rfl⟩
  (go_wp2_with fail); refine (hm2).mono ?_; rintro e wn ⟨rfl, rfl⟩
  clear hm1 hm2
  (go_wp2_with fail); refine (c43n (followF_length _ _) HR1.out (by omega) hsl).mono ?_; rintro e wn ⟨⟨p5, c5, rfl, hr⟩, bq⟩; replace HB := Lib.hid (HB.out.trans (bq.mono HB.out.size)); replace HX := Lib.hid (HX.out.below bq); replace HY := Lib.hid (HY.out.below bq); replace HR1 := Lib.hid (HR1.out.below bq); replace HR2 := Lib.hid (HR2.out.below bq); replace HR4 := Lib.hid (HR4.out.below bq); clear bq
  (go_wp2_with fail); refine (c30t (by simp) (by simp) rfl HR4.out hr (by omega)).mono ?_; rintro e wn ⟨rfl, nq, hq⟩; (have bq := below_dr hq); clear hq; replace HB := Lib.hid (HB.out.trans (bq.mono HB.out.size)); replace HX := Lib.hid (HX.out.below bq); replace HY := Lib.hid (HY.out.below bq); replace HR1 := Lib.hid (HR1.out.below bq); replace HR2 := Lib.hid (HR2.out.below bq); clear bq
  clear hr HR4
  have hb2 := c44n (c := cap) (d := cap') rfl rfl HX.out HY.out (by omega) H3.out.symm
  cases hbb : belB xs ys with
  | false =>
    rw [hbb] at hb2
    clear hbb
    (go_wp2_with fail); refine (hb2).mono ?_; rintro e wn ⟨rfl, nq, hq⟩; (have bq := below_dr hq); clear hq; replace HB := Lib.hid (HB.out.trans (bq.mono HB.out.size)); replace HX := Lib.hid (HX.out.below bq); replace HY := Lib.hid (HY.out.below bq); replace HR1 := Lib.hid (HR1.out.below bq); replace HR2 := Lib.hid (HR2.out.below bq); clear bq
    clear hb2
    (go_wp2_with fail); refine (c38n (followF_length _ _) HR1.out HCF.out (by omega)).mono ?_; rintro e wn ⟨⟨p6, c6, rfl, hr⟩, bq⟩; replace HB := Lib.hid (HB.out.trans (bq.mono HB.out.size)); replace HX := Lib.hid (HX.out.below bq); replace HY := Lib.hid (HY.out.below bq); replace HR1 := Lib.hid (HR1.out.below bq); replace HR2 := Lib.hid (HR2.out.below bq); clear bq
    rw [followF_followF xs h0] at hr
    have HR6 := Lib.hid hr
    clear hr
    by_cases hfm : (f : Int) + (m : Int) > 5
    · (go_wp2_with fail); refine (c25 _).mono ?_; rintro e wn ⟨rfl, bq⟩; replace HB := Lib.hid (HB.out.trans (bq.mono HB.out.size)); clear bq; go_wp2; go_ret; exact ⟨rfl, HB.out⟩
    · have hfe : (f : Int) + (m : Int) = ((f + m : Nat) : Int) := by omega
      have h38 := c38n (c := cap) (f := f + m) rfl HX.out H1.out (by omega)
      rw [← hfe] at h38
      clear hfe
      (go_wp2_with fail); refine (h38).mono ?_; rintro e wn ⟨⟨p7, c7, rfl, hr⟩, bq⟩; replace HB := Lib.hid (HB.out.trans (bq.mono HB.out.size)); replace HX := Lib.hid (HX.out.below bq); replace HY := Lib.hid (HY.out.below bq); replace HR1 := Lib.hid (HR1.out.below bq); replace HR2 := Lib.hid (HR2.out.below bq); replace HR6 := Lib.hid (HR6.out.below bq); clear bq
      clear h38
      have HR7 := Lib.hid hr
      clear hr
      (go_wp2_with fail); refine (c30t (by simp) (by simp) rfl HR6.out HR7.out (by omega)).mono ?_; rintro e wn ⟨rfl, nq, hq⟩; (have bq := below_dr hq); clear hq; replace HB := Lib.hid (HB.out.trans (bq.mono HB.out.size)); replace HR1 := Lib.hid (HR1.out.below bq); replace HR7 := Lib.hid (HR7.out.below bq); clear bq
      have hb3 := c44n (c := c1) (d := c7) (followF_length xs f) (followF_length xs (f + m)) HR1.out HR7.out (by omega) rfl
      rw [belB_iff.2 (fun j hj => follow_broad xs f m j (by simpa using hj))] at hb3
      (go_wp2_with fail); refine (hb3).mono ?_; rintro e wn ⟨rfl, nq, hq⟩; (have bq := below_dr hq); clear hq; replace HB := Lib.hid (HB.out.trans (bq.mono HB.out.size)); clear bq
      (go_wp2_with fail); refine (c25 _).mono ?_; rintro e wn ⟨rfl, bq⟩; replace HB := Lib.hid (HB.out.trans (bq.mono HB.out.size)); clear bq; go_wp2; go_ret; exact ⟨rfl, HB.out⟩
  | true =>
    rw [hbb] at hb2
    have HBB := Lib.hid hbb
    clear hbb
    (go_wp2_with fail); refine (hb2).mono ?_; rintro e wn ⟨rfl, nq, hq⟩; (have bq := below_dr hq); clear hq; replace HB := Lib.hid (HB.out.trans (bq.mono HB.out.size)); replace HX := Lib.hid (HX.out.below bq); replace HY := Lib.hid (HY.out.below bq); replace HR1 := Lib.hid (HR1.out.below bq); replace HR2 := Lib.hid (HR2.out.below bq); clear bq
    clear hb2
    have hb4 := c44n (c := c1) (d := c2) (followF_length xs f) (followF_length ys f) HR1.out HR2.out (by omega) H3.out.symm
    rw [belB_iff.2 (fun j hj => follow_mono xs ys f h0 H3.out (belB_iff.1 HBB.out) j (by simpa using hj))] at hb4
    (go_wp2_with fail); refine (hb4).mono ?_; rintro e wn ⟨rfl, nq, hq⟩; (have bq := below_dr hq); clear hq; replace HB := Lib.hid (HB.out.trans (bq.mono HB.out.size)); replace HX := Lib.hid (HX.out.below bq); replace HY := Lib.hid (HY.out.below bq); replace HR1 := Lib.hid (HR1.out.below bq); replace HR2 := Lib.hid (HR2.out.below bq); clear bq
    clear hb4
    (go_wp2_with fail); refine (c38n (followF_length _ _) HR1.out HCF.out (by omega)).mono ?_; rintro e wn ⟨⟨p6, c6, rfl, hr⟩, bq⟩; replace HB := Lib.hid (HB.out.trans (bq.mono HB.out.size)); replace HX := Lib.hid (HX.out.below bq); replace HY := Lib.hid (HY.out.below bq); replace HR1 := Lib.hid (HR1.out.below bq); replace HR2 := Lib.hid (HR2.out.below bq); clear bq
    rw [followF_followF xs h0] at hr
    have HR6 := Lib.hid hr
    clear hr
    by_cases hfm : (f : Int) + (m : Int) > 5
    · (go_wp2_with fail); refine (c25 _).mono ?_; rintro e wn ⟨rfl, bq⟩; replace HB := Lib.hid (HB.out.trans (bq.mono HB.out.size)); clear bq; go_wp2; go_ret; exact ⟨rfl, HB.out⟩
    · have hfe : (f : Int) + (m : Int) = ((f + m : Nat) : Int) := by omega
      have h38 := c38n (c := cap) (f := f + m) rfl HX.out H1.out (by omega)
      rw [← hfe] at h38
      clear hfe
      (go_wp2_with fail); refine (h38).mono ?_; rintro e wn ⟨⟨p7, c7, rfl, hr⟩, bq⟩; replace HB := Lib.hid (HB.out.trans (bq.mono HB.out.size)); replace HX := Lib.hid (HX.out.below bq); replace HY := Lib.hid (HY.out.below bq); replace HR1 := Lib.hid (HR1.out.below bq); replace HR2 := Lib.hid (HR2.out.below bq); replace HR6 := Lib.hid (HR6.out.below bq); clear bq
      clear h38
      have HR7 := Lib.hid hr
      clear hr
      (go_wp2_with fail); refine (c30t (by simp) (by simp) rfl HR6.out HR7.out (by omega)).mono ?_; rintro e wn ⟨rfl, nq, hq⟩; (have bq := below_dr hq); clear hq; replace HB := Lib.hid (HB.out.trans (bq.mono HB.out.size)); replace HR1 := Lib.hid (HR1.out.below bq); replace HR7 := Lib.hid (HR7.out.below bq); clear bq
      have hb3 := c44n (c := c1) (d := c7) (followF_length xs f) (followF_length xs (f + m)) HR1.out HR7.out (by omega) rfl
      rw [belB_iff.2 (fun j hj => follow_broad xs f m j (by simpa using hj))] at hb3
      (go_wp2_with fail); refine (hb3).mono ?_; rintro e wn ⟨rfl, nq, hq⟩; (have bq := below_dr hq); clear hq; replace HB := Lib.hid (HB.out.trans (bq.mono HB.out.size)); clear bq
      (go_wp2_with fail); refine (c25 _).mono ?_; rintro e wn ⟨rfl, bq⟩; replace HB := Lib.hid (HB.out.trans (bq.mono HB.out.size)); clear bq; go_wp2; go_ret; exact ⟨rfl, HB.out⟩

set_option maxRecDepth 100000 in
set_option maxHeartbeats 1000000 in
theorem law16 (p : Option Addr) (cap : Nat) (xs : List Int) (f : Int) (q : Option Addr) (cap' : Nat) (ys : List Int) (s : Int) (w : World) (hx : RdI w p xs) (hy : RdI w q ys) :
    Calls Tryz.prog 16 #[.slice p xs.length cap, .int .i64 f, .slice q ys.length cap', .int .i64 s] w (LawPost w) := by
  have HX := Lib.hid hx
  have HY := Lib.hid hy
  have HB := Lib.hid (Below.refl w.heap.size w)
  clear hx hy
  go_enter Tryz.func16, Tryz.ntmps16
  (go_wp2_with fail); refine (c24 p xs.length cap _).mono ?_; rintro e wn ⟨rfl, rfl⟩
  cases hTT : (decide (xs.length ≤ 27)); (case false => ((clear hTT); (go_wp2_with fail); refine (c25 _).mono ?_; rintro e wn ⟨rfl, bq⟩; replace HB := Lib.hid (HB.out.trans (bq.mono HB.out.size)); clear bq; go_wp2; go_ret; exact ⟨rfl, HB.out⟩)); have S1 := Lib.hid hTT; clear hTT
  (go_wp2_with fail); refine (c24 q ys.length cap' _).mono ?_; rintro e wn ⟨rfl, rfl⟩
  cases hTT : (decide (ys.length ≤ 27)); (case false => ((clear hTT); (go_wp2_with fail); refine (c25 _).mono ?_; rintro e wn ⟨rfl, bq⟩; replace HB := Lib.hid (HB.out.trans (bq.mono HB.out.size)); clear bq; go_wp2; go_ret; exact ⟨rfl, HB.out⟩)); have S2 := Lib.hid hTT; clear hTT
  have hl1 := of_decide_eq_true S1.out
  have hl2 := of_decide_eq_true S2.out
  (go_wp2_with fail); refine (c28 p cap xs _ HX.out (by omega)).mono ?_; rintro e wn ⟨rfl, rfl⟩
  cases hTT : (camB xs); (case false => ((clear hTT); (go_wp2_with fail); refine (c25 _).mono ?_; rintro e wn ⟨rfl, bq⟩; replace HB := Lib.hid (HB.out.trans (bq.mono HB.out.size)); clear bq; go_wp2; go_ret; exact ⟨rfl, HB.out⟩)); have H1 := Lib.hid hTT; clear hTT
  (go_wp2_with fail); refine (c40 _ _).mono ?_; rintro e wn ⟨rfl, rfl⟩
  cases hTT : (inB f 0 5); (case false => ((clear hTT); (go_wp2_with fail); refine (c25 _).mono ?_; rintro e wn ⟨rfl, bq⟩; replace HB := Lib.hid (HB.out.trans (bq.mono HB.out.size)); clear bq; go_wp2; go_ret; exact ⟨rfl, HB.out⟩)); have H4 := Lib.hid hTT; clear hTT
  (go_wp2_with fail); refine (c28 q cap' ys _ HY.out (by omega)).mono ?_; rintro e wn ⟨rfl, rfl⟩
  cases hTT : (camB ys); (case false => ((clear hTT); (go_wp2_with fail); refine (c25 _).mono ?_; rintro e wn ⟨rfl, bq⟩; replace HB := Lib.hid (HB.out.trans (bq.mono HB.out.size)); clear bq; go_wp2; go_ret; exact ⟨rfl, HB.out⟩)); have H2 := Lib.hid hTT; clear hTT
  by_cases h3 : ys.length = xs.length
  case neg =>
    have h3' : ((ys.length : Int) != (xs.length : Int)) = true := by simp; omega
    have H3 := Lib.hid h3
    clear h3
    (go_wp2_with fail); refine (c25 _).mono ?_; rintro e wn ⟨rfl, bq⟩; replace HB := Lib.hid (HB.out.trans (bq.mono HB.out.size)); clear bq; go_wp2; go_ret; exact ⟨rfl, HB.out⟩
  have h3' : ((ys.length : Int) != (xs.length : Int)) = false := by simp [h3]
  have H3 := Lib.hid h3
  clear h3
  obtain ⟨hf1, hf2⟩ : 0 ≤ f ∧ f ≤ 5 := by have h := H4.out; unfold inB at h; simpa using h
  by_cases h6 : s < 0
  case pos => (go_wp2_with fail); refine (c25 _).mono ?_; rintro e wn ⟨rfl, bq⟩; replace HB := Lib.hid (HB.out.trans (bq.mono HB.out.size)); clear bq; go_wp2; go_ret; exact ⟨rfl, HB.out⟩
  by_cases h7 : s ≥ (xs.length : Int)
  case pos => (go_wp2_with fail); refine (c25 _).mono ?_; rintro e wn ⟨rfl, bq⟩; replace HB := Lib.hid (HB.out.trans (bq.mono HB.out.size)); clear bq; go_wp2; go_ret; exact ⟨rfl, HB.out⟩
  obtain ⟨s, rfl⟩ : ∃ n : Nat, s = n := ⟨s.toNat, by omega⟩
  obtain ⟨f, rfl⟩ : ∃ n : Nat, f = n := ⟨f.toNat, by omega⟩
  have hl3 := (camB_parts H1.out).1
  have h0 : 0 < xs.length := by omega
  have hsl : s ≤ 1000 := by omega
  (go_wp2_with fail); refine (c39n rfl HX.out H1.out (by omega)).mono ?_; rintro e wn ⟨⟨p1, c1, er, her, hk1, hk2, rfl, hr⟩, bq⟩; replace HB := Lib.hid (HB.out.trans (bq.mono HB.out.size)); replace HX := Lib.hid (HX.out.below bq); replace HY := Lib.hid (HY.out.below bq); clear bq
  have HR1 := Lib.hid hr
  have HK1 := Lib.hid hk1
  have HK2 := Lib.hid hk2
  clear hr hk1 hk2
  (go_wp2_with fail); refine (c43n rfl HX.out (by omega) hsl).mono ?_; rintro e wn ⟨⟨p2, c2, rfl, hr⟩, bq⟩; replace HB := Lib.hid (HB.out.trans (bq.mono HB.out.size)); replace HX := Lib.hid (HX.out.below bq); replace HY := Lib.hid (HY.out.below bq); replace HR1 := Lib.hid (HR1.out.below bq); clear bq
  have HR2 := Lib.hid hr
  clear hr
  (go_wp2_with fail); refine (c39n (turnF_length _ _) HR2.out (camB_turn xs s H1.out) (by omega)).mono ?_; rintro e wn ⟨⟨p3, c3, er2, her2, hk1, hk2, rfl, hr⟩, bq⟩; replace HB := Lib.hid (HB.out.trans (bq.mono HB.out.size)); replace HX := Lib.hid (HX.out.below bq); replace HY := Lib.hid (HY.out.below bq); replace HR1 := Lib.hid (HR1.out.below bq); clear bq
  clear HR2
  obtain rfl : er = er2 := least_er HK1.out HK2.out (by rw [← carveOk_turn xs f er2 s h0]; exact hk1) (fun k hk => by rw [← carveOk_turn xs f k s h0]; exact hk2 k hk)
  rw [carveAt_turn xs f er s h0] at hr
  have HR3 := Lib.hid hr
  clear hr hk1 hk2
  have hee : ((er : Int) != (er : Int)) = false := by simp
  have hee2 : ((er : Int) == (er : Int)) = true := by simp
  have HCC := Lib.hid (camB_carve xs f er H1.out (by omega))
  (go_wp2_with fail); refine (c28n (carveAt_length _ _ _) HR1.out (by omega)).mono ?_; rw [HCC.out]; rintro e wn ⟨rfl, rfl⟩
  (go_wp2_with fail); refine (c43n (carveAt_length _ _ _) HR1.out (by omega) hsl).mono ?_; rintro e wn ⟨⟨p4, c4, rfl, hr⟩, bq⟩; replace HB := Lib.hid (HB.out.trans (bq.mono HB.out.size)); replace HX := Lib.hid (HX.out.below bq); replace HY := Lib.hid (HY.out.below bq); replace HR1 := Lib.hid (HR1.out.below bq); replace HR3 := Lib.hid (HR3.out.below bq); clear bq
  (go_wp2_with fail); refine (c30t (by simp) (by simp) rfl HR3.out hr (by omega)).mono ?_; rintro e wn ⟨rfl, nq, hq⟩; (have bq := below_dr hq); clear hq; replace HB := Lib.hid (HB.out.trans (bq.mono HB.out.size)); replace HX := Lib.hid (HX.out.below bq); replace HY := Lib.hid (HY.out.below bq); replace HR1 := Lib.hid (HR1.out.below bq); clear bq
  clear hr HR3
  (go_wp2_with fail); refine (c38n (carveAt_length _ _ _) HR1.out HCC.out (by omega)).mono ?_; rintro e wn ⟨⟨p5, c5, rfl, hr⟩, bq⟩; replace HB := Lib.hid (HB.out.trans (bq.mono HB.out.size)); replace HX := Lib.hid (HX.out.below bq); replace HY := Lib.hid (HY.out.below bq); replace HR1 := Lib.hid (HR1.out.below bq); clear bq
  have HR5 := Lib.hid hr
  clear hr
  (go_wp2_with fail); refine (c38n rfl HY.out H2.out (by omega)).mono ?_; rintro e wn ⟨⟨p6, c6, rfl, hr⟩, bq⟩; replace HB := Lib.hid (HB.out.trans (bq.mono HB.out.size)); replace HX := Lib.hid (HX.out.below bq); replace HY := Lib.hid (HY.out.below bq); replace HR1 := Lib.hid (HR1.out.below bq); replace HR5 := Lib.hid (HR5.out.below bq); clear bq
  have HR6 := Lib.hid hr
  clear hr
  obtain ⟨hlaw1, hlaw2⟩ := carve_law xs f er H1.out HK1.out HK2.out
  obtain ⟨hlaw3, hlaw4⟩ := hlaw2 ys H2.out H3.out
  have hx58 := c58n (n := xs.length) (c := c5) (d := cap) (w := wn) (by simp) rfl HR5.out HX.out (camB_follow _ f HCC.out) H1.out rfl
  rw [hlaw1] at hx58
  have hy58 := c58n (n := ys.length) (c := c6) (d := cap) (w := wn) (by simp) rfl HR6.out HX.out (camB_follow _ f H2.out) H1.out H3.out
  rw [H3.out] at hy58
  obtain ⟨Y, hY⟩ : ∃ Y, errTo (followF ys f) xs xs.length = Y := ⟨_, rfl⟩
  rw [hY] at hy58 hlaw3 hlaw4
  have HL4 := Lib.hid hlaw4
  have hge : Y ≥ (er : Int) := hlaw3
  clear hlaw1 hlaw2 hlaw4 hY hlaw3
  (go_wp2_with fail); refine (hx58).mono ?_; rintro e wn ⟨rfl, rfl⟩
  clear hx58
  have hsame : Calls Tryz.prog 58 #[.slice p6 ys.length c6, .slice p xs.length cap] wn fun e w' => e = .returned (.tuple #[.int .i64 Y, .int .i64 0]) ∧ wn = w' := by rw [H3.out]; exact hy58
  clear hy58
  (go_wp2_with fail); refine (hsame).mono ?_; rintro e wn ⟨rfl, rfl⟩
  clear hsame
  by_cases hgt : Y > (er : Int)
  · (go_wp2_with fail); refine (c25 _).mono ?_; rintro e wn ⟨rfl, bq⟩; replace HB := Lib.hid (HB.out.trans (bq.mono HB.out.size)); clear bq; go_wp2; go_ret; exact ⟨rfl, HB.out⟩
  · have hb := c44n (c := cap') (d := c1) (w := wn) rfl (carveAt_length xs f er) HY.out HR1.out (by omega) H3.out
    rw [belB_iff.2 (fun j hj => HL4.out (by omega) j (by have := H3.out; omega))] at hb
    (go_wp2_with fail); refine (hb).mono ?_; rintro e wn ⟨rfl, nq, hq⟩; (have bq := below_dr hq); clear hq; replace HB := Lib.hid (HB.out.trans (bq.mono HB.out.size)); clear bq
    (go_wp2_with fail); refine (c25 _).mono ?_; rintro e wn ⟨rfl, bq⟩; replace HB := Lib.hid (HB.out.trans (bq.mono HB.out.size)); clear bq; go_wp2; go_ret; exact ⟨rfl, HB.out⟩
end Go.Proofs.YtncfgkhbenmpoaaGreatDoor
end

section
namespace Go.Proofs.YtncfgkhbenmpoaaGreatDoor
open Go Go.RowKit Go.Proofs
set_option linter.unusedVariables false
attribute [local go_sem] imax2 imin2

set_option maxRecDepth 100000 in
set_option maxHeartbeats 1000000 in
theorem law17 (p : Option Addr) (cap : Nat) (xs : List Int) (q : Option Addr) (cap' : Nat) (ys : List Int) (w : World) (hx : RdI w p xs) (hy : RdI w q ys) :
    Calls Tryz.prog 17 #[.slice p xs.length cap, .slice q ys.length cap'] w (LawPost w) := by
  have HX := Lib.hid hx
  have HY := Lib.hid hy
  have HB := Lib.hid (Below.refl w.heap.size w)
  clear hx hy
  go_enter Tryz.func17, Tryz.ntmps17
  (go_wp2_with fail); refine (c24 p xs.length cap _).mono ?_; rintro e wn ⟨rfl, rfl⟩
  cases hTT : (decide (xs.length ≤ 27)); (case false => ((clear hTT); (go_wp2_with fail); refine (c25 _).mono ?_; rintro e wn ⟨rfl, bq⟩; replace HB := Lib.hid (HB.out.trans (bq.mono HB.out.size)); clear bq; go_wp2; go_ret; exact ⟨rfl, HB.out⟩)); have S1 := Lib.hid hTT; clear hTT
  (go_wp2_with fail); refine (c24 q ys.length cap' _).mono ?_; rintro e wn ⟨rfl, rfl⟩
  cases hTT : (decide (ys.length ≤ 27)); (case false => ((clear hTT); (go_wp2_with fail); refine (c25 _).mono ?_; rintro e wn ⟨rfl, bq⟩; replace HB := Lib.hid (HB.out.trans (bq.mono HB.out.size)); clear bq; go_wp2; go_ret; exact ⟨rfl, HB.out⟩)); have S2 := Lib.hid hTT; clear hTT
  have hl1 := of_decide_eq_true S1.out
  have hl2 := of_decide_eq_true S2.out
  cases hok : (camB xs && camB ys && decide (xs.length = ys.length)) with
  | false =>
    have HOK := Lib.hid hok
    clear hok
    (go_wp2_with fail); refine (c59_no p cap xs q cap' ys _ HX.out (by omega) HY.out (by omega) HOK.out).mono ?_; rintro e wn ⟨rfl, rfl⟩
    (go_wp2_with fail); refine (c60_no p cap xs q cap' ys _ HX.out (by omega) HY.out (by omega) HOK.out).mono ?_; rintro e wn ⟨rfl, rfl⟩
    (go_wp2_with fail); refine (c28 p cap xs _ HX.out (by omega)).mono ?_; rintro e wn ⟨rfl, rfl⟩
    cases hTT : (camB xs); (case false => ((clear hTT); (go_wp2_with fail); refine (c25 _).mono ?_; rintro e wn ⟨rfl, bq⟩; replace HB := Lib.hid (HB.out.trans (bq.mono HB.out.size)); clear bq; go_wp2; go_ret; exact ⟨rfl, HB.out⟩)); have H1 := Lib.hid hTT; clear hTT
    (go_wp2_with fail); refine (c28 q cap' ys _ HY.out (by omega)).mono ?_; rintro e wn ⟨rfl, rfl⟩
    cases hTT : (camB ys); (case false => ((clear hTT); (go_wp2_with fail); refine (c25 _).mono ?_; rintro e wn ⟨rfl, bq⟩; replace HB := Lib.hid (HB.out.trans (bq.mono HB.out.size)); clear bq; go_wp2; go_ret; exact ⟨rfl, HB.out⟩)); have H2 := Lib.hid hTT; clear hTT
    by_cases h3 : xs.length = ys.length
    · exact absurd HOK.out (by rw [H1.out, H2.out, decide_eq_true h3]; simp)
    · have h3' : ((xs.length : Int) != (ys.length : Int)) = true := by simp; omega
      have H3 := Lib.hid h3
      clear h3
      (go_wp2_with fail); refine (c25 _).mono ?_; rintro e wn ⟨rfl, bq⟩; replace HB := Lib.hid (HB.out.trans (bq.mono HB.out.size)); clear bq; go_wp2; go_ret; exact ⟨rfl, HB.out⟩
  | true =>
    rw [Bool.and_eq_true, Bool.and_eq_true] at hok
    obtain ⟨⟨h1, h2⟩, h3⟩ := hok
    have h3 := of_decide_eq_true h3
    have H1 := Lib.hid h1
    have H2 := Lib.hid h2
    have H3 := Lib.hid h3
    have h3' : ((xs.length : Int) != (ys.length : Int)) = false := by simp [h3]
    clear h1 h2 h3
    obtain ⟨⟨bx, bm⟩, hb⟩ : ∃ b, bestTo (shiftF xs ys) xs.length = b := ⟨_, rfl⟩
    have HBE := Lib.hid hb
    obtain ⟨t, ht⟩ : ∃ t, tnTo xs ys xs.length = t := ⟨_, rfl⟩
    have HT := Lib.hid ht
    clear hb ht
    (go_wp2_with fail); refine (c59_ok p cap xs q cap' ys _ HX.out HY.out H1.out H2.out H3.out).mono ?_; rw [HBE.out]; rintro e wn ⟨rfl, bq⟩; replace HB := Lib.hid (HB.out.trans (bq.mono HB.out.size)); replace HX := Lib.hid (HX.out.below bq); replace HY := Lib.hid (HY.out.below bq); clear bq
    have h60 := c60_tn p cap xs q cap' ys wn HX.out HY.out H1.out H2.out H3.out
    rw [HT.out] at h60
    have hxn : (bx != bx) = false := by simp
    have hmn : (bm != bm) = false := by simp
    by_cases htt : t ≥ 0
    · rw [if_pos htt, if_pos htt] at h60
      have htn : (t == t) = true := by simp
      (go_wp2_with fail); refine (h60).mono ?_; rintro e wn ⟨rfl, rfl⟩
      clear h60
      (go_wp2_with fail); refine (c28 p cap xs _ HX.out (by omega)).mono ?_; rw [H1.out]; rintro e wn ⟨rfl, rfl⟩
      (go_wp2_with fail); refine (c28 q cap' ys _ HY.out (by omega)).mono ?_; rw [H2.out]; rintro e wn ⟨rfl, rfl⟩
      (go_wp2_with fail); refine (c61 p cap xs q cap' ys _ HX.out HY.out H1.out H2.out H3.out).mono ?_; rw [HBE.out]; rintro e wn ⟨rfl, bq⟩; replace HB := Lib.hid (HB.out.trans (bq.mono HB.out.size)); replace HX := Lib.hid (HX.out.below bq); replace HY := Lib.hid (HY.out.below bq); clear bq
      (go_wp2_with fail); refine (c62 p cap xs q cap' ys _ HX.out HY.out (by omega) H3.out).mono ?_; rw [HT.out]; rintro e wn ⟨rfl, bq⟩; replace HB := Lib.hid (HB.out.trans (bq.mono HB.out.size)); clear bq
      (go_wp2_with fail); refine (c25 _).mono ?_; rintro e wn ⟨rfl, bq⟩; replace HB := Lib.hid (HB.out.trans (bq.mono HB.out.size)); clear bq; go_wp2; go_ret; exact ⟨rfl, HB.out⟩
    · rw [if_neg htt, if_neg htt] at h60
      (go_wp2_with fail); refine (h60).mono ?_; rintro e wn ⟨rfl, rfl⟩
      clear h60
      (go_wp2_with fail); refine (c28 p cap xs _ HX.out (by omega)).mono ?_; rw [H1.out]; rintro e wn ⟨rfl, rfl⟩
      (go_wp2_with fail); refine (c28 q cap' ys _ HY.out (by omega)).mono ?_; rw [H2.out]; rintro e wn ⟨rfl, rfl⟩
      (go_wp2_with fail); refine (c61 p cap xs q cap' ys _ HX.out HY.out H1.out H2.out H3.out).mono ?_; rw [HBE.out]; rintro e wn ⟨rfl, bq⟩; replace HB := Lib.hid (HB.out.trans (bq.mono HB.out.size)); replace HX := Lib.hid (HX.out.below bq); replace HY := Lib.hid (HY.out.below bq); clear bq
      (go_wp2_with fail); refine (c62 p cap xs q cap' ys _ HX.out HY.out (by omega) H3.out).mono ?_; rw [HT.out]; rintro e wn ⟨rfl, bq⟩; replace HB := Lib.hid (HB.out.trans (bq.mono HB.out.size)); clear bq
      (go_wp2_with fail); refine (c25 _).mono ?_; rintro e wn ⟨rfl, bq⟩; replace HB := Lib.hid (HB.out.trans (bq.mono HB.out.size)); clear bq; go_wp2; go_ret; exact ⟨rfl, HB.out⟩

theorem tn_first (xs ys : List Int) (n b : Nat) (hb : b < n) (h : xs = turnF ys b) : ∃ k : Nat, k ≤ b ∧ tnTo xs ys n = k ∧ xs = turnF ys k := by
  have : ∀ m : Nat, m ≤ b → (∀ j, j < m → ¬ xs = turnF ys j) ∨ ∃ k : Nat, k < m ∧ xs = turnF ys k ∧ ∀ j, j < k → ¬ xs = turnF ys j := by
    intro m
    induction m with
    | zero => intro _; exact .inl fun j hj => by omega
    | succ m ih =>
      intro hm
      rcases ih (by omega) with h1 | ⟨k, hk, h2, h3⟩
      · by_cases he : xs = turnF ys m
        · exact .inr ⟨m, by omega, he, h1⟩
        · refine .inl fun j hj => ?_
          rcases Nat.lt_or_ge j m with h4 | h4
          · exact h1 j h4
          · obtain rfl : j = m := by omega
            exact he
      · exact .inr ⟨k, by omega, h2, h3⟩
  rcases this b (Nat.le_refl _) with h1 | ⟨k, hk, h2, h3⟩
  · exact ⟨b, Nat.le_refl _, tn_some xs ys b h h1 n hb, h⟩
  · exact ⟨k, by omega, tn_some xs ys k h2 h3 n (by omega), h2⟩
theorem maxTo_range {xs : List Int} (h : camB xs = true) : 0 ≤ maxTo xs xs.length ∧ maxTo xs xs.length ≤ 30 := by
  obtain ⟨j, hj, e⟩ := maxTo_at xs xs.length (by have := (camB_parts h).1; omega)
  rw [e]; exact camB_at h hj

set_option maxRecDepth 100000 in
set_option maxHeartbeats 1000000 in
theorem law18 (p : Option Addr) (cap : Nat) (xs : List Int) (q : Option Addr) (cap' : Nat) (ys : List Int) (s : Int) (w : World) (hx : RdI w p xs) (hy : RdI w q ys) :
    Calls Tryz.prog 18 #[.slice p xs.length cap, .slice q ys.length cap', .int .i64 s] w (LawPost w) := by
  have HX := Lib.hid hx
  have HY := Lib.hid hy
  have HB := Lib.hid (Below.refl w.heap.size w)
  clear hx hy
  go_enter Tryz.func18, Tryz.ntmps18
  (go_wp2_with fail); refine (c24 p xs.length cap _).mono ?_; rintro e wn ⟨rfl, rfl⟩
  cases hTT : (decide (xs.length ≤ 27)); (case false => ((clear hTT); (go_wp2_with fail); refine (c25 _).mono ?_; rintro e wn ⟨rfl, bq⟩; replace HB := Lib.hid (HB.out.trans (bq.mono HB.out.size)); clear bq; go_wp2; go_ret; exact ⟨rfl, HB.out⟩)); have S1 := Lib.hid hTT; clear hTT
  (go_wp2_with fail); refine (c24 q ys.length cap' _).mono ?_; rintro e wn ⟨rfl, rfl⟩
  cases hTT : (decide (ys.length ≤ 27)); (case false => ((clear hTT); (go_wp2_with fail); refine (c25 _).mono ?_; rintro e wn ⟨rfl, bq⟩; replace HB := Lib.hid (HB.out.trans (bq.mono HB.out.size)); clear bq; go_wp2; go_ret; exact ⟨rfl, HB.out⟩)); have S2 := Lib.hid hTT; clear hTT
  have hl1 := of_decide_eq_true S1.out
  have hl2 := of_decide_eq_true S2.out
  (go_wp2_with fail); refine (c28 p cap xs _ HX.out (by omega)).mono ?_; rintro e wn ⟨rfl, rfl⟩
  cases hTT : (camB xs); (case false => ((clear hTT); (go_wp2_with fail); refine (c25 _).mono ?_; rintro e wn ⟨rfl, bq⟩; replace HB := Lib.hid (HB.out.trans (bq.mono HB.out.size)); clear bq; go_wp2; go_ret; exact ⟨rfl, HB.out⟩)); have H1 := Lib.hid hTT; clear hTT
  (go_wp2_with fail); refine (c28 q cap' ys _ HY.out (by omega)).mono ?_; rintro e wn ⟨rfl, rfl⟩
  cases hTT : (camB ys); (case false => ((clear hTT); (go_wp2_with fail); refine (c25 _).mono ?_; rintro e wn ⟨rfl, bq⟩; replace HB := Lib.hid (HB.out.trans (bq.mono HB.out.size)); clear bq; go_wp2; go_ret; exact ⟨rfl, HB.out⟩)); have H2 := Lib.hid hTT; clear hTT
  by_cases h3 : xs.length = ys.length
  case neg =>
    have h3' : ((xs.length : Int) != (ys.length : Int)) = true := by simp; omega
    have H3 := Lib.hid h3
    clear h3
    (go_wp2_with fail); refine (c25 _).mono ?_; rintro e wn ⟨rfl, bq⟩; replace HB := Lib.hid (HB.out.trans (bq.mono HB.out.size)); clear bq; go_wp2; go_ret; exact ⟨rfl, HB.out⟩
  have h3' : ((xs.length : Int) != (ys.length : Int)) = false := by simp [h3]
  have H3 := Lib.hid h3
  clear h3
  by_cases h4 : s < 0
  case pos => (go_wp2_with fail); refine (c25 _).mono ?_; rintro e wn ⟨rfl, bq⟩; replace HB := Lib.hid (HB.out.trans (bq.mono HB.out.size)); clear bq; go_wp2; go_ret; exact ⟨rfl, HB.out⟩
  by_cases h5 : s ≥ (xs.length : Int)
  case pos => (go_wp2_with fail); refine (c25 _).mono ?_; rintro e wn ⟨rfl, bq⟩; replace HB := Lib.hid (HB.out.trans (bq.mono HB.out.size)); clear bq; go_wp2; go_ret; exact ⟨rfl, HB.out⟩
  obtain ⟨s, rfl⟩ : ∃ n : Nat, s = n := ⟨s.toNat, by omega⟩
  have hsl : s < xs.length := by omega
  have hl3 := (camB_parts H1.out).1
  obtain ⟨b, hb, hbe, hmin, hmin2, hge1, hge2, hle⟩ := shift_law xs ys H1.out H2.out H3.out
  have HBE := Lib.hid hbe
  have m1 := hmin s hsl
  have m2 := Lib.hid (hmin2 s)
  have rA := maxTo_range H1.out
  have rB := maxTo_range H2.out
  obtain ⟨M, hM⟩ : ∃ M, maxTo (sumsF xs ys b) xs.length = M := ⟨_, rfl⟩
  obtain ⟨V, hV⟩ : ∃ V, maxTo (sumsF xs ys s) xs.length = V := ⟨_, rfl⟩
  obtain ⟨A, hA⟩ : ∃ A, maxTo xs xs.length = A := ⟨_, rfl⟩
  obtain ⟨B, hBv⟩ : ∃ B, maxTo ys ys.length = B := ⟨_, rfl⟩
  rw [hM] at HBE m1 m2 hge1 hge2 hle
  rw [hV] at m1 m2
  rw [hA] at rA hge1 hle
  rw [hBv] at rB hge2 hle
  have HM := Lib.hid hM
  have HV := Lib.hid hV
  have HA := Lib.hid hA
  have HBv := Lib.hid hBv
  clear hbe hmin hmin2 hM hV hA hBv
  (go_wp2_with fail); refine (c59_ok p cap xs q cap' ys _ HX.out HY.out H1.out H2.out H3.out).mono ?_; rw [HBE.out]; rintro e wn ⟨rfl, bq⟩; replace HB := Lib.hid (HB.out.trans (bq.mono HB.out.size)); replace HX := Lib.hid (HX.out.below bq); replace HY := Lib.hid (HY.out.below bq); clear bq
  have n1 : ¬ (b : Int) < 0 := by omega
  have n2 : ¬ (b : Int) ≥ (xs.length : Int) := by omega
  (go_wp2_with fail); refine (c63 p cap xs q cap' ys b _ HX.out HY.out H1.out H2.out H3.out (by omega)).mono ?_; rintro e wn ⟨⟨s1, d1, rfl, hs⟩, bq⟩; replace HB := Lib.hid (HB.out.trans (bq.mono HB.out.size)); replace HX := Lib.hid (HX.out.below bq); replace HY := Lib.hid (HY.out.below bq); clear bq
  have h45 := c45s s1 d1 xs ys b _ hs (by omega) (by omega)
  rw [HM.out] at h45
  have hmn : (M != M) = false := by simp
  clear hs
  (go_wp2_with fail); refine (h45).mono ?_; rintro e wn ⟨rfl, rfl⟩
  clear h45
  (go_wp2_with fail); refine (c63 p cap xs q cap' ys s _ HX.out HY.out H1.out H2.out H3.out (by omega)).mono ?_; rintro e wn ⟨⟨s2, d2, rfl, hs⟩, bq⟩; replace HB := Lib.hid (HB.out.trans (bq.mono HB.out.size)); replace HX := Lib.hid (HX.out.below bq); replace HY := Lib.hid (HY.out.below bq); clear bq
  have h45 := c45s s2 d2 xs ys s _ hs (by omega) (by omega)
  rw [HV.out] at h45
  clear hs
  (go_wp2_with fail); refine (h45).mono ?_; rintro e wn ⟨rfl, rfl⟩
  clear h45
  have hvm : ¬ V < M := by omega
  have hmx : ¬ M < max A B := by omega
  have hab : ¬ M > A + B := by omega
  have hwr : IntKind.i64.wrap (A + B) = A + B := w64 _ (by omega) (by omega)
  have h45a := c45 p cap xs wn HX.out (by omega) (by omega)
  rw [HA.out] at h45a
  have h45b := c45 q cap' ys wn HY.out (by have := H3.out; omega) (by omega)
  rw [HBv.out] at h45b
  obtain ⟨k, hkb, hkt, hke⟩ := tn_first (turnF xs s) xs xs.length s hsl rfl
  have HKT := Lib.hid hkt
  have HKE := Lib.hid hke
  clear hkt hke
  by_cases hveq : V = M
  · have hveq' : (V == M) = true := by simp [hveq]
    have hbs : ¬ (s : Int) < (b : Int) := by
      intro h
      have := m2.out (by omega)
      omega
    have HVE := Lib.hid hveq
    clear hveq
    (go_wp2_with fail); refine (h45a).mono ?_; rintro e wn ⟨rfl, rfl⟩
    (go_wp2_with fail); refine (h45b).mono ?_; rintro e wn ⟨rfl, rfl⟩
    (go_wp2_with fail); refine (h45a).mono ?_; rintro e wn ⟨rfl, rfl⟩
    (go_wp2_with fail); refine (h45b).mono ?_; rintro e wn ⟨rfl, rfl⟩
    clear h45a h45b
    (go_wp2_with fail); refine (c43 p cap xs s _ HX.out (by omega) (by omega)).mono ?_; rintro e wn ⟨⟨s3, d3, rfl, hs⟩, bq⟩; replace HB := Lib.hid (HB.out.trans (bq.mono HB.out.size)); replace HX := Lib.hid (HX.out.below bq); clear bq
    have h60 := c60_tn s3 d3 (turnF xs s) p cap xs wn hs HX.out (camB_turn xs s H1.out) H1.out (turnF_length _ _)
    rw [turnF_length, HKT.out, if_pos (by omega), if_pos (by omega)] at h60
    clear hs
    (go_wp2_with fail); refine (h60).mono ?_; rintro e wn ⟨rfl, rfl⟩
    clear h60
    have hk1 : (k : Int) ≥ 0 := by omega
    have hk2 : (k : Int) ≤ (s : Int) := by omega
    (go_wp2_with fail); refine (c43 p cap xs k _ HX.out (by omega) (by omega)).mono ?_; rintro e wn ⟨⟨s4, d4, rfl, hs4⟩, bq⟩; replace HB := Lib.hid (HB.out.trans (bq.mono HB.out.size)); replace HX := Lib.hid (HX.out.below bq); clear bq
    have HS4 := Lib.hid hs4
    clear hs4
    (go_wp2_with fail); refine (c43 p cap xs s _ HX.out (by omega) (by omega)).mono ?_; rintro e wn ⟨⟨s5, d5, rfl, hs5⟩, bq⟩; replace HB := Lib.hid (HB.out.trans (bq.mono HB.out.size)); replace HX := Lib.hid (HX.out.below bq); replace HS4 := Lib.hid (HS4.out.below bq); clear bq
    have h30 := c30 s4 d4 (turnF xs k) s5 d5 (turnF xs s) _ HS4.out hs5 (by simp; omega)
    rw [decide_eq_true HKE.out.symm, turnF_length, turnF_length] at h30
    clear hs5
    (go_wp2_with fail); refine (h30).mono ?_; rintro e wn ⟨rfl, nq, hq⟩; (have bq := below_dr hq); clear hq; replace HB := Lib.hid (HB.out.trans (bq.mono HB.out.size)); clear bq
    (go_wp2_with fail); refine (c25 _).mono ?_; rintro e wn ⟨rfl, bq⟩; replace HB := Lib.hid (HB.out.trans (bq.mono HB.out.size)); clear bq; go_wp2; go_ret; exact ⟨rfl, HB.out⟩
  · have hveq' : (V == M) = false := by simp [hveq]
    have HVE := Lib.hid hveq
    clear hveq
    (go_wp2_with fail); refine (h45a).mono ?_; rintro e wn ⟨rfl, rfl⟩
    (go_wp2_with fail); refine (h45b).mono ?_; rintro e wn ⟨rfl, rfl⟩
    (go_wp2_with fail); refine (h45a).mono ?_; rintro e wn ⟨rfl, rfl⟩
    (go_wp2_with fail); refine (h45b).mono ?_; rintro e wn ⟨rfl, rfl⟩
    clear h45a h45b
    (go_wp2_with fail); refine (c43 p cap xs s _ HX.out (by omega) (by omega)).mono ?_; rintro e wn ⟨⟨s3, d3, rfl, hs⟩, bq⟩; replace HB := Lib.hid (HB.out.trans (bq.mono HB.out.size)); replace HX := Lib.hid (HX.out.below bq); clear bq
    have h60 := c60_tn s3 d3 (turnF xs s) p cap xs wn hs HX.out (camB_turn xs s H1.out) H1.out (turnF_length _ _)
    rw [turnF_length, HKT.out, if_pos (by omega), if_pos (by omega)] at h60
    clear hs
    (go_wp2_with fail); refine (h60).mono ?_; rintro e wn ⟨rfl, rfl⟩
    clear h60
    have hk1 : (k : Int) ≥ 0 := by omega
    have hk2 : (k : Int) ≤ (s : Int) := by omega
    (go_wp2_with fail); refine (c43 p cap xs k _ HX.out (by omega) (by omega)).mono ?_; rintro e wn ⟨⟨s4, d4, rfl, hs4⟩, bq⟩; replace HB := Lib.hid (HB.out.trans (bq.mono HB.out.size)); replace HX := Lib.hid (HX.out.below bq); clear bq
    have HS4 := Lib.hid hs4
    clear hs4
    (go_wp2_with fail); refine (c43 p cap xs s _ HX.out (by omega) (by omega)).mono ?_; rintro e wn ⟨⟨s5, d5, rfl, hs5⟩, bq⟩; replace HB := Lib.hid (HB.out.trans (bq.mono HB.out.size)); replace HX := Lib.hid (HX.out.below bq); replace HS4 := Lib.hid (HS4.out.below bq); clear bq
    have h30 := c30 s4 d4 (turnF xs k) s5 d5 (turnF xs s) _ HS4.out hs5 (by simp; omega)
    rw [decide_eq_true HKE.out.symm, turnF_length, turnF_length] at h30
    clear hs5
    (go_wp2_with fail); refine (h30).mono ?_; rintro e wn ⟨rfl, nq, hq⟩; (have bq := below_dr hq); clear hq; replace HB := Lib.hid (HB.out.trans (bq.mono HB.out.size)); clear bq
    (go_wp2_with fail); refine (c25 _).mono ?_; rintro e wn ⟨rfl, bq⟩; replace HB := Lib.hid (HB.out.trans (bq.mono HB.out.size)); clear bq; go_wp2; go_ret; exact ⟨rfl, HB.out⟩
end Go.Proofs.YtncfgkhbenmpoaaGreatDoor
end
