/-
  The laws of cams that fit (the walks): rivals of the nearest cam; what is shown of a cam.
-/
import Derived.Test.YtncfgkhbenmpoaaGreatDoorGm
import Derived.Test.YtncfgkhbenmpoaaGreatDoorGj
section
namespace Go.Proofs.YtncfgkhbenmpoaaGreatDoor
open Go Go.RowKit Go.Proofs
set_option linter.unusedVariables false
attribute [local go_sem] imax2 imin2

set_option maxRecDepth 100000 in
set_option maxHeartbeats 1000000 in
theorem law19 (lo hi sl ch : Int) (p : Option Addr) (cap : Nat) (xs : List Int) (q : Option Addr) (cap' : Nat) (ys : List Int) (w : World) (hx : RdI w p xs) (hy : RdI w q ys) :
    Calls Tryz.prog 19 #[.agg #[.int .i64 lo, .int .i64 hi, .int .i64 sl, .int .i64 ch], .slice p xs.length cap, .slice q ys.length cap'] w (LawPost w) := by
  obtain ⟨w0, e0, HS0, k0, k1, k2, k3, b0⟩ := box4 w (.int .i64 lo) (.int .i64 hi) (.int .i64 sl) (.int .i64 ch) 23
  have HX := Lib.hid (hx.below b0)
  have HY := Lib.hid (hy.below b0)
  have HB := Lib.hid b0
  clear hx hy b0
  go_enter Tryz.func19, Tryz.ntmps19
  (go_wp2_with fail); refine (c24 p xs.length cap _).mono ?_; rintro e wn ⟨rfl, rfl⟩
  clear e0
  cases hTT : (decide (xs.length ≤ 27)); (case false => ((clear hTT); (go_wp2_with fail); refine (c25 _).mono ?_; rintro e wn ⟨rfl, bq⟩; replace HB := Lib.hid (HB.out.trans (bq.mono HB.out.size)); clear bq; go_wp2; go_ret; exact ⟨rfl, HB.out⟩)); have S1 := Lib.hid hTT; clear hTT
  (go_wp2_with fail); refine (c24 q ys.length cap' _).mono ?_; rintro e wn ⟨rfl, rfl⟩
  cases hTT : (decide (ys.length ≤ 27)); (case false => ((clear hTT); (go_wp2_with fail); refine (c25 _).mono ?_; rintro e wn ⟨rfl, bq⟩; replace HB := Lib.hid (HB.out.trans (bq.mono HB.out.size)); clear bq; go_wp2; go_ret; exact ⟨rfl, HB.out⟩)); have S2 := Lib.hid hTT; clear hTT
  have hl1 := of_decide_eq_true S1.out
  have hl2 := of_decide_eq_true S2.out
  (go_wp2_with fail); refine (c27 lo hi sl ch _).mono ?_; rintro e wn ⟨rfl, bq⟩; replace HB := Lib.hid (HB.out.trans (bq.mono HB.out.size)); replace HX := Lib.hid (HX.out.below bq); replace HY := Lib.hid (HY.out.below bq); replace k0 := (bq.cell (lt_of_cellq k0)).trans k0; replace k1 := (bq.cell (lt_of_cellq k1)).trans k1; replace k2 := (bq.cell (lt_of_cellq k2)).trans k2; replace k3 := (bq.cell (lt_of_cellq k3)).trans k3; clear bq
  cases hTT : (ruleB lo hi sl ch); (case false => ((clear hTT); (go_wp2_with fail); refine (c25 _).mono ?_; rintro e wn ⟨rfl, bq⟩; replace HB := Lib.hid (HB.out.trans (bq.mono HB.out.size)); clear bq; go_wp2; go_ret; exact ⟨rfl, HB.out⟩)); have HR := Lib.hid hTT; clear hTT
  (go_wp2_with fail); refine (c28 p cap xs _ HX.out (by omega)).mono ?_; rintro e wn ⟨rfl, rfl⟩
  cases hTT : (camB xs); (case false => ((clear hTT); (go_wp2_with fail); refine (c25 _).mono ?_; rintro e wn ⟨rfl, bq⟩; replace HB := Lib.hid (HB.out.trans (bq.mono HB.out.size)); clear bq; go_wp2; go_ret; exact ⟨rfl, HB.out⟩)); have H1 := Lib.hid hTT; clear hTT
  (go_wp2_with fail); refine (c28 q cap' ys _ HY.out (by omega)).mono ?_; rintro e wn ⟨rfl, rfl⟩
  cases hTT : (camB ys); (case false => ((clear hTT); (go_wp2_with fail); refine (c25 _).mono ?_; rintro e wn ⟨rfl, bq⟩; replace HB := Lib.hid (HB.out.trans (bq.mono HB.out.size)); clear bq; go_wp2; go_ret; exact ⟨rfl, HB.out⟩)); have H2 := Lib.hid hTT; clear hTT
  by_cases h3 : ys.length = xs.length
  case neg =>
    have h3' : ((ys.length : Int) != (xs.length : Int)) = true := by simp; omega
    have H3 := Lib.hid h3
    clear h3
    (go_wp2_with fail); refine (c25 _).mono ?_; rintro e wn ⟨rfl, bq⟩; replace HB := Lib.hid (HB.out.trans (bq.mono HB.out.size)); clear bq; go_wp2; go_ret; exact ⟨rfl, HB.out⟩
  have h3' : ((ys.length : Int) != (xs.length : Int)) = false := by simp [h3]
  have H3 := Lib.hid h3
  clear h3
  obtain ⟨⟨nl, nn⟩, hnf⟩ : ∃ r, nearestF lo hi sl ch xs = r := ⟨_, rfl⟩
  obtain ⟨g1, g2, g3, g4, g5, g6⟩ := nearest_law HR.out H1.out
  rw [hnf] at g1 g2 g3 g4 g5 g6
  simp only at g1 g2 g3 g4 g5 g6
  have HNF := Lib.hid hnf
  have G1 := Lib.hid g1
  have G2 := Lib.hid g2
  have G3 := Lib.hid g3
  have G4 := Lib.hid g4
  have G6 := Lib.hid (g6 ys)
  clear hnf g1 g2 g3 g4 g5 g6
  (go_wp2_with fail); refine (c26n rfl HX.out HR.out H1.out).mono ?_; rw [HNF.out]; rintro e wn ⟨⟨p1, c1, rfl, hr⟩, bq⟩; replace HB := Lib.hid (HB.out.trans (bq.mono HB.out.size)); replace HX := Lib.hid (HX.out.below bq); replace HY := Lib.hid (HY.out.below bq); replace k0 := (bq.cell (lt_of_cellq k0)).trans k0; replace k1 := (bq.cell (lt_of_cellq k1)).trans k1; replace k2 := (bq.cell (lt_of_cellq k2)).trans k2; replace k3 := (bq.cell (lt_of_cellq k3)).trans k3; clear bq
  have HR1 := Lib.hid hr
  clear hr
  (go_wp2_with fail); refine (c28n G2.out HR1.out (by omega)).mono ?_; rw [G3.out]; rintro e wn ⟨rfl, rfl⟩
  have h64 := c64n (lo := lo) (hi := hi) (sl := sl) (ch := ch) (c := c1) G2.out HR1.out HR.out G3.out
  rw [fitB_iff.2 G1.out] at h64
  (go_wp2_with fail); refine (h64).mono ?_; rintro e wn ⟨rfl, bq⟩; replace HB := Lib.hid (HB.out.trans (bq.mono HB.out.size)); replace HX := Lib.hid (HX.out.below bq); replace HY := Lib.hid (HY.out.below bq); replace HR1 := Lib.hid (HR1.out.below bq); replace k0 := (bq.cell (lt_of_cellq k0)).trans k0; replace k1 := (bq.cell (lt_of_cellq k1)).trans k1; replace k2 := (bq.cell (lt_of_cellq k2)).trans k2; replace k3 := (bq.cell (lt_of_cellq k3)).trans k3; clear bq
  clear h64
  have h58 := c58n (c := c1) (d := cap) G2.out rfl HR1.out HX.out G3.out H1.out rfl
  rw [G4.out] at h58
  have hnn : (nn != nn) = false := by simp
  (go_wp2_with fail); refine (h58).mono ?_; rintro e wn ⟨rfl, rfl⟩
  clear h58
  cases hft : fitB lo hi sl ch ys with
  | false =>
    have HFT := Lib.hid hft
    clear hft
    (go_wp2_with fail); refine (c64n (lo := lo) (hi := hi) (sl := sl) (ch := ch) rfl HY.out HR.out H2.out).mono ?_; rw [HFT.out]; rintro e wn ⟨rfl, bq⟩; replace HB := Lib.hid (HB.out.trans (bq.mono HB.out.size)); replace HX := Lib.hid (HX.out.below bq); replace HY := Lib.hid (HY.out.below bq); clear bq
    (go_wp2_with fail); refine (c58n rfl rfl HY.out HX.out H2.out H1.out H3.out).mono ?_; rintro e wn ⟨rfl, rfl⟩
    (go_wp2_with fail); refine (c25 _).mono ?_; rintro e wn ⟨rfl, bq⟩; replace HB := Lib.hid (HB.out.trans (bq.mono HB.out.size)); clear bq; go_wp2; go_ret; exact ⟨rfl, HB.out⟩
  | true =>
    have HFT := Lib.hid hft
    clear hft
    obtain ⟨m1, m2⟩ := G6.out (fitB_iff.1 HFT.out) H3.out
    (go_wp2_with fail); refine (c64n (lo := lo) (hi := hi) (sl := sl) (ch := ch) rfl HY.out HR.out H2.out).mono ?_; rw [HFT.out]; rintro e wn ⟨rfl, bq⟩; replace HB := Lib.hid (HB.out.trans (bq.mono HB.out.size)); replace HX := Lib.hid (HX.out.below bq); replace HY := Lib.hid (HY.out.below bq); replace HR1 := Lib.hid (HR1.out.below bq); clear bq
    have h58 := c58n (c := cap') (d := cap) rfl rfl HY.out HX.out H2.out H1.out H3.out
    rw [show errTo ys xs ys.length = errTo ys xs xs.length by rw [H3.out]] at h58
    obtain ⟨Y, hY⟩ : ∃ Y, errTo ys xs xs.length = Y := ⟨_, rfl⟩
    rw [hY] at h58 m1 m2
    have M2 := Lib.hid m2
    clear m2 hY
    (go_wp2_with fail); refine (h58).mono ?_; rintro e wn ⟨rfl, rfl⟩
    clear h58
    by_cases hgt : Y > nn
    · (go_wp2_with fail); refine (c25 _).mono ?_; rintro e wn ⟨rfl, bq⟩; replace HB := Lib.hid (HB.out.trans (bq.mono HB.out.size)); clear bq; go_wp2; go_ret; exact ⟨rfl, HB.out⟩
    · have heq : Y = nn := by omega
      have heq' : (Y == nn) = true := by simp [heq]
      have HEQ := Lib.hid heq
      clear heq m1
      have h65 := c65 q cap' ys p1 c1 nl wn HY.out HR1.out (by omega) (by rw [G2.out, H3.out])
      rw [G2.out] at h65
      have hbf : befB ys nl = false := by
        cases hb : befB ys nl with
        | false => rfl
        | true => exact absurd (M2.out HEQ.out) (bef_lex nl ys (by rw [G2.out, H3.out]) hb)
      rw [hbf] at h65
      clear hbf
      (go_wp2_with fail); refine (h65).mono ?_; rintro e wn ⟨rfl, nq, hq⟩; (have bq := below_dr hq); clear hq; replace HB := Lib.hid (HB.out.trans (bq.mono HB.out.size)); clear bq
      (go_wp2_with fail); refine (c25 _).mono ?_; rintro e wn ⟨rfl, bq⟩; replace HB := Lib.hid (HB.out.trans (bq.mono HB.out.size)); clear bq; go_wp2; go_ret; exact ⟨rfl, HB.out⟩

set_option maxRecDepth 100000 in
set_option maxHeartbeats 2000000 in
theorem law20 (lo hi sl ch : Int) (p : Option Addr) (cap : Nat) (xs : List Int) (q : Option Addr) (cap' : Nat) (ys : List Int) (w : World) (hx : RdI w p xs) (hy : RdI w q ys) :
    Calls Tryz.prog 20 #[.agg #[.int .i64 lo, .int .i64 hi, .int .i64 sl, .int .i64 ch], .slice p xs.length cap, .slice q ys.length cap'] w (LawPost w) := by
  obtain ⟨w0, e0, HS0, k0, k1, k2, k3, b0⟩ := box4 w (.int .i64 lo) (.int .i64 hi) (.int .i64 sl) (.int .i64 ch) 23
  have HX := Lib.hid (hx.below b0)
  have HY := Lib.hid (hy.below b0)
  have HB := Lib.hid b0
  clear hx hy b0
  go_enter Tryz.func20, Tryz.ntmps20
  (go_wp2_with fail); refine (c24 p xs.length cap _).mono ?_; rintro e wn ⟨rfl, rfl⟩
  clear e0
  cases hTT : (decide (xs.length ≤ 27)); (case false => ((clear hTT); (go_wp2_with fail); refine (c25 _).mono ?_; rintro e wn ⟨rfl, bq⟩; replace HB := Lib.hid (HB.out.trans (bq.mono HB.out.size)); clear bq; go_wp2; go_ret; exact ⟨rfl, HB.out⟩)); have S1 := Lib.hid hTT; clear hTT
  (go_wp2_with fail); refine (c24 q ys.length cap' _).mono ?_; rintro e wn ⟨rfl, rfl⟩
  cases hTT : (decide (ys.length ≤ 27)); (case false => ((clear hTT); (go_wp2_with fail); refine (c25 _).mono ?_; rintro e wn ⟨rfl, bq⟩; replace HB := Lib.hid (HB.out.trans (bq.mono HB.out.size)); clear bq; go_wp2; go_ret; exact ⟨rfl, HB.out⟩)); have S2 := Lib.hid hTT; clear hTT
  have hl1 := of_decide_eq_true S1.out
  have hl2 := of_decide_eq_true S2.out
  cases hR : ruleB lo hi sl ch with
  | false =>
    have HR := Lib.hid hR
    clear hR
    have hi1 : (if ruleB lo hi sl ch = true then (0 : Int) else 2) = 2 := by rw [HR.out]; rfl
    (go_wp2_with fail); refine (c66 lo hi sl ch _).mono ?_; rw [hi1]; rintro e wn ⟨rfl, bq⟩; replace HB := Lib.hid (HB.out.trans (bq.mono HB.out.size)); replace HX := Lib.hid (HX.out.below bq); replace HY := Lib.hid (HY.out.below bq); replace k0 := (bq.cell (lt_of_cellq k0)).trans k0; replace k1 := (bq.cell (lt_of_cellq k1)).trans k1; replace k2 := (bq.cell (lt_of_cellq k2)).trans k2; replace k3 := (bq.cell (lt_of_cellq k3)).trans k3; clear bq
    clear hi1
    (go_wp2_with fail); refine (c64_no (lo := lo) (hi := hi) (sl := sl) (ch := ch) rfl HX.out (by omega) (by rw [HR.out]; rfl)).mono ?_; rintro e wn ⟨rfl, bq⟩; replace HB := Lib.hid (HB.out.trans (bq.mono HB.out.size)); replace HX := Lib.hid (HX.out.below bq); replace HY := Lib.hid (HY.out.below bq); replace k0 := (bq.cell (lt_of_cellq k0)).trans k0; replace k1 := (bq.cell (lt_of_cellq k1)).trans k1; replace k2 := (bq.cell (lt_of_cellq k2)).trans k2; replace k3 := (bq.cell (lt_of_cellq k3)).trans k3; clear bq
    cases hC : camB xs with
    | false =>
      have H1 := Lib.hid hC
      clear hC
      (go_wp2_with fail); refine (c67_no rfl HX.out (by omega) H1.out).mono ?_; rintro e wn ⟨rfl, rfl⟩
      (go_wp2_with fail); refine (c58_no rfl rfl HX.out HY.out (by omega) (by omega) (by rw [H1.out]; rfl)).mono ?_; rintro e wn ⟨rfl, rfl⟩
      (go_wp2_with fail); refine (c27 lo hi sl ch _).mono ?_; rw [HR.out]; rintro e wn ⟨rfl, bq⟩; replace HB := Lib.hid (HB.out.trans (bq.mono HB.out.size)); replace HX := Lib.hid (HX.out.below bq); replace HY := Lib.hid (HY.out.below bq); replace k0 := (bq.cell (lt_of_cellq k0)).trans k0; replace k1 := (bq.cell (lt_of_cellq k1)).trans k1; replace k2 := (bq.cell (lt_of_cellq k2)).trans k2; replace k3 := (bq.cell (lt_of_cellq k3)).trans k3; clear bq
      (go_wp2_with fail); refine (c28 p cap xs _ HX.out (by omega)).mono ?_; rw [H1.out]; rintro e wn ⟨rfl, rfl⟩
      (go_wp2_with fail); refine (c25 _).mono ?_; rintro e wn ⟨rfl, bq⟩; replace HB := Lib.hid (HB.out.trans (bq.mono HB.out.size)); clear bq; go_wp2; go_ret; exact ⟨rfl, HB.out⟩
    | true =>
      have H1 := Lib.hid hC
      clear hC
      obtain ⟨C, hCg⟩ : ∃ C, chg xs xs.length = C := ⟨_, rfl⟩
      have HCG := Lib.hid hCg
      have hcc : (C != C) = false := by simp
      clear hCg
      (go_wp2_with fail); refine (c67n rfl HX.out H1.out).mono ?_; rw [HCG.out]; rintro e wn ⟨rfl, nq, hq⟩; (have bq := below_dr hq); clear hq; replace HB := Lib.hid (HB.out.trans (bq.mono HB.out.size)); replace HX := Lib.hid (HX.out.below bq); replace HY := Lib.hid (HY.out.below bq); replace k0 := (bq.cell (lt_of_cellq k0)).trans k0; replace k1 := (bq.cell (lt_of_cellq k1)).trans k1; replace k2 := (bq.cell (lt_of_cellq k2)).trans k2; replace k3 := (bq.cell (lt_of_cellq k3)).trans k3; clear bq
      cases hW : (camB ys && decide (ys.length = xs.length)) with
      | false =>
        have HW := Lib.hid hW
        clear hW
        (go_wp2_with fail); refine (c58_no rfl rfl HX.out HY.out (by omega) (by omega) (by rw [H1.out, Bool.true_and, ← HW.out]; congr 1; exact decide_eq_decide.2 eq_comm)).mono ?_; rintro e wn ⟨rfl, rfl⟩
        (go_wp2_with fail); refine (c27 lo hi sl ch _).mono ?_; rw [HR.out]; rintro e wn ⟨rfl, bq⟩; replace HB := Lib.hid (HB.out.trans (bq.mono HB.out.size)); replace HX := Lib.hid (HX.out.below bq); replace HY := Lib.hid (HY.out.below bq); replace k0 := (bq.cell (lt_of_cellq k0)).trans k0; replace k1 := (bq.cell (lt_of_cellq k1)).trans k1; replace k2 := (bq.cell (lt_of_cellq k2)).trans k2; replace k3 := (bq.cell (lt_of_cellq k3)).trans k3; clear bq
        (go_wp2_with fail); refine (c28 p cap xs _ HX.out (by omega)).mono ?_; rw [H1.out]; rintro e wn ⟨rfl, rfl⟩
        (go_wp2_with fail); refine (c68 p cap xs _ HX.out (by omega)).mono ?_; rw [HCG.out]; rintro e wn ⟨rfl, nq, hq⟩; (have bq := below_dr hq); clear hq; replace HB := Lib.hid (HB.out.trans (bq.mono HB.out.size)); replace HX := Lib.hid (HX.out.below bq); replace HY := Lib.hid (HY.out.below bq); replace k0 := (bq.cell (lt_of_cellq k0)).trans k0; replace k1 := (bq.cell (lt_of_cellq k1)).trans k1; replace k2 := (bq.cell (lt_of_cellq k2)).trans k2; replace k3 := (bq.cell (lt_of_cellq k3)).trans k3; clear bq
        (go_wp2_with fail); refine (c27 lo hi sl ch _).mono ?_; rw [HR.out]; rintro e wn ⟨rfl, bq⟩; replace HB := Lib.hid (HB.out.trans (bq.mono HB.out.size)); replace HX := Lib.hid (HX.out.below bq); replace HY := Lib.hid (HY.out.below bq); replace k0 := (bq.cell (lt_of_cellq k0)).trans k0; replace k1 := (bq.cell (lt_of_cellq k1)).trans k1; replace k2 := (bq.cell (lt_of_cellq k2)).trans k2; replace k3 := (bq.cell (lt_of_cellq k3)).trans k3; clear bq
        (go_wp2_with fail); refine (c27 lo hi sl ch _).mono ?_; rw [HR.out]; rintro e wn ⟨rfl, bq⟩; replace HB := Lib.hid (HB.out.trans (bq.mono HB.out.size)); replace HX := Lib.hid (HX.out.below bq); replace HY := Lib.hid (HY.out.below bq); replace k0 := (bq.cell (lt_of_cellq k0)).trans k0; replace k1 := (bq.cell (lt_of_cellq k1)).trans k1; replace k2 := (bq.cell (lt_of_cellq k2)).trans k2; replace k3 := (bq.cell (lt_of_cellq k3)).trans k3; clear bq
        (go_wp2_with fail); refine (c28 q cap' ys _ HY.out (by omega)).mono ?_; rintro e wn ⟨rfl, rfl⟩
        cases hTT : (camB ys); (case false => ((clear hTT); (go_wp2_with fail); refine (c25 _).mono ?_; rintro e wn ⟨rfl, bq⟩; replace HB := Lib.hid (HB.out.trans (bq.mono HB.out.size)); clear bq; go_wp2; go_ret; exact ⟨rfl, HB.out⟩)); have H2 := Lib.hid hTT; clear hTT
        by_cases h3 : ys.length = xs.length
        · exact absurd HW.out (by rw [H2.out, decide_eq_true h3]; simp)
        · have h3' : ((ys.length : Int) != (xs.length : Int)) = true := by simp; omega
          have H3 := Lib.hid h3
          clear h3
          (go_wp2_with fail); refine (c25 _).mono ?_; rintro e wn ⟨rfl, bq⟩; replace HB := Lib.hid (HB.out.trans (bq.mono HB.out.size)); clear bq; go_wp2; go_ret; exact ⟨rfl, HB.out⟩
      | true =>
        rw [Bool.and_eq_true] at hW
        have H2 := Lib.hid hW.1
        have h3 : ys.length = xs.length := of_decide_eq_true hW.2
        have h3' : ((ys.length : Int) != (xs.length : Int)) = false := by simp [h3]
        have H3 := Lib.hid h3
        clear hW h3
        obtain ⟨E, hE⟩ : ∃ E, errTo xs ys xs.length = E := ⟨_, rfl⟩
        have HE := Lib.hid hE
        clear hE
        (go_wp2_with fail); refine (c58n rfl rfl HX.out HY.out H1.out H2.out H3.out.symm).mono ?_; rw [HE.out]; rintro e wn ⟨rfl, rfl⟩
        (go_wp2_with fail); refine (c27 lo hi sl ch _).mono ?_; rw [HR.out]; rintro e wn ⟨rfl, bq⟩; replace HB := Lib.hid (HB.out.trans (bq.mono HB.out.size)); replace HX := Lib.hid (HX.out.below bq); replace HY := Lib.hid (HY.out.below bq); replace k0 := (bq.cell (lt_of_cellq k0)).trans k0; replace k1 := (bq.cell (lt_of_cellq k1)).trans k1; replace k2 := (bq.cell (lt_of_cellq k2)).trans k2; replace k3 := (bq.cell (lt_of_cellq k3)).trans k3; clear bq
        (go_wp2_with fail); refine (c28 p cap xs _ HX.out (by omega)).mono ?_; rw [H1.out]; rintro e wn ⟨rfl, rfl⟩
        (go_wp2_with fail); refine (c68 p cap xs _ HX.out (by omega)).mono ?_; rw [HCG.out]; rintro e wn ⟨rfl, nq, hq⟩; (have bq := below_dr hq); clear hq; replace HB := Lib.hid (HB.out.trans (bq.mono HB.out.size)); replace HX := Lib.hid (HX.out.below bq); replace HY := Lib.hid (HY.out.below bq); replace k0 := (bq.cell (lt_of_cellq k0)).trans k0; replace k1 := (bq.cell (lt_of_cellq k1)).trans k1; replace k2 := (bq.cell (lt_of_cellq k2)).trans k2; replace k3 := (bq.cell (lt_of_cellq k3)).trans k3; clear bq
        (go_wp2_with fail); refine (c27 lo hi sl ch _).mono ?_; rw [HR.out]; rintro e wn ⟨rfl, bq⟩; replace HB := Lib.hid (HB.out.trans (bq.mono HB.out.size)); replace HX := Lib.hid (HX.out.below bq); replace HY := Lib.hid (HY.out.below bq); replace k0 := (bq.cell (lt_of_cellq k0)).trans k0; replace k1 := (bq.cell (lt_of_cellq k1)).trans k1; replace k2 := (bq.cell (lt_of_cellq k2)).trans k2; replace k3 := (bq.cell (lt_of_cellq k3)).trans k3; clear bq
        (go_wp2_with fail); refine (c27 lo hi sl ch _).mono ?_; rw [HR.out]; rintro e wn ⟨rfl, bq⟩; replace HB := Lib.hid (HB.out.trans (bq.mono HB.out.size)); replace HX := Lib.hid (HX.out.below bq); replace HY := Lib.hid (HY.out.below bq); replace k0 := (bq.cell (lt_of_cellq k0)).trans k0; replace k1 := (bq.cell (lt_of_cellq k1)).trans k1; replace k2 := (bq.cell (lt_of_cellq k2)).trans k2; replace k3 := (bq.cell (lt_of_cellq k3)).trans k3; clear bq
        (go_wp2_with fail); refine (c28 q cap' ys _ HY.out (by omega)).mono ?_; rw [H2.out]; rintro e wn ⟨rfl, rfl⟩
        have hee : (E == E) = true := by simp
        (go_wp2_with fail); refine (c70 p cap xs q cap' ys _ HX.out HY.out (by omega) H3.out.symm (fun j hj => by have a1 := camB_at H1.out hj; have a2 := camB_at H2.out (j := j) (by have := H3.out; omega); omega)).mono ?_; rw [HE.out]; rintro e wn ⟨rfl, nq, hq⟩; (have bq := below_dr hq); clear hq; replace HB := Lib.hid (HB.out.trans (bq.mono HB.out.size)); clear bq
        (go_wp2_with fail); refine (c25 _).mono ?_; rintro e wn ⟨rfl, bq⟩; replace HB := Lib.hid (HB.out.trans (bq.mono HB.out.size)); clear bq; go_wp2; go_ret; exact ⟨rfl, HB.out⟩
  | true =>
    have HR := Lib.hid hR
    clear hR
    have hi1 : (if ruleB lo hi sl ch = true then (0 : Int) else 2) = 0 := by rw [HR.out]; rfl
    (go_wp2_with fail); refine (c66 lo hi sl ch _).mono ?_; rw [hi1]; rintro e wn ⟨rfl, bq⟩; replace HB := Lib.hid (HB.out.trans (bq.mono HB.out.size)); replace HX := Lib.hid (HX.out.below bq); replace HY := Lib.hid (HY.out.below bq); replace k0 := (bq.cell (lt_of_cellq k0)).trans k0; replace k1 := (bq.cell (lt_of_cellq k1)).trans k1; replace k2 := (bq.cell (lt_of_cellq k2)).trans k2; replace k3 := (bq.cell (lt_of_cellq k3)).trans k3; clear bq
    clear hi1
    cases hC : camB xs with
    | false =>
      have H1 := Lib.hid hC
      clear hC
      (go_wp2_with fail); refine (c64_no (lo := lo) (hi := hi) (sl := sl) (ch := ch) rfl HX.out (by omega) (by rw [H1.out]; simp)).mono ?_; rintro e wn ⟨rfl, bq⟩; replace HB := Lib.hid (HB.out.trans (bq.mono HB.out.size)); replace HX := Lib.hid (HX.out.below bq); replace HY := Lib.hid (HY.out.below bq); replace k0 := (bq.cell (lt_of_cellq k0)).trans k0; replace k1 := (bq.cell (lt_of_cellq k1)).trans k1; replace k2 := (bq.cell (lt_of_cellq k2)).trans k2; replace k3 := (bq.cell (lt_of_cellq k3)).trans k3; clear bq
      (go_wp2_with fail); refine (c67_no rfl HX.out (by omega) H1.out).mono ?_; rintro e wn ⟨rfl, rfl⟩
      (go_wp2_with fail); refine (c58_no rfl rfl HX.out HY.out (by omega) (by omega) (by rw [H1.out]; rfl)).mono ?_; rintro e wn ⟨rfl, rfl⟩
      (go_wp2_with fail); refine (c27 lo hi sl ch _).mono ?_; rw [HR.out]; rintro e wn ⟨rfl, bq⟩; replace HB := Lib.hid (HB.out.trans (bq.mono HB.out.size)); replace HX := Lib.hid (HX.out.below bq); replace HY := Lib.hid (HY.out.below bq); replace k0 := (bq.cell (lt_of_cellq k0)).trans k0; replace k1 := (bq.cell (lt_of_cellq k1)).trans k1; replace k2 := (bq.cell (lt_of_cellq k2)).trans k2; replace k3 := (bq.cell (lt_of_cellq k3)).trans k3; clear bq
      (go_wp2_with fail); refine (c28 p cap xs _ HX.out (by omega)).mono ?_; rw [H1.out]; rintro e wn ⟨rfl, rfl⟩
      (go_wp2_with fail); refine (c25 _).mono ?_; rintro e wn ⟨rfl, bq⟩; replace HB := Lib.hid (HB.out.trans (bq.mono HB.out.size)); clear bq; go_wp2; go_ret; exact ⟨rfl, HB.out⟩
    | true =>
      have H1 := Lib.hid hC
      clear hC
      obtain ⟨C, hCg⟩ : ∃ C, chg xs xs.length = C := ⟨_, rfl⟩
      have HCG := Lib.hid hCg
      have hcc : (C != C) = false := by simp
      clear hCg
      obtain ⟨F, hF⟩ : ∃ F, fitB lo hi sl ch xs = F := ⟨_, rfl⟩
      have HF := Lib.hid hF
      have hff : (F != F) = false := by simp
      clear hF
      (go_wp2_with fail); refine (c64n (lo := lo) (hi := hi) (sl := sl) (ch := ch) rfl HX.out HR.out H1.out).mono ?_; rw [HF.out]; rintro e wn ⟨rfl, bq⟩; replace HB := Lib.hid (HB.out.trans (bq.mono HB.out.size)); replace HX := Lib.hid (HX.out.below bq); replace HY := Lib.hid (HY.out.below bq); replace k0 := (bq.cell (lt_of_cellq k0)).trans k0; replace k1 := (bq.cell (lt_of_cellq k1)).trans k1; replace k2 := (bq.cell (lt_of_cellq k2)).trans k2; replace k3 := (bq.cell (lt_of_cellq k3)).trans k3; clear bq
      (go_wp2_with fail); refine (c67n rfl HX.out H1.out).mono ?_; rw [HCG.out]; rintro e wn ⟨rfl, nq, hq⟩; (have bq := below_dr hq); clear hq; replace HB := Lib.hid (HB.out.trans (bq.mono HB.out.size)); replace HX := Lib.hid (HX.out.below bq); replace HY := Lib.hid (HY.out.below bq); replace k0 := (bq.cell (lt_of_cellq k0)).trans k0; replace k1 := (bq.cell (lt_of_cellq k1)).trans k1; replace k2 := (bq.cell (lt_of_cellq k2)).trans k2; replace k3 := (bq.cell (lt_of_cellq k3)).trans k3; clear bq
      cases hW : (camB ys && decide (ys.length = xs.length)) with
      | false =>
        have HW := Lib.hid hW
        clear hW
        (go_wp2_with fail); refine (c58_no rfl rfl HX.out HY.out (by omega) (by omega) (by rw [H1.out, Bool.true_and, ← HW.out]; congr 1; exact decide_eq_decide.2 eq_comm)).mono ?_; rintro e wn ⟨rfl, rfl⟩
        (go_wp2_with fail); refine (c27 lo hi sl ch _).mono ?_; rw [HR.out]; rintro e wn ⟨rfl, bq⟩; replace HB := Lib.hid (HB.out.trans (bq.mono HB.out.size)); replace HX := Lib.hid (HX.out.below bq); replace HY := Lib.hid (HY.out.below bq); replace k0 := (bq.cell (lt_of_cellq k0)).trans k0; replace k1 := (bq.cell (lt_of_cellq k1)).trans k1; replace k2 := (bq.cell (lt_of_cellq k2)).trans k2; replace k3 := (bq.cell (lt_of_cellq k3)).trans k3; clear bq
        (go_wp2_with fail); refine (c28 p cap xs _ HX.out (by omega)).mono ?_; rw [H1.out]; rintro e wn ⟨rfl, rfl⟩
        (go_wp2_with fail); refine (c68 p cap xs _ HX.out (by omega)).mono ?_; rw [HCG.out]; rintro e wn ⟨rfl, nq, hq⟩; (have bq := below_dr hq); clear hq; replace HB := Lib.hid (HB.out.trans (bq.mono HB.out.size)); replace HX := Lib.hid (HX.out.below bq); replace HY := Lib.hid (HY.out.below bq); replace k0 := (bq.cell (lt_of_cellq k0)).trans k0; replace k1 := (bq.cell (lt_of_cellq k1)).trans k1; replace k2 := (bq.cell (lt_of_cellq k2)).trans k2; replace k3 := (bq.cell (lt_of_cellq k3)).trans k3; clear bq
        (go_wp2_with fail); refine (c27 lo hi sl ch _).mono ?_; rw [HR.out]; rintro e wn ⟨rfl, bq⟩; replace HB := Lib.hid (HB.out.trans (bq.mono HB.out.size)); replace HX := Lib.hid (HX.out.below bq); replace HY := Lib.hid (HY.out.below bq); replace k0 := (bq.cell (lt_of_cellq k0)).trans k0; replace k1 := (bq.cell (lt_of_cellq k1)).trans k1; replace k2 := (bq.cell (lt_of_cellq k2)).trans k2; replace k3 := (bq.cell (lt_of_cellq k3)).trans k3; clear bq
        (go_wp2_with fail); refine (c69 lo hi sl ch p cap xs _ HX.out HR.out H1.out).mono ?_; rw [HF.out]; rintro e wn ⟨rfl, bq⟩; replace HB := Lib.hid (HB.out.trans (bq.mono HB.out.size)); replace HX := Lib.hid (HX.out.below bq); replace HY := Lib.hid (HY.out.below bq); replace k0 := (bq.cell (lt_of_cellq k0)).trans k0; replace k1 := (bq.cell (lt_of_cellq k1)).trans k1; replace k2 := (bq.cell (lt_of_cellq k2)).trans k2; replace k3 := (bq.cell (lt_of_cellq k3)).trans k3; clear bq
        (go_wp2_with fail); refine (c27 lo hi sl ch _).mono ?_; rw [HR.out]; rintro e wn ⟨rfl, bq⟩; replace HB := Lib.hid (HB.out.trans (bq.mono HB.out.size)); replace HX := Lib.hid (HX.out.below bq); replace HY := Lib.hid (HY.out.below bq); replace k0 := (bq.cell (lt_of_cellq k0)).trans k0; replace k1 := (bq.cell (lt_of_cellq k1)).trans k1; replace k2 := (bq.cell (lt_of_cellq k2)).trans k2; replace k3 := (bq.cell (lt_of_cellq k3)).trans k3; clear bq
        (go_wp2_with fail); refine (c28 q cap' ys _ HY.out (by omega)).mono ?_; rintro e wn ⟨rfl, rfl⟩
        cases hTT : (camB ys); (case false => ((clear hTT); (go_wp2_with fail); refine (c25 _).mono ?_; rintro e wn ⟨rfl, bq⟩; replace HB := Lib.hid (HB.out.trans (bq.mono HB.out.size)); clear bq; go_wp2; go_ret; exact ⟨rfl, HB.out⟩)); have H2 := Lib.hid hTT; clear hTT
        by_cases h3 : ys.length = xs.length
        · exact absurd HW.out (by rw [H2.out, decide_eq_true h3]; simp)
        · have h3' : ((ys.length : Int) != (xs.length : Int)) = true := by simp; omega
          have H3 := Lib.hid h3
          clear h3
          (go_wp2_with fail); refine (c25 _).mono ?_; rintro e wn ⟨rfl, bq⟩; replace HB := Lib.hid (HB.out.trans (bq.mono HB.out.size)); clear bq; go_wp2; go_ret; exact ⟨rfl, HB.out⟩
      | true =>
        rw [Bool.and_eq_true] at hW
        have H2 := Lib.hid hW.1
        have h3 : ys.length = xs.length := of_decide_eq_true hW.2
        have h3' : ((ys.length : Int) != (xs.length : Int)) = false := by simp [h3]
        have H3 := Lib.hid h3
        clear hW h3
        obtain ⟨E, hE⟩ : ∃ E, errTo xs ys xs.length = E := ⟨_, rfl⟩
        have HE := Lib.hid hE
        clear hE
        (go_wp2_with fail); refine (c58n rfl rfl HX.out HY.out H1.out H2.out H3.out.symm).mono ?_; rw [HE.out]; rintro e wn ⟨rfl, rfl⟩
        (go_wp2_with fail); refine (c27 lo hi sl ch _).mono ?_; rw [HR.out]; rintro e wn ⟨rfl, bq⟩; replace HB := Lib.hid (HB.out.trans (bq.mono HB.out.size)); replace HX := Lib.hid (HX.out.below bq); replace HY := Lib.hid (HY.out.below bq); replace k0 := (bq.cell (lt_of_cellq k0)).trans k0; replace k1 := (bq.cell (lt_of_cellq k1)).trans k1; replace k2 := (bq.cell (lt_of_cellq k2)).trans k2; replace k3 := (bq.cell (lt_of_cellq k3)).trans k3; clear bq
        (go_wp2_with fail); refine (c28 p cap xs _ HX.out (by omega)).mono ?_; rw [H1.out]; rintro e wn ⟨rfl, rfl⟩
        (go_wp2_with fail); refine (c68 p cap xs _ HX.out (by omega)).mono ?_; rw [HCG.out]; rintro e wn ⟨rfl, nq, hq⟩; (have bq := below_dr hq); clear hq; replace HB := Lib.hid (HB.out.trans (bq.mono HB.out.size)); replace HX := Lib.hid (HX.out.below bq); replace HY := Lib.hid (HY.out.below bq); replace k0 := (bq.cell (lt_of_cellq k0)).trans k0; replace k1 := (bq.cell (lt_of_cellq k1)).trans k1; replace k2 := (bq.cell (lt_of_cellq k2)).trans k2; replace k3 := (bq.cell (lt_of_cellq k3)).trans k3; clear bq
        (go_wp2_with fail); refine (c27 lo hi sl ch _).mono ?_; rw [HR.out]; rintro e wn ⟨rfl, bq⟩; replace HB := Lib.hid (HB.out.trans (bq.mono HB.out.size)); replace HX := Lib.hid (HX.out.below bq); replace HY := Lib.hid (HY.out.below bq); replace k0 := (bq.cell (lt_of_cellq k0)).trans k0; replace k1 := (bq.cell (lt_of_cellq k1)).trans k1; replace k2 := (bq.cell (lt_of_cellq k2)).trans k2; replace k3 := (bq.cell (lt_of_cellq k3)).trans k3; clear bq
        (go_wp2_with fail); refine (c69 lo hi sl ch p cap xs _ HX.out HR.out H1.out).mono ?_; rw [HF.out]; rintro e wn ⟨rfl, bq⟩; replace HB := Lib.hid (HB.out.trans (bq.mono HB.out.size)); replace HX := Lib.hid (HX.out.below bq); replace HY := Lib.hid (HY.out.below bq); replace k0 := (bq.cell (lt_of_cellq k0)).trans k0; replace k1 := (bq.cell (lt_of_cellq k1)).trans k1; replace k2 := (bq.cell (lt_of_cellq k2)).trans k2; replace k3 := (bq.cell (lt_of_cellq k3)).trans k3; clear bq
        (go_wp2_with fail); refine (c27 lo hi sl ch _).mono ?_; rw [HR.out]; rintro e wn ⟨rfl, bq⟩; replace HB := Lib.hid (HB.out.trans (bq.mono HB.out.size)); replace HX := Lib.hid (HX.out.below bq); replace HY := Lib.hid (HY.out.below bq); replace k0 := (bq.cell (lt_of_cellq k0)).trans k0; replace k1 := (bq.cell (lt_of_cellq k1)).trans k1; replace k2 := (bq.cell (lt_of_cellq k2)).trans k2; replace k3 := (bq.cell (lt_of_cellq k3)).trans k3; clear bq
        (go_wp2_with fail); refine (c28 q cap' ys _ HY.out (by omega)).mono ?_; rw [H2.out]; rintro e wn ⟨rfl, rfl⟩
        have hee : (E == E) = true := by simp
        (go_wp2_with fail); refine (c70 p cap xs q cap' ys _ HX.out HY.out (by omega) H3.out.symm (fun j hj => by have a1 := camB_at H1.out hj; have a2 := camB_at H2.out (j := j) (by have := H3.out; omega); omega)).mono ?_; rw [HE.out]; rintro e wn ⟨rfl, nq, hq⟩; (have bq := below_dr hq); clear hq; replace HB := Lib.hid (HB.out.trans (bq.mono HB.out.size)); clear bq
        (go_wp2_with fail); refine (c25 _).mono ?_; rintro e wn ⟨rfl, bq⟩; replace HB := Lib.hid (HB.out.trans (bq.mono HB.out.size)); clear bq; go_wp2; go_ret; exact ⟨rfl, HB.out⟩
end Go.Proofs.YtncfgkhbenmpoaaGreatDoor
end
