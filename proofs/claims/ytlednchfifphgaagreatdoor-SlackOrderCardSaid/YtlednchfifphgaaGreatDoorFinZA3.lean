/-
  The theorem of arbors (the walk).
  The law SlackOrder: its card. Conditions: none of the input; the tables of the library that the row lists are as the program lays them (the tie is given).
-/
import Derived.Test.YtlednchfifphgaaGreatDoorGY
import Derived.BigQuiet
import Derived.Test.YtlednchfifphgaaGreatDoorGZ
import Derived.Test.YtlednchfifphgaaGreatDoorCards
section
namespace Go.Proofs.YtlednchfifphgaaGreatDoor
open Go Go.RowKit Go.Proofs
set_option linter.unusedVariables false
set_option linter.unusedSimpArgs false
attribute [local go_sem] imax2 imin2

/-- a law says yes, and leaves all blocks as they were -/
def LawPost (w : World) (e : Ending) (w' : World) : Prop := e = .returned (.bool true) ∧ Below w.heap.size w w'
/-- how far on the crank was at most before so many moves -/
def mostB (mv : List Int) : Nat → Int
  | 0 => 0
  | k + 1 => max (mostB mv k) (sumT mv k)
theorem mostB_F (mv : List Int) : ∀ i, mostB mv i ≤ sumT mv i → mostF mv i ≤ sumT mv i := by
  have h : ∀ i, mostF mv i = max (mostB mv i) (sumT mv i) := by
    intro i
    induction i with
    | zero => simp [mostF, mostB, sumT]
    | succ i ih => simp only [mostF, mostB]; rw [ih]
  intro i hi
  rw [h i]; omega
theorem mostB_range {mv : List Int} {n : Nat} (h : ∀ k, k ≤ n → -2400 ≤ sumT mv k ∧ sumT mv k ≤ 2400) : ∀ k, k ≤ n → 0 ≤ mostB mv k ∧ mostB mv k ≤ 2400 := by
  intro k
  induction k with
  | zero => intro _; simp [mostB]
  | succ k ih => intro hk; have := ih (by omega); have := h k (by omega); simp only [mostB]; omega
/-- what the law asks of one place -/
theorem order_at {p : Pc} {pl : List Int} (hp : PieceOk p) (hpl : PlaysOk p pl) (i k : Nat) (hi : i ≤ p.mv.length) (hk : k < pl.length) :
    (0 ≤ gi (runF pl p.mv i) k - gi (runF pl p.mv i) (k + 1) ∧ gi (runF pl p.mv i) k - gi (runF pl p.mv i) (k + 1) ≤ gi pl k) ∧ (mostB p.mv i ≤ sumT p.mv i → gi (runF pl p.mv i) k - gi (runF pl p.mv i) (k + 1) = gi pl k) ∧
    (∀ j, i = j + 1 → mostB p.mv j ≤ sumT p.mv j → sumT p.mv i ≤ sumT p.mv j - sumT pl pl.length → gi (runF pl p.mv i) k - gi (runF pl p.mv i) (k + 1) = 0) := by
  have hc := runF_chain hpl.pos p.mv i
  have h1 := hc.le k hk
  have h2 := hc.ge k hk
  refine ⟨by omega, fun h => ?_, fun j hj h h' => ?_⟩
  · have e := mostB_F p.mv i h
    rw [runF_full hpl.pos p.mv e k (by omega), runF_full hpl.pos p.mv e (k + 1) (by omega)]
    simp only [sumT]; omega
  · subst hj
    have e := mostB_F p.mv j h
    rw [runF_none hpl.pos p.mv e h' k (by omega), runF_none hpl.pos p.mv e h' (k + 1) (by omega)]
    omega
set_option maxHeartbeats 3200000 in
set_option maxRecDepth 100000 in
theorem law_Order (pm pv pr : Option Addr) (cm cv cr : Nat) (p : Pc) (q : Option Addr) (cq : Nat) (pl : List Int) (m : Int) (w : World) (hp : RdP w pm pv pr p) (hq : RdI w q pl) (hm : MaxL m w) (hi : ItoaG w) :
    Calls Tryz.prog 3 #[.agg #[.slice pm p.ms.length cm, .slice pv p.mv.length cv, .slice pr p.rs.length cr], .slice q pl.length cq] w (LawPost w) := by
  obtain ⟨w1, e1, HS1, k0, k1, k2, b1⟩ := box3 w (.slice pm p.ms.length cm) (.slice pv p.mv.length cv) (.slice pr p.rs.length cr) 26
  have HP := Lib.hid (hp.below b1)
  have HQ := Lib.hid (hq.below b1)
  have HM := Lib.hid hm
  have HI := Lib.hid hi
  have HB := Lib.hid b1
  clear hp hq hm hi b1
  go_enter Tryz.func3, Tryz.ntmps3
  (go_wp2_with fail); refine (c_short pm pv pr cm cv cr p _).mono ?_
  clear e1
  rcases hs : shortB p with _ | _
  · rintro e wn ⟨rfl, bq⟩; replace HB := Lib.hid (HB.out.trans (bq.mono HB.out.size)); clear bq
    (go_wp2_with fail); refine (c_known m _ (HM.out.below HB.out) (HI.out.below HB.out)).mono ?_; rintro e wn ⟨rfl, bq⟩; have HFK := Lib.hid (HB.out.trans (bq.mono HB.out.size)); clear bq; go_wp2; go_ret; exact ⟨rfl, HFK.out⟩
  rintro e wn ⟨rfl, bq⟩; replace HB := Lib.hid (HB.out.trans (bq.mono HB.out.size)); replace HP := Lib.hid (HP.out.below bq); replace HQ := Lib.hid (HQ.out.below bq); have k0 := (bq.cell (lt_of_cellq k0)).trans k0; have k1 := (bq.cell (lt_of_cellq k1)).trans k1; have k2 := (bq.cell (lt_of_cellq k2)).trans k2; clear bq
  have HLN := Lib.hid (short_len hs)
  clear hs
  by_cases h6 : pl.length ≤ 6
  case neg =>
    have h6' : (pl.length : Int) > 6 := by omega
    (go_wp2_with fail); refine (c_known m _ (HM.out.below HB.out) (HI.out.below HB.out)).mono ?_; rintro e wn ⟨rfl, bq⟩; have HFK := Lib.hid (HB.out.trans (bq.mono HB.out.size)); clear bq; go_wp2; go_ret; exact ⟨rfl, HFK.out⟩
  have h6' : decide ((pl.length : Int) > 6) = false := decide_eq_false (by omega)
  (go_wp2_with fail); refine (r_Piece pm pv pr cm cv cr p _ HP.out HLN.out).mono ?_
  rcases h1 : pieceB p with _ | _
  · rintro e wn ⟨rfl, bq⟩; replace HB := Lib.hid (HB.out.trans (bq.mono HB.out.size)); clear bq
    (go_wp2_with fail); refine (c_known m _ (HM.out.below HB.out) (HI.out.below HB.out)).mono ?_; rintro e wn ⟨rfl, bq⟩; have HFK := Lib.hid (HB.out.trans (bq.mono HB.out.size)); clear bq; go_wp2; go_ret; exact ⟨rfl, HFK.out⟩
  rintro e wn ⟨rfl, bq⟩; replace HB := Lib.hid (HB.out.trans (bq.mono HB.out.size)); replace HP := Lib.hid (HP.out.below bq); replace HQ := Lib.hid (HQ.out.below bq); have k0 := (bq.cell (lt_of_cellq k0)).trans k0; have k1 := (bq.cell (lt_of_cellq k1)).trans k1; have k2 := (bq.cell (lt_of_cellq k2)).trans k2; clear bq
  (go_wp2_with fail); refine (r_Plays pm pv pr cm cv cr p q cq pl _ HQ.out (by omega)).mono ?_
  rcases h2 : playsB p pl with _ | _
  · rintro e wn ⟨rfl, bq⟩; replace HB := Lib.hid (HB.out.trans (bq.mono HB.out.size)); clear bq
    (go_wp2_with fail); refine (c_known m _ (HM.out.below HB.out) (HI.out.below HB.out)).mono ?_; rintro e wn ⟨rfl, bq⟩; have HFK := Lib.hid (HB.out.trans (bq.mono HB.out.size)); clear bq; go_wp2; go_ret; exact ⟨rfl, HFK.out⟩
  rintro e wn ⟨rfl, bq⟩; replace HB := Lib.hid (HB.out.trans (bq.mono HB.out.size)); replace HP := Lib.hid (HP.out.below bq); replace HQ := Lib.hid (HQ.out.below bq); have k0 := (bq.cell (lt_of_cellq k0)).trans k0; have k1 := (bq.cell (lt_of_cellq k1)).trans k1; have k2 := (bq.cell (lt_of_cellq k2)).trans k2; clear bq
  have HPO := Lib.hid (And.intro (pieceB_iff.1 h1) (playsB_iff.1 h2))
  have HLL := Lib.hid (show pl.length ≤ p.ms.length by rw [HPO.out.2.len]; exact Nat.le_refl _)
  (go_wp2_with fail); refine (r_Within pm pv pr cm cv cr p q cq pl _ HP.out.ms HQ.out HLL.out HLN.out.ms).mono ?_
  rcases h3 : withinB p pl with _ | _
  · rintro e wn ⟨rfl, bq⟩; replace HB := Lib.hid (HB.out.trans (bq.mono HB.out.size)); clear bq
    (go_wp2_with fail); refine (c_known m _ (HM.out.below HB.out) (HI.out.below HB.out)).mono ?_; rintro e wn ⟨rfl, bq⟩; have HFK := Lib.hid (HB.out.trans (bq.mono HB.out.size)); clear bq; go_wp2; go_ret; exact ⟨rfl, HFK.out⟩
  rintro e wn ⟨rfl, bq⟩; replace HB := Lib.hid (HB.out.trans (bq.mono HB.out.size)); replace HP := Lib.hid (HP.out.below bq); replace HQ := Lib.hid (HQ.out.below bq); have k0 := (bq.cell (lt_of_cellq k0)).trans k0; have k1 := (bq.cell (lt_of_cellq k1)).trans k1; have k2 := (bq.cell (lt_of_cellq k2)).trans k2; clear bq
  have HOK := Lib.hid (show (pieceB p && playsB p pl && withinB p pl) = true by rw [h1, h2, h3]; rfl)
  have hm8 := (piece_len HPO.out.1).2.1
  clear h1 h2 h3
  (go_wp2_with fail); refine (c_lrun pm pv pr cm cv cr p q cq pl _ HP.out HQ.out HOK.out).mono ?_
  rintro e w2 ⟨⟨g, cg, rfl, hrl⟩, bq⟩
  replace HB := Lib.hid (HB.out.trans (bq.mono HB.out.size))
  replace HQ := Lib.hid (HQ.out.below bq)
  have HR := Lib.hid hrl
  clear bq hrl HP k0 k1 k2
  obtain ⟨L, hL⟩ : ∃ L, allF pl p.mv p.mv.length = L := ⟨_, rfl⟩
  have HLN2 := Lib.hid (show L.length = p.mv.length + 1 by rw [← hL, allF_len])
  have HRW := Lib.hid (show ∀ i, i < p.mv.length + 1 → (gl L i).length = pl.length + 1 from fun i hi => by rw [← hL]; exact allF_rows pl p.mv HPO.out.2.pos _ _ (by omega))
  have HGL := Lib.hid (show ∀ i, i < p.mv.length + 1 → gl L i = runF pl p.mv i from fun i hi => by rw [← hL]; exact allF_at _ _ _ _ (by omega))
  have HRG := Lib.hid (show ∀ i k, i ≤ p.mv.length → k ≤ pl.length → -2800 ≤ gi (runF pl p.mv i) k ∧ gi (runF pl p.mv i) k ≤ 2400 from fun i k hi hk => place_range HPO.out.1 HPO.out.2 i k hi hk)
  have HCR := Lib.hid (fun k hk => crank_range HPO.out.1 k hk)
  have HMR := Lib.hid (mostB_range (mv := p.mv) (n := p.mv.length) fun k hk => crank_range HPO.out.1 k hk)
  have HPR := Lib.hid (fun k hk => plays_range HPO.out.1 HPO.out.2 k hk)
  have HPI := Lib.hid HPO.out.2.in'
  have HOA := Lib.hid (fun i k hi hk => order_at HPO.out.1 HPO.out.2 i k hi hk)
  have HZ := Lib.hid (runF_zero pl p.mv)
  rw [hL] at HR
  clear hL
  obtain ⟨n, hn⟩ : ∃ n, p.mv.length = n := ⟨_, rfl⟩
  rw [hn] at HLN2 HRW HRG HCR HMR HOA HGL hm8 ⊢
  clear hn
  have hn0 : (((n : Nat) : Int) + 1 == 0) = false := by rw [beq_eq_false_iff_ne]; omega
  go_wp2
  clear hn0
  go_loopw [6, 8] (fun s i wr => ∃ k : Nat, k ≤ pl.length ∧ i = .int .i64 k ∧ s = .int .i64 (sumT pl k) ∧ wr = w2) (fun _ i _ => pl.length - (intOf i).toNat)
  case atStart => exact ⟨0, Nat.zero_le _, rfl, rfl, rfl⟩
  case round =>
    obtain ⟨k, hk, rfl, rfl, rfl⟩ := hrel
    by_cases hlt : k < pl.length
    · have hki : (k : Int) < (pl.length : Int) := by omega
      obtain ⟨b, off, rfl, hc⟩ := HQ.out.at hlt
      have d0 := hc k hlt
      have hr1 := HPR.out k hk
      have hr2 := HPI.out k hlt
      have HST := Lib.hid (show sumT pl (k + 1) = sumT pl k + gi pl k from rfl)
      obtain ⟨x, hx⟩ : ∃ x, gi pl k = x := ⟨_, rfl⟩
      obtain ⟨s, hs⟩ : ∃ s, sumT pl k = s := ⟨_, rfl⟩
      rw [hx] at d0 hr2 HST
      rw [hs] at hr1 HST ⊢
      have hw : IntKind.i64.wrap (s + x) = s + x := w64 _ (by omega) (by omega)
      clear hc hx hs
      go_wp2
      go_roundw
      case rel => exact ⟨k + 1, by omega, by go_num, by rw [HST.out], by first | rfl | trivial⟩
      case measure => simp [intOf]; omega
    · obtain rfl : k = pl.length := by omega
      have hki : ¬ (pl.length : Int) < (pl.length : Int) := by omega
      obtain ⟨w2, rfl⟩ : ∃ w2 : World, w2 = wr := ⟨_, rfl⟩
      go_wp2
      clear hki
      go_loopw [7, 9] (fun s i wr => ∃ k : Nat, k ≤ n + 1 ∧ i = .int .i64 k ∧ s = .int .i64 (mostB p.mv k) ∧ ∃ d, wr = w2.drewN d) (fun _ i _ => n + 1 - (intOf i).toNat)
      case atStart => exact ⟨0, Nat.zero_le _, rfl, rfl, 0, rfl⟩
      case round =>
        obtain ⟨i, hi, rfl, rfl, dd, hwr⟩ := hrel
        have HW := Lib.hid hwr
        by_cases hlt : i < n + 1
        · have hki : (i : Int) < (n : Int) + 1 := by omega
          have HRr := Lib.hid (show RdLs wr (some ⟨g, 0, none⟩) L by rw [hwr]; exact HR.out.below (below_drewN (Below.refl _ _) _))
          have HQr := Lib.hid (show RdI wr q pl by rw [hwr]; exact rdI_drew HQ.out)
          obtain ⟨b, off, hb, hc⟩ := HRr.out.at (by rw [HLN2.out]; exact hlt)
          cases hb
          obtain ⟨a1, c1, r1, hr⟩ := hc i (by rw [HLN2.out]; exact hlt)
          rw [HRW.out i hlt, Nat.zero_add] at r1
          obtain ⟨b1, off1, rfl, hc1⟩ := hr.at (i := 0) (by rw [HRW.out i hlt]; omega)
          have HX := Lib.hid (show ∀ k, k < pl.length + 1 → wr.cell? ⟨b1, off1 + k, none⟩ = some (.int .i64 (gi (runF pl p.mv i) k)) from fun k hk => by
            have h := hc1 k (by rw [HRW.out i hlt]; exact hk)
            rw [HGL.out i hlt] at h; exact h)
          have HPV := Lib.hid (show 0 < i → ∃ a2 c2 b2 off2, wr.cell? ⟨g, i - 1, none⟩ = some (.slice a2 (pl.length + 1) c2) ∧ a2 = some ⟨b2, off2, none⟩ ∧ wr.cell? ⟨b2, off2, none⟩ = some (.int .i64 (sumT p.mv (i - 1))) from fun h0 => by
            obtain ⟨a2, c2, r2, hr2⟩ := hc (i - 1) (by rw [HLN2.out]; omega)
            rw [HRW.out (i - 1) (by omega), Nat.zero_add] at r2
            obtain ⟨b2, off2, e2, hc2⟩ := hr2.at (i := 0) (by rw [HRW.out (i - 1) (by omega)]; omega)
            have h := hc2 0 (by rw [HRW.out (i - 1) (by omega)]; omega)
            rw [HGL.out (i - 1) (by omega), HZ.out] at h
            exact ⟨a2, c2, b2, off2, r2, e2, h⟩)
          have hmr := HMR.out i (by omega)
          have hcr := HCR.out i (by omega)
          have HMS := Lib.hid (show mostB p.mv (i + 1) = max (mostB p.mv i) (sumT p.mv i) from rfl)
          have HMP := Lib.hid (show ∀ j, i = j + 1 → sumT p.mv j ≥ mostB p.mv i → mostB p.mv j ≤ sumT p.mv j from fun j hj h => by subst hj; simp only [mostB] at h; omega)
          have hsr := HPR.out pl.length (Nat.le_refl _)
          have x0 : wr.cell? ⟨b1, off1, none⟩ = some (.int .i64 (sumT p.mv i)) := by have h := HX.out 0 (by omega); rw [HZ.out] at h; exact h
          obtain ⟨Mo, hMo⟩ : ∃ Mo, mostB p.mv i = Mo := ⟨_, rfl⟩
          obtain ⟨C0, hC0⟩ : ∃ C0, sumT p.mv i = C0 := ⟨_, rfl⟩
          obtain ⟨S, hS⟩ : ∃ S, sumT pl pl.length = S := ⟨_, rfl⟩
          have HOI := Lib.hid (fun k hk => HOA.out i k (by omega) hk)
          rw [hMo] at hmr HMS HMP HOI
          rw [hC0] at hcr HMS x0 HOI
          rw [hS] at hsr HOI
          rw [hMo, hS]
          clear hc hr hc1 hMo hC0 hS hwr
          obtain ⟨wn, rfl⟩ : ∃ wn : World, wn = wr := ⟨_, rfl⟩
          go_wp2
          go_loopw [10] (fun i wr => ∃ k : Nat, k ≤ pl.length ∧ i = .int .i64 k ∧ ∃ d, wr = wn.drewN d) (fun i _ => pl.length - (intOf i).toNat)
          case atStart => exact ⟨0, Nat.zero_le _, rfl, 0, rfl⟩
          case round =>
            obtain ⟨k, hk, rfl, d2, rfl⟩ := hrel
            by_cases hkl : k < pl.length
            · have hkk : (k : Int) < (pl.length : Int) := by omega
              have xk := HX.out k (by omega)
              have xk1 := HX.out (k + 1) (by omega)
              obtain ⟨bq, offq, rfl, hcq⟩ := HQr.out.at hkl
              have dq := hcq k hkl
              obtain ⟨⟨hb0, hb1⟩, hb2, hb3⟩ := HOI.out k hkl
              have hg1 := HRG.out i k (by omega) (by omega)
              have hg2 := HRG.out i (k + 1) (by omega) (by omega)
              have hpi := HPI.out k hkl
              obtain ⟨A, hA⟩ : ∃ A, gi (runF pl p.mv i) k = A := ⟨_, rfl⟩
              obtain ⟨B, hB⟩ : ∃ B, gi (runF pl p.mv i) (k + 1) = B := ⟨_, rfl⟩
              obtain ⟨P, hP⟩ : ∃ P, gi pl k = P := ⟨_, rfl⟩
              rw [hA] at xk hb0 hb1 hb2 hb3 hg1
              rw [hB] at xk1 hb0 hb1 hb2 hb3 hg2
              rw [hP] at dq hb1 hb2 hpi
              have hwk : IntKind.i64.wrap ((k : Int) + 1) = (k : Int) + 1 := w64 _ (by omega) (by omega)
              have hwb : IntKind.i64.wrap (A - B) = A - B := w64 _ (by omega) (by omega)
              have HB3 := Lib.hid hb3
              clear hcq hA hB hP hb3
              go_wp2
              go_quiet (fail)
              have g1 : decide (A - B < 0) = false := decide_eq_false (by omega)
              have g2 : decide (A - B > P) = false := decide_eq_false (by omega)
              by_cases hA : C0 ≥ Mo
              · have g3 : decide (C0 ≥ Mo) = true := decide_eq_true hA
                have g4 : (A - B != P) = false := by simp; exact hb2 hA
                clear hA hb2
                rcases Nat.eq_zero_or_pos i with hi0 | hi0
                · have t1 : decide ((i : Int) > 0) = false := decide_eq_false (by omega); have t1b : decide (0 < i) = false := decide_eq_false (by omega); have t1c : decide ((0 : Int) < (i : Int)) = false := decide_eq_false (by omega)
                  clear hi0
                  go_wp2
                  go_quiet (fail)
                  go_wp2
                  go_roundw
                  case rel => exact ⟨k + 1, by omega, by go_num, ⟨_, rfl⟩⟩
                  case measure => simp [intOf]; omega
                have t1 : decide ((i : Int) > 0) = true := decide_eq_true (by omega); have t1b : decide (0 < i) = true := decide_eq_true (by omega); have t1c : decide ((0 : Int) < (i : Int)) = true := decide_eq_true (by omega)
                obtain ⟨a2, c2, b2, off2, y0, rfl, y1⟩ := HPV.out hi0
                obtain ⟨j, hj⟩ : ∃ j, i - 1 = j := ⟨_, rfl⟩
                have HJ := Lib.hid (show i = j + 1 by omega)
                rw [hj] at y0 y1
                have hji : IntKind.i64.wrap ((i : Int) - 1) = (j : Int) := by rw [w64 _ (by omega) (by omega)]; omega
                have hjn : (i : Int) - 1 = (j : Int) := by omega
                have hjk : (j : Int) < (n : Int) + 1 := by omega
                have hc1 := HCR.out j (by omega)
                have HB4 := Lib.hid (fun h h2 => HB3.out j HJ.out (HMP.out j HJ.out h) h2)
                obtain ⟨C1, hC1⟩ : ∃ C1, sumT p.mv j = C1 := ⟨_, rfl⟩
                rw [hC1] at y1 hc1 HB4
                have hwS : IntKind.i64.wrap (C1 - S) = C1 - S := w64 _ (by omega) (by omega)
                clear hj hC1 hi0
                by_cases hC : C1 ≥ Mo
                case neg =>
                  have t2 : decide (C1 ≥ Mo) = false := decide_eq_false hC; have t2b : decide (Mo ≤ C1) = false := decide_eq_false hC
                  clear hC
                  go_wp2
                  go_quiet (fail)
                  go_wp2
                  go_roundw
                  case rel => exact ⟨k + 1, by omega, by go_num, ⟨_, rfl⟩⟩
                  case measure => simp [intOf]; omega
                have t2 : decide (C1 ≥ Mo) = true := decide_eq_true hC; have t2b : decide (Mo ≤ C1) = true := decide_eq_true hC
                by_cases hD : C0 ≤ C1 - S
                case neg =>
                  have t3 : decide (C0 ≤ C1 - S) = false := decide_eq_false hD
                  clear hC hD
                  go_wp2
                  go_quiet (fail)
                  go_wp2
                  go_roundw
                  case rel => exact ⟨k + 1, by omega, by go_num, ⟨_, rfl⟩⟩
                  case measure => simp [intOf]; omega
                · have t3 : decide (C0 ≤ C1 - S) = true := decide_eq_true hD
                  have t4 : (A - B != 0) = false := by simp; exact HB4.out hC hD
                  clear hC hD
                  go_wp2
                  go_quiet (fail)
                  go_wp2
                  go_roundw
                  case rel => exact ⟨k + 1, by omega, by go_num, ⟨_, rfl⟩⟩
                  case measure => simp [intOf]; omega
              · have g3 : decide (C0 ≥ Mo) = false := decide_eq_false hA
                clear hA hb2
                rcases Nat.eq_zero_or_pos i with hi0 | hi0
                · have t1 : decide ((i : Int) > 0) = false := decide_eq_false (by omega); have t1b : decide (0 < i) = false := decide_eq_false (by omega); have t1c : decide ((0 : Int) < (i : Int)) = false := decide_eq_false (by omega)
                  clear hi0
                  go_wp2
                  go_quiet (fail)
                  go_wp2
                  go_roundw
                  case rel => exact ⟨k + 1, by omega, by go_num, ⟨_, rfl⟩⟩
                  case measure => simp [intOf]; omega
                have t1 : decide ((i : Int) > 0) = true := decide_eq_true (by omega); have t1b : decide (0 < i) = true := decide_eq_true (by omega); have t1c : decide ((0 : Int) < (i : Int)) = true := decide_eq_true (by omega)
                obtain ⟨a2, c2, b2, off2, y0, rfl, y1⟩ := HPV.out hi0
                obtain ⟨j, hj⟩ : ∃ j, i - 1 = j := ⟨_, rfl⟩
                have HJ := Lib.hid (show i = j + 1 by omega)
                rw [hj] at y0 y1
                have hji : IntKind.i64.wrap ((i : Int) - 1) = (j : Int) := by rw [w64 _ (by omega) (by omega)]; omega
                have hjn : (i : Int) - 1 = (j : Int) := by omega
                have hjk : (j : Int) < (n : Int) + 1 := by omega
                have hc1 := HCR.out j (by omega)
                have HB4 := Lib.hid (fun h h2 => HB3.out j HJ.out (HMP.out j HJ.out h) h2)
                obtain ⟨C1, hC1⟩ : ∃ C1, sumT p.mv j = C1 := ⟨_, rfl⟩
                rw [hC1] at y1 hc1 HB4
                have hwS : IntKind.i64.wrap (C1 - S) = C1 - S := w64 _ (by omega) (by omega)
                clear hj hC1 hi0
                by_cases hC : C1 ≥ Mo
                case neg =>
                  have t2 : decide (C1 ≥ Mo) = false := decide_eq_false hC; have t2b : decide (Mo ≤ C1) = false := decide_eq_false hC
                  clear hC
                  go_wp2
                  go_quiet (fail)
                  go_wp2
                  go_roundw
                  case rel => exact ⟨k + 1, by omega, by go_num, ⟨_, rfl⟩⟩
                  case measure => simp [intOf]; omega
                have t2 : decide (C1 ≥ Mo) = true := decide_eq_true hC; have t2b : decide (Mo ≤ C1) = true := decide_eq_true hC
                by_cases hD : C0 ≤ C1 - S
                case neg =>
                  have t3 : decide (C0 ≤ C1 - S) = false := decide_eq_false hD
                  clear hC hD
                  go_wp2
                  go_quiet (fail)
                  go_wp2
                  go_roundw
                  case rel => exact ⟨k + 1, by omega, by go_num, ⟨_, rfl⟩⟩
                  case measure => simp [intOf]; omega
                · have t3 : decide (C0 ≤ C1 - S) = true := decide_eq_true hD
                  have t4 : (A - B != 0) = false := by simp; exact HB4.out hC hD
                  clear hC hD
                  go_wp2
                  go_quiet (fail)
                  go_wp2
                  go_roundw
                  case rel => exact ⟨k + 1, by omega, by go_num, ⟨_, rfl⟩⟩
                  case measure => simp [intOf]; omega
            · obtain rfl : k = pl.length := by omega
              have hkk : ¬ (pl.length : Int) < (pl.length : Int) := by omega
              go_wp2
              go_roundw
              case rel => exact ⟨i + 1, by omega, by go_num, by rw [HMS.out], by rw [HW.out]; first | exact ⟨_, rfl⟩ | (rw [drew_add]; exact ⟨_, rfl⟩)⟩
              case measure => simp [intOf]; omega
        · obtain rfl : i = n + 1 := by omega
          have hki : ¬ (((n + 1 : Nat)) : Int) < (n : Int) + 1 := by omega
          replace HB := Lib.hid (show Below w.heap.size w wr by rw [hwr]; exact below_drewN HB.out _)
          clear hwr
          (go_wp2_with fail); refine (c_known m _ (HM.out.below HB.out) (HI.out.below HB.out)).mono ?_; rintro e wn ⟨rfl, bq⟩; have HFK := Lib.hid (HB.out.trans (bq.mono HB.out.size)); clear bq; go_wp2; go_ret; exact ⟨rfl, HFK.out⟩
end Go.Proofs.YtlednchfifphgaaGreatDoor
end

section
namespace Go.Proofs.YtlednchfifphgaaGreatDoor
open Go Go.ChangeShapes Go.WideShapes Go.ChangeAt Go.RowKit Go.Proofs
set_option linter.unusedVariables false

set_option maxRecDepth 100000 in
theorem slackOrder_lifted (os : Os) (started : os.Started) (H : Type) (enc : TypeId × Value → H) :
    ReturnsInHanded {} Tryz.checked os 3 .any (fun w args => (Rows.slackOrderSpec.pre enc Tryz.prog Tryz.f3 [] false w args ∧ laidMetH Tryz.prog lay5 w) ∧ sizedMet enc Tryz.prog Tryz.f3 (OpenSpec.ofChange Rows.slackOrderSpec) false w args)
      (Rows.slackOrderSpec.post enc Tryz.prog Tryz.f3 false true false false) := by
  refine returns_listed (C := Tryz.checked) (X := fun w _ => laidMetH Tryz.prog lay5 w) (fun _ _ _ hh h => h.of_heap hh) ownT started (by kernel_rfl) Tryz.func3
    (ChangeSpec.witness_shaped (enc := enc) (C := Tryz.checked) (os := os) (X := fun w _ => laidMetH Tryz.prog lay5 w) false (World.laidAll Tryz.prog os lay5) #[.agg #[.slice none 0 0, .slice none 0 0, .slice none 0 0], .slice none 0 0] 12 (World.laidAll_os _ _ _)
      (World.shaped_of_ZipB (by kernel_rfl) (by kernel_rfl)) (by kernel_rfl) (by kernel_rfl) (by kernel_rfl)
      (by rw [MakeChecks.laidMetH_plain _ _ _ (by kernel_rfl)]; exact laidMet_laidAll _ (by kernel_rfl) (by kernel_rfl))) ?_
  intro W base args ds gs before hval0 hW hX hSh
  have hval : ∀ (j : Nat) t v, Tryz.f3.params[j]? = some t → args[j]? = some v → Value.okWide Tryz.prog W .any base t v := hval0
  have hW' := hW
  obtain ⟨p, q, hA0, hV, rfl, _, _⟩ := hW
  have hA : DataW.TrodAll enc Tryz.prog W 0 (fun _ => true) true Tryz.f3.params.toList args.toList ds p := hA0
  rw [Tryz.params3] at hA hval
  obtain ⟨v0, vs0, d0, ds0, p0, q0, hargs, rfl, rfl, h0, r0⟩ := trodAll_cons hA
  obtain ⟨v1, vs1, d1, ds1, p1, q1, rfl, rfl, rfl, h1, r1⟩ := trodAll_cons r0
  obtain ⟨rfl, rfl, rfl⟩ := trodAll_nil r1
  obtain rfl : args = #[v0, v1] := by cases args; simp_all
  obtain ⟨rfl, rfl⟩ := trodVars_none hV
  obtain ⟨pm0, pv0, pr0, cm0, cv0, cr0, p0, rfl, rd0⟩ := op_piece (hval 0 26 v0 rfl rfl) h0
  obtain ⟨b1, c1, xs1, rfl, rd1, hl1⟩ := op_ints (hval 1 23 v1 rfl rfl) h1
  clear hA0 hval0
  obtain ⟨m, hm⟩ := maxLen_of hSh
  have hit := itoaG_of (pow10_of hX)
  refine (law_Order pm0 pv0 pr0 cm0 cv0 cr0 p0 b1 c1 xs1 m W rd0 rd1 hm hit).mono fun e W' ⟨he, bel⟩ => ?_
  subst he
  exact ⟨_, rfl, _, _, _, [], _, [], hW', trodAll_mk1 (shut_bool Tryz.underlying4 _), (trodAll_cons_mk (Below.trod laidOutT (by kernel_rfl) (of_decide_eq_true (by kernel_rfl)) h0 bel (trod_lt h0)) (trodAll_cons_mk (Below.trod laidOutT (by kernel_rfl) (of_decide_eq_true (by kernel_rfl)) h1 bel (trod_lt h1)) trodAll_mk0)), rfl, bel.frame _, fun h => by cases h⟩
theorem slackOrder_wf : Rows.slackOrderRow.wf (OpenSpec.ofChange Rows.slackOrderSpec) = true := by kernel_rfl
theorem slackOrder_inPlace : (Rows.slackOrderRow.inPlace == Tryz.prog.inPlace 3) = true := by kernel_rfl
theorem slackOrder_unfollowed : (Rows.slackOrderRow.unfollowed == Tryz.prog.unfollowed 3) = true := by kernel_rfl
theorem slackOrder_recurses : (Rows.slackOrderRow.recurses == Tryz.prog.recurses 3) = true := by kernel_rfl
theorem slackOrder_named : (Rows.slackOrderRow.named == Tryz.prog.varsNamed 3) = true := by kernel_rfl
theorem slackOrder_goes : false = Rows.slackOrderRow.goesBy Tryz.prog := by kernel_rfl
theorem slackOrder_func : Tryz.prog.funcNamed Rows.slackOrderRow.func = some 3 := by kernel_rfl
theorem slackOrder_text : Rows.slackOrderRow.wfByText (OpenSpec.ofChange Rows.slackOrderSpec) = true := by kernel_rfl
theorem slackOrder_closed : joinedFacts Tryz.prog 3 Tryz.f3 Rows.slackOrderSpec Rows.slackOrderRow = true :=
  (and_t (and_t (and_t (and_t (and_t (and_t (and_t (and_t (and_t (and_t (and_t (and_t (and_t (and_t (and_t (and_t (and_t (and_t (and_t (and_t (and_t (and_t (and_t (and_t (and_t (and_t (and_t (and_t (and_t (and_t (and_t slackOrder_wf tLaidOut) tMaps) (by kernel_rfl)) (by kernel_rfl)) (by kernel_rfl)) (by kernel_rfl)) (by kernel_rfl)) (by kernel_rfl)) slackOrder_inPlace) slackOrder_unfollowed) slackOrder_recurses) slackOrder_named) (by kernel_rfl)) (by kernel_rfl)) (by kernel_rfl)) (by kernel_rfl)) (by kernel_rfl)) (by kernel_rfl)) (by kernel_rfl)) (by kernel_rfl)) (by kernel_rfl)) (by kernel_rfl)) (by kernel_rfl)) tHeard) tMayEnter) (eq_t (α := Bool) tFinal.symm)) (eq_t tMake)) (by kernel_rfl)) (by kernel_rfl)) (by kernel_rfl)) (by kernel_rfl))
theorem slackOrder_wrap : Func.isWrapper Tryz.prog Tryz.f3 Rows.slackOrderRow.wrapper Rows.slackOrderRow.mainSum := by unfold Func.isWrapper; rw [if_neg (of_decide_eq_false (by kernel_rfl))]; exact ⟨rfl, rfl⟩
theorem slackOrder_row : Rows.SlackOrderSaid :=
  OpenClaim.holds_of_wide 3 Tryz.f3 rfl rfl rfl rfl rfl rfl rfl ⟨rfl, rfl, rfl, rfl, rfl⟩ rfl rfl rfl rfl rfl slackOrder_func Tryz.func3 slackOrder_closed (of_decide_eq_true (by kernel_rfl)) slackOrder_wrap (fun os started H enc _ => slackOrder_lifted os started H enc)
theorem slackOrder_plain : ∀ (j : Nat) t, Tryz.f3.params[j]? = some t → Tryz.prog.wantsStandIn t = false := fun j t ht => by
  rw [Tryz.params3] at ht
  have hm : t ∈ [26, 23] := by simpa using Array.mem_of_getElem? ht
  have hall : ([26, 23].all fun u => !Tryz.prog.wantsStandIn u) = true := by kernel_rfl
  exact (show Tryz.prog.wantsStandIn t = false by simpa using List.all_eq_true.1 hall t hm)
theorem slackOrder_holds : Rows.SlackOrderCardSaid :=
  Claim7.holds_tied_plain_at .later [] [.data, .data, .data, .data, .pinned] true (true, "ce0818d0c59e3fa5e3ee8c8a0f2895fb96dd737b57a340924acb54004d6cceea") true slackOrder_row (fun _ h => by cases h) slackOrder_text (fun _ h => by cases h) slackOrder_row_tie rfl ⟨rfl, rfl⟩ tMainIs rfl
    (fun f fn hf hfn => by
      obtain rfl : f = 3 := Option.some.inj (slackOrder_func.symm.trans hf) |>.symm
      obtain rfl : fn = Tryz.f3 := (Option.some.inj (Tryz.func3.symm.trans hfn)).symm
      exact ⟨tLooks, slackOrder_plain⟩)
    slackOrder_goes
#print axioms slackOrder_holds
end Go.Proofs.YtlednchfifphgaaGreatDoor
end
