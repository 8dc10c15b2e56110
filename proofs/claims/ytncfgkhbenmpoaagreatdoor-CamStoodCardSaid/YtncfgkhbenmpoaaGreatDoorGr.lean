/-
  The law of stations (the walk).
-/
import Derived.Test.YtncfgkhbenmpoaaGreatDoorGn
import Derived.Test.YtncfgkhbenmpoaaGreatDoorGk
section
namespace Go.Proofs.YtncfgkhbenmpoaaGreatDoor
open Go Go.RowKit Go.Proofs
set_option linter.unusedVariables false
attribute [local go_sem] imax2 imin2

theorem ne_beq {a b : Int} (h : ¬ a = b) : (a == b) = false := by simp [h]
theorem gi_mapA (f : Int → Int) (xs : List Int) (j : Nat) (h : j < xs.length) : gi (xs.map f) j = f (gi xs j) := by
  unfold gi; simp [h]
theorem tau_up {u : Int} {o : List Int} (ho : 0 < o.length) (t : Int) : (plc u o (t + 1) > plc u o t → tau u o t = 1) ∧ (plc u o (t + 1) < plc u o t → tau u o t = -1) ∧ (plc u o t = plc u o (t + 1) → ¬ isSta u o (t + 1) = true) := by
  have e := plc_succ u o t
  refine ⟨fun h => ?_, fun h => ?_, fun h hs => ?_⟩
  · have hs : 0 < spd u o t := by omega
    rw [tau_spd ho t (by omega)]
    rcases sgn_cases (spd u o t) with ⟨h1, _⟩ | ⟨h1, _⟩ | ⟨_, h2⟩
    · omega
    · omega
    · exact h2
  · have hs : spd u o t < 0 := by omega
    rw [tau_spd ho t (by omega)]
    rcases sgn_cases (spd u o t) with ⟨_, h2⟩ | ⟨h1, _⟩ | ⟨h1, _⟩
    · exact h2
    · omega
    · omega
  · unfold isSta at hs
    rw [Bool.and_eq_true] at hs
    have h2 := of_decide_eq_true hs.1
    rw [show t + 1 - 1 = t by omega] at h2
    omega

set_option maxRecDepth 100000 in
set_option maxHeartbeats 8000000 in
theorem law14 (u : Int) (q : Option Addr) (cap : Nat) (o : List Int) (f z : Int) (w : World) (hx : RdI w q o) :
    Calls Tryz.prog 14 #[.agg #[.int .i64 u, .slice q o.length cap], .int .i64 f, .int .i64 z] w (LawPost w) := by
  obtain ⟨w0, e0, HS, k0, k1, b0⟩ := box2 w (.int .i64 u) (.slice q o.length cap) 61
  have HX := Lib.hid (hx.below b0)
  have HB := Lib.hid b0
  clear hx b0
  go_enter Tryz.func14, Tryz.ntmps14
  (go_wp2_with fail); refine (c46 u q o.length cap _).mono ?_; rintro e wn ⟨rfl, bq⟩; replace HB := Lib.hid (HB.out.trans (bq.mono HB.out.size)); replace HX := Lib.hid (HX.out.below bq); replace k0 := (bq.cell (lt_of_cellq k0)).trans k0; replace k1 := (bq.cell (lt_of_cellq k1)).trans k1; clear bq
  clear e0
  cases hTT : (decide (o.length ≤ 27)); (case false => ((clear hTT); (go_wp2_with fail); refine (c25 _).mono ?_; rintro e wn ⟨rfl, bq⟩; replace HB := Lib.hid (HB.out.trans (bq.mono HB.out.size)); clear bq; go_wp2; go_ret; exact ⟨rfl, HB.out⟩)); have HSH := Lib.hid hTT; clear hTT
  have hl := of_decide_eq_true HSH.out
  (go_wp2_with fail); refine (c48 u q cap o _ HX.out (by omega)).mono ?_; rintro e wn ⟨rfl, bq⟩; replace HB := Lib.hid (HB.out.trans (bq.mono HB.out.size)); replace HX := Lib.hid (HX.out.below bq); replace k0 := (bq.cell (lt_of_cellq k0)).trans k0; replace k1 := (bq.cell (lt_of_cellq k1)).trans k1; clear bq
  cases hTT : (motB u o); (case false => ((clear hTT); (go_wp2_with fail); refine (c25 _).mono ?_; rintro e wn ⟨rfl, bq⟩; replace HB := Lib.hid (HB.out.trans (bq.mono HB.out.size)); clear bq; go_wp2; go_ret; exact ⟨rfl, HB.out⟩)); have H1 := Lib.hid hTT; clear hTT
  (go_wp2_with fail); refine (c49 _ _).mono ?_; rintro e wn ⟨rfl, rfl⟩
  cases hTT : (inB f 0 2000); (case false => ((clear hTT); (go_wp2_with fail); refine (c25 _).mono ?_; rintro e wn ⟨rfl, bq⟩; replace HB := Lib.hid (HB.out.trans (bq.mono HB.out.size)); clear bq; go_wp2; go_ret; exact ⟨rfl, HB.out⟩)); have H2 := Lib.hid hTT; clear hTT
  (go_wp2_with fail); refine (c49 _ _).mono ?_; rintro e wn ⟨rfl, rfl⟩
  cases hTT : (inB z 0 2000); (case false => ((clear hTT); (go_wp2_with fail); refine (c25 _).mono ?_; rintro e wn ⟨rfl, bq⟩; replace HB := Lib.hid (HB.out.trans (bq.mono HB.out.size)); clear bq; go_wp2; go_ret; exact ⟨rfl, HB.out⟩)); have H3 := Lib.hid hTT; clear hTT
  by_cases h4 : z < f
  case pos => (go_wp2_with fail); refine (c25 _).mono ?_; rintro e wn ⟨rfl, bq⟩; replace HB := Lib.hid (HB.out.trans (bq.mono HB.out.size)); clear bq; go_wp2; go_ret; exact ⟨rfl, HB.out⟩
  obtain ⟨hf1, hf2⟩ : 0 ≤ f ∧ f ≤ 2000 := by have h := H2.out; unfold inB at h; simpa using h
  obtain ⟨hz1, hz2⟩ : 0 ≤ z ∧ z ≤ 2000 := by have h := H3.out; unfold inB at h; simpa using h
  obtain ⟨N, rfl⟩ : ∃ N : Nat, z = f + N := ⟨(z - f).toNat, by omega⟩
  have HMO := Lib.hid (motB_mot H1.out)
  obtain ⟨hu0, hu1, hl0, hl1, _⟩ := motB_mot H1.out
  have ho : 0 < o.length := by omega
  have hn := staF_le u o f (N + 1)
  have HAT := Lib.hid (fun (k : Nat) (hk : k ≤ N) => (show k + (N + 1 - k) = N + 1 by omega) ▸ staL_at u o f k (N + 1 - k) (by omega))
  have HSU := Lib.hid (fun k => staL_succ u o f k)
  have HTN := Lib.hid (staL_turn u o f (N + 1))
  simp only [← staF_L] at HAT HSU HTN
  obtain ⟨l, hle⟩ : ∃ l, staF u o f (N + 1) = l := ⟨_, rfl⟩
  have h47 := c47_ok u q cap o f (f + N) wn HX.out H1.out H2.out H3.out (by omega)
  rw [show (f + (N : Int) - f + 1).toNat = N + 1 by omega, hle] at h47
  have HTOT := Lib.hid (HSU.out N)
  rw [hle] at hn HAT HTN HTOT
  have HLE := Lib.hid hle
  clear hle
  (go_wp2_with fail); refine (h47).mono ?_; rintro e wn ⟨⟨p, c, rfl, hr⟩, bq⟩; replace HB := Lib.hid (HB.out.trans (bq.mono HB.out.size)); replace HX := Lib.hid (HX.out.below bq); replace k0 := (bq.cell (lt_of_cellq k0)).trans k0; replace k1 := (bq.cell (lt_of_cellq k1)).trans k1; clear bq
  clear h47
  have HR := Lib.hid hr
  clear hr
  go_wp2
  go_loopw [9, 10, 11, 12, 13] (fun v9 v10 v11 v12 v13 wr => ∃ (k : Nat) (F G : Bool) (L : Int), k ≤ N ∧ v13 = .int .i64 (f + (k : Int)) ∧ v12 = .int .i64 ((staF u o f k).length : Nat) ∧ v10 = .bool F ∧ v11 = .bool G ∧ v9 = .int .i64 L ∧ L ≤ f + (k : Int) ∧
      Hid ((F = true → tau u o (f + (k : Int) - 1) = 1) ∧ (G = true → tau u o (f + (k : Int) - 1) = -1)) ∧ Hid (Below wn.heap.size wn wr)) (fun _ _ _ _ v13 _ => (f + (N : Int) - intOf v13).toNat)
  case atStart => exact ⟨0, false, false, f, Nat.zero_le _, by simp, rfl, rfl, rfl, rfl, by omega, Lib.hid ⟨fun h => absurd h (by simp), fun h => absurd h (by simp)⟩, Lib.hid (Below.refl _ _)⟩
  case round =>
    obtain ⟨k, F, G, L, hk, rfl, rfl, rfl, rfl, rfl, hLk, HI0, HL⟩ := hrel
    by_cases hlt : k < N
    · (have bq := HL.out); replace HB := Lib.hid (HB.out.trans (bq.mono HB.out.size)); replace HX := Lib.hid (HX.out.below bq); replace HR := Lib.hid (HR.out.below bq); replace k0 := (bq.cell (lt_of_cellq k0)).trans k0; replace k1 := (bq.cell (lt_of_cellq k1)).trans k1; clear bq
      have hltI : decide (f + (k : Int) < f + (N : Int)) = true := by simp; omega
      have HIX1 := Lib.hid (HAT.out k (by omega))
      have HIX2 := Lib.hid (HAT.out (k + 1) (by omega))
      have HC0 := Lib.hid (HSU.out k)
      have HTU := Lib.hid (tau_up (u := u) ho (f + (k : Int)))
      obtain ⟨A, hA⟩ : ∃ A, plc u o (f + (k : Int)) = A := ⟨_, rfl⟩
      obtain ⟨B, hBe⟩ : ∃ B, plc u o (f + (k : Int) + 1) = B := ⟨_, rfl⟩
      obtain ⟨T1, hT1⟩ : ∃ T1, tau u o (f + (k : Int)) = T1 := ⟨_, rfl⟩
      rw [hA, hBe, hT1] at HTU
      have HT := Lib.hid (show tau u o (f + ((k + 1 : Nat) : Int) - 1) = T1 by rw [← hT1]; congr 1; omega)
      have HPOS := Lib.hid HTU.out.1
      have HNEG := Lib.hid HTU.out.2.1
      have HZ := Lib.hid (fun (h : A = B) => HTU.out.2.2 h)
      rw [show f + (k : Int) + 1 = f + ((k + 1 : Nat) : Int) by omega] at HZ
      have HA := Lib.hid hA
      have HBe := Lib.hid hBe
      have HT1 := Lib.hid hT1
      obtain ⟨c, hc⟩ : ∃ c, (staF u o f k).length = c := ⟨_, rfl⟩
      rw [hc] at HIX1 ⊢
      by_cases hs : isSta u o (f + (k : Int)) = true
      · have HC1 := Lib.hid (show (staF u o f (k + 1)).length = c + 1 by rw [HC0.out, if_pos hs]; simp [hc])
        rw [HC1.out] at HIX2
        obtain ⟨i1, i2⟩ := HIX1.out.2 hs
        obtain ⟨bb, oo, rfl, hcc⟩ := HR.out.at i1
        have e1 := hcc c i1
        rw [i2] at e1
        have i3 : ¬ f + (k : Int) < L := by omega
        have i4 : (f + (k : Int) == f + (k : Int)) = true := by simp
        clear hcc i2 hs hA hBe hT1 hc HTU HIX1 HC0
        (go_wp2_with fail); refine (c53_ok u q cap o (f + (k : Int)) _ HX.out H1.out (inB_true (by omega) (by omega))).mono ?_; rw [HA.out]; rintro e wn ⟨rfl, bq⟩; replace HB := Lib.hid (HB.out.trans (bq.mono HB.out.size)); replace HX := Lib.hid (HX.out.below bq); replace HR := Lib.hid (HR.out.below bq); replace HL := Lib.hid (HL.out.trans (bq.mono HL.out.size)); replace k0 := (bq.cell (lt_of_cellq k0)).trans k0; replace k1 := (bq.cell (lt_of_cellq k1)).trans k1; clear bq
        (go_wp2_with fail); refine (c53_ok u q cap o (f + (k : Int) + 1) _ HX.out H1.out (inB_true (by omega) (by omega))).mono ?_; rw [HBe.out]; rintro e wn ⟨rfl, bq⟩; replace HB := Lib.hid (HB.out.trans (bq.mono HB.out.size)); replace HX := Lib.hid (HX.out.below bq); replace HR := Lib.hid (HR.out.below bq); replace HL := Lib.hid (HL.out.trans (bq.mono HL.out.size)); replace k0 := (bq.cell (lt_of_cellq k0)).trans k0; replace k1 := (bq.cell (lt_of_cellq k1)).trans k1; clear bq
        rcases Int.lt_trichotomy A B with hab | hab | hab
        · have pT := HPOS.out hab
          have hgt : B > A := hab
          have hlt3 : decide (B < A) = false := by simp; omega
          have hne : (A == B) = false := ne_beq (by omega)
          by_cases d1 : (c + 1) < l.length
          · skip
            obtain ⟨b9, o9, e9, hc9⟩ := HR.out.at d1
            cases e9
            have e2 := hc9 (c + 1) d1
            clear hc9
            generalize gi l (c + 1) = y2 at *
            by_cases d2 : y2 = f + (k : Int) + 1
            · have d3 : (y2 == f + (k : Int) + 1) = true := by simp [d2]
              clear d2
              go_wp2
              go_roundw
              case rel => exact ⟨k + 1, true, false, (f + (k : Int)), by omega, by go_num, by rw [HC1.out] <;> go_num, rfl, rfl, rfl, by omega, Lib.hid ⟨fun _ => by rw [HT.out]; exact pT, fun h => absurd h (by simp)⟩, HL⟩
              case measure => simp [intOf]; omega
            · have d3 : (y2 == f + (k : Int) + 1) = false := ne_beq d2
              clear d2
              go_wp2
              go_roundw
              case rel => exact ⟨k + 1, true, false, (f + (k : Int)), by omega, by go_num, by rw [HC1.out] <;> go_num, rfl, rfl, rfl, by omega, Lib.hid ⟨fun _ => by rw [HT.out]; exact pT, fun h => absurd h (by simp)⟩, HL⟩
              case measure => simp [intOf]; omega
          · skip
            go_wp2
            go_roundw
            case rel => exact ⟨k + 1, true, false, (f + (k : Int)), by omega, by go_num, by rw [HC1.out] <;> go_num, rfl, rfl, rfl, by omega, Lib.hid ⟨fun _ => by rw [HT.out]; exact pT, fun h => absurd h (by simp)⟩, HL⟩
            case measure => simp [intOf]; omega
        · subst hab
          by_cases d1 : (c + 1) < l.length
          · have d2 : ¬ gi l (c + 1) = f + (k : Int) + 1 := fun h => HZ.out rfl (HIX2.out.1 ⟨d1, by rw [h]; omega⟩)
            obtain ⟨b9, o9, e9, hc9⟩ := HR.out.at d1
            cases e9
            have e2 := hc9 (c + 1) d1
            clear hc9
            generalize gi l (c + 1) = y2 at *
            have d3 : (y2 == f + (k : Int) + 1) = false := by simp [d2]
            clear d2
            go_wp2
            go_roundw
            case rel => exact ⟨k + 1, false, false, (f + (k : Int)), by omega, by go_num, by rw [HC1.out] <;> go_num, rfl, rfl, rfl, by omega, Lib.hid ⟨fun h => absurd h (by simp), fun h => absurd h (by simp)⟩, HL⟩
            case measure => simp [intOf]; omega
          · skip
            go_wp2
            go_roundw
            case rel => exact ⟨k + 1, false, false, (f + (k : Int)), by omega, by go_num, by rw [HC1.out] <;> go_num, rfl, rfl, rfl, by omega, Lib.hid ⟨fun h => absurd h (by simp), fun h => absurd h (by simp)⟩, HL⟩
            case measure => simp [intOf]; omega
        · have pT := HNEG.out hab
          have hgt : decide (A < B) = false := by simp; omega
          have hne : (A == B) = false := ne_beq (by omega)
          by_cases d1 : (c + 1) < l.length
          · skip
            obtain ⟨b9, o9, e9, hc9⟩ := HR.out.at d1
            cases e9
            have e2 := hc9 (c + 1) d1
            clear hc9
            generalize gi l (c + 1) = y2 at *
            by_cases d2 : y2 = f + (k : Int) + 1
            · have d3 : (y2 == f + (k : Int) + 1) = true := by simp [d2]
              clear d2
              go_wp2
              go_roundw
              case rel => exact ⟨k + 1, false, true, (f + (k : Int)), by omega, by go_num, by rw [HC1.out] <;> go_num, rfl, rfl, rfl, by omega, Lib.hid ⟨fun h => absurd h (by simp), fun _ => by rw [HT.out]; exact pT⟩, HL⟩
              case measure => simp [intOf]; omega
            · have d3 : (y2 == f + (k : Int) + 1) = false := ne_beq d2
              clear d2
              go_wp2
              go_roundw
              case rel => exact ⟨k + 1, false, true, (f + (k : Int)), by omega, by go_num, by rw [HC1.out] <;> go_num, rfl, rfl, rfl, by omega, Lib.hid ⟨fun h => absurd h (by simp), fun _ => by rw [HT.out]; exact pT⟩, HL⟩
              case measure => simp [intOf]; omega
          · skip
            go_wp2
            go_roundw
            case rel => exact ⟨k + 1, false, true, (f + (k : Int)), by omega, by go_num, by rw [HC1.out] <;> go_num, rfl, rfl, rfl, by omega, Lib.hid ⟨fun h => absurd h (by simp), fun _ => by rw [HT.out]; exact pT⟩, HL⟩
            case measure => simp [intOf]; omega
      · have HC1 := Lib.hid (show (staF u o f (k + 1)).length = c by rw [HC0.out, if_neg hs]; exact hc)
        rw [HC1.out] at HIX2
        have HIN := Lib.hid (show (F = true → T1 = 1) ∧ (G = true → T1 = -1) by
          rw [← HT1.out, not_sta hu0 ho hs]; exact HI0.out)
        have HNS := Lib.hid (show ¬ (c < l.length ∧ gi l c = f + (k : Int)) from fun h => hs (HIX1.out.1 h))
        clear hs hA hBe hT1 hc HTU HIX1 HC0 HI0
        by_cases i1 : c < l.length
        · have i2 : ¬ gi l c = f + (k : Int) := fun h => HNS.out ⟨i1, h⟩
          obtain ⟨bb, oo, rfl, hcc⟩ := HR.out.at i1
          have e1 := hcc c i1
          clear hcc
          obtain ⟨y1, hy1⟩ : ∃ y1, gi l c = y1 := ⟨_, rfl⟩
          rw [hy1] at e1 i2
          have i4 : (y1 == f + (k : Int)) = false := ne_beq i2
          have HY1 := Lib.hid hy1
          clear hy1 i2
          cases F with
          | false =>
            cases G with
            | false =>
              (go_wp2_with fail); refine (c53_ok u q cap o (f + (k : Int)) _ HX.out H1.out (inB_true (by omega) (by omega))).mono ?_; rw [HA.out]; rintro e wn ⟨rfl, bq⟩; replace HB := Lib.hid (HB.out.trans (bq.mono HB.out.size)); replace HX := Lib.hid (HX.out.below bq); replace HR := Lib.hid (HR.out.below bq); replace HL := Lib.hid (HL.out.trans (bq.mono HL.out.size)); replace k0 := (bq.cell (lt_of_cellq k0)).trans k0; replace k1 := (bq.cell (lt_of_cellq k1)).trans k1; clear bq
              (go_wp2_with fail); refine (c53_ok u q cap o (f + (k : Int) + 1) _ HX.out H1.out (inB_true (by omega) (by omega))).mono ?_; rw [HBe.out]; rintro e wn ⟨rfl, bq⟩; replace HB := Lib.hid (HB.out.trans (bq.mono HB.out.size)); replace HX := Lib.hid (HX.out.below bq); replace HR := Lib.hid (HR.out.below bq); replace HL := Lib.hid (HL.out.trans (bq.mono HL.out.size)); replace k0 := (bq.cell (lt_of_cellq k0)).trans k0; replace k1 := (bq.cell (lt_of_cellq k1)).trans k1; clear bq
              rcases Int.lt_trichotomy A B with hab | hab | hab
              · have pT := HPOS.out hab
                have hgt : B > A := hab
                have hlt3 : decide (B < A) = false := by simp; omega
                obtain ⟨b9, o9, e9, hc9⟩ := HR.out.at i1
                cases e9
                have e2 := hc9 c i1
                rw [HY1.out] at e2
                clear hc9
                have hne : (A == B) = false := ne_beq (by omega)
                by_cases d2 : y1 = f + (k : Int) + 1
                · have d3 : (y1 == f + (k : Int) + 1) = true := by simp [d2]
                  clear d2
                  go_wp2
                  go_roundw
                  case rel => exact ⟨k + 1, true, false, L, by omega, by go_num, by rw [HC1.out] <;> go_num, rfl, rfl, rfl, by omega, Lib.hid ⟨fun _ => by rw [HT.out]; exact pT, fun h => absurd h (by simp)⟩, HL⟩
                  case measure => simp [intOf]; omega
                · have d3 : (y1 == f + (k : Int) + 1) = false := ne_beq d2
                  clear d2
                  go_wp2
                  go_roundw
                  case rel => exact ⟨k + 1, true, false, L, by omega, by go_num, by rw [HC1.out] <;> go_num, rfl, rfl, rfl, by omega, Lib.hid ⟨fun _ => by rw [HT.out]; exact pT, fun h => absurd h (by simp)⟩, HL⟩
                  case measure => simp [intOf]; omega
              · subst hab
                obtain ⟨b9, o9, e9, hc9⟩ := HR.out.at i1
                cases e9
                have e2 := hc9 c i1
                rw [HY1.out] at e2
                clear hc9
                have d2 : ¬ y1 = f + (k : Int) + 1 := fun h => HZ.out rfl (HIX2.out.1 ⟨i1, by rw [HY1.out, h]; omega⟩)
                have d3 : (y1 == f + (k : Int) + 1) = false := ne_beq d2
                clear d2
                go_wp2
                go_roundw
                case rel => exact ⟨k + 1, false, false, L, by omega, by go_num, by rw [HC1.out] <;> go_num, rfl, rfl, rfl, by omega, Lib.hid ⟨fun h => absurd h (by simp), fun h => absurd h (by simp)⟩, HL⟩
                case measure => simp [intOf]; omega
              · have pT := HNEG.out hab
                have hgt : decide (A < B) = false := by simp; omega
                obtain ⟨b9, o9, e9, hc9⟩ := HR.out.at i1
                cases e9
                have e2 := hc9 c i1
                rw [HY1.out] at e2
                clear hc9
                have hne : (A == B) = false := ne_beq (by omega)
                by_cases d2 : y1 = f + (k : Int) + 1
                · have d3 : (y1 == f + (k : Int) + 1) = true := by simp [d2]
                  clear d2
                  go_wp2
                  go_roundw
                  case rel => exact ⟨k + 1, false, true, L, by omega, by go_num, by rw [HC1.out] <;> go_num, rfl, rfl, rfl, by omega, Lib.hid ⟨fun h => absurd h (by simp), fun _ => by rw [HT.out]; exact pT⟩, HL⟩
                  case measure => simp [intOf]; omega
                · have d3 : (y1 == f + (k : Int) + 1) = false := ne_beq d2
                  clear d2
                  go_wp2
                  go_roundw
                  case rel => exact ⟨k + 1, false, true, L, by omega, by go_num, by rw [HC1.out] <;> go_num, rfl, rfl, rfl, by omega, Lib.hid ⟨fun h => absurd h (by simp), fun _ => by rw [HT.out]; exact pT⟩, HL⟩
                  case measure => simp [intOf]; omega
            | true =>
              (go_wp2_with fail); refine (c53_ok u q cap o (f + (k : Int)) _ HX.out H1.out (inB_true (by omega) (by omega))).mono ?_; rw [HA.out]; rintro e wn ⟨rfl, bq⟩; replace HB := Lib.hid (HB.out.trans (bq.mono HB.out.size)); replace HX := Lib.hid (HX.out.below bq); replace HR := Lib.hid (HR.out.below bq); replace HL := Lib.hid (HL.out.trans (bq.mono HL.out.size)); replace k0 := (bq.cell (lt_of_cellq k0)).trans k0; replace k1 := (bq.cell (lt_of_cellq k1)).trans k1; clear bq
              (go_wp2_with fail); refine (c53_ok u q cap o (f + (k : Int) + 1) _ HX.out H1.out (inB_true (by omega) (by omega))).mono ?_; rw [HBe.out]; rintro e wn ⟨rfl, bq⟩; replace HB := Lib.hid (HB.out.trans (bq.mono HB.out.size)); replace HX := Lib.hid (HX.out.below bq); replace HR := Lib.hid (HR.out.below bq); replace HL := Lib.hid (HL.out.trans (bq.mono HL.out.size)); replace k0 := (bq.cell (lt_of_cellq k0)).trans k0; replace k1 := (bq.cell (lt_of_cellq k1)).trans k1; clear bq
              have pT := (HIN.out.2 (by simp))
              have hnb : decide (A < B) = false := decide_eq_false (fun h => by have := HPOS.out h; omega)
              have hnb2 := of_decide_eq_false hnb
              by_cases hab : A = B
              · subst hab
                obtain ⟨b9, o9, e9, hc9⟩ := HR.out.at i1
                cases e9
                have e2 := hc9 c i1
                rw [HY1.out] at e2
                clear hc9
                have d2 : ¬ y1 = f + (k : Int) + 1 := fun h => HZ.out rfl (HIX2.out.1 ⟨i1, by rw [HY1.out, h]; omega⟩)
                have d3 : (y1 == f + (k : Int) + 1) = false := ne_beq d2
                clear d2
                go_wp2
                go_roundw
                case rel => exact ⟨k + 1, false, true, L, by omega, by go_num, by rw [HC1.out] <;> go_num, rfl, rfl, rfl, by omega, Lib.hid ⟨fun h => absurd h (by simp), fun _ => by rw [HT.out]; exact pT⟩, HL⟩
                case measure => simp [intOf]; omega
              · skip
                obtain ⟨b9, o9, e9, hc9⟩ := HR.out.at i1
                cases e9
                have e2 := hc9 c i1
                rw [HY1.out] at e2
                clear hc9
                have hne : (A == B) = false := ne_beq (by omega)
                by_cases d2 : y1 = f + (k : Int) + 1
                · have d3 : (y1 == f + (k : Int) + 1) = true := by simp [d2]
                  clear d2
                  go_wp2
                  go_roundw
                  case rel => exact ⟨k + 1, false, true, L, by omega, by go_num, by rw [HC1.out] <;> go_num, rfl, rfl, rfl, by omega, Lib.hid ⟨fun h => absurd h (by simp), fun _ => by rw [HT.out]; exact pT⟩, HL⟩
                  case measure => simp [intOf]; omega
                · have d3 : (y1 == f + (k : Int) + 1) = false := ne_beq d2
                  clear d2
                  go_wp2
                  go_roundw
                  case rel => exact ⟨k + 1, false, true, L, by omega, by go_num, by rw [HC1.out] <;> go_num, rfl, rfl, rfl, by omega, Lib.hid ⟨fun h => absurd h (by simp), fun _ => by rw [HT.out]; exact pT⟩, HL⟩
                  case measure => simp [intOf]; omega
          | true =>
            cases G with
            | false =>
              (go_wp2_with fail); refine (c53_ok u q cap o (f + (k : Int)) _ HX.out H1.out (inB_true (by omega) (by omega))).mono ?_; rw [HA.out]; rintro e wn ⟨rfl, bq⟩; replace HB := Lib.hid (HB.out.trans (bq.mono HB.out.size)); replace HX := Lib.hid (HX.out.below bq); replace HR := Lib.hid (HR.out.below bq); replace HL := Lib.hid (HL.out.trans (bq.mono HL.out.size)); replace k0 := (bq.cell (lt_of_cellq k0)).trans k0; replace k1 := (bq.cell (lt_of_cellq k1)).trans k1; clear bq
              (go_wp2_with fail); refine (c53_ok u q cap o (f + (k : Int) + 1) _ HX.out H1.out (inB_true (by omega) (by omega))).mono ?_; rw [HBe.out]; rintro e wn ⟨rfl, bq⟩; replace HB := Lib.hid (HB.out.trans (bq.mono HB.out.size)); replace HX := Lib.hid (HX.out.below bq); replace HR := Lib.hid (HR.out.below bq); replace HL := Lib.hid (HL.out.trans (bq.mono HL.out.size)); replace k0 := (bq.cell (lt_of_cellq k0)).trans k0; replace k1 := (bq.cell (lt_of_cellq k1)).trans k1; clear bq
              have pT := (HIN.out.1 (by simp))
              have hnb : decide (B < A) = false := decide_eq_false (fun h => by have := HNEG.out h; omega)
              have hnb2 := of_decide_eq_false hnb
              by_cases hab : A = B
              · subst hab
                obtain ⟨b9, o9, e9, hc9⟩ := HR.out.at i1
                cases e9
                have e2 := hc9 c i1
                rw [HY1.out] at e2
                clear hc9
                have d2 : ¬ y1 = f + (k : Int) + 1 := fun h => HZ.out rfl (HIX2.out.1 ⟨i1, by rw [HY1.out, h]; omega⟩)
                have d3 : (y1 == f + (k : Int) + 1) = false := ne_beq d2
                clear d2
                go_wp2
                go_roundw
                case rel => exact ⟨k + 1, true, false, L, by omega, by go_num, by rw [HC1.out] <;> go_num, rfl, rfl, rfl, by omega, Lib.hid ⟨fun _ => by rw [HT.out]; exact pT, fun h => absurd h (by simp)⟩, HL⟩
                case measure => simp [intOf]; omega
              · skip
                obtain ⟨b9, o9, e9, hc9⟩ := HR.out.at i1
                cases e9
                have e2 := hc9 c i1
                rw [HY1.out] at e2
                clear hc9
                have hne : (A == B) = false := ne_beq (by omega)
                by_cases d2 : y1 = f + (k : Int) + 1
                · have d3 : (y1 == f + (k : Int) + 1) = true := by simp [d2]
                  clear d2
                  go_wp2
                  go_roundw
                  case rel => exact ⟨k + 1, true, false, L, by omega, by go_num, by rw [HC1.out] <;> go_num, rfl, rfl, rfl, by omega, Lib.hid ⟨fun _ => by rw [HT.out]; exact pT, fun h => absurd h (by simp)⟩, HL⟩
                  case measure => simp [intOf]; omega
                · have d3 : (y1 == f + (k : Int) + 1) = false := ne_beq d2
                  clear d2
                  go_wp2
                  go_roundw
                  case rel => exact ⟨k + 1, true, false, L, by omega, by go_num, by rw [HC1.out] <;> go_num, rfl, rfl, rfl, by omega, Lib.hid ⟨fun _ => by rw [HT.out]; exact pT, fun h => absurd h (by simp)⟩, HL⟩
                  case measure => simp [intOf]; omega
            | true => exact absurd (HIN.out.1 (by simp)) (by rw [HIN.out.2 (by simp)]; omega)
        · skip
          cases F with
          | false =>
            cases G with
            | false =>
              (go_wp2_with fail); refine (c53_ok u q cap o (f + (k : Int)) _ HX.out H1.out (inB_true (by omega) (by omega))).mono ?_; rw [HA.out]; rintro e wn ⟨rfl, bq⟩; replace HB := Lib.hid (HB.out.trans (bq.mono HB.out.size)); replace HX := Lib.hid (HX.out.below bq); replace HR := Lib.hid (HR.out.below bq); replace HL := Lib.hid (HL.out.trans (bq.mono HL.out.size)); replace k0 := (bq.cell (lt_of_cellq k0)).trans k0; replace k1 := (bq.cell (lt_of_cellq k1)).trans k1; clear bq
              (go_wp2_with fail); refine (c53_ok u q cap o (f + (k : Int) + 1) _ HX.out H1.out (inB_true (by omega) (by omega))).mono ?_; rw [HBe.out]; rintro e wn ⟨rfl, bq⟩; replace HB := Lib.hid (HB.out.trans (bq.mono HB.out.size)); replace HX := Lib.hid (HX.out.below bq); replace HR := Lib.hid (HR.out.below bq); replace HL := Lib.hid (HL.out.trans (bq.mono HL.out.size)); replace k0 := (bq.cell (lt_of_cellq k0)).trans k0; replace k1 := (bq.cell (lt_of_cellq k1)).trans k1; clear bq
              rcases Int.lt_trichotomy A B with hab | hab | hab
              · have pT := HPOS.out hab
                have hgt : B > A := hab
                have hlt3 : decide (B < A) = false := by simp; omega
                have hne : (A == B) = false := ne_beq (by omega)
                go_wp2
                go_roundw
                case rel => exact ⟨k + 1, true, false, L, by omega, by go_num, by rw [HC1.out] <;> go_num, rfl, rfl, rfl, by omega, Lib.hid ⟨fun _ => by rw [HT.out]; exact pT, fun h => absurd h (by simp)⟩, HL⟩
                case measure => simp [intOf]; omega
              · subst hab
                go_wp2
                go_roundw
                case rel => exact ⟨k + 1, false, false, L, by omega, by go_num, by rw [HC1.out] <;> go_num, rfl, rfl, rfl, by omega, Lib.hid ⟨fun h => absurd h (by simp), fun h => absurd h (by simp)⟩, HL⟩
                case measure => simp [intOf]; omega
              · have pT := HNEG.out hab
                have hgt : decide (A < B) = false := by simp; omega
                have hne : (A == B) = false := ne_beq (by omega)
                go_wp2
                go_roundw
                case rel => exact ⟨k + 1, false, true, L, by omega, by go_num, by rw [HC1.out] <;> go_num, rfl, rfl, rfl, by omega, Lib.hid ⟨fun h => absurd h (by simp), fun _ => by rw [HT.out]; exact pT⟩, HL⟩
                case measure => simp [intOf]; omega
            | true =>
              (go_wp2_with fail); refine (c53_ok u q cap o (f + (k : Int)) _ HX.out H1.out (inB_true (by omega) (by omega))).mono ?_; rw [HA.out]; rintro e wn ⟨rfl, bq⟩; replace HB := Lib.hid (HB.out.trans (bq.mono HB.out.size)); replace HX := Lib.hid (HX.out.below bq); replace HR := Lib.hid (HR.out.below bq); replace HL := Lib.hid (HL.out.trans (bq.mono HL.out.size)); replace k0 := (bq.cell (lt_of_cellq k0)).trans k0; replace k1 := (bq.cell (lt_of_cellq k1)).trans k1; clear bq
              (go_wp2_with fail); refine (c53_ok u q cap o (f + (k : Int) + 1) _ HX.out H1.out (inB_true (by omega) (by omega))).mono ?_; rw [HBe.out]; rintro e wn ⟨rfl, bq⟩; replace HB := Lib.hid (HB.out.trans (bq.mono HB.out.size)); replace HX := Lib.hid (HX.out.below bq); replace HR := Lib.hid (HR.out.below bq); replace HL := Lib.hid (HL.out.trans (bq.mono HL.out.size)); replace k0 := (bq.cell (lt_of_cellq k0)).trans k0; replace k1 := (bq.cell (lt_of_cellq k1)).trans k1; clear bq
              have pT := (HIN.out.2 (by simp))
              have hnb : decide (A < B) = false := decide_eq_false (fun h => by have := HPOS.out h; omega)
              have hnb2 := of_decide_eq_false hnb
              by_cases hab : A = B
              · subst hab
                go_wp2
                go_roundw
                case rel => exact ⟨k + 1, false, true, L, by omega, by go_num, by rw [HC1.out] <;> go_num, rfl, rfl, rfl, by omega, Lib.hid ⟨fun h => absurd h (by simp), fun _ => by rw [HT.out]; exact pT⟩, HL⟩
                case measure => simp [intOf]; omega
              · skip
                have hne : (A == B) = false := ne_beq (by omega)
                go_wp2
                go_roundw
                case rel => exact ⟨k + 1, false, true, L, by omega, by go_num, by rw [HC1.out] <;> go_num, rfl, rfl, rfl, by omega, Lib.hid ⟨fun h => absurd h (by simp), fun _ => by rw [HT.out]; exact pT⟩, HL⟩
                case measure => simp [intOf]; omega
          | true =>
            cases G with
            | false =>
              (go_wp2_with fail); refine (c53_ok u q cap o (f + (k : Int)) _ HX.out H1.out (inB_true (by omega) (by omega))).mono ?_; rw [HA.out]; rintro e wn ⟨rfl, bq⟩; replace HB := Lib.hid (HB.out.trans (bq.mono HB.out.size)); replace HX := Lib.hid (HX.out.below bq); replace HR := Lib.hid (HR.out.below bq); replace HL := Lib.hid (HL.out.trans (bq.mono HL.out.size)); replace k0 := (bq.cell (lt_of_cellq k0)).trans k0; replace k1 := (bq.cell (lt_of_cellq k1)).trans k1; clear bq
              (go_wp2_with fail); refine (c53_ok u q cap o (f + (k : Int) + 1) _ HX.out H1.out (inB_true (by omega) (by omega))).mono ?_; rw [HBe.out]; rintro e wn ⟨rfl, bq⟩; replace HB := Lib.hid (HB.out.trans (bq.mono HB.out.size)); replace HX := Lib.hid (HX.out.below bq); replace HR := Lib.hid (HR.out.below bq); replace HL := Lib.hid (HL.out.trans (bq.mono HL.out.size)); replace k0 := (bq.cell (lt_of_cellq k0)).trans k0; replace k1 := (bq.cell (lt_of_cellq k1)).trans k1; clear bq
              have pT := (HIN.out.1 (by simp))
              have hnb : decide (B < A) = false := decide_eq_false (fun h => by have := HNEG.out h; omega)
              have hnb2 := of_decide_eq_false hnb
              by_cases hab : A = B
              · subst hab
                go_wp2
                go_roundw
                case rel => exact ⟨k + 1, true, false, L, by omega, by go_num, by rw [HC1.out] <;> go_num, rfl, rfl, rfl, by omega, Lib.hid ⟨fun _ => by rw [HT.out]; exact pT, fun h => absurd h (by simp)⟩, HL⟩
                case measure => simp [intOf]; omega
              · skip
                have hne : (A == B) = false := ne_beq (by omega)
                go_wp2
                go_roundw
                case rel => exact ⟨k + 1, true, false, L, by omega, by go_num, by rw [HC1.out] <;> go_num, rfl, rfl, rfl, by omega, Lib.hid ⟨fun _ => by rw [HT.out]; exact pT, fun h => absurd h (by simp)⟩, HL⟩
                case measure => simp [intOf]; omega
            | true => exact absurd (HIN.out.1 (by simp)) (by rw [HIN.out.2 (by simp)]; omega)
    · obtain rfl : k = N := by omega
      have hltI : decide (f + (k : Int) < f + (k : Int)) = false := by simp
      (have bq := HL.out); replace HB := Lib.hid (HB.out.trans (bq.mono HB.out.size)); replace HX := Lib.hid (HX.out.below bq); replace HR := Lib.hid (HR.out.below bq); replace k0 := (bq.cell (lt_of_cellq k0)).trans k0; replace k1 := (bq.cell (lt_of_cellq k1)).trans k1; clear bq
      obtain ⟨wn, rfl⟩ : ∃ wn : World, wn = wr := ⟨_, rfl⟩
      have HIX := Lib.hid (HAT.out k (Nat.le_refl _))
      obtain ⟨c, hc⟩ : ∃ c, (staF u o f k).length = c := ⟨_, rfl⟩
      rw [hc] at HIX ⊢
      have HLC := Lib.hid (show (isSta u o (f + (k : Int)) = true ∧ l.length = c + 1) ∨ (¬ isSta u o (f + (k : Int)) = true ∧ l.length = c) by
        have h := HTOT.out
        by_cases hs : isSta u o (f + (k : Int)) = true
        · rw [if_pos hs] at h; left; refine ⟨hs, ?_⟩; rw [h]; simp [hc]
        · rw [if_neg hs] at h; right; refine ⟨hs, ?_⟩; rw [h]; exact hc)
      clear hc hlt hk HI0
      go_wp2
      go_loop [12] (fun v => ∃ a : Nat, (a = c ∨ a = l.length) ∧ a ≤ l.length ∧ v = .int .i64 a) (fun v => l.length - (intOf v).toNat)
      case atStart => exact ⟨c, .inl rfl, by rcases HLC.out with ⟨_, h⟩ | ⟨_, h⟩ <;> omega, rfl⟩
      case round =>
        obtain ⟨a, ha, hal, rfl⟩ := hrel
        by_cases hlt : a < l.length
        · obtain rfl : a = c := by omega
          have hs : isSta u o (f + (k : Int)) = true := by
            rcases HLC.out with ⟨h, _⟩ | ⟨_, h⟩
            · exact h
            · omega
          obtain ⟨i1, i2⟩ := HIX.out.2 hs
          have hl2 : l.length = a + 1 := by
            rcases HLC.out with ⟨_, h⟩ | ⟨h, _⟩
            · exact h
            · exact absurd hs h
          have HL2 := Lib.hid hl2
          obtain ⟨bb, oo, rfl, hcc⟩ := HR.out.at i1
          have e1 := hcc a i1
          rw [i2] at e1
          have i4 : (f + (k : Int) == f + (k : Int)) = true := by simp
          clear hcc i2 hs hl2
          go_wp2
          go_round
          case rel => exact ⟨a + 1, .inr HL2.out.symm, by omega, by go_num⟩
          case measure => simp [intOf]; omega
        · obtain rfl : a = l.length := by omega
          have hne : ((l.length : Int) != (l.length : Int)) = false := by simp
          have hltJ : decide ((l.length : Int) < (l.length : Int)) = false := by simp
          clear ha hal hlt
          (go_wp2_with fail); refine (c49 _ _).mono ?_; rintro e wn ⟨rfl, rfl⟩
          cases hTT : (inB (f + (k : Int) + (o.length : Int)) 0 2000); (case false => ((clear hTT); (go_wp2_with fail); refine (c25 _).mono ?_; rintro e wn ⟨rfl, bq⟩; replace HB := Lib.hid (HB.out.trans (bq.mono HB.out.size)); clear bq; go_wp2; go_ret; exact ⟨rfl, HB.out⟩)); have HT := Lib.hid hTT; clear hTT
          obtain ⟨_, hT2⟩ : 0 ≤ f + (k : Int) + (o.length : Int) ∧ f + (k : Int) + (o.length : Int) ≤ 2000 := by have h := HT.out; unfold inB at h; simpa using h
          have h47 := c47_ok u q cap o (f + (o.length : Int)) (f + (k : Int) + (o.length : Int)) wn HX.out H1.out (inB_true (by omega) (by omega)) HT.out (by omega)
          rw [show (f + (k : Int) + (o.length : Int) - (f + (o.length : Int)) + 1).toNat = k + 1 by omega, HTN.out, List.length_map] at h47
          (go_wp2_with fail); refine (h47).mono ?_; rintro e wn ⟨⟨p2, c2, rfl, hr⟩, bq⟩; replace HB := Lib.hid (HB.out.trans (bq.mono HB.out.size)); replace HR := Lib.hid (HR.out.below bq); clear bq
          clear h47
          have HR2 := Lib.hid hr
          clear hr
          go_wp2
          obtain ⟨ws, rfl⟩ : ∃ ws : World, ws = wn := ⟨_, rfl⟩
          go_loopw [21] (fun v wx => ∃ i : Nat, i ≤ l.length ∧ v = .int .i64 i ∧ Hid (Below ws.heap.size ws wx)) (fun v _ => l.length - (intOf v).toNat)
          case atStart => exact ⟨0, Nat.zero_le _, rfl, Lib.hid (Below.refl _ _)⟩
          case round =>
            obtain ⟨i, hi, rfl, HL⟩ := hrel
            by_cases hil : i < l.length
            · have hilI : decide ((i : Int) < (l.length : Int)) = true := by simp; omega
              obtain ⟨b1, o1, e7, hc1⟩ := (HR.out.below HL.out).at hil
              obtain ⟨b2, o2, e8, hc2⟩ := (HR2.out.below HL.out).at (i := i) (by simpa using hil)
              cases e7
              cases e8
              have e1 := hc1 i hil
              have e2 := hc2 i (by simpa using hil)
              rw [gi_mapA _ _ _ hil] at e2
              have hgr : 0 ≤ gi l i ∧ gi l i ≤ 10000 := by
                have h := gi_mem l i hil
                rw [← HLE.out] at h
                unfold staF at h
                rw [List.mem_filter, List.mem_map] at h
                obtain ⟨⟨j, hj, e⟩, _⟩ := h
                have := List.mem_range.1 hj
                rw [← HLE.out]; unfold staF; omega
              clear hc1 hc2
              generalize gi l i = y at *
              have hww : IntKind.i64.wrap (y + (o.length : Int)) = y + (o.length : Int) := w64 _ (by omega) (by omega)
              have hne2 : (y + (o.length : Int) != y + (o.length : Int)) = false := by simp
              go_wp2
              refine wp_region_quiet_lit (by kernel_rfl) (by kernel_rfl) ?_; (repeat (first | ((with_reducible apply wq_ix Tryz.underlying24 sz3); (focus rfl); (focus rfl); (focus rfl); (focus omega); (try simp only [Nat.mul_one]); go_frame) | ((with_reducible apply wq_ix Tryz.underlying37 sz50); (focus rfl); (focus rfl); (focus rfl); (focus omega); (try simp only [Nat.mul_one]); go_frame) | ((with_reducible apply wq_ix Tryz.underlying35 sz47); (focus rfl); (focus rfl); (focus rfl); (focus omega); (try simp only [Nat.mul_one]); go_frame) | ((with_reducible apply wq_ix Tryz.underlying90 sz24); (focus rfl); (focus rfl); (focus rfl); (focus omega); (try simp only [Nat.mul_one]); go_frame) | ((with_reducible apply wq_ld ag3); (focus rfl); (focus rfl); (focus (rintro _ ⟨_, rfl⟩; first | exact e1 | exact e2)); go_frame) | ((with_reducible apply wq_ld ag24); (focus rfl); (focus rfl); (focus (rintro _ ⟨_, rfl⟩; first | exact e1 | exact e2)); go_frame) | ((with_reducible apply wq_ld ag37); (focus rfl); (focus rfl); (focus (rintro _ ⟨_, rfl⟩; first | exact e1 | exact e2)); go_frame) | ((with_reducible apply wq_ld ag90); (focus rfl); (focus rfl); (focus (rintro _ ⟨_, rfl⟩; first | exact e1 | exact e2)); go_frame) | ((with_reducible apply wq_ld ag35); (focus rfl); (focus rfl); (focus (rintro _ ⟨_, rfl⟩; first | exact e1 | exact e2)); go_frame) | ((with_reducible apply wq_add); (focus rfl); (focus rfl); (focus rfl); (focus omega); (focus omega); go_frame) | ((with_reducible apply wq_sub); (focus rfl); (focus rfl); (focus rfl); (focus omega); (focus omega); go_frame) | ((with_reducible apply wq_mul); (focus rfl); (focus rfl); (focus rfl); (focus omega); (focus omega); go_frame) | ((with_reducible apply wq_rem); (focus rfl); (focus rfl); (focus rfl); (focus omega); (focus omega); go_frame) | ((with_reducible apply wq_eql); (focus rfl); (focus rfl); (focus rfl); go_frame) | ((with_reducible apply wq_neq); (focus rfl); (focus rfl); (focus rfl); go_frame) | ((with_reducible apply wq_lss); (focus rfl); (focus rfl); (focus rfl); go_frame) | ((with_reducible apply wq_leq); (focus rfl); (focus rfl); (focus rfl); go_frame) | ((with_reducible apply wq_gtr); (focus rfl); (focus rfl); (focus rfl); go_frame) | ((with_reducible apply wq_geq); (focus rfl); (focus rfl); (focus rfl); go_frame) | ((with_reducible apply wq_max2); (focus rfl); (focus rfl); (focus rfl); go_frame) | ((with_reducible apply wq_min2); (focus rfl); (focus rfl); (focus rfl); go_frame) | ((with_reducible apply wq_max3); (focus rfl); (focus rfl); (focus rfl); (focus rfl); go_frame) | ((with_reducible apply wq_min3); (focus rfl); (focus rfl); (focus rfl); (focus rfl); go_frame) | go_big_quiet_step (fail))); refine wpQuiet_nil ?_; rintro _ ⟨nq, rfl⟩
              go_wp2
              go_roundw
              case rel => exact ⟨i + 1, by omega, by go_num, Lib.hid (below_drewN HL.out _)⟩
              case measure => simp [intOf]; omega
            · obtain rfl : i = l.length := by omega
              have hilI : decide ((l.length : Int) < (l.length : Int)) = false := by simp
              (have bq := HL.out); replace HB := Lib.hid (HB.out.trans (bq.mono HB.out.size)); clear bq
              (go_wp2_with fail); refine (c25 _).mono ?_; rintro e wn ⟨rfl, bq⟩; replace HB := Lib.hid (HB.out.trans (bq.mono HB.out.size)); clear bq; go_wp2; go_ret; exact ⟨rfl, HB.out⟩
    end Go.Proofs.YtncfgkhbenmpoaaGreatDoor
end
