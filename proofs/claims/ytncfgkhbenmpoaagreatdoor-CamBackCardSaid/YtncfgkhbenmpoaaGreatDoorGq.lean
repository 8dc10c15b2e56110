/-
  The law of turns (the walk).
  The law of retreats (the walk).
-/
import Derived.Test.YtncfgkhbenmpoaaGreatDoorGn
import Derived.Test.YtncfgkhbenmpoaaGreatDoorGk
import Derived.BigQuiet
section
namespace Go.Proofs.YtncfgkhbenmpoaaGreatDoor
open Go Go.RowKit Go.Proofs
set_option linter.unusedVariables false
attribute [local go_sem] imax2 imin2

theorem plc_tight (u : Int) (o : List Int) (t : Int) (hm : Mot u o) (hk : 0 ≤ t ∧ t ≤ 2000) : -200 ≤ plc u o t ∧ plc u o t ≤ 100200 := by
  obtain ⟨hu0, hu1, hl0, hl1, hos⟩ := hm
  have h1 := hos _ (cg_lt o (by omega) t)
  have hp1 : 0 ≤ t * u := Int.mul_nonneg (by omega) (by omega)
  have hp2 : t * u ≤ 2000 * 50 := Int.mul_le_mul (by omega) hu1 (by omega) (by omega)
  have e : cg o t = gi o (t % (o.length : Int)).toNat := rfl
  unfold plc
  omega
theorem gi_map (f : Int → Int) (xs : List Int) (j : Nat) (h : j < xs.length) : gi (xs.map f) j = f (gi xs j) := by
  unfold gi; simp [h]
theorem later_spec (u : Int) (o : List Int) (z : Int) (k : Nat) : ∃ m, (passF u o (z + o.length * u) (o.length + k)).length = m + (passF u o z k).length ∧
    (∀ j, j < m → gi (passF u o (z + o.length * u) (o.length + k)) j < o.length) ∧
    ∀ j, j < (passF u o z k).length → gi (passF u o (z + o.length * u) (o.length + k)) (m + j) = gi (passF u o z k) j + o.length ∧ 0 ≤ gi (passF u o z k) j := by
  rw [passF_turn]
  refine ⟨(passF u o (z + o.length * u) o.length).length, by simp, fun j hj => ?_, fun j hj => ⟨?_, ?_⟩⟩
  · rw [gi_append_left _ _ _ hj]
    have := gi_mem _ j hj
    rw [passF_mem] at this
    obtain ⟨t, ht, _, e⟩ := this
    rw [e]; omega
  · rw [gi_append_right, gi_map _ _ _ hj]
  · have := gi_mem _ j hj
    rw [passF_mem] at this
    obtain ⟨t, ht, _, e⟩ := this
    rw [e]; omega
theorem pass_ix (u : Int) (o : List Int) (pl : Int) (f z : Nat) (hfz : f ≤ z) : (¬ pl < min (plc u o f) (plc u o z) ∧ ¬ pl > max (plc u o f) (plc u o z)) →
    ∃ j, j < (passF u o pl (z + 1)).length ∧ (f : Int) ≤ gi (passF u o pl (z + 1)) j ∧ gi (passF u o pl (z + 1)) j ≤ z := by
  intro ⟨h1, h2⟩
  have e : z = f + (z - f) := by omega
  obtain ⟨t, ht1, ht2, ht3⟩ := pass_between u o pl f (z - f) (by rw [← e]; omega) (by rw [← e]; omega)
  have hm := (passF_mem u o pl (z + 1) (t : Int)).2 ⟨t, by omega, ht3, rfl⟩
  obtain ⟨j, hj, hje⟩ := List.mem_iff_getElem.1 hm
  have hg : gi (passF u o pl (z + 1)) j = (t : Int) := by unfold gi; rw [List.getD_eq_getElem?_getD, List.getElem?_eq_getElem hj, hje]; rfl
  exact ⟨j, hj, by omega, by omega⟩

set_option maxRecDepth 100000 in
set_option maxHeartbeats 4000000 in
theorem law13 (u : Int) (q : Option Addr) (cap : Nat) (o : List Int) (f z pl : Int) (w : World) (hx : RdI w q o) :
    Calls Tryz.prog 13 #[.agg #[.int .i64 u, .slice q o.length cap], .int .i64 f, .int .i64 z, .int .i64 pl] w (LawPost w) := by
  obtain ⟨w0, e0, HS, k0, k1, b0⟩ := box2 w (.int .i64 u) (.slice q o.length cap) 61
  have HX := Lib.hid (hx.below b0)
  have HB := Lib.hid b0
  clear hx b0
  go_enter Tryz.func13, Tryz.ntmps13
  (go_wp2_with fail); refine (c46 u q o.length cap _).mono ?_; rintro e wn ⟨rfl, bq⟩; replace HB := Lib.hid (HB.out.trans (bq.mono HB.out.size)); replace HX := Lib.hid (HX.out.below bq); replace k0 := (bq.cell (lt_of_cellq k0)).trans k0; replace k1 := (bq.cell (lt_of_cellq k1)).trans k1; clear bq
  clear e0
  cases hTT : (decide (o.length ≤ 27)); (case false => ((clear hTT); (go_wp2_with fail); refine (c25 _).mono ?_; rintro e wn ⟨rfl, bq⟩; replace HB := Lib.hid (HB.out.trans (bq.mono HB.out.size)); clear bq; go_wp2; go_ret; exact ⟨rfl, HB.out⟩)); have HSH := Lib.hid hTT; clear hTT
  have hl := of_decide_eq_true HSH.out
  (go_wp2_with fail); refine (c48 u q cap o _ HX.out (by omega)).mono ?_; rintro e wn ⟨rfl, bq⟩; replace HB := Lib.hid (HB.out.trans (bq.mono HB.out.size)); replace HX := Lib.hid (HX.out.below bq); replace k0 := (bq.cell (lt_of_cellq k0)).trans k0; replace k1 := (bq.cell (lt_of_cellq k1)).trans k1; clear bq
  cases hTT : (motB u o); (case false => ((clear hTT); (go_wp2_with fail); refine (c25 _).mono ?_; rintro e wn ⟨rfl, bq⟩; replace HB := Lib.hid (HB.out.trans (bq.mono HB.out.size)); clear bq; go_wp2; go_ret; exact ⟨rfl, HB.out⟩)); have H1 := Lib.hid hTT; clear hTT
  (go_wp2_with fail); refine (c49 _ _).mono ?_; rintro e wn ⟨rfl, rfl⟩
  cases hTT : (inB f 0 2000); (case false => ((clear hTT); (go_wp2_with fail); refine (c25 _).mono ?_; rintro e wn ⟨rfl, bq⟩; replace HB := Lib.hid (HB.out.trans (bq.mono HB.out.size)); clear bq; go_wp2; go_ret; exact ⟨rfl, HB.out⟩)); have H2 := Lib.hid hTT; clear hTT
  (go_wp2_with fail); refine (c49 _ _).mono ?_; rintro e wn ⟨rfl, rfl⟩
  cases hTT : (inB z 0 2000); (case false => ((clear hTT); (go_wp2_with fail); refine (c25 _).mono ?_; rintro e wn ⟨rfl, bq⟩; replace HB := Lib.hid (HB.out.trans (bq.mono HB.out.size)); clear bq; go_wp2; go_ret; exact ⟨rfl, HB.out⟩)); have H3 := Lib.hid hTT; clear hTT
  by_cases h4 : z < f
  case pos => (go_wp2_with fail); refine (c25 _).mono ?_; rintro e wn ⟨rfl, bq⟩; replace HB := Lib.hid (HB.out.trans (bq.mono HB.out.size)); clear bq; go_wp2; go_ret; exact ⟨rfl, HB.out⟩
  (go_wp2_with fail); refine (c56 _ _).mono ?_; rintro e wn ⟨rfl, rfl⟩
  cases hTT : (inB pl (-200000) 200000); (case false => ((clear hTT); (go_wp2_with fail); refine (c25 _).mono ?_; rintro e wn ⟨rfl, bq⟩; replace HB := Lib.hid (HB.out.trans (bq.mono HB.out.size)); clear bq; go_wp2; go_ret; exact ⟨rfl, HB.out⟩)); have H5 := Lib.hid hTT; clear hTT
  obtain ⟨hf1, hf2⟩ : 0 ≤ f ∧ f ≤ 2000 := by have h := H2.out; unfold inB at h; simpa using h
  obtain ⟨hz1, hz2⟩ : 0 ≤ z ∧ z ≤ 2000 := by have h := H3.out; unfold inB at h; simpa using h
  obtain ⟨hp1, hp2⟩ : -200000 ≤ pl ∧ pl ≤ 200000 := by have h := H5.out; unfold inB at h; simpa using h
  obtain ⟨f, rfl⟩ : ∃ n : Nat, f = n := ⟨f.toNat, by omega⟩
  obtain ⟨z, rfl⟩ : ∃ n : Nat, z = n := ⟨z.toNat, by omega⟩
  have HMO := Lib.hid (motB_mot H1.out)
  obtain ⟨hu0, hu1, hl0, hl1, _⟩ := motB_mot H1.out
  have rA := plc_tight u o f HMO.out (by omega)
  have rB := plc_tight u o z HMO.out (by omega)
  have HJ := Lib.hid (pass_ix u o pl f z (by omega))
  have HLT := Lib.hid (later_spec u o pl (z + 1))
  have hn := passF_le u o pl (z + 1)
  have hPT := plc_turn u o z
  have hd1 : 0 ≤ (o.length : Int) * u := Int.mul_nonneg (by omega) (by omega)
  have hd2 : (o.length : Int) * u ≤ 24 * 50 := Int.mul_le_mul (by omega) hu1 (by omega) (by omega)
  obtain ⟨l, hle⟩ : ∃ l, passF u o pl (z + 1) = l := ⟨_, rfl⟩
  obtain ⟨A, hA⟩ : ∃ A, plc u o f = A := ⟨_, rfl⟩
  obtain ⟨B, hBe⟩ : ∃ B, plc u o z = B := ⟨_, rfl⟩
  obtain ⟨D, hD⟩ : ∃ D, (o.length : Int) * u = D := ⟨_, rfl⟩
  rw [hle] at hn HJ HLT
  rw [hA] at rA HJ
  rw [hBe] at rB HJ hPT
  rw [hD] at hPT hd1 hd2 HLT
  have HLE := Lib.hid hle
  have HA := Lib.hid hA
  have HBe := Lib.hid hBe
  have HPT := Lib.hid hPT
  clear hle hA hBe hPT
  have hwD : IntKind.i64.wrap D = D := w64 _ (by omega) (by omega)
  (go_wp2_with fail); refine (c53_ok u q cap o f _ HX.out H1.out H2.out).mono ?_; rw [HA.out]; rintro e wn ⟨rfl, bq⟩; replace HB := Lib.hid (HB.out.trans (bq.mono HB.out.size)); replace HX := Lib.hid (HX.out.below bq); replace k0 := (bq.cell (lt_of_cellq k0)).trans k0; replace k1 := (bq.cell (lt_of_cellq k1)).trans k1; clear bq
  (go_wp2_with fail); refine (c53_ok u q cap o z _ HX.out H1.out H3.out).mono ?_; rw [HBe.out]; rintro e wn ⟨rfl, bq⟩; replace HB := Lib.hid (HB.out.trans (bq.mono HB.out.size)); replace HX := Lib.hid (HX.out.below bq); replace k0 := (bq.cell (lt_of_cellq k0)).trans k0; replace k1 := (bq.cell (lt_of_cellq k1)).trans k1; clear bq
  (go_wp2_with fail); refine (c54_ok u q cap o pl z _ HX.out H1.out H5.out (by omega)).mono ?_; rw [HLE.out]; rintro e wn ⟨⟨p, c, rfl, hr⟩, bq⟩; replace HB := Lib.hid (HB.out.trans (bq.mono HB.out.size)); replace HX := Lib.hid (HX.out.below bq); replace k0 := (bq.cell (lt_of_cellq k0)).trans k0; replace k1 := (bq.cell (lt_of_cellq k1)).trans k1; clear bq
  have HR := Lib.hid hr
  clear hr
  (go_wp2_with fail); refine (c49 _ _).mono ?_; rintro e wn ⟨rfl, rfl⟩
  cases hT : inB ((z : Int) + (o.length : Int)) 0 2000 with
  | false =>
    clear hT
    by_cases t1 : pl < min A B
    · (go_wp2_with fail); refine (c25 _).mono ?_; rintro e wn ⟨rfl, bq⟩; replace HB := Lib.hid (HB.out.trans (bq.mono HB.out.size)); clear bq; go_wp2; go_ret; exact ⟨rfl, HB.out⟩
    by_cases t2 : pl > max A B
    · (go_wp2_with fail); refine (c25 _).mono ?_; rintro e wn ⟨rfl, bq⟩; replace HB := Lib.hid (HB.out.trans (bq.mono HB.out.size)); clear bq; go_wp2; go_ret; exact ⟨rfl, HB.out⟩
    obtain ⟨j, hj, hj1, hj2⟩ := HJ.out ⟨by omega, by omega⟩
    go_wp2
    go_loopw [22] (fun i wr => ∃ k : Nat, k ≤ j ∧ i = .int .i64 k ∧ Hid (Below wn.heap.size wn wr)) (fun i _ => j + 1 - (intOf i).toNat)
    case atStart => exact ⟨0, Nat.zero_le _, rfl, Lib.hid (Below.refl _ _)⟩
    case round =>
      obtain ⟨k, hk, rfl, HL⟩ := hrel
      (have bq := HL.out); replace HB := Lib.hid (HB.out.trans (bq.mono HB.out.size)); replace HR := Lib.hid (HR.out.below bq); clear bq
      have hkl : k < l.length := by omega
      have hklI : decide ((k : Int) < (l.length : Int)) = true := by simp; omega
      obtain ⟨bb, oo, rfl, hc⟩ := HR.out.at hkl
      have e1 := hc k hkl
      clear hc
      by_cases c1 : gi l k ≥ (f : Int)
      · by_cases c2 : gi l k ≤ (z : Int)
        · (go_wp2_with fail); refine (c25 _).mono ?_; rintro e wn ⟨rfl, bq⟩; replace HB := Lib.hid (HB.out.trans (bq.mono HB.out.size)); clear bq; go_wp2; go_ret; exact ⟨rfl, HB.out⟩
        · have hne : k ≠ j := by rintro rfl; omega
          go_wp2
          go_roundw
          case rel => exact ⟨k + 1, by omega, by go_num, HL⟩
          case measure => simp [intOf]; omega
      · have hne : k ≠ j := by rintro rfl; omega
        go_wp2
        go_roundw
        case rel => exact ⟨k + 1, by omega, by go_num, HL⟩
        case measure => simp [intOf]; omega
  | true =>
    have HT := Lib.hid hT
    obtain ⟨_, hT2⟩ : 0 ≤ (z : Int) + (o.length : Int) ∧ (z : Int) + (o.length : Int) ≤ 2000 := by unfold inB at hT; simpa using hT
    clear hT
    (go_wp2_with fail); refine (c53_ok u q cap o ((z : Int) + (o.length : Int)) _ HX.out H1.out HT.out).mono ?_; rw [HPT.out]; rintro e wn ⟨rfl, bq⟩; replace HB := Lib.hid (HB.out.trans (bq.mono HB.out.size)); replace HX := Lib.hid (HX.out.below bq); replace HR := Lib.hid (HR.out.below bq); replace k0 := (bq.cell (lt_of_cellq k0)).trans k0; replace k1 := (bq.cell (lt_of_cellq k1)).trans k1; clear bq
    have hBD : (B + D != B + D) = false := by simp
    (go_wp2_with fail); refine (c56 _ _).mono ?_; rintro e wn ⟨rfl, rfl⟩
    cases hS : inB (pl + D) (-200000) 200000 with
    | false =>
      clear hS
      by_cases t1 : pl < min A B
      · (go_wp2_with fail); refine (c25 _).mono ?_; rintro e wn ⟨rfl, bq⟩; replace HB := Lib.hid (HB.out.trans (bq.mono HB.out.size)); clear bq; go_wp2; go_ret; exact ⟨rfl, HB.out⟩
      by_cases t2 : pl > max A B
      · (go_wp2_with fail); refine (c25 _).mono ?_; rintro e wn ⟨rfl, bq⟩; replace HB := Lib.hid (HB.out.trans (bq.mono HB.out.size)); clear bq; go_wp2; go_ret; exact ⟨rfl, HB.out⟩
      obtain ⟨j, hj, hj1, hj2⟩ := HJ.out ⟨by omega, by omega⟩
      go_wp2
      go_loopw [22] (fun i wr => ∃ k : Nat, k ≤ j ∧ i = .int .i64 k ∧ Hid (Below wn.heap.size wn wr)) (fun i _ => j + 1 - (intOf i).toNat)
      case atStart => exact ⟨0, Nat.zero_le _, rfl, Lib.hid (Below.refl _ _)⟩
      case round =>
        obtain ⟨k, hk, rfl, HL⟩ := hrel
        (have bq := HL.out); replace HB := Lib.hid (HB.out.trans (bq.mono HB.out.size)); replace HR := Lib.hid (HR.out.below bq); clear bq
        have hkl : k < l.length := by omega
        have hklI : decide ((k : Int) < (l.length : Int)) = true := by simp; omega
        obtain ⟨bb, oo, rfl, hc⟩ := HR.out.at hkl
        have e1 := hc k hkl
        clear hc
        by_cases c1 : gi l k ≥ (f : Int)
        · by_cases c2 : gi l k ≤ (z : Int)
          · (go_wp2_with fail); refine (c25 _).mono ?_; rintro e wn ⟨rfl, bq⟩; replace HB := Lib.hid (HB.out.trans (bq.mono HB.out.size)); clear bq; go_wp2; go_ret; exact ⟨rfl, HB.out⟩
          · have hne : k ≠ j := by rintro rfl; omega
            go_wp2
            go_roundw
            case rel => exact ⟨k + 1, by omega, by go_num, HL⟩
            case measure => simp [intOf]; omega
        · have hne : k ≠ j := by rintro rfl; omega
          go_wp2
          go_roundw
          case rel => exact ⟨k + 1, by omega, by go_num, HL⟩
          case measure => simp [intOf]; omega
    | true =>
      have HSS := Lib.hid hS
      clear hS
      obtain ⟨m, g1, g2, g3⟩ := HLT.out
      rw [show o.length + (z + 1) = z + o.length + 1 by omega] at g1 g2 g3
      have hln := passF_le u o (pl + D) (z + o.length + 1)
      have h54 := c54_ok u q cap o (pl + D) (z + o.length) wn HX.out H1.out HSS.out (by omega)
      rw [Int.natCast_add] at h54
      obtain ⟨lt, hlt⟩ : ∃ lt, passF u o (pl + D) (z + o.length + 1) = lt := ⟨_, rfl⟩
      rw [hlt] at h54 g1 g2 g3 hln
      have G2 := Lib.hid g2
      have G3 := Lib.hid g3
      have G1 := Lib.hid g1
      clear g1 g2 g3 hlt
      (go_wp2_with fail); refine (h54).mono ?_; rintro e wn ⟨⟨p2, c2, rfl, hr⟩, bq⟩; replace HB := Lib.hid (HB.out.trans (bq.mono HB.out.size)); replace HX := Lib.hid (HX.out.below bq); replace HR := Lib.hid (HR.out.below bq); replace k0 := (bq.cell (lt_of_cellq k0)).trans k0; replace k1 := (bq.cell (lt_of_cellq k1)).trans k1; clear bq
      clear h54
      have HR2 := Lib.hid hr
      clear hr
      go_wp2
      go_loopw [20, 21] (fun v i wr => ∃ k : Nat, k ≤ lt.length ∧ i = .int .i64 k ∧ v = .int .i64 ((k - m : Nat) : Int) ∧ Hid (Below wn.heap.size wn wr)) (fun _ i _ => lt.length - (intOf i).toNat)
      case atStart => exact ⟨0, Nat.zero_le _, rfl, by simp, Lib.hid (Below.refl _ _)⟩
      case round =>
        obtain ⟨k, hk, rfl, rfl, HL⟩ := hrel
        by_cases hlk : k < lt.length
        · have hlkI : decide ((k : Int) < (lt.length : Int)) = true := by simp; omega
          obtain ⟨bb, oo, rfl, hc⟩ := (HR2.out.below HL.out).at hlk
          have e1 := hc k hlk
          clear hc
          rcases Nat.lt_or_ge k m with hkm | hkm
          · have hv := G2.out k hkm
            have hk0 : k - m = 0 := by omega
            have hk1 : k + 1 - m = 0 := by omega
            have hge : ¬ gi lt k ≥ (o.length : Int) := by omega
            rw [hk0]
            go_wp2
            go_roundw
            case rel => exact ⟨k + 1, by omega, by go_num, by rw [hk1] <;> rfl, HL⟩
            case measure => simp [intOf]; omega
          · obtain ⟨j, hj⟩ : ∃ j, k = m + j := ⟨k - m, by omega⟩
            have hjl : j < l.length := by have := G1.out; omega
            obtain ⟨v1, v2⟩ := G3.out j hjl
            rw [← hj] at v1
            rw [v1] at e1
            have hkj : k - m = j := by omega
            have hkj1 : k + 1 - m = j + 1 := by omega
            obtain ⟨b2, o2, rfl, hc2⟩ := (HR.out.below HL.out).at hjl
            have e2 := hc2 j hjl
            have hlb : gi l j ≤ 100000 := by
              have := (passF_mem u o pl (z + 1) (gi l j)).1 (by rw [HLE.out]; exact gi_mem l j hjl)
              obtain ⟨t, ht, _, e⟩ := this
              omega
            have hge : gi l j + (o.length : Int) ≥ (o.length : Int) := by omega
            have hmt : ¬ (j : Int) ≥ (l.length : Int) := by omega
            have hmt2 : decide ((l.length : Int) ≤ (j : Int)) = false := by simp; omega
            have hmt3 : decide ((j : Int) ≥ (l.length : Int)) = false := by simp; omega
            have hww : IntKind.i64.wrap (gi l j + (o.length : Int)) = gi l j + (o.length : Int) := w64 _ (by omega) (by omega)
            have hneq : (gi l j + (o.length : Int) != gi l j + (o.length : Int)) = false := by simp
            have HKJ := Lib.hid hkj1
            rw [hkj]
            clear hc2 v1 hkj hkj1 hj
            go_wp2
            go_quiet (fail)
            go_wp2
            go_roundw
            case rel => exact ⟨k + 1, by omega, by go_num, by rw [HKJ.out]; go_num, Lib.hid (below_drewN HL.out _)⟩
            case measure => simp [intOf]; omega
        · obtain rfl : k = lt.length := by omega
          have hkI : decide ((lt.length : Int) < (lt.length : Int)) = false := by simp
          have hml : lt.length - m = l.length := by have := G1.out; omega
          have hmet : ((l.length : Int) != (l.length : Int)) = false := by simp
          rw [hml]
          (have bq := HL.out); replace HB := Lib.hid (HB.out.trans (bq.mono HB.out.size)); replace HR := Lib.hid (HR.out.below bq); clear bq
          clear hml HR2 G1 hk hln hlk
          obtain ⟨wn, rfl⟩ : ∃ wn : World, wn = wr := ⟨_, rfl⟩
          by_cases t1 : pl < min A B
          · (go_wp2_with fail); refine (c25 _).mono ?_; rintro e wn ⟨rfl, bq⟩; replace HB := Lib.hid (HB.out.trans (bq.mono HB.out.size)); clear bq; go_wp2; go_ret; exact ⟨rfl, HB.out⟩
          by_cases t2 : pl > max A B
          · (go_wp2_with fail); refine (c25 _).mono ?_; rintro e wn ⟨rfl, bq⟩; replace HB := Lib.hid (HB.out.trans (bq.mono HB.out.size)); clear bq; go_wp2; go_ret; exact ⟨rfl, HB.out⟩
          obtain ⟨j, hj, hj1, hj2⟩ := HJ.out ⟨by omega, by omega⟩
          go_wp2
          go_loopw [22] (fun i wr => ∃ k : Nat, k ≤ j ∧ i = .int .i64 k ∧ Hid (Below wn.heap.size wn wr)) (fun i _ => j + 1 - (intOf i).toNat)
          case atStart => exact ⟨0, Nat.zero_le _, rfl, Lib.hid (Below.refl _ _)⟩
          case round =>
            obtain ⟨k, hk, rfl, HL⟩ := hrel
            (have bq := HL.out); replace HB := Lib.hid (HB.out.trans (bq.mono HB.out.size)); replace HR := Lib.hid (HR.out.below bq); clear bq
            have hkl : k < l.length := by omega
            have hklI : decide ((k : Int) < (l.length : Int)) = true := by simp; omega
            obtain ⟨bb, oo, rfl, hc⟩ := HR.out.at hkl
            have e1 := hc k hkl
            clear hc
            by_cases c1 : gi l k ≥ (f : Int)
            · by_cases c2 : gi l k ≤ (z : Int)
              · (go_wp2_with fail); refine (c25 _).mono ?_; rintro e wn ⟨rfl, bq⟩; replace HB := Lib.hid (HB.out.trans (bq.mono HB.out.size)); clear bq; go_wp2; go_ret; exact ⟨rfl, HB.out⟩
              · have hne : k ≠ j := by rintro rfl; omega
                go_wp2
                go_roundw
                case rel => exact ⟨k + 1, by omega, by go_num, HL⟩
                case measure => simp [intOf]; omega
            · have hne : k ≠ j := by rintro rfl; omega
              go_wp2
              go_roundw
              case rel => exact ⟨k + 1, by omega, by go_num, HL⟩
              case measure => simp [intOf]; omega
end Go.Proofs.YtncfgkhbenmpoaaGreatDoor
end

section
namespace Go.Proofs.YtncfgkhbenmpoaaGreatDoor
open Go Go.RowKit Go.Proofs
set_option linter.unusedVariables false
attribute [local go_sem] imax2 imin2

theorem beq_zero {x y : Int} (h : x = 0 ↔ y = 0) : (y == 0) = (x == 0) := by
  by_cases hx : x = 0
  · rw [hx, h.1 hx]
  · have h1 : (x == 0) = false := by simp [hx]
    have h2 : (y == 0) = false := by have : ¬ y = 0 := fun e => hx (h.2 e); simp [this]
    rw [h1, h2]

set_option maxRecDepth 100000 in
set_option maxHeartbeats 4000000 in
theorem law15 (u : Int) (q : Option Addr) (cap : Nat) (o : List Int) (t a b : Int) (w : World) (hx : RdI w q o) :
    Calls Tryz.prog 15 #[.agg #[.int .i64 u, .slice q o.length cap], .int .i64 t, .int .i64 a, .int .i64 b] w (LawPost w) := by
  obtain ⟨w0, e0, HS, k0, k1, b0⟩ := box2 w (.int .i64 u) (.slice q o.length cap) 61
  have HX := Lib.hid (hx.below b0)
  have HB := Lib.hid b0
  clear hx b0
  go_enter Tryz.func15, Tryz.ntmps15
  (go_wp2_with fail); refine (c46 u q o.length cap _).mono ?_; rintro e wn ⟨rfl, bq⟩; replace HB := Lib.hid (HB.out.trans (bq.mono HB.out.size)); replace HX := Lib.hid (HX.out.below bq); replace k0 := (bq.cell (lt_of_cellq k0)).trans k0; replace k1 := (bq.cell (lt_of_cellq k1)).trans k1; clear bq
  clear e0
  cases hTT : (decide (o.length ≤ 27)); (case false => ((clear hTT); (go_wp2_with fail); refine (c25 _).mono ?_; rintro e wn ⟨rfl, bq⟩; replace HB := Lib.hid (HB.out.trans (bq.mono HB.out.size)); clear bq; go_wp2; go_ret; exact ⟨rfl, HB.out⟩)); have HSH := Lib.hid hTT; clear hTT
  have hl := of_decide_eq_true HSH.out
  (go_wp2_with fail); refine (c48 u q cap o _ HX.out (by omega)).mono ?_; rintro e wn ⟨rfl, bq⟩; replace HB := Lib.hid (HB.out.trans (bq.mono HB.out.size)); replace HX := Lib.hid (HX.out.below bq); replace k0 := (bq.cell (lt_of_cellq k0)).trans k0; replace k1 := (bq.cell (lt_of_cellq k1)).trans k1; clear bq
  cases hTT : (motB u o); (case false => ((clear hTT); (go_wp2_with fail); refine (c25 _).mono ?_; rintro e wn ⟨rfl, bq⟩; replace HB := Lib.hid (HB.out.trans (bq.mono HB.out.size)); clear bq; go_wp2; go_ret; exact ⟨rfl, HB.out⟩)); have H1 := Lib.hid hTT; clear hTT
  (go_wp2_with fail); refine (c49 _ _).mono ?_; rintro e wn ⟨rfl, rfl⟩
  cases hTT : (inB t 0 2000); (case false => ((clear hTT); (go_wp2_with fail); refine (c25 _).mono ?_; rintro e wn ⟨rfl, bq⟩; replace HB := Lib.hid (HB.out.trans (bq.mono HB.out.size)); clear bq; go_wp2; go_ret; exact ⟨rfl, HB.out⟩)); have H2 := Lib.hid hTT; clear hTT
  (go_wp2_with fail); refine (c49 _ _).mono ?_; rintro e wn ⟨rfl, rfl⟩
  cases hTT : (inB a 0 2000); (case false => ((clear hTT); (go_wp2_with fail); refine (c25 _).mono ?_; rintro e wn ⟨rfl, bq⟩; replace HB := Lib.hid (HB.out.trans (bq.mono HB.out.size)); clear bq; go_wp2; go_ret; exact ⟨rfl, HB.out⟩)); have H3 := Lib.hid hTT; clear hTT
  (go_wp2_with fail); refine (c49 _ _).mono ?_; rintro e wn ⟨rfl, rfl⟩
  cases hTT : (inB b 0 2000); (case false => ((clear hTT); (go_wp2_with fail); refine (c25 _).mono ?_; rintro e wn ⟨rfl, bq⟩; replace HB := Lib.hid (HB.out.trans (bq.mono HB.out.size)); clear bq; go_wp2; go_ret; exact ⟨rfl, HB.out⟩)); have H4 := Lib.hid hTT; clear hTT
  by_cases h5 : b < a
  case pos => (go_wp2_with fail); refine (c25 _).mono ?_; rintro e wn ⟨rfl, bq⟩; replace HB := Lib.hid (HB.out.trans (bq.mono HB.out.size)); clear bq; go_wp2; go_ret; exact ⟨rfl, HB.out⟩
  by_cases h6 : b > t
  case pos => (go_wp2_with fail); refine (c25 _).mono ?_; rintro e wn ⟨rfl, bq⟩; replace HB := Lib.hid (HB.out.trans (bq.mono HB.out.size)); clear bq; go_wp2; go_ret; exact ⟨rfl, HB.out⟩
  obtain ⟨ht1, ht2⟩ : 0 ≤ t ∧ t ≤ 2000 := by have h := H2.out; unfold inB at h; simpa using h
  obtain ⟨ha1, ha2⟩ : 0 ≤ a ∧ a ≤ 2000 := by have h := H3.out; unfold inB at h; simpa using h
  obtain ⟨hb1, hb2⟩ : 0 ≤ b ∧ b ≤ 2000 := by have h := H4.out; unfold inB at h; simpa using h
  obtain ⟨t, rfl⟩ : ∃ n : Nat, t = n := ⟨t.toNat, by omega⟩
  have HMO := Lib.hid (motB_mot H1.out)
  obtain ⟨hu0, hu1, hl0, hl1, _⟩ := motB_mot H1.out
  have rA := plc_range u o a HMO.out (by omega)
  have rB := plc_range u o b HMO.out (by omega)
  have ho : 0 < o.length := by omega
  have HI := Lib.hid (staI u o 0 (t + 1))
  have hnn := retTo_nonneg u o (staL u o 0 (t + 1)) ((staL u o 0 (t + 1)).length - 1)
  have hzz := retTo_zero hu0 ho HI.out ((staL u o 0 (t + 1)).length - 1) (by omega)
  have HBM := Lib.hid (fun k (hk : k + 1 < (staL u o 0 (t + 1)).length) (h1 : gi (staL u o 0 (t + 1)) k ≤ a) (h3 : b ≤ gi (staL u o 0 (t + 1)) (k + 1)) => back_most hu0 ho HI.out (n := (staL u o 0 (t + 1)).length - 1) hk (by omega) h1 (Int.not_lt.1 h5) h3)
  have hmany := retTo_many u o (staL u o 0 (t + 1)) ((staL u o 0 (t + 1)).length - 1)
  have hlen := staF_le u o 0 (t + 1)
  have HMC := Lib.hid (fun (h : 2 * o.length ≤ t) => more_count hu0 ho t h)
  rw [← staF_L] at hnn hzz HBM hmany
  obtain ⟨l, hle⟩ : ∃ l, staF u o 0 (t + 1) = l := ⟨_, rfl⟩
  rw [hle] at hnn hzz HBM hmany hlen
  obtain ⟨r, hr⟩ : ∃ r, retTo u o l (l.length - 1) = r := ⟨_, rfl⟩
  rw [hr] at hnn hzz HBM hmany
  have HLE := Lib.hid hle
  have HRT := Lib.hid hr
  have HMY := Lib.hid hmany
  obtain ⟨x, y, v⟩ := r
  simp only at hnn hzz
  obtain ⟨z1, z2, z3, z4⟩ := hzz
  obtain ⟨n1, n2⟩ := hnn
  obtain ⟨A, hA⟩ : ∃ A, plc u o a = A := ⟨_, rfl⟩
  obtain ⟨B, hBe⟩ : ∃ B, plc u o b = B := ⟨_, rfl⟩
  rw [hA] at rA HBM
  rw [hBe] at rB HBM
  have HA := Lib.hid hA
  have HBe := Lib.hid hBe
  have hxy := beq_zero z1
  have hxv := beq_zero z2
  obtain ⟨bb, hbb⟩ : ∃ bb, (x == 0) = bb := ⟨_, rfl⟩
  rw [hbb] at hxy hxv
  have hxl : ¬ x > (l.length : Int) := by omega
  clear hle hr hmany hA hBe z1 z2
  have h51 := c51_ok u q cap o t wn HX.out H1.out (by omega)
  rw [HLE.out, HRT.out] at h51
  (go_wp2_with fail); refine (h51).mono ?_; rintro e wn ⟨rfl, bq⟩; replace HB := Lib.hid (HB.out.trans (bq.mono HB.out.size)); replace HX := Lib.hid (HX.out.below bq); replace k0 := (bq.cell (lt_of_cellq k0)).trans k0; replace k1 := (bq.cell (lt_of_cellq k1)).trans k1; clear bq
  clear h51
  have h47 := c47_ok u q cap o 0 t wn HX.out H1.out rfl H2.out (by omega)
  rw [show ((t : Int) - 0 + 1).toNat = t + 1 by omega, HLE.out] at h47
  (go_wp2_with fail); refine (h47).mono ?_; rintro e wn ⟨⟨p, c, rfl, hr⟩, bq⟩; replace HB := Lib.hid (HB.out.trans (bq.mono HB.out.size)); replace HX := Lib.hid (HX.out.below bq); replace k0 := (bq.cell (lt_of_cellq k0)).trans k0; replace k1 := (bq.cell (lt_of_cellq k1)).trans k1; clear bq
  clear h47
  have HR := Lib.hid hr
  clear hr
  go_wp2
  go_loopw [15] (fun i wr => ∃ k : Nat, k ≤ l.length ∧ i = .int .i64 k ∧ Hid (Below wn.heap.size wn wr)) (fun i _ => l.length - (intOf i).toNat)
  case atStart => exact ⟨0, Nat.zero_le _, rfl, Lib.hid (Below.refl _ _)⟩
  case round =>
    obtain ⟨k, hk, rfl, HL⟩ := hrel
    by_cases hlt : k + 1 < l.length
    · (have bq := HL.out); replace HB := Lib.hid (HB.out.trans (bq.mono HB.out.size)); replace HX := Lib.hid (HX.out.below bq); replace HR := Lib.hid (HR.out.below bq); replace k0 := (bq.cell (lt_of_cellq k0)).trans k0; replace k1 := (bq.cell (lt_of_cellq k1)).trans k1; clear bq
      have hltI : decide ((k : Int) + 1 < (l.length : Int)) = true := by simp; omega
      obtain ⟨bb, oo, rfl, hc⟩ := HR.out.at hlt
      have e1 := hc k (by omega)
      have e2 := hc (k + 1) hlt
      clear hc
      by_cases c1 : a < gi l k
      · go_wp2
        go_roundw
        case rel => exact ⟨k + 1, by omega, by go_num, HL⟩
        case measure => simp [intOf]; omega
      by_cases c2 : b > gi l (k + 1)
      · go_wp2
        go_roundw
        case rel => exact ⟨k + 1, by omega, by go_num, HL⟩
        case measure => simp [intOf]; omega
      obtain ⟨m1, m2⟩ := HBM.out k hlt (Int.not_lt.1 c1) (Int.not_lt.1 c2)
      have hAB : ¬ A - B > v := by omega
      by_cases c3 : A > B
      · have c4 : ¬ b - a > y := by have := m2 c3; omega
        clear m1 m2
        (go_wp2_with fail); refine (c53_ok u q cap o a _ HX.out H1.out H3.out).mono ?_; rw [HA.out]; rintro e wn ⟨rfl, bq⟩; replace HB := Lib.hid (HB.out.trans (bq.mono HB.out.size)); replace HX := Lib.hid (HX.out.below bq); replace HL := Lib.hid (HL.out.trans (bq.mono HL.out.size)); replace k0 := (bq.cell (lt_of_cellq k0)).trans k0; replace k1 := (bq.cell (lt_of_cellq k1)).trans k1; clear bq
        (go_wp2_with fail); refine (c53_ok u q cap o b _ HX.out H1.out H4.out).mono ?_; rw [HBe.out]; rintro e wn ⟨rfl, bq⟩; replace HB := Lib.hid (HB.out.trans (bq.mono HB.out.size)); replace HX := Lib.hid (HX.out.below bq); replace HL := Lib.hid (HL.out.trans (bq.mono HL.out.size)); replace k0 := (bq.cell (lt_of_cellq k0)).trans k0; replace k1 := (bq.cell (lt_of_cellq k1)).trans k1; clear bq
        go_wp2
        go_roundw
        case rel => exact ⟨k + 1, by omega, by go_num, HL⟩
        case measure => simp [intOf]; omega
      · clear m1 m2
        (go_wp2_with fail); refine (c53_ok u q cap o a _ HX.out H1.out H3.out).mono ?_; rw [HA.out]; rintro e wn ⟨rfl, bq⟩; replace HB := Lib.hid (HB.out.trans (bq.mono HB.out.size)); replace HX := Lib.hid (HX.out.below bq); replace HL := Lib.hid (HL.out.trans (bq.mono HL.out.size)); replace k0 := (bq.cell (lt_of_cellq k0)).trans k0; replace k1 := (bq.cell (lt_of_cellq k1)).trans k1; clear bq
        (go_wp2_with fail); refine (c53_ok u q cap o b _ HX.out H1.out H4.out).mono ?_; rw [HBe.out]; rintro e wn ⟨rfl, bq⟩; replace HB := Lib.hid (HB.out.trans (bq.mono HB.out.size)); replace HX := Lib.hid (HX.out.below bq); replace HL := Lib.hid (HL.out.trans (bq.mono HL.out.size)); replace k0 := (bq.cell (lt_of_cellq k0)).trans k0; replace k1 := (bq.cell (lt_of_cellq k1)).trans k1; clear bq
        go_wp2
        go_roundw
        case rel => exact ⟨k + 1, by omega, by go_num, HL⟩
        case measure => simp [intOf]; omega
    · have hltI : decide ((k : Int) + 1 < (l.length : Int)) = false := by simp; omega
      have hltI2 : ¬ (k : Int) + 1 < (l.length : Int) := by omega
      (have bq := HL.out); replace HB := Lib.hid (HB.out.trans (bq.mono HB.out.size)); replace HX := Lib.hid (HX.out.below bq); replace HR := Lib.hid (HR.out.below bq); replace k0 := (bq.cell (lt_of_cellq k0)).trans k0; replace k1 := (bq.cell (lt_of_cellq k1)).trans k1; clear bq
      clear hlt HBM
      obtain ⟨wn, rfl⟩ : ∃ wn : World, wn = wr := ⟨_, rfl⟩
      by_cases c1 : (t : Int) < 2 * (o.length : Int)
      · (go_wp2_with fail); refine (c25 _).mono ?_; rintro e wn ⟨rfl, bq⟩; replace HB := Lib.hid (HB.out.trans (bq.mono HB.out.size)); clear bq; go_wp2; go_ret; exact ⟨rfl, HB.out⟩
      (go_wp2_with fail); refine (c49 _ _).mono ?_; rintro e wn ⟨rfl, rfl⟩
      cases hTT : (inB ((t : Int) + (o.length : Int)) 0 2000); (case false => ((clear hTT); (go_wp2_with fail); refine (c25 _).mono ?_; rintro e wn ⟨rfl, bq⟩; replace HB := Lib.hid (HB.out.trans (bq.mono HB.out.size)); clear bq; go_wp2; go_ret; exact ⟨rfl, HB.out⟩)); have HT := Lib.hid hTT; clear hTT
      obtain ⟨_, hT2⟩ : 0 ≤ (t : Int) + (o.length : Int) ∧ (t : Int) + (o.length : Int) ≤ 2000 := by have h := HT.out; unfold inB at h; simpa using h
      have h47 := c47_ok u q cap o ((t : Int) - o.length + 1) t wn HX.out H1.out (inB_true (by omega) (by omega)) H2.out (by omega)
      rw [show ((t : Int) - ((t : Int) - o.length + 1) + 1).toNat = o.length by omega] at h47
      have htc := turn_count hu0 ho ((t : Int) - o.length + 1)
      have hmc := HMC.out (by omega)
      have htl := staF_le u o ((t : Int) - o.length + 1) o.length
      simp only [← staF_L] at htc hmc
      obtain ⟨T, hT⟩ : ∃ T, staF u o ((t : Int) - o.length + 1) o.length = T := ⟨_, rfl⟩
      rw [hT] at h47 htc hmc htl
      have hmy2 := retTo_many u o (staF u o 0 (t + o.length + 1)) ((staF u o 0 (t + o.length + 1)).length - 1)
      rw [HLE.out] at hmc
      obtain ⟨l2, hl2⟩ : ∃ l2, staF u o 0 (t + o.length + 1) = l2 := ⟨_, rfl⟩
      rw [hl2] at hmc hmy2
      obtain ⟨r2, hr2⟩ : ∃ r2, retTo u o l2 (l2.length - 1) = r2 := ⟨_, rfl⟩
      rw [hr2] at hmy2
      obtain ⟨x2, y2, v2⟩ := r2
      have hmy := HMY.out
      simp only at hmy hmy2
      have hTe : T.length % 2 = 0 := by omega
      have hq : (T.length : Int) / 2 = ((T.length / 2 : Nat) : Int) := by omega
      have hq' : (T.length : Int).tdiv 2 = ((T.length / 2 : Nat) : Int) := by rw [Int.tdiv_eq_ediv_of_nonneg (by omega)]; omega
      have hr0 : (T.length : Int) % 2 = 0 := by omega
      have hr0' : (T.length : Int).tmod 2 = 0 := by rw [Int.tmod_eq_emod_of_nonneg (by omega)]; omega
      obtain ⟨D, hD⟩ : ∃ D, T.length / 2 = D := ⟨_, rfl⟩
      rw [hD] at hq hq' hmc
      obtain rfl : x2 = x + (D : Int) := by rw [hmy2, hmc, hmy]; rw [Int.natCast_add]
      have hD3 : (D : Int) ≤ 24 := by omega
      have hwr : IntKind.i64.wrap (x + (D : Int)) = x + (D : Int) := w64 _ (by omega) (by omega)
      have hxe : (x + (D : Int) == x + (D : Int)) = true := by simp
      have H51 := Lib.hid (show ∀ wx : World, RdI wx q o → Calls Tryz.prog 51 #[.agg #[.int .i64 u, .slice q o.length cap], .int .i64 ((t : Int) + (o.length : Int))] wx (fun e w' => e = .returned (.tuple #[.int .i64 (x + (D : Int)), .int .i64 y2, .int .i64 v2, .int .i64 0]) ∧ Below wx.heap.size wx w') from fun wx hx => by
        have h := c51_ok u q cap o (t + o.length) wx hx H1.out (by omega)
        rw [hl2, hr2, Int.natCast_add] at h
        exact h)
      clear hmy hmy2 hmc htc hTe hD HMC hl2 hr2 hT
      (go_wp2_with fail); refine (h47).mono ?_; rintro e wn ⟨⟨p2, c2, rfl, hr⟩, bq⟩; replace HB := Lib.hid (HB.out.trans (bq.mono HB.out.size)); replace HX := Lib.hid (HX.out.below bq); replace k0 := (bq.cell (lt_of_cellq k0)).trans k0; replace k1 := (bq.cell (lt_of_cellq k1)).trans k1; clear bq
      clear hr h47
      (go_wp2_with fail); refine (H51.out _ HX.out).mono ?_; rintro e wn ⟨rfl, bq⟩; replace HB := Lib.hid (HB.out.trans (bq.mono HB.out.size)); clear bq
      (go_wp2_with fail); refine (c25 _).mono ?_; rintro e wn ⟨rfl, bq⟩; replace HB := Lib.hid (HB.out.trans (bq.mono HB.out.size)); clear bq; go_wp2; go_ret; exact ⟨rfl, HB.out⟩
end Go.Proofs.YtncfgkhbenmpoaaGreatDoor
end
