/-
  The law of the bounds' ends (the walk).
-/
import Derived.Test.YtncfgkhbenmpoaaGreatDoorGs
import Derived.Test.YtncfgkhbenmpoaaGreatDoorGm
import Derived.BigQuiet
import Derived.WalkMore
import Derived.StillTailTactics
section
namespace Go.Proofs.YtncfgkhbenmpoaaGreatDoor
open Go Go.RowKit Go.Proofs Go.Shelf
set_option linter.unusedVariables false
attribute [local go_sem] imax2 imin2

/-- the first heights of a cam that is tried -/
def partC (lo : Int) (B m n i : Nat) : List Int := (List.range n).map fun j => if j < i then lo + ((m / B ^ j % B : Nat) : Int) else 0
@[simp] theorem partC_length (lo : Int) (B m n i : Nat) : (partC lo B m n i).length = n := by simp [partC]
theorem gi_partC (lo : Int) (B m n i j : Nat) (h : j < n) : gi (partC lo B m n i) j = if j < i then lo + ((m / B ^ j % B : Nat) : Int) else 0 := by unfold partC gi; simp [h]
theorem partC_zero (lo : Int) (B m n : Nat) : inV (partC lo B m n 0) = repC [.int .i64 0] n := by
  unfold partC inV
  simp only [Nat.not_lt_zero, if_false]
  induction n with
  | zero => rfl
  | succ n ih => rw [List.range_succ_eq_map, List.map_cons, List.map_map, List.map_cons]; simp only [repC]; simp only [List.map_map, Function.comp_def] at ih ⊢; rw [ih]; rfl
theorem partC_all (lo : Int) (B m n : Nat) : partC lo B m n n = codeL lo B m n := by
  refine gi_ext' (by simp) (fun j hj => ?_)
  have hj' : j < n := by simpa using hj
  rw [gi_partC _ _ _ _ _ _ hj', gi_codeL _ _ _ _ _ hj', if_pos hj']
theorem partC_set (lo : Int) (B m n i : Nat) (hi : i < n) : (partC lo B m n i).set i (lo + ((m / B ^ i % B : Nat) : Int)) = partC lo B m n (i + 1) := by
  refine gi_ext' (by simp) (fun j hj => ?_)
  have hj' : j < n := by simpa using hj
  rw [gi_set _ _ _ (by simpa using hi), gi_partC _ _ _ _ _ _ hj', gi_partC _ _ _ _ _ _ hj']
  by_cases h : i = j
  · subst h; rw [if_pos rfl, if_pos (by omega)]
  · rw [if_neg h]
    by_cases h2 : j < i
    · rw [if_pos h2, if_pos (by omega)]
    · rw [if_neg h2, if_neg (by omega)]
/-- the bounds while a cam that is true is laid beside them -/
def partO (met : Bool) (O : List (Int × Int)) (xs : List Int) (n i : Nat) : List (Int × Int) := (List.range n).map fun j => if j < i then upE met (spn O j) (gi xs j) else spn O j
@[simp] theorem partO_length (met : Bool) (O : List (Int × Int)) (xs : List Int) (n i : Nat) : (partO met O xs n i).length = n := by simp [partO]
theorem partO_zero (met : Bool) (O : List (Int × Int)) (xs : List Int) (n : Nat) (h : O.length = n) : partO met O xs n 0 = O := by
  refine spn_ext (by simp [h]) (fun j hj => ?_)
  have hj' : j < n := by simpa using hj
  unfold partO; rw [spn_map _ _ _ hj', if_neg (by omega)]
theorem partO_all (met : Bool) (O : List (Int × Int)) (xs : List Int) (n : Nat) : partO met O xs n n = (List.range n).map fun i => upE met (spn O i) (gi xs i) := by
  refine spn_ext (by simp) (fun j hj => ?_)
  have hj' : j < n := by simpa using hj
  unfold partO; rw [spn_map _ _ _ hj', spn_map _ _ _ hj', if_pos hj']
theorem spn_partO (met : Bool) (O : List (Int × Int)) (xs : List Int) (n i : Nat) (h : i < n) : spn (partO met O xs n i) i = spn O i := by unfold partO; rw [spn_map _ _ _ h, if_neg (by omega)]
theorem partO_set (met : Bool) (O : List (Int × Int)) (xs : List Int) (n i : Nat) (hi : i < n) : (partO met O xs n i).set i (upE met (spn O i) (gi xs i)) = partO met O xs n (i + 1) := by
  refine spn_ext (by simp) (fun j hj => ?_)
  have hj' : j < n := by simpa using hj
  rw [spn_set _ _ _ (by simpa using hi)]
  unfold partO
  rw [spn_map _ _ _ hj', spn_map _ _ _ hj']
  by_cases h : i = j
  · subst h; rw [if_pos rfl, if_pos (by omega)]
  · rw [if_neg h]
    by_cases h2 : j < i
    · rw [if_pos h2, if_pos (by omega)]
    · rw [if_neg h2, if_neg (by omega)]
theorem camB_code {lo hi sl ch : Int} (hr : ruleB lo hi sl ch = true) (B : Nat) (hB : (B : Int) = hi - lo + 1) (m n : Nat) (hn : 3 ≤ n ∧ n ≤ 24) : camB (codeL lo B m n) = true := by
  obtain ⟨⟨hlo, hlh, hhi⟩, _, _⟩ := rule_parts hr
  unfold camB
  rw [codeL_length, inB_true (by omega) (by omega), Bool.true_and]
  refine (hts_iff _).1 ?_
  intro j hj
  have hj' : j < n := by simpa using hj
  rw [gi_codeL _ _ _ _ _ hj']
  have := Nat.mod_lt (m / B ^ j) (show 0 < B by omega)
  obtain ⟨d, hd⟩ : ∃ d, m / B ^ j % B = d := ⟨_, rfl⟩
  rw [hd] at this ⊢
  exact inB_true (by omega) (by omega)
theorem c37n {lo hi sl ch : Int} {n : Nat} {q : Option Addr} {cap' : Nat} {gs : List Gau} {p : Option Addr} {cap : Nat} {xs : List Int} {w : World} (hn : xs.length = n) (hx : RdI w p xs) (hy : RdG w q gs) (hr : ruleB lo hi sl ch = true) (h1 : camB xs = true) (hg : gausB n gs = true) (hgl : gs.length ≤ 1000) :
    Calls Tryz.prog 37 #[.agg #[.int .i64 lo, .int .i64 hi, .int .i64 sl, .int .i64 ch], .slice q gs.length cap', .slice p n cap] w fun e w' => e = .returned (.bool (truB lo hi sl ch gs xs)) ∧ Below w.heap.size w w' := by
  subst hn
  exact (c37 lo hi sl ch q cap' gs p cap xs w hx hy hr h1 hg hgl)
theorem knownB_of3 {lo hi sl ch : Int} {n : Nat} {gs : List Gau} (hr : ruleB lo hi sl ch = true) (hn : 3 ≤ n ∧ n ≤ 24) (hg : (gausB n gs && decide (gs.length ≤ 8)) = true) : knownB lo hi sl ch n gs = true := by
  rw [Bool.and_eq_true] at hg
  unfold knownB
  rw [hr, inB_true (by omega) (by omega), hg.1, hg.2]; rfl
theorem RowS.below {w w' : World} {g : Nat} {ss : List (Int × Int)} (h : RowS w g ss) (hb : Below w.heap.size w w') : RowS w' g ss := (hb.block g (block_lt h)).trans h
theorem RowI.below {w w' : World} {g : Nat} {xs : List Int} (h : RowI w g xs) (hb : Below w.heap.size w w') : RowI w' g xs := (hb.block g (block_lt h)).trans h
/-- what Known answers, for whatever gauges -/
def Told (KO : Prop) (A : List (Int × Int)) (n : Nat) (p : Option Addr) (l : Nat) (ev : Int) (w : World) : Prop := (KO ∧ ev = 0 ∧ l = n ∧ RdS w p A) ∨ (¬ KO ∧ ev = 7)
theorem Told.below {KO : Prop} {A : List (Int × Int)} {n : Nat} {p : Option Addr} {l : Nat} {ev : Int} {w w' : World} (h : Told KO A n p l ev w) (hb : Below w.heap.size w w') : Told KO A n p l ev w' := by
  rcases h with ⟨a, b, c, d⟩ | h
  · exact .inl ⟨a, b, c, d.below hb⟩
  · exact .inr h
theorem c32_any {lo hi sl ch : Int} {n : Nat} {p : Option Addr} {cap : Nat} {gs : List Gau} {w : World} (hx : RdG w p gs) (hl : gs.length ≤ 1000000) (h : knownB lo hi sl ch n gs = true) :
    Calls Tryz.prog 32 #[.agg #[.int .i64 lo, .int .i64 hi, .int .i64 sl, .int .i64 ch], .int .i64 n, .slice p gs.length cap] w fun e w' => (∃ p9 l9 ev, e = .returned (.tuple #[.slice p9 l9 l9, .int .i64 ev]) ∧ Told (KnownOk lo hi sl ch n gs) (boundL sl ch (gaTo lo hi n gs gs.length)) n p9 l9 ev w') ∧ Below w.heap.size w w' := by
  by_cases hk : KnownOk lo hi sl ch n gs
  · refine (c32_ok hx hl h hk).mono ?_
    rintro e w' ⟨⟨g, he, hr⟩, b⟩
    exact ⟨⟨_, _, _, he, .inl ⟨hk, rfl, rfl, RowS.rd hr⟩⟩, b⟩
  · refine (c32_none hx hl h hk).mono ?_
    rintro e w' ⟨he, b⟩
    exact ⟨⟨_, _, _, he, .inr ⟨hk, rfl⟩⟩, b⟩

set_option maxRecDepth 100000 in
set_option maxHeartbeats 4000000 in
theorem law6 (lo hi sl ch : Int) (n : Int) (p : Option Addr) (cap : Nat) (gs : List Gau) (w : World) (hx : RdG w p gs) :
    Calls Tryz.prog 6 #[.agg #[.int .i64 lo, .int .i64 hi, .int .i64 sl, .int .i64 ch], .int .i64 n, .slice p gs.length cap] w (LawPost w) := by
  obtain ⟨w0, e0, HS0, k0, k1, k2, k3, b0⟩ := box4 w (.int .i64 lo) (.int .i64 hi) (.int .i64 sl) (.int .i64 ch) 23
  have HX := Lib.hid (hx.below b0)
  have HB := Lib.hid b0
  clear hx b0
  go_enter Tryz.func6, Tryz.ntmps6
  (go_wp2_with fail); refine (c31 p gs.length cap _).mono ?_; rintro e wn ⟨rfl, rfl⟩
  clear e0
  cases hTT : (decide (gs.length ≤ 11)); (case false => ((clear hTT); (go_wp2_with fail); refine (c25 _).mono ?_; rintro e wn ⟨rfl, bq⟩; replace HB := Lib.hid (HB.out.trans (bq.mono HB.out.size)); clear bq; go_wp2; go_ret; exact ⟨rfl, HB.out⟩)); have S1 := Lib.hid hTT; clear hTT
  have hl1 := of_decide_eq_true S1.out
  (go_wp2_with fail); refine (c27 lo hi sl ch _).mono ?_; rintro e wn ⟨rfl, bq⟩; replace HB := Lib.hid (HB.out.trans (bq.mono HB.out.size)); replace HX := Lib.hid (HX.out.below bq); replace k0 := (bq.cell (lt_of_cellq k0)).trans k0; replace k1 := (bq.cell (lt_of_cellq k1)).trans k1; replace k2 := (bq.cell (lt_of_cellq k2)).trans k2; replace k3 := (bq.cell (lt_of_cellq k3)).trans k3; clear bq
  cases hTT : (ruleB lo hi sl ch); (case false => ((clear hTT); (go_wp2_with fail); refine (c25 _).mono ?_; rintro e wn ⟨rfl, bq⟩; replace HB := Lib.hid (HB.out.trans (bq.mono HB.out.size)); clear bq; go_wp2; go_ret; exact ⟨rfl, HB.out⟩)); have HR := Lib.hid hTT; clear hTT
  (go_wp2_with fail); refine (c33 n _).mono ?_; rintro e wn ⟨rfl, rfl⟩
  cases hTT : (inB n 3 24); (case false => ((clear hTT); (go_wp2_with fail); refine (c25 _).mono ?_; rintro e wn ⟨rfl, bq⟩; replace HB := Lib.hid (HB.out.trans (bq.mono HB.out.size)); clear bq; go_wp2; go_ret; exact ⟨rfl, HB.out⟩)); have H2 := Lib.hid hTT; clear hTT
  obtain ⟨hn1, hn2⟩ : 3 ≤ n ∧ n ≤ 24 := by have h := H2.out; unfold inB at h; simpa using h
  obtain ⟨n, rfl⟩ : ∃ m : Nat, n = m := ⟨n.toNat, by omega⟩
  (go_wp2_with fail); refine (c34 (n : Int) p cap gs _ HX.out (by omega) (by omega)).mono ?_; rintro e wn ⟨rfl, rfl⟩
  cases hTT : (gausB (n : Int) gs && decide (gs.length ≤ 8)); (case false => ((clear hTT); (go_wp2_with fail); refine (c25 _).mono ?_; rintro e wn ⟨rfl, bq⟩; replace HB := Lib.hid (HB.out.trans (bq.mono HB.out.size)); clear bq; go_wp2; go_ret; exact ⟨rfl, HB.out⟩)); have HG := Lib.hid hTT; clear hTT
  have HGA := Lib.hid (show gausB (n : Int) gs = true by have h := HG.out; rw [Bool.and_eq_true] at h; exact h.1)
  have HKB := Lib.hid (knownB_of3 HR.out (n := n) (by omega) HG.out)
  obtain ⟨⟨hlo, hlh, hhi⟩, _, _⟩ := rule_parts HR.out
  obtain ⟨B, hB⟩ : ∃ B : Nat, (B : Int) = hi - lo + 1 := ⟨(hi - lo + 1).toNat, by omega⟩
  have HBE := Lib.hid hB
  obtain ⟨D, hD⟩ : ∃ D : Int, hi - lo = D := ⟨_, rfl⟩
  have hw1 : IntKind.i64.wrap (hi - lo) = D := by rw [w64 _ (by omega) (by omega)]; exact hD
  have hw2 : IntKind.i64.wrap (D + 1) = (B : Int) := by rw [w64 _ (by omega) (by omega)]; omega
  have hB1 : 1 ≤ B := by omega
  have hB31 : B ≤ 31 := by omega
  clear hB hD
  go_wp2
  go_loopw [7, 8] (fun a v wx => ∃ i V : Nat, i ≤ n ∧ a = .int .i64 V ∧ v = .int .i64 i ∧ V ≤ 700 ∧ Hid (V = B ^ i) ∧ Hid (Below wn.heap.size wn wx)) (fun a v _ => n - (intOf v).toNat)
  case atStart => exact ⟨0, 1, Nat.zero_le _, rfl, rfl, by omega, Lib.hid (by simp), Lib.hid (Below.refl _ _)⟩
  case round =>
    obtain ⟨i, V, hi', rfl, rfl, hV, HV, HL⟩ := hrel
    by_cases hil : i < n
    · have hilI : decide ((i : Int) < (n : Int)) = true := by simp; omega
      obtain ⟨V', hV'⟩ : ∃ V' : Nat, V * B = V' := ⟨_, rfl⟩
      have hVB : V * B ≤ 700 * 31 := Nat.mul_le_mul hV hB31
      have hw3 : IntKind.i64.wrap ((V : Int) * (B : Int)) = (V' : Int) := by
        rw [← Int.natCast_mul, hV']; exact w64 _ (by omega) (by omega)
      have HV' := Lib.hid (show V' = B ^ (i + 1) by rw [← hV', HV.out, Nat.pow_succ])
      rw [hV'] at hVB
      clear hV'
      by_cases h7 : V' ≤ 700
      · have h7I : decide ((V' : Int) > 700) = false := by simp; omega
        (have bq := HL.out); replace HB := Lib.hid (HB.out.trans (bq.mono HB.out.size)); replace k0 := (bq.cell (lt_of_cellq k0)).trans k0; replace k1 := (bq.cell (lt_of_cellq k1)).trans k1; replace k2 := (bq.cell (lt_of_cellq k2)).trans k2; replace k3 := (bq.cell (lt_of_cellq k3)).trans k3; clear bq
        go_wp2
        go_roundw
        case rel => exact ⟨i + 1, V', by omega, rfl, by go_num, h7, HV', HL⟩
        case measure => simp [intOf]; omega
      · have h7I : decide ((V' : Int) > 700) = true := by simp; omega
        (have bq := HL.out); replace HB := Lib.hid (HB.out.trans (bq.mono HB.out.size)); replace HX := Lib.hid (HX.out.below bq); replace k0 := (bq.cell (lt_of_cellq k0)).trans k0; replace k1 := (bq.cell (lt_of_cellq k1)).trans k1; replace k2 := (bq.cell (lt_of_cellq k2)).trans k2; replace k3 := (bq.cell (lt_of_cellq k3)).trans k3; clear bq
        (go_wp2_with fail); refine (c25 _).mono ?_; rintro e wn ⟨rfl, bq⟩; replace HB := Lib.hid (HB.out.trans (bq.mono HB.out.size)); clear bq; go_wp2; go_ret; exact ⟨rfl, HB.out⟩
    · obtain rfl : i = n := by omega
      have hilI : decide ((i : Int) < (i : Int)) = false := by simp
      (have bq := HL.out); replace HB := Lib.hid (HB.out.trans (bq.mono HB.out.size)); replace HX := Lib.hid (HX.out.below bq); replace k0 := (bq.cell (lt_of_cellq k0)).trans k0; replace k1 := (bq.cell (lt_of_cellq k1)).trans k1; replace k2 := (bq.cell (lt_of_cellq k2)).trans k2; replace k3 := (bq.cell (lt_of_cellq k3)).trans k3; clear bq
      obtain ⟨wn, rfl⟩ : ∃ wn : World, wn = wr := ⟨_, rfl⟩
      clear hil hi' HL
      (go_wp2_with fail); refine (c32_any HX.out (by omega) HKB.out).mono ?_; rintro e wn ⟨⟨p9, l9, ev, rfl, ht⟩, bq⟩; replace HB := Lib.hid (HB.out.trans (bq.mono HB.out.size)); replace HX := Lib.hid (HX.out.below bq); replace k0 := (bq.cell (lt_of_cellq k0)).trans k0; replace k1 := (bq.cell (lt_of_cellq k1)).trans k1; replace k2 := (bq.cell (lt_of_cellq k2)).trans k2; replace k3 := (bq.cell (lt_of_cellq k3)).trans k3; clear bq
      have HT9 := Lib.hid ht
      clear ht
      obtain ⟨T, hT⟩ : ∃ T, truB lo hi sl ch gs = T := ⟨_, rfl⟩
      have HT := Lib.hid hT
      obtain ⟨wb, rfl⟩ : ∃ wb : World, wb = wn := ⟨_, rfl⟩
      have hmk := make37 i (by omega) wb
      obtain ⟨w1, e1, HS1⟩ : ∃ w1, wb.alloc (.cells (repC [.int .i64 0, .int .i64 0] i).toArray 50) = w1 ∧ Hid (w1.heap.size = wb.heap.size + 1) := ⟨_, rfl, Lib.hid (by simp)⟩
      have q1 := alloc_new wb (.cells (repC [.int .i64 0, .int .i64 0] i).toArray 50)
      have a1 := below_alloc1 wb (.cells (repC [.int .i64 0, .int .i64 0] i).toArray 50)
      rw [e1] at hmk q1 a1
      have HBW := Lib.hid a1
      obtain ⟨g1, hg1⟩ : ∃ g1, wb.heap.size = g1 := ⟨_, rfl⟩
      rw [hg1] at hmk q1
      have HG1 := Lib.hid hg1
      have HRO := Lib.hid (show RowS w1 g1 (outTo T lo B i 0) by
        unfold RowS; rw [show outTo T lo B i 0 = List.replicate i (0, 0) from rfl, ← spV_rep]; exact q1)
      clear q1 a1 e1 hT hg1
      go_wp2
      clear hmk
      go_loopw [12, 13] (fun a v wx => ∃ m : Nat, m ≤ V ∧ a = .bool (metTo T lo B i m) ∧ v = .int .i64 m ∧ Hid (RowS wx g1 (outTo T lo B i m)) ∧ Hid (Below wb.heap.size wb wx)) (fun a v _ => V - (intOf v).toNat)
      case atStart => exact ⟨0, Nat.zero_le _, rfl, rfl, HRO, HBW⟩
      case round =>
        clear HRO HBW
        obtain ⟨m, hm, rfl, rfl, HRO, HL⟩ := hrel
        by_cases hmv : m < V
        · have hmvI : decide ((m : Int) < (V : Int)) = true := by simp; omega
          (have bq := HL.out); replace HB := Lib.hid (HB.out.trans (bq.mono HB.out.size)); replace HX := Lib.hid (HX.out.below bq); replace HT9 := Lib.hid (HT9.out.below bq); replace k0 := (bq.cell (lt_of_cellq k0)).trans k0; replace k1 := (bq.cell (lt_of_cellq k1)).trans k1; replace k2 := (bq.cell (lt_of_cellq k2)).trans k2; replace k3 := (bq.cell (lt_of_cellq k3)).trans k3; clear bq
          obtain ⟨wm, rfl⟩ : ∃ wm : World, wm = wr := ⟨_, rfl⟩
          obtain ⟨mt, hmt⟩ : ∃ mt, metTo T lo B i m = mt := ⟨_, rfl⟩
          obtain ⟨O, hO⟩ : ∃ O, outTo T lo B i m = O := ⟨_, rfl⟩
          have HOL := Lib.hid (show O.length = i by rw [← hO, outTo_length])
          rw [hmt]
          rw [hO] at HRO
          have HMT := Lib.hid hmt
          have HO := Lib.hid hO
          have hmk := make24 i (by omega) wm
          obtain ⟨w2, e2, HS2⟩ : ∃ w2, wm.alloc (.cells (repC [.int .i64 0] i).toArray 3) = w2 ∧ Hid (w2.heap.size = wm.heap.size + 1) := ⟨_, rfl, Lib.hid (by simp)⟩
          have q2 := alloc_new wm (.cells (repC [.int .i64 0] i).toArray 3)
          have a2 := below_alloc1 wm (.cells (repC [.int .i64 0] i).toArray 3)
          rw [e2] at hmk q2 a2
          have HBM := Lib.hid a2
          obtain ⟨g2, hg2⟩ : ∃ g2, wm.heap.size = g2 := ⟨_, rfl⟩
          rw [hg2] at hmk q2
          have hgb := lt_of_cellq k0
          simp only at hgb
          rw [hg2] at hgb
          have hgb2 : ¬ w.heap.size = g2 := by omega
          have hgb3 : ¬ g2 = w.heap.size := by omega
          have hg12 : g1 < g2 := by have := block_lt HRO.out; omega
          have HG2 := Lib.hid hg2
          have HC := Lib.hid (show RowI w2 g2 (partC lo B m i 0) by unfold RowI; rw [partC_zero]; exact q2)
          clear q2 a2 e2 hmt hO hg2
          go_wp2
          clear hmk
          go_loopw [15, 16] (fun r v wx => ∃ j R : Nat, j ≤ i ∧ r = .int .i64 R ∧ v = .int .i64 j ∧ R ≤ 700 ∧ Hid (R = m / B ^ j) ∧ Hid (RowI wx g2 (partC lo B m i j)) ∧ Hid (Below wm.heap.size wm wx)) (fun r v _ => i - (intOf v).toNat)
          case atStart => exact ⟨0, m, Nat.zero_le _, rfl, rfl, by omega, Lib.hid (by simp), HC, HBM⟩
          case round =>
            clear HC HBM
            obtain ⟨j, R, hj, rfl, rfl, hR, HR0, HC, HM⟩ := hrel
            by_cases hji : j < i
            · have hjI : decide ((j : Int) < (i : Int)) = true := by simp; omega
              (have bq := HM.out); replace HB := Lib.hid (HB.out.trans (bq.mono HB.out.size)); replace k0 := (bq.cell (lt_of_cellq k0)).trans k0; replace k1 := (bq.cell (lt_of_cellq k1)).trans k1; replace k2 := (bq.cell (lt_of_cellq k2)).trans k2; replace k3 := (bq.cell (lt_of_cellq k3)).trans k3; clear bq
              obtain ⟨d, hd⟩ : ∃ d, R % B = d := ⟨_, rfl⟩
              obtain ⟨Q, hQ⟩ : ∃ Q, R / B = Q := ⟨_, rfl⟩
              have hdB : d < B := by rw [← hd]; exact Nat.mod_lt _ (by omega)
              have hQR : Q ≤ R := by rw [← hQ]; exact Nat.div_le_self _ _
              have ht1 : (R : Int).tmod (B : Int) = (d : Int) := by rw [Int.tmod_eq_emod_of_nonneg (by omega), ← hd, Int.natCast_emod]
              have ht2 : (R : Int) % (B : Int) = (d : Int) := by rw [← hd, Int.natCast_emod]
              have hq1 : (R : Int).tdiv (B : Int) = (Q : Int) := by rw [Int.tdiv_eq_ediv_of_nonneg (by omega), ← hQ, Int.natCast_ediv]
              have hq2 : (R : Int) / (B : Int) = (Q : Int) := by rw [← hQ, Int.natCast_ediv]
              have hw4 : IntKind.i64.wrap (lo + (d : Int)) = lo + (d : Int) := w64 _ (by omega) (by omega)
              have hw5 : IntKind.i64.wrap (Q : Int) = (Q : Int) := w64 _ (by omega) (by omega)
              have hw6 : IntKind.i64.wrap (d : Int) = (d : Int) := w64 _ (by omega) (by omega)
              have HSET := Lib.hid (show (partC lo B m i j).set j (lo + (d : Int)) = partC lo B m i (j + 1) by rw [← partC_set _ _ _ _ _ hji, ← hd, HR0.out])
              have HQ := Lib.hid (show Q = m / B ^ (j + 1) by rw [← hQ, HR0.out, Nat.div_div_eq_div_mul, Nat.pow_succ])
              have hB0 : ¬ B = 0 := by omega
              have hB2 : ((B : Int) == 0) = false := by simp; omega
              have z1 := frozen_of_row _ _ j _ _ HC.out
              have y1 := HC.out.at (i := j) (by simpa using hji)
              clear hd hQ
              go_wp2
              go_still_tail 14, (by kernel_rfl)
              go_wp2
              have HC1 := Lib.hid (show RowI (wr.setCell ⟨g2, j, none⟩ (.int .i64 (lo + (d : Int)))) g2 (partC lo B m i (j + 1)) by rw [← HSET.out]; exact HC.out.set j _)
              have HM1 := Lib.hid (HM.out.setCell (p := ⟨g2, j, none⟩) (by rw [← HG2.out]; exact Nat.le_refl _) (.int .i64 (lo + (d : Int))))
              go_roundw
              case rel => exact ⟨j + 1, Q, by omega, rfl, by go_num, by omega, HQ, HC1, Lib.hid ⟨HM1.out.os, HM1.out.tape, HM1.out.output, HM1.out.size, HM1.out.block⟩⟩
              case measure => simp [intOf]; omega
            · obtain rfl : j = i := by omega
              have hjI : decide ((j : Int) < (j : Int)) = false := by simp
              have HRO := Lib.hid (HRO.out.below HM.out)
              (have bq := HM.out); replace HB := Lib.hid (HB.out.trans (bq.mono HB.out.size)); replace HX := Lib.hid (HX.out.below bq); replace HT9 := Lib.hid (HT9.out.below bq); replace HL := Lib.hid (HL.out.trans (bq.mono HL.out.size)); replace k0 := (bq.cell (lt_of_cellq k0)).trans k0; replace k1 := (bq.cell (lt_of_cellq k1)).trans k1; replace k2 := (bq.cell (lt_of_cellq k2)).trans k2; replace k3 := (bq.cell (lt_of_cellq k3)).trans k3; clear bq
              clear hw1 hw2
              rw [partC_all] at HC
              have HCB := Lib.hid (camB_code HR.out B HBE.out m j (by omega))
              obtain ⟨xs, hxs⟩ : ∃ xs, codeL lo B m j = xs := ⟨_, rfl⟩
              have HXL := Lib.hid (show xs.length = j by rw [← hxs, codeL_length])
              rw [hxs] at HC HCB
              have HXS := Lib.hid hxs
              have hg2l := block_lt HC.out
              clear hxs hji hj hR HR0 HM
              obtain ⟨wq, rfl⟩ : ∃ wq : World, wq = wr := ⟨_, rfl⟩
              cases hTx : T xs with
              | false =>
                have HTX := Lib.hid (show truB lo hi sl ch gs xs = false by rw [HT.out]; exact hTx)
                have HME := Lib.hid (show metTo T lo B j (m + 1) = mt by simp only [metTo]; rw [HMT.out, HXS.out, hTx, Bool.or_false])
                have HOE := Lib.hid (show outTo T lo B j (m + 1) = O by simp only [outTo]; rw [HXS.out, hTx, HO.out]; simp)
                clear hTx
                (go_wp2_with fail); refine (c37n HXL.out HC.out.rd HX.out HR.out HCB.out HGA.out (by omega)).mono ?_; rw [HTX.out]; rintro e wn ⟨rfl, bq⟩; replace HB := Lib.hid (HB.out.trans (bq.mono HB.out.size)); replace HX := Lib.hid (HX.out.below bq); replace HT9 := Lib.hid (HT9.out.below bq); replace HRO := Lib.hid (HRO.out.below bq); replace HC := Lib.hid (HC.out.below bq); replace HL := Lib.hid (HL.out.trans (bq.mono HL.out.size)); replace k0 := (bq.cell (lt_of_cellq k0)).trans k0; replace k1 := (bq.cell (lt_of_cellq k1)).trans k1; replace k2 := (bq.cell (lt_of_cellq k2)).trans k2; replace k3 := (bq.cell (lt_of_cellq k3)).trans k3; clear bq
                go_wp2
                go_roundw
                case rel => exact ⟨m + 1, by omega, by rw [HME.out], by go_num, Lib.hid (by rw [HOE.out]; exact HRO.out), HL⟩
                case measure => simp [intOf]; omega
              | true =>
                have HTX := Lib.hid (show truB lo hi sl ch gs xs = true by rw [HT.out]; exact hTx)
                have HME := Lib.hid (show metTo T lo B j (m + 1) = true by simp only [metTo]; rw [HMT.out, HXS.out, hTx, Bool.or_true])
                have HOE := Lib.hid (show outTo T lo B j (m + 1) = partO mt O xs j j by simp only [outTo]; rw [partO_all, HXS.out, hTx, HO.out, HMT.out]; simp)
                clear hTx
                (go_wp2_with fail); refine (c37n HXL.out HC.out.rd HX.out HR.out HCB.out HGA.out (by omega)).mono ?_; rw [HTX.out]; rintro e wn ⟨rfl, bq⟩; replace HB := Lib.hid (HB.out.trans (bq.mono HB.out.size)); replace HX := Lib.hid (HX.out.below bq); replace HT9 := Lib.hid (HT9.out.below bq); replace HRO := Lib.hid (HRO.out.below bq); replace HC := Lib.hid (HC.out.below bq); replace HL := Lib.hid (HL.out.trans (bq.mono HL.out.size)); replace k0 := (bq.cell (lt_of_cellq k0)).trans k0; replace k1 := (bq.cell (lt_of_cellq k1)).trans k1; replace k2 := (bq.cell (lt_of_cellq k2)).trans k2; replace k3 := (bq.cell (lt_of_cellq k3)).trans k3; clear bq
                have HRO := Lib.hid (show RowS wn g1 (partO mt O xs j 0) by rw [partO_zero _ _ _ _ HOL.out]; exact HRO.out)
                have hg1l := block_lt HRO.out
                have hg2l := block_lt HC.out
                obtain ⟨wc, rfl⟩ : ∃ wc : World, wc = wn := ⟨_, rfl⟩
                go_wp2
                go_loopw [17] (fun v wx => ∃ s : Nat, s ≤ j ∧ v = .int .i64 s ∧ Hid (RowS wx g1 (partO mt O xs j s)) ∧ Hid (BelX (fun x => x = g1) wc.heap.size wc wx)) (fun v _ => j - (intOf v).toNat)
                case atStart => exact ⟨0, Nat.zero_le _, rfl, HRO, Lib.hid (BelX.refl _ _ _)⟩
                case round =>
                  clear HRO
                  obtain ⟨s, hs, rfl, HRO, HM⟩ := hrel
                  by_cases hsj : s < j
                  · have hsI : decide ((s : Int) < (j : Int)) = true := by simp; omega
                    have y1 := HC.out.at (i := s) (by rw [HXL.out]; exact hsj)
                    have y2 : wr.cell? ⟨g2, s, none⟩ = some (.int .i64 (gi xs s)) := (HM.out.cell hg2l (by show ¬ g2 = g1; omega)).trans y1
                    have HSET := Lib.hid (partO_set mt O xs j s hsj)
                    have z1 := frozen_of_row _ _ (s * 2) _ _ HRO.out
                    have z2 := frozen_of_row _ _ (s * 2 + 1) _ _ HRO.out
                    obtain ⟨x1, x2⟩ := HRO.out.at (i := s) (by simpa using hsj)
                    rw [spn_partO _ _ _ _ _ hsj] at x1 x2
                    have hs2 : s * 2 + 1 < j * 2 := by omega
                    have hgs : ¬ g2 = g1 := by omega
                    generalize gi xs s = x at *
                    cases mt with
                    | true =>
                      have HSET := Lib.hid (show (partO true O xs j s).set s (min (spn O s).1 x, max (spn O s).2 x) = partO true O xs j (s + 1) from HSET.out)
                      generalize (spn O s).1 = A at *
                      generalize (spn O s).2 = C at *
                      go_wp2
                      go_still_tail 24, (by kernel_rfl)
                      go_wp2
                      have HRe := Lib.hid (show RowS ((wr.setCell ⟨g1, s * 2, none⟩ (.int .i64 (min A x))).setCell ⟨g1, s * 2 + 1, none⟩ (.int .i64 (max C x))) g1 (partO true O xs j (s + 1)) by
                        rw [← HSET.out]; exact HRO.out.set (i := s) (by simpa using hsj) (min A x, max C x))
                      have HMe := Lib.hid ((HM.out.setCell (p := ⟨g1, s * 2, none⟩) (.inl rfl) (.int .i64 (min A x))).setCell (p := ⟨g1, s * 2 + 1, none⟩) (.inl rfl) (.int .i64 (max C x)))
                      go_roundw
                      case rel => exact ⟨s + 1, by omega, by go_num, HRe, Lib.hid ⟨HMe.out.os, HMe.out.tape, HMe.out.output, HMe.out.size, HMe.out.block⟩⟩
                      case measure => simp [intOf]; omega
                    | false =>
                      have HSET := Lib.hid (show (partO false O xs j s).set s (x, x) = partO false O xs j (s + 1) from HSET.out)
                      go_wp2
                      go_still_tail 12, (by kernel_rfl)
                      go_wp2
                      have HRd := Lib.hid (show RowS ((wr.setCell ⟨g1, s * 2, none⟩ (.int .i64 x)).setCell ⟨g1, s * 2 + 1, none⟩ (.int .i64 x)).drew g1 (partO false O xs j (s + 1)) by
                        rw [← HSET.out]; exact HRO.out.set (i := s) (by simpa using hsj) (x, x))
                      have HMe := Lib.hid ((HM.out.setCell (p := ⟨g1, s * 2, none⟩) (.inl rfl) (.int .i64 x)).setCell (p := ⟨g1, s * 2 + 1, none⟩) (.inl rfl) (.int .i64 x))
                      have HMd := Lib.hid (show BelX (fun x => x = g1) wc.heap.size wc ((wr.setCell ⟨g1, s * 2, none⟩ (.int .i64 x)).setCell ⟨g1, s * 2 + 1, none⟩ (.int .i64 x)).drew from ⟨HMe.out.os, HMe.out.tape, HMe.out.output, HMe.out.size, HMe.out.block⟩)
                      have HSV := Lib.hid (show spn (partO false O xs j (s + 1)) s = (x, x) by rw [← HSET.out, spn_set _ _ _ (by simpa using hsj), if_pos rfl])
                      have HSS := Lib.hid (show (partO false O xs j (s + 1)).set s (x, x) = partO false O xs j (s + 1) by rw [← HSET.out, List.set_set])
                      clear HMe z1 z2 x1 x2 y2 HRO HM HSET
                      generalize ((wr.setCell ⟨g1, s * 2, none⟩ (.int .i64 x)).setCell ⟨g1, s * 2 + 1, none⟩ (.int .i64 x)).drew = wd at *
                      have y2 : wd.cell? ⟨g2, s, none⟩ = some (.int .i64 x) := (HMd.out.cell hg2l (by show ¬ g2 = g1; omega)).trans y1
                      have z1 := frozen_of_row _ _ (s * 2) _ _ HRd.out
                      have z2 := frozen_of_row _ _ (s * 2 + 1) _ _ HRd.out
                      obtain ⟨x1, x2⟩ := HRd.out.at (i := s) (by simpa using hsj)
                      rw [HSV.out] at x1 x2
                      simp only at x1 x2
                      clear y1
                      go_wp2
                      go_still_tail 24, (by kernel_rfl)
                      go_wp2
                      have HRe := Lib.hid (show RowS ((wd.setCell ⟨g1, s * 2, none⟩ (.int .i64 x)).setCell ⟨g1, s * 2 + 1, none⟩ (.int .i64 x)) g1 (partO false O xs j (s + 1)) by
                        rw [← HSS.out]; exact HRd.out.set (i := s) (by simpa using hsj) (x, x))
                      have HMf := Lib.hid ((HMd.out.setCell (p := ⟨g1, s * 2, none⟩) (.inl rfl) (.int .i64 x)).setCell (p := ⟨g1, s * 2 + 1, none⟩) (.inl rfl) (.int .i64 x))
                      go_roundw
                      case rel => exact ⟨s + 1, by omega, by go_num, HRe, Lib.hid ⟨HMf.out.os, HMf.out.tape, HMf.out.output, HMf.out.size, HMf.out.block⟩⟩
                      case measure => simp [intOf]; omega
                  · obtain rfl : s = j := by omega
                    have hsI : decide ((s : Int) < (s : Int)) = false := by simp
                    have HLn := Lib.hid (HL.out.trans (HM.out.below (B' := wb.heap.size) HL.out.size (fun k hk => by rw [hk, ← HG1.out]; exact Nat.le_refl _)))
                    go_wp2
                    go_roundw
                    case rel => exact ⟨m + 1, by omega, by rw [HME.out], by go_num, Lib.hid (by rw [HOE.out]; exact HRO.out), HLn⟩
                    case measure => simp [intOf]; omega
        · obtain rfl : m = V := by omega
          have hmvI : decide ((m : Int) < (m : Int)) = false := by simp
          have hel := ends_law HR.out (n := i) (by omega) HGA.out B HBE.out
          rw [HT.out, ← HV.out] at hel
          have HEL := Lib.hid hel
          have hbl := boundL_len (lo := lo) (hi := hi) (sl := sl) (ch := ch) (n := i) (gs := gs)
          have hol := outTo_length T lo B i m
          clear hel
          cases hmt : metTo T lo B i m with
          | false =>
            rcases HT9.out with ⟨a, _⟩ | ⟨_, hev⟩
            · have := HEL.out.1.2 a
              rw [hmt] at this; cases this
            · subst hev
              (have bq := HL.out); replace HB := Lib.hid (HB.out.trans (bq.mono HB.out.size)); replace HX := Lib.hid (HX.out.below bq); replace k0 := (bq.cell (lt_of_cellq k0)).trans k0; replace k1 := (bq.cell (lt_of_cellq k1)).trans k1; replace k2 := (bq.cell (lt_of_cellq k2)).trans k2; replace k3 := (bq.cell (lt_of_cellq k3)).trans k3; clear bq
              clear hw1 hw2 hmt hbl hol hmv HV
              (go_wp2_with fail); refine (c25 _).mono ?_; rintro e wn ⟨rfl, bq⟩; replace HB := Lib.hid (HB.out.trans (bq.mono HB.out.size)); clear bq; go_wp2; go_ret; exact ⟨rfl, HB.out⟩
          | true =>
            rcases HT9.out with ⟨_, hev, hln, hrd⟩ | ⟨a, _⟩
            · subst hev
              obtain rfl : i = l9 := hln.symm
              have HEQ := Lib.hid (HEL.out.2 hmt)
              generalize boundL sl ch (gaTo lo hi i gs gs.length) = A1 at *
              generalize outTo T lo B i m = A2 at *
              have HBL := Lib.hid hbl
              have HOL := Lib.hid hol
              have HRD := Lib.hid hrd
              (have bq := HL.out); replace HB := Lib.hid (HB.out.trans (bq.mono HB.out.size)); replace HX := Lib.hid (HX.out.below bq); replace HRD := Lib.hid (HRD.out.below bq); replace k0 := (bq.cell (lt_of_cellq k0)).trans k0; replace k1 := (bq.cell (lt_of_cellq k1)).trans k1; replace k2 := (bq.cell (lt_of_cellq k2)).trans k2; replace k3 := (bq.cell (lt_of_cellq k3)).trans k3; clear bq
              clear hw1 hw2 hmt hbl hol hmv HV hrd
              (go_wp2_with fail); refine (c36n HBL.out HOL.out HEQ.out.symm HRD.out HRO.out.rd (by omega)).mono ?_; rintro e wn ⟨rfl, nq, hq⟩; (have bq := below_dr hq); clear hq; replace HB := Lib.hid (HB.out.trans (bq.mono HB.out.size)); clear bq
              (go_wp2_with fail); refine (c25 _).mono ?_; rintro e wn ⟨rfl, bq⟩; replace HB := Lib.hid (HB.out.trans (bq.mono HB.out.size)); clear bq; go_wp2; go_ret; exact ⟨rfl, HB.out⟩
            · exact absurd (HEL.out.1.1 hmt) a
end Go.Proofs.YtncfgkhbenmpoaaGreatDoor
end
