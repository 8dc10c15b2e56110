/-
  The law of more (the walk): a wider rule, a want that is turned.
-/
import Derived.Test.YtncfgkhbenmpoaaGreatDoorGs
import Derived.Test.YtncfgkhbenmpoaaGreatDoorGm
import Derived.Test.YtncfgkhbenmpoaaGreatDoorGi
import Derived.BigQuiet
import Derived.Deep.RegionHeld3
section
namespace Go.Proofs.YtncfgkhbenmpoaaGreatDoor
open Go Go.RowKit Go.Proofs Go.Shelf
set_option linter.unusedVariables false
attribute [local go_sem] imax2 imin2

/-- what a rule's box holds -/
def RuleCells (w : World) (B : Nat) (lo hi sl ch : Int) : Prop :=
  w.cell? ⟨B, 0, none⟩ = some (.int .i64 lo) ∧ w.cell? ⟨B, 1, none⟩ = some (.int .i64 hi) ∧ w.cell? ⟨B, 2, none⟩ = some (.int .i64 sl) ∧ w.cell? ⟨B, 3, none⟩ = some (.int .i64 ch)
theorem RuleCells.below {w w' : World} {B : Nat} {lo hi sl ch : Int} (h : RuleCells w B lo hi sl ch) (hb : Below w.heap.size w w') : RuleCells w' B lo hi sl ch := by
  obtain ⟨a, b, c, d⟩ := h
  exact ⟨(hb.cell (lt_of_cellq a)).trans a, (hb.cell (lt_of_cellq b)).trans b, (hb.cell (lt_of_cellq c)).trans c, (hb.cell (lt_of_cellq d)).trans d⟩
theorem knownB_of {lo hi sl ch : Int} {n : Nat} {gs : List Gau} (hr : ruleB lo hi sl ch = true) (hn : 3 ≤ n ∧ n ≤ 24) (hg : (gausB n gs && decide (gs.length ≤ 8)) = true) : knownB lo hi sl ch n gs = true := by
  rw [Bool.and_eq_true] at hg
  unfold knownB
  rw [hr, inB_true (by omega) (by omega), hg.1, hg.2]; rfl

set_option maxRecDepth 100000 in
set_option maxHeartbeats 4000000 in
theorem law11 (lo hi sl ch : Int) (q : Option Addr) (cap' : Nat) (xs : List Int) (m s : Int) (p : Option Addr) (cap : Nat) (gs : List Gau) (w : World) (hx : RdI w q xs) (hy : RdG w p gs) :
    Calls Tryz.prog 11 #[.agg #[.int .i64 lo, .int .i64 hi, .int .i64 sl, .int .i64 ch], .slice q xs.length cap', .int .i64 m, .int .i64 s, .slice p gs.length cap] w (LawPost w) := by
  obtain ⟨w0, e0, HS0, k0, k1, k2, k3, b0⟩ := box4 w (.int .i64 lo) (.int .i64 hi) (.int .i64 sl) (.int .i64 ch) 23
  have HX := Lib.hid (hx.below b0)
  have HY := Lib.hid (hy.below b0)
  have HB := Lib.hid b0
  clear hx hy b0
  go_enter Tryz.func11, Tryz.ntmps11
  (go_wp2_with fail); refine (c24 q xs.length cap' _).mono ?_; rintro e wn ⟨rfl, rfl⟩
  clear e0
  cases hTT : (decide (xs.length ≤ 27)); (case false => ((clear hTT); (go_wp2_with fail); refine (c25 _).mono ?_; rintro e wn ⟨rfl, bq⟩; replace HB := Lib.hid (HB.out.trans (bq.mono HB.out.size)); clear bq; go_wp2; go_ret; exact ⟨rfl, HB.out⟩)); have S1 := Lib.hid hTT; clear hTT
  (go_wp2_with fail); refine (c31 p gs.length cap _).mono ?_; rintro e wn ⟨rfl, rfl⟩
  cases hTT : (decide (gs.length ≤ 11)); (case false => ((clear hTT); (go_wp2_with fail); refine (c25 _).mono ?_; rintro e wn ⟨rfl, bq⟩; replace HB := Lib.hid (HB.out.trans (bq.mono HB.out.size)); clear bq; go_wp2; go_ret; exact ⟨rfl, HB.out⟩)); have S2 := Lib.hid hTT; clear hTT
  have hl1 := of_decide_eq_true S1.out
  have hl2 := of_decide_eq_true S2.out
  (go_wp2_with fail); refine (c27 lo hi sl ch _).mono ?_; rintro e wn ⟨rfl, bq⟩; replace HB := Lib.hid (HB.out.trans (bq.mono HB.out.size)); replace HX := Lib.hid (HX.out.below bq); replace HY := Lib.hid (HY.out.below bq); replace k0 := (bq.cell (lt_of_cellq k0)).trans k0; replace k1 := (bq.cell (lt_of_cellq k1)).trans k1; replace k2 := (bq.cell (lt_of_cellq k2)).trans k2; replace k3 := (bq.cell (lt_of_cellq k3)).trans k3; clear bq
  cases hTT : (ruleB lo hi sl ch); (case false => ((clear hTT); (go_wp2_with fail); refine (c25 _).mono ?_; rintro e wn ⟨rfl, bq⟩; replace HB := Lib.hid (HB.out.trans (bq.mono HB.out.size)); clear bq; go_wp2; go_ret; exact ⟨rfl, HB.out⟩)); have HR := Lib.hid hTT; clear hTT
  (go_wp2_with fail); refine (c28 q cap' xs _ HX.out (by omega)).mono ?_; rintro e wn ⟨rfl, rfl⟩
  cases hTT : (camB xs); (case false => ((clear hTT); (go_wp2_with fail); refine (c25 _).mono ?_; rintro e wn ⟨rfl, bq⟩; replace HB := Lib.hid (HB.out.trans (bq.mono HB.out.size)); clear bq; go_wp2; go_ret; exact ⟨rfl, HB.out⟩)); have HC := Lib.hid hTT; clear hTT
  by_cases h1 : m < 0
  case pos => (go_wp2_with fail); refine (c25 _).mono ?_; rintro e wn ⟨rfl, bq⟩; replace HB := Lib.hid (HB.out.trans (bq.mono HB.out.size)); clear bq; go_wp2; go_ret; exact ⟨rfl, HB.out⟩
  by_cases h2 : m > 30
  case pos => (go_wp2_with fail); refine (c25 _).mono ?_; rintro e wn ⟨rfl, bq⟩; replace HB := Lib.hid (HB.out.trans (bq.mono HB.out.size)); clear bq; go_wp2; go_ret; exact ⟨rfl, HB.out⟩
  by_cases h3 : s < 0
  case pos => (go_wp2_with fail); refine (c25 _).mono ?_; rintro e wn ⟨rfl, bq⟩; replace HB := Lib.hid (HB.out.trans (bq.mono HB.out.size)); clear bq; go_wp2; go_ret; exact ⟨rfl, HB.out⟩
  by_cases h4 : s ≥ (xs.length : Int)
  case pos => (go_wp2_with fail); refine (c25 _).mono ?_; rintro e wn ⟨rfl, bq⟩; replace HB := Lib.hid (HB.out.trans (bq.mono HB.out.size)); clear bq; go_wp2; go_ret; exact ⟨rfl, HB.out⟩
  (go_wp2_with fail); refine (c34 (xs.length : Int) p cap gs _ HY.out (by omega) (by omega)).mono ?_; rintro e wn ⟨rfl, rfl⟩
  cases hTT : (gausB (xs.length : Int) gs && decide (gs.length ≤ 8)); (case false => ((clear hTT); (go_wp2_with fail); refine (c25 _).mono ?_; rintro e wn ⟨rfl, bq⟩; replace HB := Lib.hid (HB.out.trans (bq.mono HB.out.size)); clear bq; go_wp2; go_ret; exact ⟨rfl, HB.out⟩)); have HG := Lib.hid hTT; clear hTT
  obtain ⟨⟨r1, r2, r3⟩, ⟨r4, r5⟩, r6, r7⟩ := rule_parts HR.out
  obtain ⟨s, rfl⟩ : ∃ n : Nat, s = n := ⟨s.toNat, by omega⟩
  have hl3 := (camB_parts HC.out).1
  have hl24 := (camB_parts HC.out).2.1
  have hsl : s ≤ 1000 := by omega
  have hgau : gausB (xs.length : Int) gs = true := by have h := HG.out; rw [Bool.and_eq_true] at h; exact h.1
  obtain ⟨hrx, hle⟩ := nearest_more HR.out HC.out m (by omega)
  have htn := nearest_turn HR.out HC.out s (by omega)
  have HNAR := Lib.hid (fun (hk : KnownOk lo hi sl ch xs.length gs) => known_narrow (n := xs.length) HR.out hrx (by omega) hgau hgau (fun ys hys => tru_wider HR.out (by omega) m (by omega) hys) hk)
  obtain ⟨⟨n1, e1⟩, hn1⟩ : ∃ r, nearestF lo hi sl ch xs = r := ⟨_, rfl⟩
  obtain ⟨⟨n2, e2⟩, hn2⟩ : ∃ r, nearestF (max 0 (lo - m)) (min 30 (hi + m)) (min 30 (sl + m)) (min 24 (ch + m)) xs = r := ⟨_, rfl⟩
  obtain ⟨⟨n3, e3⟩, hn3⟩ : ∃ r, nearestF lo hi sl ch (turnF xs s) = r := ⟨_, rfl⟩
  rw [hn1, hn2] at hle
  rw [hn1, hn3] at htn
  have hle : e2 ≤ e1 := hle
  obtain rfl : e3 = e1 := htn
  have HN1 := Lib.hid hn1
  have HN2 := Lib.hid hn2
  have HN3 := Lib.hid hn3
  have HRX := Lib.hid hrx
  have hnle : ¬ e2 > e3 := by omega
  have hne : (e3 != e3) = false := by simp
  obtain ⟨wb, eb, HSb, x0, x1, x2, x3, bb⟩ := box4 wn (.int .i64 (max 0 (lo - m))) (.int .i64 (min 30 (hi + m))) (.int .i64 (min 30 (sl + m))) (.int .i64 (min 24 (ch + m))) 23
  have j0 := (bb.cell (lt_of_cellq k0)).trans k0
  have j1 := (bb.cell (lt_of_cellq k1)).trans k1
  have j2 := (bb.cell (lt_of_cellq k2)).trans k2
  have j3 := (bb.cell (lt_of_cellq k3)).trans k3
  replace HX := Lib.hid (HX.out.below bb)
  replace HY := Lib.hid (HY.out.below bb)
  replace HB := Lib.hid (HB.out.trans (bb.mono HB.out.size))
  have hw1 : IntKind.i64.wrap (lo - m) = lo - m := w64 _ (by omega) (by omega)
  have hw2 : IntKind.i64.wrap (hi + m) = hi + m := w64 _ (by omega) (by omega)
  have hw3 : IntKind.i64.wrap (sl + m) = sl + m := w64 _ (by omega) (by omega)
  have hw4 : IntKind.i64.wrap (ch + m) = ch + m := w64 _ (by omega) (by omega)
  clear bb hn1 hn2 hn3 hle hgau hrx
  (go_wp2_with fail); refine (c26n rfl HX.out HR.out HC.out).mono ?_; rw [HN1.out]; rintro e wn ⟨⟨p1, c1, rfl, hr⟩, bq⟩; replace HB := Lib.hid (HB.out.trans (bq.mono HB.out.size)); replace HX := Lib.hid (HX.out.below bq); replace HY := Lib.hid (HY.out.below bq); replace j0 := (bq.cell (lt_of_cellq j0)).trans j0; replace j1 := (bq.cell (lt_of_cellq j1)).trans j1; replace j2 := (bq.cell (lt_of_cellq j2)).trans j2; replace j3 := (bq.cell (lt_of_cellq j3)).trans j3; replace x0 := (bq.cell (lt_of_cellq x0)).trans x0; replace x1 := (bq.cell (lt_of_cellq x1)).trans x1; replace x2 := (bq.cell (lt_of_cellq x2)).trans x2; replace x3 := (bq.cell (lt_of_cellq x3)).trans x3; clear bq
  clear eb k0 k1 k2 k3 hr hw1 hw2 hw3 hw4
  (go_wp2_with fail); refine (c26n rfl HX.out HRX.out HC.out).mono ?_; rw [HN2.out]; rintro e wn ⟨⟨p2, c2, rfl, hr⟩, bq⟩; replace HB := Lib.hid (HB.out.trans (bq.mono HB.out.size)); replace HX := Lib.hid (HX.out.below bq); replace HY := Lib.hid (HY.out.below bq); replace j0 := (bq.cell (lt_of_cellq j0)).trans j0; replace j1 := (bq.cell (lt_of_cellq j1)).trans j1; replace j2 := (bq.cell (lt_of_cellq j2)).trans j2; replace j3 := (bq.cell (lt_of_cellq j3)).trans j3; replace x0 := (bq.cell (lt_of_cellq x0)).trans x0; replace x1 := (bq.cell (lt_of_cellq x1)).trans x1; replace x2 := (bq.cell (lt_of_cellq x2)).trans x2; replace x3 := (bq.cell (lt_of_cellq x3)).trans x3; clear bq
  clear hr
  have hRC : RuleCells wn w.heap.size lo hi sl ch := ⟨j0, j1, j2, j3⟩
  obtain ⟨ws, hws⟩ : ∃ ws : World, ws = wn := ⟨_, rfl⟩
  go_wp2
  go_region_held3 (fun w' => w'.cell? ⟨w.heap.size, 0, none⟩ = some (.int .i64 lo) ∧ w'.cell? ⟨w.heap.size, 1, none⟩ = some (.int .i64 hi) ∧ w'.cell? ⟨w.heap.size, 2, none⟩ = some (.int .i64 sl) ∧ w'.cell? ⟨w.heap.size, 3, none⟩ = some (.int .i64 ch))
      (first | exact hRC | exact kA | exact kC)
      (first
        | (go_at_call 43; (with_reducible refine (c43n (xs := xs) (s := s) rfl (HX.out.below ((Below.refl _ _).drew)) (by omega) hsl).mono ?_); rintro e wa ⟨⟨pa, ca, rfl, hra⟩, hba⟩
           have hwa : Below wn.heap.size wn wa := ⟨hba.os, hba.tape, hba.output, hba.size, hba.block⟩
           have kA : RuleCells wa w.heap.size lo hi sl ch := hRC.below hwa)
        | (go_at_call 26; (with_reducible refine (c26n (xs := turnF xs s) (turnF_length _ _) hra HR.out (camB_turn xs s HC.out)).mono ?_); rintro e wc ⟨⟨pc, cc, rfl, hrc⟩, hbc⟩
           have kC : RuleCells wc w.heap.size lo hi sl ch := kA.below hbc))
  rw [HN3.out]
  have hwc : Below wn.heap.size wn wc := hwa.trans (hbc.mono hwa.size)
  have HWC := Lib.hid hwc
  obtain ⟨j0, j1, j2, j3⟩ := kC
  clear hrc hra hba hbc kA hRC hwa hws hwc
  (have bq := HWC.out); replace HB := Lib.hid (HB.out.trans (bq.mono HB.out.size)); replace HX := Lib.hid (HX.out.below bq); replace HY := Lib.hid (HY.out.below bq); replace x0 := (bq.cell (lt_of_cellq x0)).trans x0; replace x1 := (bq.cell (lt_of_cellq x1)).trans x1; replace x2 := (bq.cell (lt_of_cellq x2)).trans x2; replace x3 := (bq.cell (lt_of_cellq x3)).trans x3; clear bq
  have HK1 := Lib.hid (knownB_of HR.out (n := xs.length) (by omega) HG.out)
  have HK2 := Lib.hid (knownB_of HRX.out (n := xs.length) (by omega) HG.out)
  have hLA := boundL_len (lo := lo) (hi := hi) (sl := sl) (ch := ch) (n := xs.length) (gs := gs)
  have hLB := boundL_len (lo := max 0 (lo - m)) (hi := min 30 (hi + m)) (sl := min 30 (sl + m)) (ch := min 24 (ch + m)) (n := xs.length) (gs := gs)
  obtain ⟨A1, hA1⟩ : ∃ A1, boundL sl ch (gaTo lo hi xs.length gs gs.length) = A1 := ⟨_, rfl⟩
  obtain ⟨A2, hA2⟩ : ∃ A2, boundL (min 30 (sl + m)) (min 24 (ch + m)) (gaTo (max 0 (lo - m)) (min 30 (hi + m)) xs.length gs gs.length) = A2 := ⟨_, rfl⟩
  rw [hA1, hA2] at HNAR
  rw [hA1] at hLA
  rw [hA2] at hLB
  have HA1 := Lib.hid hA1
  have HA2 := Lib.hid hA2
  have HLA := Lib.hid hLA
  have HLB := Lib.hid hLB
  clear hA1 hA2 hLA hLB
  have hxl : ((xs.length : Int) != (xs.length : Int)) = false := by simp
  by_cases hk : KnownOk lo hi sl ch xs.length gs
  · obtain ⟨hk2, hnb⟩ := HNAR.out hk
    have HKA := Lib.hid hk
    have HKB := Lib.hid hk2
    have HNB := Lib.hid hnb
    clear hk hk2 hnb
    (go_wp2_with fail); refine (c32_ok HY.out (by omega) HK1.out HKA.out).mono ?_; rw [HA1.out]; rintro e wn ⟨⟨g1, rfl, hr⟩, bq⟩; replace HB := Lib.hid (HB.out.trans (bq.mono HB.out.size)); replace HX := Lib.hid (HX.out.below bq); replace HY := Lib.hid (HY.out.below bq); replace x0 := (bq.cell (lt_of_cellq x0)).trans x0; replace x1 := (bq.cell (lt_of_cellq x1)).trans x1; replace x2 := (bq.cell (lt_of_cellq x2)).trans x2; replace x3 := (bq.cell (lt_of_cellq x3)).trans x3; clear bq
    have HR1 := Lib.hid (RowS.rd hr)
    clear hr
    (go_wp2_with fail); refine (c32_ok HY.out (by omega) HK2.out HKB.out).mono ?_; rw [HA2.out]; rintro e wn ⟨⟨g2, rfl, hr⟩, bq⟩; replace HB := Lib.hid (HB.out.trans (bq.mono HB.out.size)); replace HR1 := Lib.hid (HR1.out.below bq); clear bq
    have HR2 := Lib.hid (RowS.rd hr)
    clear hr
    go_wp2
    go_loopw [25] (fun v wx => ∃ i : Nat, i ≤ xs.length ∧ v = .int .i64 i ∧ Hid (Below wn.heap.size wn wx)) (fun v _ => xs.length - (intOf v).toNat)
    case atStart => exact ⟨0, Nat.zero_le _, rfl, Lib.hid (Below.refl _ _)⟩
    case round =>
      obtain ⟨i, hi', rfl, HL⟩ := hrel
      by_cases hil : i < xs.length
      · have hilI : decide ((i : Int) < (xs.length : Int)) = true := by simp; omega
        obtain ⟨b1, o1, q1, hc1⟩ := (HR1.out.below HL.out).at (i := i) (by rw [HLA.out]; exact hil)
        obtain ⟨b2, o2, q2, hc2⟩ := (HR2.out.below HL.out).at (i := i) (by rw [HLB.out]; exact hil)
        cases q1
        cases q2
        obtain ⟨y1, y2⟩ := hc1 i (by rw [HLA.out]; exact hil)
        obtain ⟨y3, y4⟩ := hc2 i (by rw [HLB.out]; exact hil)
        obtain ⟨v1, v2⟩ := HNB.out i hil
        rw [gs_spn] at y1 y2 y3 y4
        simp only [Nat.zero_add] at y1 y2 y3 y4
        clear hc1 hc2
        generalize (spn A1 i).1 = a1 at *
        generalize (spn A1 i).2 = a2 at *
        generalize (spn A2 i).1 = a3 at *
        generalize (spn A2 i).2 = a4 at *
        have z1 : decide (a3 > a1) = false := by simp; omega
        have z2 : decide (a4 < a2) = false := by simp; omega
        have z3 : decide (a1 < a3) = false := by simp; omega
        go_wp2
        go_quiet (fail)
        go_wp2
        go_roundw
        case rel => exact ⟨i + 1, by omega, by go_num, Lib.hid (below_drewN HL.out _)⟩
        case measure => simp [intOf]; omega
      · obtain rfl : i = xs.length := by omega
        have hilI : decide ((xs.length : Int) < (xs.length : Int)) = false := by simp
        (have bq := HL.out); replace HB := Lib.hid (HB.out.trans (bq.mono HB.out.size)); clear bq
        (go_wp2_with fail); refine (c25 _).mono ?_; rintro e wn ⟨rfl, bq⟩; replace HB := Lib.hid (HB.out.trans (bq.mono HB.out.size)); clear bq; go_wp2; go_ret; exact ⟨rfl, HB.out⟩
  · have HKA := Lib.hid hk
    clear hk HNAR
    (go_wp2_with fail); refine (c32_none HY.out (by omega) HK1.out HKA.out).mono ?_; rintro e wn ⟨rfl, bq⟩; replace HB := Lib.hid (HB.out.trans (bq.mono HB.out.size)); replace HX := Lib.hid (HX.out.below bq); replace HY := Lib.hid (HY.out.below bq); replace x0 := (bq.cell (lt_of_cellq x0)).trans x0; replace x1 := (bq.cell (lt_of_cellq x1)).trans x1; replace x2 := (bq.cell (lt_of_cellq x2)).trans x2; replace x3 := (bq.cell (lt_of_cellq x3)).trans x3; clear bq
    by_cases hk2 : KnownOk (max 0 (lo - m)) (min 30 (hi + m)) (min 30 (sl + m)) (min 24 (ch + m)) xs.length gs
    · have HKB := Lib.hid hk2
      clear hk2
      (go_wp2_with fail); refine (c32_ok HY.out (by omega) HK2.out HKB.out).mono ?_; rw [HA2.out]; rintro e wn ⟨⟨g2, rfl, hr⟩, bq⟩; replace HB := Lib.hid (HB.out.trans (bq.mono HB.out.size)); clear bq
      clear hr
      go_wp2
      go_loop [25] (fun v => v = .int .i64 0) (fun _ => 0)
      case atStart => exact rfl
      case round =>
        subst hrel
        (go_wp2_with fail); refine (c25 _).mono ?_; rintro e wn ⟨rfl, bq⟩; replace HB := Lib.hid (HB.out.trans (bq.mono HB.out.size)); clear bq; go_wp2; go_ret; exact ⟨rfl, HB.out⟩
    · have HKB := Lib.hid hk2
      clear hk2
      (go_wp2_with fail); refine (c32_none HY.out (by omega) HK2.out HKB.out).mono ?_; rintro e wn ⟨rfl, bq⟩; replace HB := Lib.hid (HB.out.trans (bq.mono HB.out.size)); clear bq
      go_wp2
      go_loop [25] (fun v => v = .int .i64 0) (fun _ => 0)
      case atStart => exact rfl
      case round =>
        subst hrel
        (go_wp2_with fail); refine (c25 _).mono ?_; rintro e wn ⟨rfl, bq⟩; replace HB := Lib.hid (HB.out.trans (bq.mono HB.out.size)); clear bq; go_wp2; go_ret; exact ⟨rfl, HB.out⟩
end Go.Proofs.YtncfgkhbenmpoaaGreatDoor
end
