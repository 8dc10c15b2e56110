/-
  The law of gauges (the walk).
-/
import Derived.Test.YtncfgkhbenmpoaaGreatDoorGs
import Derived.Test.YtncfgkhbenmpoaaGreatDoorGm
import Derived.Test.YtncfgkhbenmpoaaGreatDoorGi
import Derived.BigQuiet
section
namespace Go.Proofs.YtncfgkhbenmpoaaGreatDoor
open Go Go.RowKit Go.Proofs Go.Shelf
set_option linter.unusedVariables false
attribute [local go_sem] imax2 imin2

/-- cells of gauges -/
def gaV : List Gau → List Value
  | [] => []
  | g :: r => .int .i64 g.step :: .int .i64 g.height :: .int .i64 g.off :: gaV r
theorem gaV_append (a b : List Gau) : gaV (a ++ b) = gaV a ++ gaV b := by
  induction a with
  | nil => rfl
  | cons g r ih => simp [gaV, ih]
theorem gaV_length (a : List Gau) : (gaV a).length = a.length * 3 := by
  induction a with
  | nil => rfl
  | cons g r ih => simp [gaV, ih]; omega
theorem gaV_get (gs : List Gau) : ∀ i, i < gs.length → (gaV gs)[i * 3]? = some (.int .i64 (gg gs i).step) ∧ (gaV gs)[i * 3 + 1]? = some (.int .i64 (gg gs i).height) ∧ (gaV gs)[i * 3 + 2]? = some (.int .i64 (gg gs i).off) := by
  induction gs with
  | nil => intro i h; simp at h
  | cons g r ih =>
    intro i h
    cases i with
    | zero => simp [gaV, gg]
    | succ i =>
      obtain ⟨h1, h2, h3⟩ := ih i (by simpa using h)
      have e : gg (g :: r) (i + 1) = gg r i := by simp [gg]
      rw [e]
      refine ⟨?_, ?_, ?_⟩
      · rw [show (i + 1) * 3 = i * 3 + 3 by omega]; simpa [gaV] using h1
      · rw [show (i + 1) * 3 + 1 = (i * 3 + 1) + 3 by omega]; simpa [gaV] using h2
      · rw [show (i + 1) * 3 + 2 = (i * 3 + 2) + 3 by omega]; simpa [gaV] using h3
theorem gaV_one (gs : List Gau) : ∀ u ∈ gaV gs, u.oneCell' = true := by
  induction gs with
  | nil => intro u hu; simp [gaV] at hu
  | cons g r ih =>
    intro u hu
    simp only [gaV, List.mem_cons] at hu
    rcases hu with rfl | rfl | rfl | h
    · rfl
    · rfl
    · rfl
    · exact ih u h
theorem addn (b off j : Nat) : (⟨b, off, none⟩ : Addr).add j = ⟨b, off + j, none⟩ := by unfold Addr.add; split <;> simp_all
/-- the cells of a slice of gauges, one by one -/
theorem ga_cells {w : World} {b off : Nat} {gs : List Gau} (hc : ∀ i, i < gs.length → w.cell? ⟨b, off + i * 3, none⟩ = some (.int .i64 (gg gs i).step) ∧ w.cell? ⟨b, off + i * 3 + 1, none⟩ = some (.int .i64 (gg gs i).height) ∧ w.cell? ⟨b, off + i * 3 + 2, none⟩ = some (.int .i64 (gg gs i).off)) :
    ∀ j u, (gaV gs)[j]? = some u → w.cell? ((⟨b, off, none⟩ : Addr).add j) = some u := by
  intro j u hj
  have hjl : j < gs.length * 3 := by
    rcases Nat.lt_or_ge j (gaV gs).length with h | h
    · rw [gaV_length] at h; exact h
    · rw [List.getElem?_eq_none h] at hj; cases hj
  rw [addn]
  obtain ⟨i, hm⟩ : ∃ i, j = i * 3 ∨ j = i * 3 + 1 ∨ j = i * 3 + 2 := ⟨j / 3, by omega⟩
  obtain ⟨h1, h2, h3⟩ := gaV_get gs i (by omega)
  obtain ⟨c1, c2, c3⟩ := hc i (by omega)
  rcases hm with e | e | e <;> subst e
  · rw [h1] at hj; cases hj; exact c1
  · rw [h2] at hj; cases hj; exact c2
  · rw [h3] at hj; cases hj; exact c3
theorem rdg_of_own {w : World} {base g cap : Nat} {gs : List Gau} (h : w.ownsRow base 47 3 (.slice (some ⟨g, 0, none⟩) gs.length cap) gs.length (gaV gs)) (hp : 0 < gs.length) : RdG w (some ⟨g, 0, none⟩) gs := by
  refine .inr ⟨g, 0, rfl, fun i hi => ?_⟩
  obtain ⟨h1, h2, h3⟩ := gaV_get gs i hi
  have c := fun j v hv => h.cells (g := g) rfl j v hv
  refine ⟨?_, ?_, ?_⟩
  · have := c _ _ h1; rw [add_new] at this; rw [Nat.zero_add]; exact this
  · have := c _ _ h2; rw [add_new] at this; rw [Nat.zero_add]; exact this
  · have := c _ _ h3; rw [add_new] at this; rw [Nat.zero_add]; exact this
theorem info47 : (Tryz.prog.info? 47).map (fun i => (i.zero, i.size, i.bytes)) = some (some (.agg #[.int .i64 0, .int .i64 0, .int .i64 0]), 3, 24) := by kernel_rfl
theorem knownB_of2 {lo hi sl ch : Int} {n : Nat} {gs : List Gau} (hr : ruleB lo hi sl ch = true) (hn : 3 ≤ n ∧ n ≤ 24) (hg : (gausB n gs && decide (gs.length ≤ 8)) = true) : knownB lo hi sl ch n gs = true := by
  rw [Bool.and_eq_true] at hg
  unfold knownB
  rw [hr, inB_true (by omega) (by omega), hg.1, hg.2]; rfl
theorem cell_al {w : World} {p : Addr} {v : Value} {o : Obj} (h : w.cell? p = some v) : (w.alloc o).cell? p = some v := ((below_alloc1 w o).cell (lt_of_cellq h)).trans h

set_option maxRecDepth 100000 in
set_option maxHeartbeats 4000000 in
theorem law5 (lo hi sl ch : Int) (p : Option Addr) (cap : Nat) (gs : List Gau) (q : Option Addr) (cap' : Nat) (xs : List Int) (mo : Gau) (w : World) (hy : RdG w p gs) (hx : RdI w q xs) :
    Calls Tryz.prog 5 #[.agg #[.int .i64 lo, .int .i64 hi, .int .i64 sl, .int .i64 ch], .slice p gs.length cap, .slice q xs.length cap', .agg #[.int .i64 mo.step, .int .i64 mo.height, .int .i64 mo.off]] w (LawPost w) := by
  obtain ⟨w0, e0, HS0, k0, k1, k2, k3, b0⟩ := box4 w (.int .i64 lo) (.int .i64 hi) (.int .i64 sl) (.int .i64 ch) 23
  obtain ⟨w1, e1, HS1, m0, m1, m2, b1⟩ := box3 w0 (.int .i64 mo.step) (.int .i64 mo.height) (.int .i64 mo.off) 47
  replace k0 := (b1.cell (lt_of_cellq k0)).trans k0
  replace k1 := (b1.cell (lt_of_cellq k1)).trans k1
  replace k2 := (b1.cell (lt_of_cellq k2)).trans k2
  replace k3 := (b1.cell (lt_of_cellq k3)).trans k3
  have HX := Lib.hid ((hx.below b0).below b1)
  have HY := Lib.hid ((hy.below b0).below b1)
  have HB := Lib.hid (b0.trans (b1.mono b0.size))
  clear hx hy b0 b1
  go_enter Tryz.func5, Tryz.ntmps5
  (go_wp2_with fail); refine (c31 p gs.length cap _).mono ?_; rintro e wn ⟨rfl, rfl⟩
  clear e0 e1
  cases hTT : (decide (gs.length ≤ 11)); (case false => ((clear hTT); (go_wp2_with fail); refine (c25 _).mono ?_; rintro e wn ⟨rfl, bq⟩; replace HB := Lib.hid (HB.out.trans (bq.mono HB.out.size)); clear bq; go_wp2; go_ret; exact ⟨rfl, HB.out⟩)); have S2 := Lib.hid hTT; clear hTT
  (go_wp2_with fail); refine (c24 q xs.length cap' _).mono ?_; rintro e wn ⟨rfl, rfl⟩
  cases hTT : (decide (xs.length ≤ 27)); (case false => ((clear hTT); (go_wp2_with fail); refine (c25 _).mono ?_; rintro e wn ⟨rfl, bq⟩; replace HB := Lib.hid (HB.out.trans (bq.mono HB.out.size)); clear bq; go_wp2; go_ret; exact ⟨rfl, HB.out⟩)); have S1 := Lib.hid hTT; clear hTT
  have hl1 := of_decide_eq_true S1.out
  have hl2 := of_decide_eq_true S2.out
  (go_wp2_with fail); refine (c27 lo hi sl ch _).mono ?_; rintro e wn ⟨rfl, bq⟩; replace HB := Lib.hid (HB.out.trans (bq.mono HB.out.size)); replace HX := Lib.hid (HX.out.below bq); replace HY := Lib.hid (HY.out.below bq); replace k0 := (bq.cell (lt_of_cellq k0)).trans k0; replace k1 := (bq.cell (lt_of_cellq k1)).trans k1; replace k2 := (bq.cell (lt_of_cellq k2)).trans k2; replace k3 := (bq.cell (lt_of_cellq k3)).trans k3; replace m0 := (bq.cell (lt_of_cellq m0)).trans m0; replace m1 := (bq.cell (lt_of_cellq m1)).trans m1; replace m2 := (bq.cell (lt_of_cellq m2)).trans m2; clear bq
  cases hTT : (ruleB lo hi sl ch); (case false => ((clear hTT); (go_wp2_with fail); refine (c25 _).mono ?_; rintro e wn ⟨rfl, bq⟩; replace HB := Lib.hid (HB.out.trans (bq.mono HB.out.size)); clear bq; go_wp2; go_ret; exact ⟨rfl, HB.out⟩)); have HR := Lib.hid hTT; clear hTT
  (go_wp2_with fail); refine (c28 q cap' xs _ HX.out (by omega)).mono ?_; rintro e wn ⟨rfl, rfl⟩
  cases hTT : (camB xs); (case false => ((clear hTT); (go_wp2_with fail); refine (c25 _).mono ?_; rintro e wn ⟨rfl, bq⟩; replace HB := Lib.hid (HB.out.trans (bq.mono HB.out.size)); clear bq; go_wp2; go_ret; exact ⟨rfl, HB.out⟩)); have HC := Lib.hid hTT; clear hTT
  have hl3 := (camB_parts HC.out).1
  have hl24 := (camB_parts HC.out).2.1
  (go_wp2_with fail); refine (c34 (xs.length : Int) p cap gs _ HY.out (by omega) (by omega)).mono ?_; rintro e wn ⟨rfl, rfl⟩
  cases hTT : (gausB (xs.length : Int) gs && decide (gs.length ≤ 8)); (case false => ((clear hTT); (go_wp2_with fail); refine (c25 _).mono ?_; rintro e wn ⟨rfl, bq⟩; replace HB := Lib.hid (HB.out.trans (bq.mono HB.out.size)); clear bq; go_wp2; go_ret; exact ⟨rfl, HB.out⟩)); have HG := Lib.hid hTT; clear hTT
  have HGA := Lib.hid (show gausB (xs.length : Int) gs = true by have h := HG.out; rw [Bool.and_eq_true] at h; exact h.1)
  (go_wp2_with fail); refine (c37 lo hi sl ch p cap gs q cap' xs _ HX.out HY.out HR.out HC.out HGA.out (by omega)).mono ?_; rintro e wn ⟨rfl, bq⟩; replace HB := Lib.hid (HB.out.trans (bq.mono HB.out.size)); replace HX := Lib.hid (HX.out.below bq); replace HY := Lib.hid (HY.out.below bq); replace k0 := (bq.cell (lt_of_cellq k0)).trans k0; replace k1 := (bq.cell (lt_of_cellq k1)).trans k1; replace k2 := (bq.cell (lt_of_cellq k2)).trans k2; replace k3 := (bq.cell (lt_of_cellq k3)).trans k3; replace m0 := (bq.cell (lt_of_cellq m0)).trans m0; replace m1 := (bq.cell (lt_of_cellq m1)).trans m1; replace m2 := (bq.cell (lt_of_cellq m2)).trans m2; clear bq
  cases hTT : (truB lo hi sl ch gs xs); (case false => ((clear hTT); (go_wp2_with fail); refine (c25 _).mono ?_; rintro e wn ⟨rfl, bq⟩; replace HB := Lib.hid (HB.out.trans (bq.mono HB.out.size)); clear bq; go_wp2; go_ret; exact ⟨rfl, HB.out⟩)); have HT := Lib.hid hTT; clear hTT
  have HTR := Lib.hid (truB_iff.1 HT.out)
  have HKB := Lib.hid (knownB_of2 HR.out (n := xs.length) (by omega) HG.out)
  have HKO := Lib.hid ((known_iff (n := xs.length) HR.out (by omega) HGA.out).2 ⟨xs, HTR.out⟩)
  have HLW := Lib.hid (fun i (hi' : i < xs.length) => (known_law (n := xs.length) HR.out (by omega) HGA.out HKO.out i hi').2.2 xs HTR.out)
  have hLA := boundL_len (lo := lo) (hi := hi) (sl := sl) (ch := ch) (n := xs.length) (gs := gs)
  obtain ⟨A1, hA1⟩ : ∃ A1, boundL sl ch (gaTo lo hi xs.length gs gs.length) = A1 := ⟨_, rfl⟩
  rw [hA1] at hLA HLW
  have HA1 := Lib.hid hA1
  have HLA := Lib.hid hLA
  have hxl : ((xs.length : Int) != (xs.length : Int)) = false := by simp
  clear hA1 hLA
  (go_wp2_with fail); refine (c32_ok HY.out (by omega) HKB.out HKO.out).mono ?_; rw [HA1.out]; rintro e wn ⟨⟨g1, rfl, hr⟩, bq⟩; replace HB := Lib.hid (HB.out.trans (bq.mono HB.out.size)); replace HX := Lib.hid (HX.out.below bq); replace HY := Lib.hid (HY.out.below bq); replace k0 := (bq.cell (lt_of_cellq k0)).trans k0; replace k1 := (bq.cell (lt_of_cellq k1)).trans k1; replace k2 := (bq.cell (lt_of_cellq k2)).trans k2; replace k3 := (bq.cell (lt_of_cellq k3)).trans k3; replace m0 := (bq.cell (lt_of_cellq m0)).trans m0; replace m1 := (bq.cell (lt_of_cellq m1)).trans m1; replace m2 := (bq.cell (lt_of_cellq m2)).trans m2; clear bq
  have HR1 := Lib.hid (RowS.rd hr)
  clear hr
  go_wp2
  go_loopw [11] (fun v wx => ∃ i : Nat, i ≤ xs.length ∧ v = .int .i64 i ∧ Hid (Below wn.heap.size wn wx)) (fun v _ => xs.length - (intOf v).toNat)
  case atStart => exact ⟨0, Nat.zero_le _, rfl, Lib.hid (Below.refl _ _)⟩
  case round =>
    obtain ⟨i, hi', rfl, HL⟩ := hrel
    by_cases hil : i < xs.length
    · have hilI : decide ((i : Int) < (xs.length : Int)) = true := by simp; omega
      obtain ⟨b1, o1, q1, hc1⟩ := (HR1.out.below HL.out).at (i := i) (by rw [HLA.out]; exact hil)
      obtain ⟨b2, o2, q2, hc2⟩ := (HX.out.below HL.out).at hil
      cases q1
      subst q2
      obtain ⟨y1, y2⟩ := hc1 i (by rw [HLA.out]; exact hil)
      have y3 := hc2 i hil
      obtain ⟨v1, v2⟩ := HLW.out i hil
      rw [gs_spn] at y1 y2
      simp only [Nat.zero_add] at y1 y2
      clear hc1 hc2
      generalize (spn A1 i).1 = a1 at *
      generalize (spn A1 i).2 = a2 at *
      generalize gi xs i = x at *
      have z1 : decide (x < a1) = false := by simp; omega
      have z2 : decide (x > a2) = false := by simp; omega
      have z3 : decide (a2 < x) = false := by simp; omega
      go_wp2
      go_quiet (fail)
      go_wp2
      go_roundw
      case rel => exact ⟨i + 1, by omega, by go_num, Lib.hid (below_drewN HL.out _)⟩
      case measure => simp [intOf]; omega
    · obtain rfl : i = xs.length := by omega
      have hilI : decide ((xs.length : Int) < (xs.length : Int)) = false := by simp
      (have bq := HL.out); replace HB := Lib.hid (HB.out.trans (bq.mono HB.out.size)); replace HX := Lib.hid (HX.out.below bq); replace HY := Lib.hid (HY.out.below bq); replace HR1 := Lib.hid (HR1.out.below bq); replace k0 := (bq.cell (lt_of_cellq k0)).trans k0; replace k1 := (bq.cell (lt_of_cellq k1)).trans k1; replace k2 := (bq.cell (lt_of_cellq k2)).trans k2; replace k3 := (bq.cell (lt_of_cellq k3)).trans k3; replace m0 := (bq.cell (lt_of_cellq m0)).trans m0; replace m1 := (bq.cell (lt_of_cellq m1)).trans m1; replace m2 := (bq.cell (lt_of_cellq m2)).trans m2; clear bq
      obtain ⟨wn, rfl⟩ : ∃ wn : World, wn = wr := ⟨_, rfl⟩
      obtain ⟨i0, hi0, hz0, hz1, hz2⟩ := info_parts info47
      clear hil hi' HLW
      rcases Nat.eq_zero_or_pos gs.length with hg0 | hg0
      case' inl =>
        have hgn : gs = [] := List.length_eq_zero_iff.1 hg0
        cases p
        all_goals go_wp2
        all_goals go_region_law (refine step_append_lies _ rfl _ _ 35 rfl wn.heap.size 47 i0 _ 3 24 Tryz.underlying35 hi0 hz0 hz1 hz2 rfl (by decide) (.slice none 0 0) 0 [] rfl (World.ownsRow_nil _ _ _ _) _ 1 1 [.int .i64 mo.step, .int .i64 mo.height, .int .i64 mo.off] rfl rfl (fun j u hj => by exact news_of wn _ 47 j u hj) (by intro u hu; simp at hu; rcases hu with rfl | rfl | rfl <;> rfl) (by decide) (by unfold maxLen; omega) (by omega) (by simp) _ rfl ?_; intro g2 ca2 wb hown2 hgrow2 hat2 hlt2)
        all_goals
          have hbb : Below wn.heap.size wn wb := by first | exact ((Below.refl wn.heap.size wn).alloc (Nat.le_refl _) _).drew.grown hgrow2 (by simp) (fun j hj => by simp [Value.ownBlock] at hj) | exact ((Below.refl wn.heap.size wn).drew.alloc (Nat.le_refl _) _).grown hgrow2 (by simp) (fun j hj => by simp [Value.ownBlock] at hj)
          obtain ⟨gt, hgt⟩ : ∃ gt, gs ++ [mo] = gt := ⟨_, rfl⟩
          have hgl2 : gt.length = 0 + 1 := by rw [← hgt, hgn]; rfl
          have hrg : RdG wb (some ⟨g2, 0, none⟩) gt := rdg_of_own (cap := ca2) (by rw [hgl2, ← hgt, hgn]; exact hown2) (by omega)
          have hsl : Value.slice (some ⟨g2, 0, none⟩) 1 ca2 = Value.slice (some ⟨g2, 0, none⟩) gt.length ca2 := by rw [hgl2]
          first | rw [hsl] | (simp only [Nat.zero_add]; rw [hsl])
          have HRG := Lib.hid hrg
          have HGE := Lib.hid hgt
          have HGT := Lib.hid (show gt.length = gs.length + 1 by rw [hgl2, hg0])
          have HG0 := Lib.hid hg0
          (have bq := (Lib.hid hbb).out); replace HB := Lib.hid (HB.out.trans (bq.mono HB.out.size)); replace HX := Lib.hid (HX.out.below bq); replace HR1 := Lib.hid (HR1.out.below bq); replace k0 := (bq.cell (lt_of_cellq k0)).trans k0; replace k1 := (bq.cell (lt_of_cellq k1)).trans k1; replace k2 := (bq.cell (lt_of_cellq k2)).trans k2; replace k3 := (bq.cell (lt_of_cellq k3)).trans k3; clear bq
          clear hbb hgt hgl2 hrg hown2 hgrow2 hat2 hlt2 m0 m1 m2 HY hsl hgn hg0
      case' inr =>
        obtain ⟨b, off, rfl, hc⟩ := HY.out.at hg0
        have HGC := Lib.hid (ga_cells hc)
        have hgl := gaV_length gs
        clear hc
        go_wp2
        go_region_law (first
          | (refine step_append_lies _ rfl _ _ 35 rfl wn.heap.size 47 i0 _ 3 24 Tryz.underlying35 hi0 hz0 hz1 hz2 rfl (by decide) (.slice none 0 0) 0 [] rfl (World.ownsRow_nil _ _ _ _) ⟨b, off, none⟩ gs.length cap (gaV gs) rfl hgl (fun j u hj => by first | exact HGC.out j u hj | exact cell_al (HGC.out j u hj)) (gaV_one gs) hg0 (by unfold maxLen; omega) (by omega) (by first | exact Nat.le_refl _ | simp) _ rfl ?_; intro ga ca wa hown1 hgrow1 hat1 hlt1; simp only [Nat.zero_add, List.nil_append] at hown1; have n0 := (hgrow1.cell_far _ (by first | exact lt_of_cellq m0 | exact lt_of_cellq (cell_al m0)) (by simp [Value.ownBlock])).trans (by first | exact m0 | exact cell_al m0); have n1 := (hgrow1.cell_far _ (by first | exact lt_of_cellq m1 | exact lt_of_cellq (cell_al m1)) (by simp [Value.ownBlock])).trans (by first | exact m1 | exact cell_al m1); have n2 := (hgrow1.cell_far _ (by first | exact lt_of_cellq m2 | exact lt_of_cellq (cell_al m2)) (by simp [Value.ownBlock])).trans (by first | exact m2 | exact cell_al m2))
          | (refine step_append_lies _ rfl _ _ 35 rfl wn.heap.size 47 i0 _ 3 24 Tryz.underlying35 hi0 hz0 hz1 hz2 rfl (by decide) _ _ _ rfl (by first | exact hown1.alloc _ | exact hown1) _ 1 1 [.int .i64 mo.step, .int .i64 mo.height, .int .i64 mo.off] rfl rfl (fun j u hj => by first | exact news_of wa _ 47 j u hj | exact (hgrow1.cell_far _ (lt_of_cellq (news_of wn _ 47 j u hj)) (by simp [Value.ownBlock])).trans (news_of wn _ 47 j u hj)) (by intro u hu; simp at hu; rcases hu with rfl | rfl | rfl <;> rfl) (by decide) (by unfold maxLen; omega) (by omega) (by have := hgrow1.size; simp at this ⊢; omega) _ rfl ?_; intro g2 ca2 wb hown2 hgrow2 hat2 hlt2))
        all_goals
          have hba : Below wn.heap.size wn wa := by first | exact (Below.refl wn.heap.size wn).drew.grown hgrow1 (Nat.le_refl _) (fun j hj => by simp [Value.ownBlock] at hj) | exact ((Below.refl wn.heap.size wn).alloc (Nat.le_refl _) _).drew.grown hgrow1 (by simp) (fun j hj => by simp [Value.ownBlock] at hj)
          have hbb : Below wn.heap.size wn wb := by first | exact hba.grown hgrow2 hba.size (fun j hj => (hown1.lt j hj).1) | exact (hba.alloc hba.size _).grown hgrow2 (by have := hba.size; simp; omega) (fun j hj => (hown1.lt j hj).1)
          obtain ⟨gt, hgt⟩ : ∃ gt, gs ++ [mo] = gt := ⟨_, rfl⟩
          have hgl2 : gt.length = gs.length + 1 := by rw [← hgt]; simp
          have hrg : RdG wb (some ⟨g2, 0, none⟩) gt := rdg_of_own (cap := ca2) (by rw [hgl2, ← hgt, gaV_append]; exact hown2) (by omega)
          rw [← hgl2]
          have HRG := Lib.hid hrg
          have HGE := Lib.hid hgt
          have HGT := Lib.hid hgl2
          (have bq := (Lib.hid hbb).out); replace HB := Lib.hid (HB.out.trans (bq.mono HB.out.size)); replace HX := Lib.hid (HX.out.below bq); replace HR1 := Lib.hid (HR1.out.below bq); replace k0 := (bq.cell (lt_of_cellq k0)).trans k0; replace k1 := (bq.cell (lt_of_cellq k1)).trans k1; replace k2 := (bq.cell (lt_of_cellq k2)).trans k2; replace k3 := (bq.cell (lt_of_cellq k3)).trans k3; clear bq
          clear hba hbb hgt hgl2 hrg hown1 hown2 hgrow1 hgrow2 hat1 hat2 hlt1 hlt2 n0 n1 n2 m0 m1 m2 HGC HY hgl
      all_goals
        (go_wp2_with fail); refine (c34 (xs.length : Int) _ ca2 gt _ HRG.out (by have := HGT.out; omega) (by omega)).mono ?_; rintro e wn ⟨rfl, rfl⟩
        cases hTT : (gausB (xs.length : Int) gt && decide (gt.length ≤ 8)); (case false => ((clear hTT); (go_wp2_with fail); refine (c25 _).mono ?_; rintro e wn ⟨rfl, bq⟩; replace HB := Lib.hid (HB.out.trans (bq.mono HB.out.size)); clear bq; go_wp2; go_ret; exact ⟨rfl, HB.out⟩)); have HG2 := Lib.hid hTT; clear hTT
        have HGA2 := Lib.hid (show gausB (xs.length : Int) gt = true by have h := HG2.out; rw [Bool.and_eq_true] at h; exact h.1)
        (go_wp2_with fail); refine (c37 lo hi sl ch _ ca2 gt q cap' xs _ HX.out HRG.out HR.out HC.out HGA2.out (by have := HGT.out; omega)).mono ?_; rintro e wn ⟨rfl, bq⟩; replace HB := Lib.hid (HB.out.trans (bq.mono HB.out.size)); replace HX := Lib.hid (HX.out.below bq); replace HRG := Lib.hid (HRG.out.below bq); replace HR1 := Lib.hid (HR1.out.below bq); replace k0 := (bq.cell (lt_of_cellq k0)).trans k0; replace k1 := (bq.cell (lt_of_cellq k1)).trans k1; replace k2 := (bq.cell (lt_of_cellq k2)).trans k2; replace k3 := (bq.cell (lt_of_cellq k3)).trans k3; clear bq
        cases hTT : (truB lo hi sl ch gt xs); (case false => ((clear hTT); (go_wp2_with fail); refine (c25 _).mono ?_; rintro e wn ⟨rfl, bq⟩; replace HB := Lib.hid (HB.out.trans (bq.mono HB.out.size)); clear bq; go_wp2; go_ret; exact ⟨rfl, HB.out⟩)); have HT2 := Lib.hid hTT; clear hTT
        have HTR2 := Lib.hid (truB_iff.1 HT2.out)
        have HKB2 := Lib.hid (knownB_of2 HR.out (n := xs.length) (by omega) HG2.out)
        have HKO2 := Lib.hid ((known_iff (n := xs.length) HR.out (by omega) HGA2.out).2 ⟨xs, HTR2.out⟩)
        have HLW2 := Lib.hid (fun i (hi' : i < xs.length) => (known_law (n := xs.length) HR.out (by omega) HGA2.out HKO2.out i hi').2.2 xs HTR2.out)
        have HNW := Lib.hid (known_narrow (n := xs.length) HR.out HR.out (by omega) HGA2.out HGA.out (fun ys h => tru_fewer (by rw [HGE.out]; exact h)) HKO2.out).2
        have hLA2 := boundL_len (lo := lo) (hi := hi) (sl := sl) (ch := ch) (n := xs.length) (gs := gt)
        obtain ⟨A2, hA2⟩ : ∃ A2, boundL sl ch (gaTo lo hi xs.length gt gt.length) = A2 := ⟨_, rfl⟩
        rw [hA2] at hLA2 HLW2 HNW
        rw [HA1.out] at HNW
        have HA2 := Lib.hid hA2
        have HLA2 := Lib.hid hLA2
        clear hA2 hLA2
        (go_wp2_with fail); refine (c32_ok HRG.out (by have := HGT.out; omega) HKB2.out HKO2.out).mono ?_; rw [HA2.out]; rintro e wn ⟨⟨g3, rfl, hr⟩, bq⟩; replace HB := Lib.hid (HB.out.trans (bq.mono HB.out.size)); replace HX := Lib.hid (HX.out.below bq); replace HR1 := Lib.hid (HR1.out.below bq); replace k0 := (bq.cell (lt_of_cellq k0)).trans k0; replace k1 := (bq.cell (lt_of_cellq k1)).trans k1; replace k2 := (bq.cell (lt_of_cellq k2)).trans k2; replace k3 := (bq.cell (lt_of_cellq k3)).trans k3; clear bq
        have HR2 := Lib.hid (RowS.rd hr)
        clear hr
        go_wp2
        go_loopw [15] (fun v wx => ∃ i : Nat, i ≤ xs.length ∧ v = .int .i64 i ∧ Hid (Below wn.heap.size wn wx)) (fun v _ => xs.length - (intOf v).toNat)
        case atStart => exact ⟨0, Nat.zero_le _, rfl, Lib.hid (Below.refl _ _)⟩
        case round =>
          obtain ⟨i, hi', rfl, HL⟩ := hrel
          by_cases hil : i < xs.length
          · have hilI : decide ((i : Int) < (xs.length : Int)) = true := by simp; omega
            obtain ⟨b1, o1, q1, hc1⟩ := (HR1.out.below HL.out).at (i := i) (by rw [HLA.out]; exact hil)
            obtain ⟨b2, o2, q2, hc2⟩ := (HX.out.below HL.out).at hil
            obtain ⟨b3, o3, q3, hc3⟩ := (HR2.out.below HL.out).at (i := i) (by rw [HLA2.out]; exact hil)
            cases q1
            subst q2
            cases q3
            obtain ⟨y1, y2⟩ := hc1 i (by rw [HLA.out]; exact hil)
            obtain ⟨y4, y5⟩ := hc3 i (by rw [HLA2.out]; exact hil)
            have y3 := hc2 i hil
            obtain ⟨v1, v2⟩ := HLW2.out i hil
            obtain ⟨v3, v4⟩ := HNW.out i hil
            rw [gs_spn] at y1 y2 y4 y5
            simp only [Nat.zero_add] at y1 y2 y4 y5
            clear hc1 hc2 hc3
            generalize (spn A1 i).1 = a1 at *
            generalize (spn A1 i).2 = a2 at *
            generalize (spn A2 i).1 = a3 at *
            generalize (spn A2 i).2 = a4 at *
            generalize gi xs i = x at *
            have z1 : decide (x < a3) = false := by simp; omega
            have z2 : decide (x > a4) = false := by simp; omega
            have z3 : decide (a4 < x) = false := by simp; omega
            have z4 : decide (a3 < a1) = false := by simp; omega
            have z5 : decide (a4 > a2) = false := by simp; omega
            have z6 : decide (a2 < a4) = false := by simp; omega
            go_wp2
            go_quiet (fail)
            go_wp2
            go_roundw
            case rel => exact ⟨i + 1, by omega, by go_num, Lib.hid (below_drewN HL.out _)⟩
            case measure => simp [intOf]; omega
          · obtain rfl : i = xs.length := by omega
            have hilI : decide ((xs.length : Int) < (xs.length : Int)) = false := by simp
            (have bq := HL.out); replace HB := Lib.hid (HB.out.trans (bq.mono HB.out.size)); replace k0 := (bq.cell (lt_of_cellq k0)).trans k0; replace k1 := (bq.cell (lt_of_cellq k1)).trans k1; replace k2 := (bq.cell (lt_of_cellq k2)).trans k2; replace k3 := (bq.cell (lt_of_cellq k3)).trans k3; clear bq
            (go_wp2_with fail); refine (c25 _).mono ?_; rintro e wn ⟨rfl, bq⟩; replace HB := Lib.hid (HB.out.trans (bq.mono HB.out.size)); clear bq; go_wp2; go_ret; exact ⟨rfl, HB.out⟩
end Go.Proofs.YtncfgkhbenmpoaaGreatDoor
end
