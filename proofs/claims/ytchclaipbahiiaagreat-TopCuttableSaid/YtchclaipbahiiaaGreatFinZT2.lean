/-
  The teeth of a train: contract.
  TopCuttable: walk (printed by x6.py).
  The statement TopCuttableSaid: the row. Conditions: none of the input.
-/
import Derived.Test.YtchclaipbahiiaaGreatFZT22
import Derived.Test.YtchclaipbahiiaaGreatFZT23
import Derived.Test.YtchclaipbahiiaaGreatFZT26
import Derived.Test.YtchclaipbahiiaaGreatFZT27
section
namespace Go.Proofs.YtchclaipbahiiaaGreat
open Go Go.RowKit Go.Proofs
set_option linter.unusedVariables false
set_option linter.unusedSimpArgs false
attribute [local go_sem] imax2 imin2
def teeL (l : List (Int × Int)) : List Int := l.flatMap fun p => [p.1, p.2]
theorem teeL_len (l : List (Int × Int)) : (teeL l).length = 2 * l.length := by
  unfold teeL
  induction l with
  | nil => rfl
  | cons a r ih => simp only [List.flatMap_cons, List.length_append, List.length_cons, List.length_nil, ih]; omega
theorem teeL_succ {l : List (Int × Int)} {k : Nat} (h : k < l.length) : inV (teeL (l.take (k + 1))) = inV (teeL (l.take k)) ++ [.int .i64 (gm l k).1, .int .i64 (gm l k).2] := by
  unfold teeL inV; rw [List.take_add_one, List.getElem?_eq_getElem h, gm_get _ _ h, List.flatMap_append, List.map_append]
  rfl
theorem teeL_mem {l : List (Int × Int)} {x : Int} (h : x ∈ teeL l) : ∃ i, i < l.length ∧ (x = (gm l i).1 ∨ x = (gm l i).2) := by
  unfold teeL at h; rw [List.mem_flatMap] at h; obtain ⟨p, hp, hx⟩ := h; obtain ⟨i, hi, rfl⟩ := List.getElem_of_mem hp; refine ⟨i, hi, ?_⟩; rw [gm_get _ _ hi]
  simpa using hx
def TeePost (l : List (Int × Int)) (w : World) (e : Ending) (w' : World) : Prop := ∃ q c, e = .returned (.slice q (teeL l).length c) ∧ RdI w' q (teeL l) ∧ Below w.heap.size w w'
set_option maxHeartbeats 800000 in
set_option maxRecDepth 100000 in
theorem x_teeth20 (p : Option Addr) (c : Nat) (l : List (Int × Int)) (w : World) (hx : RdS w p l) (hl : l.length ≤ 1000) :
    Calls Tryz.prog 11 #[.slice p l.length c] w (TeePost l w) := by
  obtain ⟨i0, hi0, hz0, hz1, hz2⟩ := info_parts infI; have HX := Lib.hid hx; clear hx
  go_enter Tryz.func11, Tryz.ntmps11
  go_wp2
  go_loopw [3, 4] (fun v i wr => ∃ k : Nat, k ≤ l.length ∧ i = .int .i64 k ∧ Hid (wr.ownsRow w.heap.size 3 1 v (2 * k) (inV (teeL (l.take k)))) ∧ Hid (Below w.heap.size w wr)) (fun _ i _ => l.length - (intOf i).toNat)
  case atStart => exact ⟨0, Nat.zero_le _, rfl, Lib.hid (World.ownsRow_nil _ _ _ _), Lib.hid (Below.refl _ _)⟩
  case round =>
    obtain ⟨k, hk, rfl, HV, HB⟩ := hrel
    by_cases hlt : k < l.length
    · have hltI : decide ((k : Int) < (l.length : Int)) = true := decide_eq_true (by omega)
      have hkI : (k : Int) < (l.length : Int) := by omega
      have hwk : IntKind.i64.wrap ((k : Int) + 1) = (k : Int) + 1 := w64 _ (by omega) (by omega); obtain ⟨b, off, rfl, hc⟩ := HX.out.at hlt; obtain ⟨d0, d1⟩ := hc k hlt; have HT := Lib.hid (teeL_succ hlt); obtain ⟨T1, hT1⟩ : ∃ T1, (gm l k).1 = T1 := ⟨_, rfl⟩; obtain ⟨T2, hT2⟩ : ∃ T2, (gm l k).2 = T2 := ⟨_, rfl⟩; rw [hT1] at d0 HT; rw [hT2] at d1 HT; have HSK := Lib.hid (cl2 d0 d1); have d0 := (HB.out.cell (lt_of_cellq d0)).trans d0; have d1 := (HB.out.cell (lt_of_cellq d1)).trans d1; clear hc hT1 hT2; go_wp2_with fail; refine held2 d0 d1 (fun W0 hb0 => ?_); have HV0 := Lib.hid (own_kept HV.out hb0); have HBW := Lib.hid (HB.out.trans (hb0.mono HB.out.size)); clear hb0 d0 d1; refine tk 0 rfl (by exact HSK.out _ HBW.out) ?_; (try simp only [Act.put, ptL]); refine tk 1 rfl (by exact HSK.out _ HBW.out) ?_; (try simp only [Act.put, ptL]); refine tk 2 rfl (by exact HSK.out _ HBW.out) ?_; (try simp only [Act.put, ptL]); refine tk 3 rfl (by exact HSK.out _ HBW.out) ?_; (try simp only [Act.put, ptL]); refine tk 4 rfl (by exact HSK.out _ HBW.out) ?_; (try simp only [Act.put, ptL]); refine tk 5 rfl (by exact HSK.out _ HBW.out) ?_; (try simp only [Act.put, ptL]); refine tk 6 rfl (by exact HSK.out _ HBW.out) ?_; (try simp only [Act.put, ptL]); refine tk 7 rfl (by exact HSK.out _ HBW.out) ?_; (try simp only [Act.put, ptL]); refine tk 8 rfl (by exact HSK.out _ HBW.out) ?_; (try simp only [Act.put, ptL]); refine tk 9 rfl (by exact HSK.out _ HBW.out) ?_; (try simp only [Act.put, ptL]); refine tk 10 rfl (by exact HSK.out _ HBW.out) ?_; (try simp only [Act.put, ptL])
      refine rz1 11 rfl ?_; intro K hK; go_simp; obtain ⟨w7, hw7⟩ : ∃ w7, W0.alloc (.cells #[.int .i64 T1, .int .i64 T2] 3) = w7 := ⟨_, rfl⟩; have bd := below_alloc1 W0 (.cells #[.int .i64 T1, .int .i64 T2] 3); rw [hw7] at bd; have HV7 := Lib.hid (own_kept HV0.out bd); have HBW7 := Lib.hid (HBW.out.trans (bd.mono HBW.out.size)); have HNW := Lib.hid (show ∀ j u, ([.int .i64 T1, .int .i64 T2] : List Value)[j]? = some u → w7.cell? ((⟨W0.heap.size, 0, none⟩ : Addr).add j) = some u by rw [← hw7]; exact news_of W0 _ _); obtain ⟨L0, l0⟩ : ∃ X, W0.heap.size = X := ⟨_, rfl⟩; rw [l0] at HNW
      (try rw [l0]); rw [hw7]; clear l0 hw7 bd
      refine kz hK (by exact HSK.out _ HBW7.out) ?_; clear hK K; (try simp only [Act.put, ptL]); refine rz1 12 rfl ?_; intro K hK; refine step_append_lies _ rfl _ _ 23 rfl w.heap.size 3 i0 _ 1 8 Tryz.underlying23 hi0 hz0 hz1 hz2 rfl (by decide) u3 (2 * k) (inV (teeL (l.take k))) rfl HV7.out ⟨L0, 0, none⟩ 2 2 [.int .i64 T1, .int .i64 T2] rfl rfl HNW.out (by intro u hu; simp at hu; rcases hu with rfl | rfl <;> rfl) (by decide) (by unfold maxLen; omega) (by omega) HBW7.out.size _ rfl ?_; intro g' cap' w8 hown' hgrow _ _; have HB8 := Lib.hid (HBW7.out.grown hgrow (by have := HBW7.out.size; omega) (fun j hj => (HV7.out.lt j hj).1)); have HV8 := Lib.hid hown'; clear hown' hgrow; refine kz hK (by exact HSK.out _ HB8.out) ?_; clear hK K; (try simp only [Act.put, ptL]); refine tk 13 rfl (by exact HSK.out _ HB8.out) ?_; (try simp only [Act.put, ptL]); refine wpAnyH_done (by kernel_rfl) ?_ _; go_wp2
      go_roundw
      case rel => exact ⟨k + 1, by omega, by go_num, by rw [HT.out]; exact HV8, HB8⟩
      case measure => simp [intOf]; omega
    · obtain rfl : k = l.length := by omega
      have hkI : ¬ (l.length : Int) < (l.length : Int) := by omega
      have hV := HV.out; rw [List.take_length, ← teeL_len] at hV; obtain ⟨q, c', rfl, hr⟩ := rd_of_own hV; have HR := Lib.hid hr; clear hV hr; go_wp2; go_ret; exact ⟨q, c', rfl, HR.out, HB.out⟩
theorem all_take {f : Int → Bool} {l : List Int} {k : Nat} (h : k < l.length) : (l.take (k + 1)).all f = ((l.take k).all f && f (gi l k)) := by
  rw [List.take_add_one, List.getElem?_eq_getElem h, List.all_append]; simp only [Option.toList_some, List.all_cons, List.all_nil, Bool.and_true]; unfold gi; rw [List.getD_eq_getElem?_getD, List.getElem?_eq_getElem h]
  rfl
set_option maxHeartbeats 3200000 in
set_option maxRecDepth 100000 in
theorem d_cut (p q : Option Addr) (c c' : Nat) (lo hi pr se f1 f2 wm : Int) (nv cs : List Int) (w : World) (hx : RdI w p nv) (hq : RdI w q cs) :
    Calls Tryz.prog 3 #[.agg #[.int .i64 lo, .int .i64 hi, .int .i64 pr, .int .i64 se, .slice p nv.length c], .agg #[.int .i64 f1, .int .i64 f2], .agg #[.int .i64 wm, .slice q cs.length c']] w fun e w' => e = .returned (.bool true) ∧ Below w.heap.size w w' := by
  obtain ⟨i0, hi0, hy0, hy1, hy2⟩ := info_parts infI; obtain ⟨w1, e1, HS1, r0, r1, r2, r3, r4, b1⟩ := box5 w (.int .i64 lo) (.int .i64 hi) (.int .i64 pr) (.int .i64 se) (.slice p nv.length c) 25; obtain ⟨w2, e2, HS2, g0, g1, b2⟩ := box2 w1 (.int .i64 f1) (.int .i64 f2) 27; obtain ⟨w3, e3, HS3, d0, d1, b3⟩ := box2 w2 (.int .i64 wm) (.slice q cs.length c') 29; have bb2 := b2.trans (b3.mono b2.size); have r0 := (bb2.cell (lt_of_cellq r0)).trans r0; have r1 := (bb2.cell (lt_of_cellq r1)).trans r1; have r2 := (bb2.cell (lt_of_cellq r2)).trans r2; have r3 := (bb2.cell (lt_of_cellq r3)).trans r3; have r4 := (bb2.cell (lt_of_cellq r4)).trans r4; have g0 := (b3.cell (lt_of_cellq g0)).trans g0; have g1 := (b3.cell (lt_of_cellq g1)).trans g1; have HX := Lib.hid (((hx.below b1).below b2).below b3); have HQ := Lib.hid (((hq.below b1).below b2).below b3); have HB := Lib.hid (b1.trans (bb2.mono b1.size))
  clear hx hq b1 b2 b3 bb2
  go_enter Tryz.func3, Tryz.ntmps3
  go_wp2_with fail; refine (x_rule20 lo hi pr se p c nv _ HX.out).mono ?_; rintro e w4 ⟨b, rfl, hb, b4⟩; have HBB := Lib.hid hb; have HX := Lib.hid (HX.out.below b4); have HQ := Lib.hid (HQ.out.below b4); have HB := Lib.hid (HB.out.trans (b4.mono HB.out.size)); have r0 := (b4.cell (lt_of_cellq r0)).trans r0; have r1 := (b4.cell (lt_of_cellq r1)).trans r1; have r2 := (b4.cell (lt_of_cellq r2)).trans r2; have r3 := (b4.cell (lt_of_cellq r3)).trans r3; have r4 := (b4.cell (lt_of_cellq r4)).trans r4; have g0 := (b4.cell (lt_of_cellq g0)).trans g0; have g1 := (b4.cell (lt_of_cellq g1)).trans g1; have d0 := (b4.cell (lt_of_cellq d0)).trans d0; have d1 := (b4.cell (lt_of_cellq d1)).trans d1; clear b4; clear hb e1 e2 e3
  cases b with
  | false =>
    go_wp2_with fail; refine (d_known _).mono ?_; rintro e wk ⟨rfl, bk⟩; have HBK := Lib.hid (HB.out.trans (bk.mono HB.out.size)); clear bk; go_wp2; go_ret; exact ⟨rfl, HBK.out⟩
  | true =>
  have HRU := Lib.hid (HBB.out rfl); clear HBB; go_wp2_with fail; refine (a_Fraction f1 f2 _).mono ?_; rintro e w5 ⟨b, rfl, hb, b5⟩; have HBB := Lib.hid hb; have HX := Lib.hid (HX.out.below b5); have HQ := Lib.hid (HQ.out.below b5); have HB := Lib.hid (HB.out.trans (b5.mono HB.out.size)); have r0 := (b5.cell (lt_of_cellq r0)).trans r0; have r1 := (b5.cell (lt_of_cellq r1)).trans r1; have r2 := (b5.cell (lt_of_cellq r2)).trans r2; have r3 := (b5.cell (lt_of_cellq r3)).trans r3; have r4 := (b5.cell (lt_of_cellq r4)).trans r4; have g0 := (b5.cell (lt_of_cellq g0)).trans g0; have g1 := (b5.cell (lt_of_cellq g1)).trans g1; have d0 := (b5.cell (lt_of_cellq d0)).trans d0; have d1 := (b5.cell (lt_of_cellq d1)).trans d1; clear b5; clear hb
  cases b with
  | false =>
    go_wp2_with fail; refine (d_known _).mono ?_; rintro e wk ⟨rfl, bk⟩; have HBK := Lib.hid (HB.out.trans (bk.mono HB.out.size)); clear bk; go_wp2; go_ret; exact ⟨rfl, HBK.out⟩
  | true =>
  have HFR := Lib.hid (HBB.out rfl); clear HBB
  by_cases h6 : cs.length ≤ 6
  case neg =>
    have h6I : decide ((6 : Int) < (cs.length : Int)) = true := by simp; omega
    go_wp2_with fail; refine (d_known _).mono ?_; rintro e wk ⟨rfl, bk⟩; have HBK := Lib.hid (HB.out.trans (bk.mono HB.out.size)); clear bk; go_wp2; go_ret; exact ⟨rfl, HBK.out⟩
  have h6I : decide ((6 : Int) < (cs.length : Int)) = false := by simp; omega
  go_wp2_with fail; refine (b_Divider wm q c' cs _ HQ.out h6).mono ?_; rintro e w6 ⟨b, rfl, hb, b6⟩; have HBB := Lib.hid hb; have HX := Lib.hid (HX.out.below b6); have HQ := Lib.hid (HQ.out.below b6); have HB := Lib.hid (HB.out.trans (b6.mono HB.out.size)); have r0 := (b6.cell (lt_of_cellq r0)).trans r0; have r1 := (b6.cell (lt_of_cellq r1)).trans r1; have r2 := (b6.cell (lt_of_cellq r2)).trans r2; have r3 := (b6.cell (lt_of_cellq r3)).trans r3; have r4 := (b6.cell (lt_of_cellq r4)).trans r4; have g0 := (b6.cell (lt_of_cellq g0)).trans g0; have g1 := (b6.cell (lt_of_cellq g1)).trans g1; have d0 := (b6.cell (lt_of_cellq d0)).trans d0; have d1 := (b6.cell (lt_of_cellq d1)).trans d1; clear b6; clear hb
  cases b with
  | false =>
    go_wp2_with fail; refine (d_known _).mono ?_; rintro e wk ⟨rfl, bk⟩; have HBK := Lib.hid (HB.out.trans (bk.mono HB.out.size)); clear bk; go_wp2; go_ret; exact ⟨rfl, HBK.out⟩
  | true =>
  have HDV := Lib.hid (HBB.out rfl); clear HBB; have hn := t_Nearest lo hi pr se p c nv f1 f2 w6 HX.out HRU.out HFR.out.1 HFR.out.2; have hok := fun l h => nrst_ok (l := l) HRU.out (f := (f1, f2)) ⟨HFR.out.1.1, HFR.out.2.1⟩ h
  obtain ⟨NR, hNR⟩ : ∃ x, nrstF (tthF lo hi nv) se pr.toNat (f1, f2) = x := ⟨_, rfl⟩; rw [hNR] at hn hok; clear hNR; unfold NstPost at hn; go_wp2_with fail; refine hn.mono ?_; clear hn
  cases NR with
  | none =>
    rintro e w7 ⟨rfl, b7⟩; have HB := Lib.hid (HB.out.trans (b7.mono HB.out.size)); clear b7; go_wp2_with fail; refine (d_known _).mono ?_; rintro e wk ⟨rfl, bk⟩; have HBK := Lib.hid (HB.out.trans (bk.mono HB.out.size)); clear bk; go_wp2; go_ret; exact ⟨rfl, HBK.out⟩
  | some l =>
  rintro e w7 ⟨⟨pl, cl, rfl, hl⟩, b7⟩; obtain ⟨htl, htm⟩ := hok l rfl; have HL := Lib.hid hl; have HX := Lib.hid (HX.out.below b7); have HQ := Lib.hid (HQ.out.below b7); have HB := Lib.hid (HB.out.trans (b7.mono HB.out.size)); have r0 := (b7.cell (lt_of_cellq r0)).trans r0; have r1 := (b7.cell (lt_of_cellq r1)).trans r1; have r2 := (b7.cell (lt_of_cellq r2)).trans r2; have r3 := (b7.cell (lt_of_cellq r3)).trans r3; have r4 := (b7.cell (lt_of_cellq r4)).trans r4; have g0 := (b7.cell (lt_of_cellq g0)).trans g0; have g1 := (b7.cell (lt_of_cellq g1)).trans g1; have d0 := (b7.cell (lt_of_cellq d0)).trans d0; have d1 := (b7.cell (lt_of_cellq d1)).trans d1; clear b7; have hl3 := htl.2
  have hpair : l.all pairB = true := by
    rw [List.all_eq_true]; intro x hx; obtain ⟨i, hi, rfl⟩ := List.getElem_of_mem hx; have hm := htm i hi; rw [gm_get _ _ hi] at hm; have m1 := mem_tth hm.1; have m2 := mem_tth hm.2; have u1 := HRU.out.flo; have u2 := HRU.out.fhi; unfold pairB; rw [Bool.and_eq_true]; exact ⟨inB_iff.2 (by omega), inB_iff.2 (by omega)⟩
  have htt := a_Train pl cl l w7 HL.out htl hpair; clear hok hl; go_wp2_with fail; refine htt.mono ?_; clear htt; rintro e w8 ⟨rfl, rfl⟩; have hte := x_teeth20 pl cl l w7 HL.out (by omega)
  have HTM := Lib.hid (show ∀ x ∈ teeL l, x ∈ tthF lo hi nv from fun x hx => by
    obtain ⟨i, hi, e⟩ := teeL_mem hx; have hm := htm i hi
    rcases e with rfl | rfl
    · exact hm.1
    · exact hm.2)
  have htz := teeL_len l; obtain ⟨ts, hts⟩ : ∃ ts, teeL l = ts := ⟨_, rfl⟩; unfold TeePost at hte; rw [hts] at hte HTM htz; have hz1 : 1 ≤ ts.length := by omega
  have hz6 : ts.length ≤ 6 := by omega
  clear hts htz htm hpair; go_wp2_with fail; refine hte.mono ?_; clear hte; rintro e w9 ⟨pt, ct, rfl, ht, b9⟩; have HT := Lib.hid ht; have HX := Lib.hid (HX.out.below b9); have HQ := Lib.hid (HQ.out.below b9); have HB := Lib.hid (HB.out.trans (b9.mono HB.out.size)); have r0 := (b9.cell (lt_of_cellq r0)).trans r0; have r1 := (b9.cell (lt_of_cellq r1)).trans r1; have r2 := (b9.cell (lt_of_cellq r2)).trans r2; have r3 := (b9.cell (lt_of_cellq r3)).trans r3; have r4 := (b9.cell (lt_of_cellq r4)).trans r4; have g0 := (b9.cell (lt_of_cellq g0)).trans g0; have g1 := (b9.cell (lt_of_cellq g1)).trans g1; have d0 := (b9.cell (lt_of_cellq d0)).trans d0; have d1 := (b9.cell (lt_of_cellq d1)).trans d1; clear b9; clear ht
  have HTB := Lib.hid (show ∀ i, i < ts.length → 1 ≤ gi ts i ∧ gi ts i ≤ 400 from fun i hi => by
    have m1 := mem_tth (HTM.out _ (gi_mem' hi)); have u1 := HRU.out.flo; have u2 := HRU.out.fhi; omega)
  have HRC := Lib.hid (cl5 r0 r1 r2 r3 r4); have HDC := Lib.hid (cl2 d0 d1); go_wp2; clear r0 r1 r2 r3 r4 g0 g1 d0 d1
  go_loopw [10, 12] (fun v i wr => ∃ k : Nat, k ≤ ts.length ∧ v = .bool ((ts.take k).all (cutB wm cs)) ∧ i = .int .i64 k ∧ Hid (Below w9.heap.size w9 wr)) (fun _ i _ => ts.length - (intOf i).toNat)
  case atStart => exact ⟨0, Nat.zero_le _, rfl, rfl, Lib.hid (Below.refl _ _)⟩
  case round =>
    obtain ⟨k, hk, rfl, rfl, HBr⟩ := hrel
    by_cases hlt : k < ts.length
    · have hltI : decide ((k : Int) < (ts.length : Int)) = true := decide_eq_true (by omega)
      have hkI : (k : Int) < (ts.length : Int) := by omega
      have hwk : IntKind.i64.wrap ((k : Int) + 1) = (k : Int) + 1 := w64 _ (by omega) (by omega); obtain ⟨d0, d1⟩ := HDC.out _ HBr.out; obtain ⟨bt, ot, rfl, hc⟩ := HT.out.at hlt; have t0 := (HBr.out.cell (lt_of_cellq (hc k hlt))).trans (hc k hlt); have HAT := Lib.hid (all_take (f := cutB wm cs) hlt); obtain ⟨B, hB⟩ : ∃ B, (ts.take k).all (cutB wm cs) = B := ⟨_, rfl⟩; rw [hB] at HAT
      (try rw [hB])
      clear hc hB
      cases B with
      | false =>
        go_wp2_with fail; have HSK := Lib.hid (cl3 d0 d1 t0); refine held3 d0 d1 t0 (fun W0 hb0 => ?_); have HB0 := Lib.hid hb0; clear hb0 d0 d1 t0; refine tk 0 rfl (by exact HSK.out _ HB0.out) ?_; (try simp only [Act.put, ptL]); refine tk 1 rfl (by exact HSK.out _ HB0.out) ?_; (try simp only [Act.put, ptL]); refine tu 2 rfl (by exact HSK.out _ HB0.out) ?_; (try simp only [Act.put, ptL]); refine tu 3 rfl (by exact HSK.out _ HB0.out) ?_; (try simp only [Act.put, ptL]); refine tu 4 rfl (by exact HSK.out _ HB0.out) ?_; (try simp only [Act.put, ptL]); refine tu 5 rfl (by exact HSK.out _ HB0.out) ?_; (try simp only [Act.put, ptL]); refine tu 6 rfl (by exact HSK.out _ HB0.out) ?_; (try simp only [Act.put, ptL]); refine tu 7 rfl (by exact HSK.out _ HB0.out) ?_; (try simp only [Act.put, ptL]); refine tk 8 rfl (by exact HSK.out _ HB0.out) ?_; (try simp only [Act.put, ptL]); refine tk 9 rfl (by exact HSK.out _ HB0.out) ?_; (try simp only [Act.put, ptL])
        refine wpAnyH_done (by kernel_rfl) ?_ _; go_wp2; go_roundw
        case rel => exact ⟨k + 1, by omega, by rw [HAT.out]; rfl, by go_num, Lib.hid (HBr.out.trans (HB0.out.mono HBr.out.size))⟩
        case measure => simp [intOf]; omega
      | true =>
        have hcu := fun W (hb : Below wr.heap.size wr W) => x_cut20 wm q c' cs (gi ts k) W ((HQ.out.below HBr.out).below hb) HDV.out (HTB.out k hlt)
        obtain ⟨V, hV⟩ : ∃ V, gi ts k = V := ⟨_, rfl⟩; rw [hV] at hcu t0 HAT; have HCU := Lib.hid hcu; clear hV hcu; go_wp2_with fail; have HSK := Lib.hid (cl3 d0 d1 t0); refine held3 d0 d1 t0 (fun W0 hb0 => ?_); have HB0 := Lib.hid hb0; clear hb0 d0 d1 t0; refine tk 0 rfl (by exact HSK.out _ HB0.out) ?_; (try simp only [Act.put, ptL]); refine tk 1 rfl (by exact HSK.out _ HB0.out) ?_; (try simp only [Act.put, ptL]); refine tk 2 rfl (by exact HSK.out _ HB0.out) ?_; (try simp only [Act.put, ptL]); refine tk 3 rfl (by exact HSK.out _ HB0.out) ?_; (try simp only [Act.put, ptL]); refine tk 4 rfl (by exact HSK.out _ HB0.out) ?_; (try simp only [Act.put, ptL]); refine tk 5 rfl (by exact HSK.out _ HB0.out) ?_; (try simp only [Act.put, ptL]); refine tk 6 rfl (by exact HSK.out _ HB0.out) ?_; (try simp only [Act.put, ptL]); refine rz1 7 rfl ?_; intro K hK; go_simp; refine (HCU.out _ HB0.out).mono ?_
        rintro e W1 ⟨rfl, bq⟩; have HB1 := Lib.hid (HB0.out.trans (bq.mono HB0.out.size)); clear bq; refine kz hK (by exact HSK.out _ HB1.out) ?_; clear hK K; (try simp only [Act.put, ptL]); refine tk 8 rfl (by exact HSK.out _ HB1.out) ?_; (try simp only [Act.put, ptL]); refine tk 9 rfl (by exact HSK.out _ HB1.out) ?_; (try simp only [Act.put, ptL]); refine wpAnyH_done (by kernel_rfl) ?_ _; go_wp2; go_roundw
        case rel => exact ⟨k + 1, by omega, by rw [HAT.out]; rfl, by go_num, Lib.hid (HBr.out.trans (HB1.out.mono HBr.out.size))⟩
        case measure => simp [intOf]; omega
    · obtain rfl : k = ts.length := by omega
      have hkI : ¬ (ts.length : Int) < (ts.length : Int) := by omega
      rw [List.take_length]; obtain ⟨EA, hEA⟩ : ∃ x, ts.all (cutB wm cs) = x := ⟨_, rfl⟩; have HEA := Lib.hid hEA; rw [hEA]; obtain ⟨r0, r1, r2, r3, r4⟩ := HRC.out _ HBr.out; have hlo := HRU.out.flo; have hhi := HRU.out.fhi; have hle := HRU.out.fle; have hn6 := HRU.out.flen; clear hEA; go_wp2; clear r0 r1 r2 r3 r4
      go_loopw [11, 13] (fun v i wx => ∃ (k : Nat) (B : Bool), lo + (k : Int) ≤ hi + 1 ∧ v = .bool B ∧ i = .int .i64 (lo + (k : Int)) ∧ Hid (B = true → ∀ j : Nat, j < k → lbB lo hi nv (lo + (j : Int)) = true → cutB wm cs (lo + (j : Int)) = true) ∧ Hid (Below w9.heap.size w9 wx)) (fun _ i _ => (hi + 1 - intOf i).toNat)
      case atStart => exact ⟨0, true, by omega, rfl, by simp, Lib.hid (fun _ j hj => absurd hj (Nat.not_lt_zero _)), HBr⟩
      case round =>
        obtain ⟨k, B, hk, rfl, rfl, HA, HBx⟩ := hrel; obtain ⟨r0, r1, r2, r3, r4⟩ := HRC.out _ HBx.out; obtain ⟨d0, d1⟩ := HDC.out _ HBx.out
        by_cases hlt : lo + (k : Int) ≤ hi
        · have hltI : decide (lo + (k : Int) ≤ hi) = true := decide_eq_true hlt
          have hwk : IntKind.i64.wrap (lo + (k : Int) + 1) = lo + (k : Int) + 1 := w64 _ (by omega) (by omega)
          cases B with
          | false =>
            go_wp2; go_roundw
            case rel => exact ⟨k + 1, false, by omega, rfl, by simp; omega, Lib.hid (fun h => by cases h), HBx⟩
            case measure => simp [intOf]; omega
          | true =>
            have hct := a_Cut lo hi pr se p c nv (lo + (k : Int)) _ (HX.out.below HBx.out) hn6
            cases hlb : lbB lo hi nv (lo + (k : Int)) with
            | false =>
              rw [hlb] at hct
              have HNX := Lib.hid (fun j (hj : j < k + 1) (hl : lbB lo hi nv (lo + (j : Int)) = true) => (show cutB wm cs (lo + (j : Int)) = true from by
                rcases Nat.lt_or_ge j k with h1 | h1
                · exact HA.out (by first | rfl | trivial) j h1 hl
                · obtain rfl : j = k := by omega
                  rw [hlb] at hl; cases hl))
              clear hlb; go_wp2_with fail; refine hct.mono ?_; clear hct; rintro e wa ⟨rfl, ba⟩; have HBa := Lib.hid (HBx.out.trans (ba.mono HBx.out.size)); clear ba; go_wp2; go_roundw
              case rel => exact ⟨k + 1, true, by omega, rfl, by simp; omega, Lib.hid (fun _ => HNX.out), HBa⟩
              case measure => simp [intOf]; omega
            | true =>
              rw [hlb] at hct; clear hlb; go_wp2_with fail; refine hct.mono ?_; clear hct; rintro e wa ⟨rfl, ba⟩; have HBa := Lib.hid (HBx.out.trans (ba.mono HBx.out.size)); have d0 := (ba.cell (lt_of_cellq d0)).trans d0; have d1 := (ba.cell (lt_of_cellq d1)).trans d1; clear ba; have hcu := x_cut20 wm q c' cs (lo + (k : Int)) wa (HQ.out.below HBa.out) HDV.out (by omega); have hcc : cs.any (canB wm (lo + (k : Int))) = cutB wm cs (lo + (k : Int)) := rfl; rw [hcc] at hcu; obtain ⟨C, hC⟩ : ∃ x, cutB wm cs (lo + (k : Int)) = x := ⟨_, rfl⟩
              have HNX := Lib.hid (fun (h : C = true) j (hj : j < k + 1) (hl : lbB lo hi nv (lo + (j : Int)) = true) => (show cutB wm cs (lo + (j : Int)) = true from by
                rcases Nat.lt_or_ge j k with h1 | h1
                · exact HA.out (by first | rfl | trivial) j h1 hl
                · obtain rfl : j = k := by omega
                  rw [hC]; exact h))
              rw [hC] at hcu; clear hcc hC; go_wp2_with fail; refine hcu.mono ?_; clear hcu; rintro e wb ⟨rfl, bb⟩; have HBb := Lib.hid (HBa.out.trans (bb.mono HBa.out.size)); clear bb; go_wp2; go_roundw
              case rel => exact ⟨k + 1, C, by omega, rfl, by simp; omega, Lib.hid HNX.out, HBb⟩
              case measure => simp [intOf]; omega
        · have hltI : decide (lo + (k : Int) ≤ hi) = false := decide_eq_false hlt
          have HAL := Lib.hid (show B = true → EA = true from fun hB => by
            rw [← HEA.out, List.all_eq_true]; intro t ht; obtain ⟨m1, m2, m3⟩ := mem_tth (HTM.out t ht); obtain ⟨j, hj⟩ := Int.eq_ofNat_of_zero_le (show 0 ≤ t - lo by omega); have e : t = lo + (j : Int) := by omega
            rw [e] at m3 ⊢; exact HA.out hB j (by omega) m3)
          have hci := x_Circles wm q c' cs pt ct ts _ (HQ.out.below HBx.out) HDV.out (HT.out.below HBx.out) ⟨hz1, hz6⟩ (all_of fun j hj => inB_iff.2 (HTB.out j hj)); go_wp2_with fail; clear r0 r1 r2 r3 r4; refine hci.mono ?_; clear hci; rintro e wc ⟨⟨rfl, hno⟩ | ⟨ql, clc, lc, rfl, hrl, hgd⟩, bc⟩
          · have hE : EA = false := by
              cases EA with
              | false => rfl
              | true => rw [suit_full HEA.out] at hno; cases hno
            have hB : B = false := by
              cases B with
              | false => rfl
              | true => rw [HAL.out rfl] at hE; cases hE
            subst hE hB; have HBW := Lib.hid (HB.out.trans ((HBx.out.trans (bc.mono HBx.out.size)).mono HB.out.size)); clear hno bc; go_wp2_with fail; refine (d_known _).mono ?_; rintro e wk ⟨rfl, bk⟩; have HBK := Lib.hid (HBW.out.trans (bk.mono HBW.out.size)); clear bk; go_wp2; go_ret; exact ⟨rfl, HBK.out⟩
          · have hE : EA = true := by rw [← HEA.out]; exact suit_each hgd.suit hgd.inl
            subst hE; have HBc := Lib.hid (HBx.out.trans (bc.mono HBx.out.size)); have d0 := (bc.cell (lt_of_cellq d0)).trans d0; have d1 := (bc.cell (lt_of_cellq d1)).trans d1; have HRL := Lib.hid hrl; have HGD := Lib.hid hgd; have hlc1 := suit_ne hgd.suit hz1; have hlc2 := hgd.len; have hlcI : decide ((cs.length : Int) < (lc.length : Int)) = false := decide_eq_false (by omega); have hlcN : decide (cs.length < lc.length) = false := decide_eq_false (by omega); have HQc := Lib.hid (HQ.out.below HBc.out); have HTc := Lib.hid (HT.out.below HBc.out); have HBW := Lib.hid (HB.out.trans (HBc.out.mono HB.out.size)); clear hrl hgd bc HAL; obtain ⟨wA, eo, HSA, _, _, bA⟩ := box2 wc (.int .i64 wm) (.slice none 0 0) 29; have kp := alloc_new wc (.cells #[.int .i64 wm, .slice none 0 0] 29); rw [eo] at kp; obtain ⟨wo, so, co, fo, kp, _, HZo, hbo⟩ := pt2_1 wA wc.heap.size 29 _ _ (.slice none 0 0) kp; have bo := hbo wc wc.heap.size (Nat.le_refl _) bA
            have HSo := Lib.hid (show wc.heap.size + 1 ≤ wo.heap.size by have := HZo.out; have := HSA.out; omega); have HKP := Lib.hid kp; have HBo := Lib.hid bo; have HDD := Lib.hid (cl2 d0 d1); clear hbo bA kp bo; go_wp2_with fail; clear so co fo eo d0 d1
            go_loopw [17] (fun i wr => ∃ (k : Nat) (v : Value), k ≤ lc.length ∧ i = .int .i64 k ∧ Hid (wr.heap[wc.heap.size]? = some (.cells #[.int .i64 wm, v] 29 (0, 0))) ∧ Hid (wr.ownsRow wo.heap.size 3 1 v k (inV (ownL cs (lc.take k)))) ∧ Hid (wo.heap.size ≤ wr.heap.size) ∧ Hid (Below wc.heap.size wc wr)) (fun i _ => lc.length - (intOf i).toNat)
            case atStart => exact ⟨0, _, Nat.zero_le _, rfl, HKP, Lib.hid (World.ownsRow_nil _ _ _ _), Lib.hid (Nat.le_refl _), HBo⟩
            case round =>
              obtain ⟨k, v, hk, rfl, HK, HV, HSZ, HBr⟩ := hrel
              by_cases hlt : k < lc.length
              · have hltI : decide ((k : Int) < (lc.length : Int)) = true := decide_eq_true (by omega)
                have hkI : (k : Int) < (lc.length : Int) := by omega
                have hwk : IntKind.i64.wrap ((k : Int) + 1) = (k : Int) + 1 := w64 _ (by omega) (by omega); have hin := HGD.out.inl k hlt; have HOS := Lib.hid (ownL_succ (cs := cs) hlt); obtain ⟨bl, ol, rfl, hcl⟩ := HRL.out.at hlt; have l0 := hcl k hlt; obtain ⟨m, hm⟩ := Int.eq_ofNat_of_zero_le hin.1; have hm2 : m < cs.length := by omega
                obtain ⟨bc, oc, rfl, hcc⟩ := HQc.out.at hm2; have c0 := hcc m hm2; rw [hm] at l0 HOS; rw [Int.toNat_natCast] at HOS; obtain ⟨G, hG⟩ : ∃ G, gi cs m = G := ⟨_, rfl⟩; rw [hG] at c0 HOS; have HSK := Lib.hid (show ∀ X : World, Below wc.heap.size wc X → X.heap[wc.heap.size]? = some (.cells #[.int .i64 wm, v] 29 (0, 0)) → X.cell? ⟨wc.heap.size, 1, none⟩ = some v ∧ X.cell? ⟨w2.heap.size, 1, none⟩ = some (.slice (some ⟨bc, oc, none⟩) cs.length c') ∧ X.cell? ⟨bl, ol + k, none⟩ = some (.int .i64 m) ∧ X.cell? ⟨bc, oc + m, none⟩ = some (.int .i64 G) from fun X hb hk => ⟨(cells2 hk).2, (HDD.out X hb).2, (hb.cell (lt_of_cellq l0)).trans l0, (hb.cell (lt_of_cellq c0)).trans c0⟩); obtain ⟨x0, x1, x2, x3⟩ := HSK.out _ HBr.out HK.out; have hm0I : decide ((m : Int) < 0) = false := by simp
                have hm0N : ¬ (m : Int) < 0 := by omega
                have hmcI : decide ((cs.length : Int) ≤ (m : Int)) = false := decide_eq_false (by omega); have hmcL : (m : Int) < (cs.length : Int) := by omega
                clear hcl hcc hin hm hG l0 c0; go_wp2_with fail; have HS2 := Lib.hid (cl2 x1 x2); refine held2 x1 x2 (fun W0 hb0 => ?_); have HB0 := Lib.hid hb0; clear hb0 x0 x1 x2 x3; refine tk 0 rfl (by exact HS2.out _ HB0.out) ?_; (try simp only [Act.put, ptL]); refine tk 1 rfl (by exact HS2.out _ HB0.out) ?_; (try simp only [Act.put, ptL]); refine tk 2 rfl (by exact HS2.out _ HB0.out) ?_; (try simp only [Act.put, ptL]); refine tk 3 rfl (by exact HS2.out _ HB0.out) ?_; (try simp only [Act.put, ptL]); refine tk 4 rfl (by exact HS2.out _ HB0.out) ?_; (try simp only [Act.put, ptL]); refine tk 5 rfl (by exact HS2.out _ HB0.out) ?_; (try simp only [Act.put, ptL]); refine tk 6 rfl (by exact HS2.out _ HB0.out) ?_; (try simp only [Act.put, ptL]); refine tk 7 rfl (by exact HS2.out _ HB0.out) ?_; (try simp only [Act.put, ptL]); refine tk 8 rfl (by exact HS2.out _ HB0.out) ?_; (try simp only [Act.put, ptL]); refine tk 9 rfl (by exact HS2.out _ HB0.out) ?_; (try simp only [Act.put, ptL]); refine tk 10 rfl (by exact HS2.out _ HB0.out) ?_; (try simp only [Act.put, ptL]); refine tk 11 rfl (by exact HS2.out _ HB0.out) ?_; (try simp only [Act.put, ptL]); refine tk 12 rfl (by exact HS2.out _ HB0.out) ?_; (try simp only [Act.put, ptL]); refine tk 13 rfl (by exact HS2.out _ HB0.out) ?_; (try simp only [Act.put, ptL]); refine tk 14 rfl (by exact HS2.out _ HB0.out) ?_; (try simp only [Act.put, ptL])
                refine wpAnyH_done (by kernel_rfl) ?_ _; have HB1 := Lib.hid (HBr.out.trans (HB0.out.mono HBr.out.size)); have HK1 := Lib.hid ((HB0.out.block _ (block_lt HK.out)).trans HK.out); have HV1 := Lib.hid (own_kept HV.out HB0.out); have HSZ1 := Lib.hid (Nat.le_trans HSZ.out HB0.out.size); go_wp2_with fail; refine heldT (S := fun w' => w'.cell? ⟨wc.heap.size, 1, none⟩ = some v ∧ w'.cell? ⟨w2.heap.size, 1, none⟩ = some (.slice (some ⟨bc, oc, none⟩) cs.length c') ∧ w'.cell? ⟨bl, ol + k, none⟩ = some (.int .i64 m) ∧ w'.cell? ⟨bc, oc + m, none⟩ = some (.int .i64 G)) (S2 := fun _ => True) (fun i => i == 13) (by kernel_rfl) (fun W1 hb1 heq => ?_); have HB2 := Lib.hid (HB1.out.trans (hb1.mono HB1.out.size)); have HK2 := Lib.hid ((hb1.block _ (block_lt HK1.out)).trans HK1.out); have HV2 := Lib.hid (own_kept HV1.out hb1); have HSZ2 := Lib.hid (Nat.le_trans HSZ1.out hb1.size); clear hb1 heq
                refine tkT 0 rfl (by exact ⟨HSK.out _ HB2.out HK2.out, trivial⟩) ?_; (try simp only [Act.put, ptL]); refine tkT 1 rfl (by exact ⟨HSK.out _ HB2.out HK2.out, trivial⟩) ?_; (try simp only [Act.put, ptL]); refine tkT 2 rfl (by exact ⟨HSK.out _ HB2.out HK2.out, trivial⟩) ?_; (try simp only [Act.put, ptL]); refine tkT 3 rfl (by exact ⟨HSK.out _ HB2.out HK2.out, trivial⟩) ?_; (try simp only [Act.put, ptL]); refine tkT 4 rfl (by exact ⟨HSK.out _ HB2.out HK2.out, trivial⟩) ?_; (try simp only [Act.put, ptL]); refine tkT 5 rfl (by exact ⟨HSK.out _ HB2.out HK2.out, trivial⟩) ?_; (try simp only [Act.put, ptL]); refine tkT 6 rfl (by exact ⟨HSK.out _ HB2.out HK2.out, trivial⟩) ?_; (try simp only [Act.put, ptL]); refine tkT 7 rfl (by exact ⟨HSK.out _ HB2.out HK2.out, trivial⟩) ?_; (try simp only [Act.put, ptL]); refine tkT 8 rfl (by exact ⟨HSK.out _ HB2.out HK2.out, trivial⟩) ?_; (try simp only [Act.put, ptL]); refine tkT 9 rfl (by exact ⟨HSK.out _ HB2.out HK2.out, trivial⟩) ?_; (try simp only [Act.put, ptL])
                refine rz1T 10 rfl ?_; intro K hK; go_simp; obtain ⟨w7, hw7⟩ : ∃ w7, W1.alloc (.cells #[.int .i64 G] 3) = w7 := ⟨_, rfl⟩; have bd := below_alloc1 W1 (.cells #[.int .i64 G] 3); have hnl := alloc_new W1 (.cells #[.int .i64 G] 3); rw [hw7] at bd hnl; have HK7 := Lib.hid ((bd.block _ (block_lt HK2.out)).trans HK2.out); have HV7 := Lib.hid (own_kept HV2.out bd); have HB7 := Lib.hid (HB2.out.trans (bd.mono HB2.out.size)); have HSZ7 := Lib.hid (Nat.le_trans HSZ2.out bd.size); obtain ⟨L0, l0⟩ : ∃ X, W1.heap.size = X := ⟨_, rfl⟩; rw [l0] at hnl; have HNL := Lib.hid hnl
                (try rw [l0]); rw [hw7]; clear l0 hw7 bd hnl
                refine kzS hK (by exact ⟨HSK.out _ HB7.out HK7.out, trivial⟩) ?_; clear hK K; (try simp only [Act.put, ptL]); refine rz1T 11 rfl ?_; intro K hK; refine step_append_lies _ rfl _ _ 23 rfl wo.heap.size 3 i0 _ 1 8 Tryz.underlying23 hi0 hy0 hy1 hy2 rfl (by decide) v k (inV (ownL cs (lc.take k))) rfl HV7.out ⟨L0, 0, none⟩ 1 1 [.int .i64 G] rfl rfl (World.news_of_block HNL.out) (by intro u hu; simp at hu; subst hu; rfl) (by decide) (by unfold maxLen; omega) (by omega) (by have := HSZ7.out; omega) _ rfl ?_; intro g' cap' w8 hown' hgrow _ _; have hd1 := (hgrow.block _ (block_lt HK7.out) (own_notE2 HK7.out (by have := HSo.out; omega) HV7.out)).trans HK7.out; have HB8 := Lib.hid (HB7.out.grown hgrow (by have := HB7.out.size; omega) (fun j hj => by have := (HV7.out.lt j hj).1; have := HSo.out; omega)); refine kzS hK (by exact ⟨HSK.out _ HB8.out hd1, trivial⟩) ?_; clear hK K; (try simp only [Act.put, ptL])
                refine tkT 12 rfl (by exact ⟨HSK.out _ HB8.out hd1, trivial⟩) ?_; (try simp only [Act.put, ptL]); obtain ⟨w9', s1, c0', f0', hx4, hxk, HZ9, hxb⟩ := pt2_1 w8 wc.heap.size 29 _ _ (.slice (some ⟨g', 0, none⟩) (k + 1) cap') hd1; have HKn := Lib.hid hx4; have HVn := Lib.hid (own_same hown' (fun g'' hg'' => hxk g'' (by have := (hown'.lt g'' hg'').1; have := HSo.out; omega))); have HBn := Lib.hid (hxb wc wc.heap.size (Nat.le_refl _) HB8.out); have HSZn := Lib.hid (show wo.heap.size ≤ w9'.heap.size from by have := HZ9.out; have := hgrow.size; have := HSZ7.out; omega); clear hd1 hx4 hxk hxb hown' hgrow; refine rz1T 13 rfl ?_; intro K hK; go_simp; refine kzT hK ⟨fun hh => (by cases hh), by exact trivial⟩ ?_; clear hK K; (try simp only [Act.put, ptL]); refine doneT (by kernel_rfl) ?_ _; go_wp2; go_roundw
                case rel => exact ⟨k + 1, _, by omega, by go_num, HKn, by rw [HOS.out]; exact HVn, HSZn, HBn⟩
                case measure => simp [intOf]; omega
              · obtain rfl : k = lc.length := by omega
                have hkI : ¬ (lc.length : Int) < (lc.length : Int) := by omega
                have hV := HV.out; rw [List.take_length, ← ownL_len cs lc] at hV; obtain ⟨qo, co, rfl, hro⟩ := rd_of_own hV; have HRO := Lib.hid hro; have HDO := Lib.hid (own_ok HDV.out HGD.out.inl hlc1 hlc2); have HOK := Lib.hid (cl2 (cells2 HK.out).1 (cells2 HK.out).2); have HTr := Lib.hid (HTc.out.below HBr.out); have HBZ := Lib.hid (HBW.out.trans (HBr.out.mono HBW.out.size)); have HSU := Lib.hid (fun k (hk : k < ts.length) => (show (ownL cs lc).any (canB wm (gi ts k)) = true from suit_own HGD.out.suit (gi_mem' hk))); have HCT := Lib.hid (fun k (hk : k < ts.length) W (hb : Below wr.heap.size wr W) => x_cut20 wm qo co (ownL cs lc) (gi ts k) W (HRO.out.below hb) HDO.out (HTB.out k hk)); clear hV hro; go_wp2
                go_loopw [18] (fun i wx => ∃ k : Nat, k ≤ ts.length ∧ i = .int .i64 k ∧ Hid (Below wr.heap.size wr wx)) (fun i _ => ts.length - (intOf i).toNat)
                case atStart => exact ⟨0, Nat.zero_le _, rfl, Lib.hid (Below.refl _ _)⟩
                case round =>
                  obtain ⟨k, hk, rfl, HB4⟩ := hrel
                  by_cases hlt : k < ts.length
                  · have hltI : decide ((k : Int) < (ts.length : Int)) = true := decide_eq_true (by omega)
                    have hkI : (k : Int) < (ts.length : Int) := by omega
                    have hwk : IntKind.i64.wrap ((k : Int) + 1) = (k : Int) + 1 := w64 _ (by omega) (by omega); obtain ⟨o0, o1⟩ := HOK.out _ HB4.out; obtain ⟨bt, ot, rfl, hc⟩ := (HTr.out.below HB4.out).at hlt; have t0 := hc k hlt; have hcu := HCT.out k hlt; rw [HSU.out k hlt] at hcu; obtain ⟨V, hV⟩ : ∃ V, gi ts k = V := ⟨_, rfl⟩; rw [hV] at hcu t0; have HCU := Lib.hid hcu; clear hV hcu hc; go_wp2_with fail; have HSK := Lib.hid (cl3 o0 o1 t0); refine held3 o0 o1 t0 (fun W0 hb0 => ?_); have HB0 := Lib.hid hb0; have HBx := Lib.hid (HB4.out.trans (hb0.mono HB4.out.size)); clear hb0 o0 o1 t0; refine tk 0 rfl (by exact HSK.out _ HB0.out) ?_; (try simp only [Act.put, ptL]); refine tk 1 rfl (by exact HSK.out _ HB0.out) ?_; (try simp only [Act.put, ptL]); refine tk 2 rfl (by exact HSK.out _ HB0.out) ?_; (try simp only [Act.put, ptL]); refine tk 3 rfl (by exact HSK.out _ HB0.out) ?_; (try simp only [Act.put, ptL]); refine tk 4 rfl (by exact HSK.out _ HB0.out) ?_; (try simp only [Act.put, ptL])
                    refine rz1 5 rfl ?_; intro K hK; go_simp; refine (HCU.out _ HBx.out).mono ?_; rintro e W1 ⟨rfl, bq⟩; have HB1 := Lib.hid (HB0.out.trans (bq.mono HB0.out.size)); have HBy := Lib.hid (HBx.out.trans (bq.mono HBx.out.size)); clear bq; refine kz hK (by exact HSK.out _ HB1.out) ?_; clear hK K; (try simp only [Act.put, ptL]); refine tk 6 rfl (by exact HSK.out _ HB1.out) ?_; (try simp only [Act.put, ptL]); refine wpAnyH_done (by kernel_rfl) ?_ _; go_wp2; go_roundw
                    case rel => exact ⟨k + 1, by omega, by go_num, HBy⟩
                    case measure => simp [intOf]; omega
                  · obtain rfl : k = ts.length := by omega
                    have hkI : ¬ (ts.length : Int) < (ts.length : Int) := by omega
                    have HBF := Lib.hid (HBZ.out.trans (HB4.out.mono HBZ.out.size)); go_wp2_with fail; refine (d_known _).mono ?_; rintro e wk ⟨rfl, bk⟩; have HBK := Lib.hid (HBF.out.trans (bk.mono HBF.out.size)); clear bk; go_wp2; go_ret; exact ⟨rfl, HBK.out⟩
end Go.Proofs.YtchclaipbahiiaaGreat
end

section
namespace Go.Proofs.YtchclaipbahiiaaGreat
open Go Go.ChangeShapes Go.WideShapes Go.ChangeAt Go.RowKit Go.Proofs
set_option linter.unusedVariables false
section
variable {H : Type} {enc : TypeId × Value → H} {W : World}
set_option maxRecDepth 100000 in
theorem op_rule {base : Nat} {v : Value} {d : DataW H} {ps : List MemPlace} (hv : Value.okWide Tryz.prog W .any base 25 v) (h : DataW.Trod enc Tryz.prog W 0 (fun _ => true) true 25 v d ps) :
    ∃ (lo hi pr se : Int) (p : Option Addr) (c : Nat) (nv : List Int), v = .agg #[.int .i64 lo, .int .i64 hi, .int .i64 pr, .int .i64 se, .slice p nv.length c] ∧ RdI W p nv := by
  obtain ⟨cs, rfl, hsz⟩ := okWide_struct Tryz.underlying25 hv; obtain ⟨fuel, hf⟩ := h; rw [show Tryz.prog.cellsOf 25 = 5 by kernel_rfl] at hsz; obtain ⟨cl⟩ := cs; obtain ⟨zs, kz, _, _, _, hzl, hzf⟩ := DataW.trod_struct Tryz.underlying25 hf
  match cl, hsz with
  | [v0, v1, v2, v3, v4], _ =>
  match zs, hzl with
  | [z0, z1, z2, z3, z4], _ =>
  have g0 := hzf 0 _ rfl; have g1 := hzf 1 _ rfl; have g2 := hzf 2 _ rfl; have g3 := hzf 3 _ rfl; have g4 := hzf 4 _ rfl; simp [Value.cells, tc_int, show Tryz.prog.cellsOf 22 = 1 by kernel_rfl, show Tryz.prog.cellsOf 23 = 1 by kernel_rfl] at g0 g1 g2 g3 g4; have h0 : DataW.trod enc Tryz.prog W 0 (fun _ => true) true kz 3 [v0] = some z0 := g0; have h1 : DataW.trod enc Tryz.prog W 0 (fun _ => true) true kz 3 [v1] = some z1 := g1; have h2 : DataW.trod enc Tryz.prog W 0 (fun _ => true) true kz 3 [v2] = some z2 := g2; have h3 : DataW.trod enc Tryz.prog W 0 (fun _ => true) true kz 22 [v3] = some z3 := g3; have h4 : DataW.trod enc Tryz.prog W 0 (fun _ => true) true kz 23 [v4] = some z4 := g4; obtain ⟨a, rfl, _⟩ := int_ofT h0; obtain ⟨b, rfl, _⟩ := int_ofT h1; obtain ⟨c, rfl, _⟩ := int_ofT h2; obtain ⟨s, e3, _, _⟩ := DataW.trod_int Tryz.underlying22 h3; obtain rfl : v3 = .int .i64 s := by simpa using e3
  obtain ⟨p, cc, nv, e4, r4, _⟩ := rd_ints h4; obtain rfl : v4 = .slice p nv.length cc := by simpa using e4
  exact ⟨a, b, c, s, p, cc, nv, rfl, r4⟩
set_option maxRecDepth 100000 in
theorem op_frac {base : Nat} {v : Value} {d : DataW H} {ps : List MemPlace} (hv : Value.okWide Tryz.prog W .any base 27 v) (h : DataW.Trod enc Tryz.prog W 0 (fun _ => true) true 27 v d ps) :
    ∃ (a b : Int), v = .agg #[.int .i64 a, .int .i64 b] := by
  obtain ⟨v0, v1, y0, y1, n, rfl, _, _, h0, h1⟩ := Joins.open_agg2 Tryz.underlying27 (by kernel_rfl) (by kernel_rfl) hv h; obtain ⟨a, rfl, _⟩ := int_ofT h0; obtain ⟨b, rfl, _⟩ := int_ofT h1; exact ⟨a, b, rfl⟩
set_option maxRecDepth 100000 in
theorem op_dv {base : Nat} {v : Value} {d : DataW H} {ps : List MemPlace} (hv : Value.okWide Tryz.prog W .any base 29 v) (h : DataW.Trod enc Tryz.prog W 0 (fun _ => true) true 29 v d ps) :
    ∃ (wm : Int) (p : Option Addr) (c : Nat) (cs : List Int), v = .agg #[.int .i64 wm, .slice p cs.length c] ∧ RdI W p cs := by
  obtain ⟨v0, v1, y0, y1, n, rfl, _, _, h0, h1⟩ := Joins.open_agg2 Tryz.underlying29 (by kernel_rfl) (by kernel_rfl) hv h; obtain ⟨a, rfl, _⟩ := int_ofT h0; obtain ⟨p, cc, cs, e1, r1, _⟩ := rd_ints h1; obtain rfl : v1 = .slice p cs.length cc := by simpa using e1
  exact ⟨a, p, cc, cs, rfl, r1⟩
end
set_option maxRecDepth 100000 in
theorem topCuttable_lifted (os : Os) (started : os.Started) (H : Type) (enc : TypeId × Value → H) :
    ReturnsInHanded {} Tryz.checked os 3 .any (Rows.topCuttableSpec.pre6 enc Tryz.prog Tryz.f3 Rows.topCuttableRow.domain false)
      (Rows.topCuttableSpec.post enc Tryz.prog Tryz.f3 false true false false) := by
  refine returnsInHanded_of_change (C := Tryz.checked) ownT started (by kernel_rfl) Tryz.func3
    (ChangeSpec.witness6 (enc := enc) (C := Tryz.checked) false ⟨#[], #[.agg #[.int .i64 0, .int .i64 0, .int .i64 0, .int .i64 0, .slice none 0 0], .agg #[.int .i64 0, .int .i64 0], .agg #[.int .i64 0, .slice none 0 0]], []⟩ 8 (by kernel_rfl) (by kernel_rfl) (by kernel_rfl) (by kernel_rfl)) ?_
  intro W base args ds gs before hval0 hW hcnd _; have hval : ∀ (j : Nat) t v, Tryz.f3.params[j]? = some t → args[j]? = some v → Value.okWide Tryz.prog W .any base t v := hval0; have hW' := hW; obtain ⟨p, q, hA0, hV, rfl, _, _⟩ := hW; have hA : DataW.TrodAll enc Tryz.prog W 0 (fun _ => true) true Tryz.f3.params.toList args.toList ds p := hA0; rw [Tryz.params3] at hA hval; obtain ⟨v0, vs0, d0, ds0, p0, q0, hargs, rfl, rfl, h0, r0⟩ := trodAll_cons hA; obtain ⟨v1, vs1, d1, ds1, p1, q1, rfl, rfl, rfl, h1, r1⟩ := trodAll_cons r0; obtain ⟨v2, vs2, d2, ds2, p2, q2, rfl, rfl, rfl, h2, r2⟩ := trodAll_cons r1; obtain ⟨rfl, rfl, rfl⟩ := trodAll_nil r2; obtain rfl : args = #[v0, v1, v2] := by cases args; simp_all
  obtain ⟨rfl, rfl⟩ := trodVars_none hV; obtain ⟨lo, hi, pr, se, pn, cn, nv, rfl, rn⟩ := op_rule (hval 0 25 v0 rfl rfl) h0; obtain ⟨f1, f2, rfl⟩ := op_frac (hval 1 27 v1 rfl rfl) h1; obtain ⟨wm, qc, cq, cs, rfl, rc⟩ := op_dv (hval 2 29 v2 rfl rfl) h2; clear hA0 hval0; refine (d_cut pn qc cn cq lo hi pr se f1 f2 wm nv cs W rn rc).mono fun e W' ⟨he, bel⟩ => ?_
  subst he; exact ⟨_, rfl, _, _, _, [], _, [], hW', trodAll_mk1 (shut_bool Tryz.underlying4 _), (trodAll_cons_mk (Below.trod laidOutT (by kernel_rfl) (of_decide_eq_true (by kernel_rfl)) h0 bel (trod_lt h0)) (trodAll_cons_mk (Below.trod laidOutT (by kernel_rfl) (of_decide_eq_true (by kernel_rfl)) h1 bel (trod_lt h1)) (trodAll_cons_mk (Below.trod laidOutT (by kernel_rfl) (of_decide_eq_true (by kernel_rfl)) h2 bel (trod_lt h2)) trodAll_mk0))), rfl, bel.frame _, fun h => by cases h⟩
theorem topCuttable_holds : Rows.TopCuttableSaid :=
  OpenClaim.holds_of_wide 3 Tryz.f3 rfl rfl rfl rfl rfl rfl rfl ⟨rfl, rfl, rfl, rfl, rfl⟩ rfl rfl rfl rfl rfl (by kernel_rfl) Tryz.func3 (by kernel_rfl)
    (of_decide_eq_true (by kernel_rfl)) (by unfold Func.isWrapper; rw [if_neg (of_decide_eq_false (by kernel_rfl))]; exact ⟨rfl, rfl⟩)
    (fun os started H enc _ => topCuttable_lifted os started H enc)
#print axioms topCuttable_holds
end Go.Proofs.YtchclaipbahiiaaGreat
end
