/-
  The nearest train of a rule: contract.
  The document's pairs, and its train of an arbor: contracts.
  The document's check of a shop's piece: contract.
  What the references do, step by step: hulls, all plays mesh by mesh, lists of meshes; no program in sight.
  The references' comparisons of lists of numbers and of spans.
  The references' words on what is as defined, and short lists: contracts.
  The references' word on what a piece is: contract.
  Known, Plays, all arguments: contracts (printed by slkknown.py).
  By how much the crank can be turned on, and back, before an arbor moves; arbors, places and limits: contracts.
  By how much the crank can be turned on, and back, before an arbor moves: contract of the method.
  over, for whatever function of a truth: contract.
  What each truth has of lost motion, of the crank turned on and back, of a move: contracts of the closures.
  What each truth has of a move more: contract of the closure (printed by slkclos.py).
  What is a hand: contracts (printed by slkhand.py).
  What is a hand, in the document's words; a number rounded down: contracts.
  Small functions of the top statements, and the document's check of a train: contracts.
  Quotients, sums, ways of the sky: contracts.
  Where the bodies of a sky are: contracts.
  How far the moon is ahead of the sun: contract.
  Whether the moon is new: contract.
-/
import Derived.Test.YtchclaipbahiiaaGreatFZT11
import Derived.Test.YtchclaipbahiiaaGreatFZT12
import Derived.Test.YtchclaipbahiiaaGreatFZT13
import Derived.Test.YtchclaipbahiiaaGreatFZT14
import Derived.Test.YtchclaipbahiiaaGreatFZT15
import Derived.Test.YtchclaipbahiiaaGreatFZT17
section
namespace Go.Proofs.YtchclaipbahiiaaGreat
open Go Go.RowKit Go.Proofs
set_option linter.unusedVariables false
set_option linter.unusedSimpArgs false
attribute [local go_sem] imax2 imin2
theorem tth_ok {lo hi pr se : Int} {nv : List Int} (h : RuleOk lo hi pr se nv) : Tth (tthF lo hi nv) := by
  refine ⟨?_, fun i hi' => ?_⟩
  · unfold tthF
    have h1 := List.length_filter_le (fun n => !nv.contains n) (rng lo hi); have h2 := rng_len lo hi; have := h.flo; have := h.fhi; omega
  · rw [gi_of hi']
    have hm := List.getElem_mem hi'; unfold tthF at hm; have h1 := (mem_rng).1 (List.mem_filter.1 hm).1; unfold tthF; have := h.flo; have := h.fhi; omega
def NstPost (o : Option (List (Int × Int))) (w : World) (e : Ending) (w' : World) : Prop :=
  (match o with
    | none => e = .returned (.tuple #[.slice none 0 0, .int .i64 5])
    | some l => ∃ q c, e = .returned (.tuple #[.slice q l.length c, .int .i64 0]) ∧ RdS w' q l) ∧ Below w.heap.size w w'
set_option maxHeartbeats 1600000 in
set_option maxRecDepth 100000 in
theorem t_Nearest (lo hi pr se : Int) (p : Option Addr) (cap : Nat) (nv : List Int) (f1 f2 : Int) (w : World) (hx : RdI w p nv) (h : RuleOk lo hi pr se nv) (h1 : 0 ≤ f1 ∧ f1 ≤ 50000) (h2 : 1 ≤ f2 ∧ f2 ≤ 50000) :
    Calls Tryz.prog 9 #[.agg #[.int .i64 lo, .int .i64 hi, .int .i64 pr, .int .i64 se, .slice p nv.length cap], .agg #[.int .i64 f1, .int .i64 f2]] w (NstPost (nrstF (tthF lo hi nv) se pr.toNat (f1, f2)) w) := by
  obtain ⟨P, rfl⟩ : ∃ P : Nat, pr = (P : Int) := ⟨pr.toNat, by have := h.fpr; omega⟩; rw [Int.toNat_natCast]; obtain ⟨w1, e1, HS1, k0, k1, k2, k3, k4, b1⟩ := box5 w (.int .i64 lo) (.int .i64 hi) (.int .i64 P) (.int .i64 se) (.slice p nv.length cap) 25; obtain ⟨w2, e2, HS2, f0, f0', b2⟩ := box2 w1 (.int .i64 f1) (.int .i64 f2) 27; have k0 := (b2.cell (lt_of_cellq k0)).trans k0; have k1 := (b2.cell (lt_of_cellq k1)).trans k1; have k2 := (b2.cell (lt_of_cellq k2)).trans k2; have k3 := (b2.cell (lt_of_cellq k3)).trans k3; have k4 := (b2.cell (lt_of_cellq k4)).trans k4; have hB2 := b1.trans (b2.mono b1.size); have HX := Lib.hid (hx.below hB2); have HB := Lib.hid hB2; have HR := Lib.hid h; have HF := Lib.hid (And.intro h1 h2); have hfr := fun W => t_isFraction f1 f2 W
  rw [show (inB f1 0 50000 && inB f2 1 50000) = true by rw [inB_iff.2 h1, inB_iff.2 h2]; rfl] at hfr; have HFR := Lib.hid hfr; clear hx h h1 h2 b1 b2 hB2 hfr
  go_enter Tryz.func9, Tryz.ntmps9
  go_wp2_with fail; refine (t_isRule lo hi P se p cap nv _ HX.out HR.out).mono ?_; rintro e w3 ⟨rfl, b3⟩; have HX3 := Lib.hid (HX.out.below b3); have HB3 := Lib.hid (HB.out.trans (b3.mono HB.out.size)); have k0 := (b3.cell (lt_of_cellq k0)).trans k0; have k1 := (b3.cell (lt_of_cellq k1)).trans k1; have k2 := (b3.cell (lt_of_cellq k2)).trans k2; have k3 := (b3.cell (lt_of_cellq k3)).trans k3; have k4 := (b3.cell (lt_of_cellq k4)).trans k4; have f0 := (b3.cell (lt_of_cellq f0)).trans f0; have f0' := (b3.cell (lt_of_cellq f0')).trans f0'; clear b3 e1 e2; go_wp2_with fail; refine (HFR.out _).mono ?_; rintro e w4 ⟨rfl, b4⟩; have HX4 := Lib.hid (HX3.out.below b4); have HB4 := Lib.hid (HB3.out.trans (b4.mono HB3.out.size)); have k0 := (b4.cell (lt_of_cellq k0)).trans k0; have k1 := (b4.cell (lt_of_cellq k1)).trans k1; have k2 := (b4.cell (lt_of_cellq k2)).trans k2; have k3 := (b4.cell (lt_of_cellq k3)).trans k3
  have k4 := (b4.cell (lt_of_cellq k4)).trans k4; have f0 := (b4.cell (lt_of_cellq f0)).trans f0; have f0' := (b4.cell (lt_of_cellq f0')).trans f0'; clear b4; go_upto_region 3 with (fail); have HSB := Lib.hid (cl7 k0 k1 k2 k3 k4 f0 f0'); refine held7 k0 k1 k2 k3 k4 f0 f0' (fun W0 HB0 => ?_); clear k0 k1 k2 k3 k4 f0 f0'; refine tk 0 rfl (by exact HSB.out _ HB0) ?_; (try simp only [Act.put, ptL]); refine tk 3 rfl (by exact HSB.out _ HB0) ?_; (try simp only [Act.put, ptL]); refine rz1 1 rfl ?_; intro K hK; go_simp; refine (t_ruled lo hi P se p cap nv W0 (HX4.out.below HB0) HR.out).mono ?_; rintro e W1 ⟨qt, ct, rfl, hrt, c1⟩; have HB1 := HB0.trans (c1.mono HB0.size); refine kz hK (by exact HSB.out _ HB1) ?_; clear hK K; (try simp only [Act.put, ptL]); obtain ⟨t, ht⟩ : ∃ t, tthF lo hi nv = t := ⟨_, rfl⟩; have hth := tth_ok HR.out; rw [ht] at hrt hth ⊢; refine rz1 2 rfl ?_; intro K hK; go_simp
  refine (t_prepared lo hi se p nv.length cap P qt ct t W1 hrt hth (by have := HR.out.fpr; omega)).mono ?_; rintro e W2 ⟨qs, cs, qm, cm, rfl, hrs, hrm, c2⟩; have HB2 := HB1.trans (c2.mono HB1.size); refine kz hK (by exact HSB.out _ HB2) ?_; clear hK K; (try simp only [Act.put, ptL]); refine rz1 4 rfl ?_; intro K hK; go_simp; refine (t_nearestW lo hi se P p nv.length cap qt ct t qs cs qm cm f1 f2 W2 (hrt.below c2) hrs hrm hth (by have := HR.out.fpr; omega) HR.out.fse HF.out.1 HF.out.2).mono ?_; rintro e W3 ⟨v, rfl, hv, c3⟩; have HB3' := HB2.trans (c3.mono HB2.size); have HEND := Lib.hid (HB4.out.trans (HB3'.mono HB4.out.size))
  cases hoo : nrstF t se P (f1, f2) with
  | none =>
    rw [hoo] at hv; have hv' : v = .slice none 0 0 := hv; subst hv'; have HOO := Lib.hid (show nrstF (tthF lo hi nv) se P (f1, f2) = none by rw [ht]; exact hoo); refine kz hK (by exact HSB.out _ HB3') ?_; clear hK K; (try simp only [Act.put, ptL]); refine tk 5 rfl (by exact HSB.out _ HB3') ?_; (try simp only [Act.put, ptL]); refine tk 6 rfl (by exact HSB.out _ HB3') ?_; (try simp only [Act.put, ptL]); refine tk 7 rfl (by exact HSB.out _ HB3') ?_; (try simp only [Act.put, ptL]); refine tk 8 rfl (by exact HSB.out _ HB3') ?_; (try simp only [Act.put, ptL]); refine tk 9 rfl (by exact HSB.out _ HB3') ?_; (try simp only [Act.put, ptL]); refine wpAnyH_done (by kernel_rfl) ?_ _; clear hv hoo HSB HB0 HB1 HB2 HB3' c1 c2 c3 hrt hrs hrm; go_wp2; refine bodyPost_ret (v := .tuple #[.slice none 0 0, .int .i64 5]) (by simp [results, Tryz.results9, go_sem]) rfl ?_; unfold NstPost; rw [HOO.out]; exact ⟨rfl, HEND.out⟩
  | some l =>
    rw [hoo] at hv; obtain ⟨qv, cv, rfl, hrv, _⟩ := hv; have HOO := Lib.hid (show nrstF (tthF lo hi nv) se P (f1, f2) = some l by rw [ht]; exact hoo); have HRV := Lib.hid hrv; obtain ⟨nl, hnl⟩ : ∃ n, l.length = n := ⟨_, rfl⟩; have HNL := Lib.hid hnl; rw [hnl]; refine kz hK (by exact HSB.out _ HB3') ?_; clear hK K; (try simp only [Act.put, ptL]); refine tk 5 rfl (by exact HSB.out _ HB3') ?_; (try simp only [Act.put, ptL]); refine tk 6 rfl (by exact HSB.out _ HB3') ?_; (try simp only [Act.put, ptL]); refine tk 7 rfl (by exact HSB.out _ HB3') ?_; (try simp only [Act.put, ptL]); refine tk 8 rfl (by exact HSB.out _ HB3') ?_; (try simp only [Act.put, ptL]); refine tk 9 rfl (by exact HSB.out _ HB3') ?_; (try simp only [Act.put, ptL]); refine wpAnyH_done (by kernel_rfl) ?_ _; clear hoo HSB HB0 HB1 HB2 HB3' c1 c2 c3 hrt hrs hrm hrv hnl; go_wp2; refine bodyPost_ret (v := .tuple #[.slice qv nl cv, .int .i64 0]) (by simp [results, Tryz.results9, go_sem]) rfl ?_
    unfold NstPost; rw [HOO.out]; exact ⟨⟨qv, cv, by rw [HNL.out], HRV.out⟩, HEND.out⟩
theorem i_Pair (a b : Int) (w : World) : Calls Tryz.prog 93 #[.agg #[.int .i64 a, .int .i64 b]] w fun e w' => e = .returned (.bool (inB a 4 60 && inB b 4 60)) ∧ Below w.heap.size w w' := by
  obtain ⟨w0, e0, HS0, k0, k1, b0⟩ := box2 w (.int .i64 a) (.int .i64 b) 99; have HB := Lib.hid b0; have h1 := a_teeth a w0; have h2 := a_teeth b w0; obtain ⟨A, hA⟩ : ∃ A, inB a 4 60 = A := ⟨_, rfl⟩; obtain ⟨C, hC⟩ : ∃ C, inB b 4 60 = C := ⟨_, rfl⟩; rw [hA] at h1; rw [hC] at h2; rw [hA, hC]; clear b0 hA hC
  cases A with
  | false =>
    go_enter Tryz.func93, Tryz.ntmps93
    go_wp2_with fail; refine h1.mono ?_; rintro e w' ⟨rfl, rfl⟩; go_wp2; go_ret; exact ⟨rfl, HB.out⟩
  | true =>
    go_enter Tryz.func93, Tryz.ntmps93
    go_wp2_with fail; refine h1.mono ?_; rintro e w' ⟨rfl, rfl⟩; clear h1; go_wp2_with fail; refine h2.mono ?_; rintro e w' ⟨rfl, rfl⟩; clear h2; go_wp2; go_ret; exact ⟨by simp, HB.out⟩
theorem i_Arbor (v : Value) (p : Option Addr) (n c : Nat) (a : Int) (w : World) : Calls Tryz.prog 16 #[.agg #[.slice p n c, v], .int .i64 a] w fun e w' => e = .returned (.bool (inB a 1 n)) ∧ Below w.heap.size w w' := by
  obtain ⟨w0, e0, HS0, k0, k1, b0⟩ := box2 w (.slice p n c) v 47; have HB := Lib.hid b0; clear b0
  go_enter Tryz.func16, Tryz.ntmps16
  go_wp2_with fail; refine (i_in _ _ _ _).mono ?_; rintro e w' ⟨rfl, rfl⟩; go_wp2; go_ret; exact ⟨rfl, HB.out⟩
def LkTo (ls : List (Int × Int × Int)) (a : Nat) : Prop := ∀ j : Nat, j < a → 0 ≤ (gk ls j).1 ∧ (gk ls j).1 ≤ j
theorem trn_succ {ls : List (Int × Int × Int)} {a : Nat} (ha : a < ls.length) (h : LkTo ls (a + 1)) : trnF ls (a + 1) = trnF ls (gk ls a).1.toNat ++ [(gk ls a).2] := by
  have hf := h a (by omega); obtain ⟨d, hd⟩ : ∃ d, ls.length = d + 1 := ⟨ls.length - 1, by omega⟩; unfold trnF; rw [hd, pathF_succ, path_ext (ls := ls) (ls' := ls) _ (gk ls a).1.toNat d (d + 1) (Nat.le_refl _) (by omega) (by omega) (fun j _ => rfl) (fun j hj => h j (by omega))]; unfold natI; rw [List.map_append, prsF_append]
  rfl
theorem trn_zero (ls : List (Int × Int × Int)) : trnF ls 0 = [] := by unfold trnF; rw [pathF_at]; rfl
theorem trn_len {ls : List (Int × Int × Int)} (hl : ls.length ≤ 5) (a : Nat) : (trnF ls a).length ≤ 5 := by
  rw [trnF_len]; unfold farF; have := pathF_len (ls := ls) ls.length a; omega
set_option maxHeartbeats 1600000 in
set_option maxRecDepth 100000 in
theorem i_Train (p q : Option Addr) (c m c' : Nat) (ls : List (Int × Int × Int)) (hl : ls.length ≤ 5) : ∀ (n a : Nat) (w : World), a ≤ n → a ≤ ls.length → LkTo ls a → RdLk w p ls →
    Calls Tryz.prog 94 #[.agg #[.slice p ls.length c, .slice q m c'], .int .i64 a] w (TrPost ls a w) := by
  intro n
  induction n with
  | zero =>
    intro a w h1 h2 h3 hx; obtain rfl : a = 0 := by omega
    obtain ⟨w1, e1, HS1, k0, k1, b1⟩ := box2 w (.slice p ls.length c) (.slice q m c') 47; have HB := Lib.hid b1; clear b1
    go_enter Tryz.func94, Tryz.ntmps94
    go_wp2; refine bodyPost_ret (v := .slice none 0 0) (by simp [results, Tryz.results94, go_sem]) rfl ⟨none, 0, by rw [trn_zero]; rfl, .inl (trn_zero ls), HB.out⟩
  | succ n ih =>
    intro a w h1 h2 h3 hx; obtain ⟨w1, e1, HS1, k0, k1, b1⟩ := box2 w (.slice p ls.length c) (.slice q m c') 47
    cases a with
    | zero =>
      have HB := Lib.hid b1; clear b1
      go_enter Tryz.func94, Tryz.ntmps94
      go_wp2; refine bodyPost_ret (v := .slice none 0 0) (by simp [results, Tryz.results94, go_sem]) rfl ⟨none, 0, by rw [trn_zero]; rfl, .inl (trn_zero ls), HB.out⟩
    | succ a =>
      obtain ⟨i0, hi0, hz0, hz1, hz2⟩ := info_parts infPr; have hf := h3 a (by omega); have HSU := Lib.hid (show spV (trnF ls (a + 1)) = spV (trnF ls (gk ls a).1.toNat) ++ [.int .i64 (gk ls a).2.1, .int .i64 (gk ls a).2.2] by rw [trn_succ (by omega) h3, spV_append]; rfl); have HLE := Lib.hid (show (trnF ls (a + 1)).length = (trnF ls (gk ls a).1.toNat).length + 1 by rw [trn_succ (by omega) h3, List.length_append]; rfl); obtain ⟨f, hfe⟩ : ∃ f : Nat, (gk ls a).1 = (f : Int) := ⟨(gk ls a).1.toNat, by omega⟩; obtain ⟨b, off, rfl, hc⟩ := hx.at (i := a) (by omega); obtain ⟨d0, d1, d2⟩ := hc a (by omega); rw [hfe, Int.toNat_natCast] at HSU HLE; rw [hfe] at d0 hf; obtain ⟨T1, hT1⟩ : ∃ T1, (gk ls a).2.1 = T1 := ⟨_, rfl⟩; obtain ⟨T2, hT2⟩ : ∃ T2, (gk ls a).2.2 = T2 := ⟨_, rfl⟩; rw [hT1] at d1 HSU; rw [hT2] at d2 HSU; have d0 := (b1.cell (lt_of_cellq d0)).trans d0; have d1 := (b1.cell (lt_of_cellq d1)).trans d1
      have d2 := (b1.cell (lt_of_cellq d2)).trans d2; obtain ⟨w2, e2, HS2, x0, x1, x2, b2⟩ := box3 w1 (.int .i64 f) (.int .i64 T1) (.int .i64 T2) 130; have k0 := (b2.cell (lt_of_cellq k0)).trans k0; have k1 := (b2.cell (lt_of_cellq k1)).trans k1; have HB := Lib.hid (b1.trans (b2.mono b1.size)); have HIH := Lib.hid (fun W (bw : Below w2.heap.size w2 W) => ih f W (by omega) (by omega) (fun j hj => h3 j (by omega)) (hx.below ((b1.trans (b2.mono b1.size)).trans (bw.mono (Nat.le_trans b1.size b2.size))))); have HL5 := Lib.hid (trn_len hl f); have hwa : IntKind.i64.wrap ((a : Int) + 1 - 1) = (a : Int) := by rw [show (a : Int) + 1 - 1 = (a : Int) by omega]; exact w64 _ (by omega) (by omega)
      have haI : (a : Int) < (ls.length : Int) := by omega
      have hne : ((a : Int) + 1 == 0) = false := by rw [beq_eq_false_iff_ne]; omega
      obtain ⟨tr, htr⟩ : ∃ tr, trnF ls f = tr := ⟨_, rfl⟩; unfold TrPost at HIH; rw [htr] at HIH HSU HLE HL5; have hl5 := HL5.out; clear ih hx hc hfe hT1 hT2 hf b1 b2 h1 htr
      go_enter Tryz.func94, Tryz.ntmps94
      go_upto_region 4 with (fail); clear e1 e2 d0 d1 d2; have HSB := Lib.hid (cl5 k0 k1 x0 x1 x2); refine held5 k0 k1 x0 x1 x2 (fun W0 HB0 => ?_); clear k0 k1 x0 x1 x2; refine tk 0 rfl (by exact HSB.out _ HB0) ?_; (try simp only [Act.put, ptL]); refine tk 1 rfl (by exact HSB.out _ HB0) ?_; (try simp only [Act.put, ptL]); refine tk 2 rfl (by exact HSB.out _ HB0) ?_; (try simp only [Act.put, ptL]); refine tk 5 rfl (by exact HSB.out _ HB0) ?_; (try simp only [Act.put, ptL]); refine tk 6 rfl (by exact HSB.out _ HB0) ?_; (try simp only [Act.put, ptL]); refine rz2 3 7 rfl rfl ?o1 ?o3
      case' o1 =>
        intro K hK; go_simp; refine (HIH.out _ HB0).mono ?_; rintro e W1 ⟨p1, c1, rfl, rd1, b1⟩; have hb1 := HB0.trans (b1.mono HB0.size); refine kz hK (by exact HSB.out _ hb1) ?_; clear hK K; (try simp only [Act.put, ptL]); refine rz2 4 7 rfl rfl ?p1 ?p2
        case' p1 =>
          intro K hK; refine step_append_src _ rfl _ _ 34 rfl w2.heap.size 99 i0 _ 2 16 Tryz.underlying34 hi0 hz0 hz1 hz2 rfl (by decide) (.slice none 0 0) 0 [] rfl (World.ownsRow_nil _ _ _ _) p1 tr.length c1 (spV tr) rfl (by rw [spV_length]) (news_prs rd1) (prs_cells _) (by unfold maxLen; omega) (by omega) hb1.size ?_; intro v1 wa hown1 hgrow1 hat1; have hba : Below w2.heap.size w2 wa := hb1.grown hgrow1 hb1.size (fun j hj => by simp [Value.ownBlock] at hj); refine kz hK (by exact HSB.out _ hba) ?_; clear hK K; (try simp only [Act.put, ptL]); refine rz1 7 rfl (fun K hK => ?_); go_simp; refine kz hK (by exact HSB.out _ (hba.alloc hba.size _)) ?_; clear hK K; (try simp only [Act.put, ptL]); have g1 := hown1.alloc (.cells #[.int .i64 T1, .int .i64 T2] 99); have g2 := hba.alloc hba.size (.cells #[.int .i64 T1, .int .i64 T2] 99); have g3 : ∀ j u, ([.int .i64 T1, .int .i64 T2] : List Value)[j]? = some u → (wa.alloc (.cells #[.int .i64 T1, .int .i64 T2] 99)).cell? ((⟨wa.heap.size, 0, none⟩ : Addr).add j) = some u := news_of wa _ _
          obtain ⟨G, hG⟩ : ∃ G, wa.heap.size = G := ⟨_, rfl⟩; obtain ⟨W2, hW2⟩ : ∃ W2, wa.alloc (.cells #[.int .i64 T1, .int .i64 T2] 99) = W2 := ⟨_, rfl⟩; rw [hW2] at g1 g2 g3; rw [hG] at g3; rw [hW2, hG]; clear hown1 hgrow1 hat1 hba hG hW2 hb1 b1 rd1
        case' p2 =>
          intro K hK; go_simp; refine kz hK (by exact HSB.out _ (hb1.alloc hb1.size _)) ?_; clear hK K; (try simp only [Act.put, ptL]); have bl := hb1.alloc hb1.size (.cells #[.int .i64 T1, .int .i64 T2] 99); have hn0 : ∀ j u, ([.int .i64 T1, .int .i64 T2] : List Value)[j]? = some u → (W1.alloc (.cells #[.int .i64 T1, .int .i64 T2] 99)).cell? ((⟨W1.heap.size, 0, none⟩ : Addr).add j) = some u := news_of W1 _ _; refine rz1 4 rfl (fun K hK => ?_); refine step_append_src _ rfl _ _ 34 rfl w2.heap.size 99 i0 _ 2 16 Tryz.underlying34 hi0 hz0 hz1 hz2 rfl (by decide) (.slice none 0 0) 0 [] rfl (World.ownsRow_nil _ _ _ _) p1 tr.length c1 (spV tr) rfl (by rw [spV_length]) (news_prs (rd1.below (below_alloc1 _ _))) (prs_cells _) (by unfold maxLen; omega) (by omega) bl.size ?_; intro v1 W2 hown1 hgrow1 hat1; have g1 := hown1; have g2 : Below w2.heap.size w2 W2 := bl.grown hgrow1 bl.size (fun j hj => by simp [Value.ownBlock] at hj)
          have g3 : ∀ j u, ([.int .i64 T1, .int .i64 T2] : List Value)[j]? = some u → W2.cell? ((⟨W1.heap.size, 0, none⟩ : Addr).add j) = some u := fun j u hj => (hgrow1.cell_far _ (lt_of_cellq (hn0 j u hj)) (by simp [Value.ownBlock])).trans (hn0 j u hj)
          refine kz hK (by exact HSB.out _ g2) ?_; clear hK K; (try simp only [Act.put, ptL]); obtain ⟨G, hG⟩ : ∃ G, W1.heap.size = G := ⟨_, rfl⟩; rw [hG] at g3; rw [hG]; clear hown1 hgrow1 hat1 bl hG hn0 hb1 b1 rd1
      case' o3 =>
        intro K hK; go_simp; refine kz hK (by exact HSB.out _ (HB0.alloc HB0.size _)) ?_; clear hK K; (try simp only [Act.put, ptL]); have bl := HB0.alloc HB0.size (.cells #[.int .i64 T1, .int .i64 T2] 99); have hn0 : ∀ j u, ([.int .i64 T1, .int .i64 T2] : List Value)[j]? = some u → (W0.alloc (.cells #[.int .i64 T1, .int .i64 T2] 99)).cell? ((⟨W0.heap.size, 0, none⟩ : Addr).add j) = some u := news_of W0 _ _; refine rz1 3 rfl (fun K hK => ?_); go_simp; refine (HIH.out _ bl).mono ?_; rintro e W1 ⟨p1, c1, rfl, rd1, b1⟩; have hb1 := bl.trans (b1.mono bl.size); have hn1 : ∀ j u, ([.int .i64 T1, .int .i64 T2] : List Value)[j]? = some u → W1.cell? ((⟨W0.heap.size, 0, none⟩ : Addr).add j) = some u := fun j u hj => (b1.cell (lt_of_cellq (hn0 j u hj))).trans (hn0 j u hj)
        refine kz hK (by exact HSB.out _ hb1) ?_; clear hK K; (try simp only [Act.put, ptL]); refine rz1 4 rfl (fun K hK => ?_); refine step_append_src _ rfl _ _ 34 rfl w2.heap.size 99 i0 _ 2 16 Tryz.underlying34 hi0 hz0 hz1 hz2 rfl (by decide) (.slice none 0 0) 0 [] rfl (World.ownsRow_nil _ _ _ _) p1 tr.length c1 (spV tr) rfl (by rw [spV_length]) (news_prs rd1) (prs_cells _) (by unfold maxLen; omega) (by omega) hb1.size ?_; intro v1 W2 hown1 hgrow1 hat1; have g1 := hown1; have g2 : Below w2.heap.size w2 W2 := hb1.grown hgrow1 hb1.size (fun j hj => by simp [Value.ownBlock] at hj); have g3 : ∀ j u, ([.int .i64 T1, .int .i64 T2] : List Value)[j]? = some u → W2.cell? ((⟨W0.heap.size, 0, none⟩ : Addr).add j) = some u := fun j u hj => (hgrow1.cell_far _ (lt_of_cellq (hn1 j u hj)) (by simp [Value.ownBlock])).trans (hn1 j u hj)
        refine kz hK (by exact HSB.out _ g2) ?_; clear hK K; (try simp only [Act.put, ptL]); obtain ⟨G, hG⟩ : ∃ G, W0.heap.size = G := ⟨_, rfl⟩; rw [hG] at g3; rw [hG]; clear hown1 hgrow1 hat1 bl hG hn0 hb1 b1 rd1 hn1
      all_goals
        rw [Nat.zero_add, List.nil_append] at g1; refine rz1 8 rfl (fun K hK => ?_); refine step_append_src _ rfl _ _ 34 rfl w2.heap.size 99 i0 _ 2 16 Tryz.underlying34 hi0 hz0 hz1 hz2 rfl (by decide) v1 tr.length _ rfl g1 (some ⟨G, 0, none⟩) 1 1 [.int .i64 T1, .int .i64 T2] rfl rfl (.inr ⟨_, rfl, g3⟩) (by intro u hu; simp at hu; rcases hu with rfl | rfl <;> rfl) (by unfold maxLen; omega) (by omega) g2.size ?_; intro v2 W3 hown2 hgrow2 hat2; have g4 : Below w2.heap.size w2 W3 := g2.grown hgrow2 g2.size (fun j hj => (g1.lt j hj).1); refine kz hK (by exact HSB.out _ g4) ?_; clear hK K; (try simp only [Act.put, ptL]); obtain ⟨gv, cv', rfl⟩ := own_any hown2; refine tk 9 rfl (by exact HSB.out _ g4) ?_; (try simp only [Act.put, ptL]); refine wpAnyH_done (by kernel_rfl) ?_ _; rw [← HSU.out] at hown2; rw [← HLE.out] at hown2 ⊢; obtain ⟨q2, c2, he, hrd⟩ := rds_of_own hown2; have HE := Lib.hid (show gv = q2 ∧ cv' = c2 by injection he with h1 h2 h3; exact ⟨h1, h3⟩)
        have HR := Lib.hid hrd; have HBZ := Lib.hid (HB.out.trans (g4.mono HB.out.size)); obtain ⟨nn, hnn⟩ : ∃ nn, (trnF ls (a + 1)).length = nn := ⟨_, rfl⟩; have HNN := Lib.hid hnn; rw [hnn]; clear g1 g2 g3 g4 hown2 hgrow2 hat2 he hrd HSB HIH hnn HB0; go_wp2; refine bodyPost_ret (v := .slice gv nn cv') (by simp [results, Tryz.results94, go_sem]) rfl ⟨gv, cv', by rw [HNN.out], by rw [HE.out.1]; exact HR.out, HBZ.out⟩
theorem trn_far {ls : List (Int × Int × Int)} {i : Nat} (hi : i < ls.length) (h : LkTo ls (i + 1)) : (trnF ls (i + 1)).length = farF (ls.take i) (gk ls i).1.toNat + 1 := by
  have hf := h i (by omega); have hlt : (ls.take i).length = i := by rw [List.length_take]; omega
  rw [trn_succ hi h, List.length_append, trnF_len]; unfold farF; rw [path_ext (ls := ls) (ls' := ls.take i) _ (gk ls i).1.toNat ls.length (ls.take i).length (Nat.le_refl _) (by omega) (by omega) (fun j hj => (gk_take ls i j (by omega)).symm) (fun j hj => h j (by omega))]
  rfl
structure LkGd (ls : List (Int × Int × Int)) (k : Nat) : Prop where
  frm : LkTo ls k
  one : ∀ i : Nat, i < k → 4 ≤ (gk ls i).2.1 ∧ (gk ls i).2.1 ≤ 60
  two : ∀ i : Nat, i < k → 4 ≤ (gk ls i).2.2 ∧ (gk ls i).2.2 ≤ 60
  len : ∀ i : Nat, i < k → (trnF ls (i + 1)).length ≤ 3
theorem pcGood_of {ls : List (Int × Int × Int)} {sp : List Int} (h1 : inB (ls.length : Int) 1 5 = true) (h2 : inB (sp.length : Int) 1 4 = true) (h : LkGd ls ls.length) (hs : ∀ j, j < sp.length → inB (gi sp j) 1 (ls.length : Int) = true) : PcGood ls sp := by
  have a1 := inB_iff.1 h1; have a2 := inB_iff.1 h2; refine ⟨by omega, by omega, h.frm, h.one, h.two, fun i hi => ?_, ?_⟩
  · have e1 := trn_far hi (fun j hj => h.frm j (by omega))
    have e2 := h.len i hi; omega
  · rw [List.all_eq_true]
    intro x hx; obtain ⟨j, hj, rfl⟩ := List.mem_iff_getElem.1 hx; have := hs j hj; unfold gi at this; rw [List.getD_eq_getElem?_getD, List.getElem?_eq_getElem hj] at this; exact this
def PcPost (ls : List (Int × Int × Int)) (sp : List Int) (w : World) (e : Ending) (w' : World) : Prop := ∃ b, e = .returned (.bool b) ∧ (b = true → PcGood ls sp) ∧ Below w.heap.size w w'
set_option maxHeartbeats 3200000 in
set_option maxRecDepth 100000 in
theorem i_Piece (p q : Option Addr) (c c' : Nat) (ls : List (Int × Int × Int)) (sp : List Int) (w : World) (hx : RdLk w p ls) (hq : RdI w q sp) (hl5 : ls.length ≤ 5) (hs4 : sp.length ≤ 4) :
    Calls Tryz.prog 52 #[.agg #[.slice p ls.length c, .slice q sp.length c']] w (PcPost ls sp w) := by
  obtain ⟨w1, e1, HS1, k0, k1, b1⟩ := box2 w (.slice p ls.length c) (.slice q sp.length c') 47; have HX := Lib.hid hx; have HQ := Lib.hid hq; have HB := Lib.hid b1; have HK := Lib.hid (And.intro k0 k1); clear hx hq b1
  rcases g1 : inB (ls.length : Int) 1 5 with _ | _
  · go_enter Tryz.func52, Tryz.ntmps52
    go_wp2_with fail; refine (i_in _ _ _ _).mono ?_; rw [g1]; rintro e w' ⟨rfl, rfl⟩; go_wp2; go_ret; exact ⟨false, rfl, (fun h => by cases h), HB.out⟩
  rcases g2 : inB (sp.length : Int) 1 4 with _ | _
  · go_enter Tryz.func52, Tryz.ntmps52
    go_wp2_with fail; refine (i_in _ _ _ _).mono ?_; rw [g1]; rintro e w' ⟨rfl, rfl⟩; go_wp2_with fail; refine (i_in _ _ _ _).mono ?_; rw [g2]; rintro e w' ⟨rfl, rfl⟩; go_wp2; go_ret; exact ⟨false, rfl, (fun h => by cases h), HB.out⟩
  have HG1 := Lib.hid g1; have HG2 := Lib.hid g2
  go_enter Tryz.func52, Tryz.ntmps52
  go_wp2_with fail; refine (i_in _ _ _ _).mono ?_; rw [g1]; rintro e w' ⟨rfl, rfl⟩; go_wp2_with fail; refine (i_in _ _ _ _).mono ?_; rw [g2]; rintro e w' ⟨rfl, rfl⟩; go_wp2; clear e1 k0 k1 g1 g2
  go_loopw [3] (fun a wr => ∃ k : Nat, k ≤ ls.length ∧ a = .int .i64 k ∧ Hid (LkGd ls k) ∧ Hid (Below w1.heap.size w1 wr)) (fun a _ => ls.length - (intOf a).toNat)
  case atStart => exact ⟨0, Nat.zero_le _, rfl, Lib.hid ⟨fun j hj => by omega, fun j hj => by omega, fun j hj => by omega, fun j hj => by omega⟩, Lib.hid (Below.refl _ _)⟩
  case round =>
    obtain ⟨k, hk, rfl, HGD, HBR⟩ := hrel; have k0 := (HBR.out.cell (lt_of_cellq HK.out.1)).trans HK.out.1; have k1 := (HBR.out.cell (lt_of_cellq HK.out.2)).trans HK.out.2; have HBW := Lib.hid (HB.out.trans (HBR.out.mono HB.out.size))
    by_cases hlt : k < ls.length
    · have hltI : decide ((k : Int) < (ls.length : Int)) = true := decide_eq_true (by omega)
      have hkI : (k : Int) < (ls.length : Int) := by omega
      have hwk : IntKind.i64.wrap ((k : Int) + 1) = (k : Int) + 1 := w64 _ (by omega) (by omega); have HXW := Lib.hid (HX.out.below HBW.out); obtain ⟨b, off, rfl, hc⟩ := HXW.out.at hlt; obtain ⟨d0, d1, d2⟩ := hc k hlt
      rcases g3 : inB (gk ls k).1 0 (k : Int) with _ | _
      · obtain ⟨F, hF⟩ : ∃ F, (gk ls k).1 = F := ⟨_, rfl⟩
        rw [hF] at d0 g3; clear hc hF; go_wp2_with fail; refine (i_in _ _ _ _).mono ?_; rw [g3]; rintro e w' ⟨rfl, rfl⟩; go_wp2; go_ret; exact ⟨false, rfl, (fun h => by cases h), HBW.out⟩
      have hpa := fun W => i_Pair (gk ls k).2.1 (gk ls k).2.2 W
      rcases g4 : (inB (gk ls k).2.1 4 60 && inB (gk ls k).2.2 4 60) with _ | _
      · obtain ⟨F, hF⟩ : ∃ F, (gk ls k).1 = F := ⟨_, rfl⟩
        rw [hF] at d0 g3; rw [g4] at hpa; have HPA := Lib.hid hpa; clear hc hF hpa g4; go_wp2_with fail; refine (i_in _ _ _ _).mono ?_; rw [g3]; rintro e w' ⟨rfl, rfl⟩; go_wp2_with fail; refine (HPA.out _).mono ?_; rintro e w2 ⟨rfl, b2⟩; have HB2 := Lib.hid (HBW.out.trans (b2.mono HBW.out.size)); clear b2; go_wp2; go_ret; exact ⟨false, rfl, (fun h => by cases h), HB2.out⟩
      have HFR := Lib.hid (show LkTo ls (k + 1) from fun j hj => by
        by_cases h : j < k
        · exact HGD.out.frm j h
        · obtain rfl : j = k := by omega
          exact inB_iff.1 g3)
      have HTR := Lib.hid (fun W (bw : Below wr.heap.size wr W) => i_Train _ q c sp.length c' ls hl5 (k + 1) (k + 1) W (Nat.le_refl _) (by omega) HFR.out (HXW.out.below bw))
      have HT4 := Lib.hid (show (4 ≤ (gk ls k).2.1 ∧ (gk ls k).2.1 ≤ 60) ∧ (4 ≤ (gk ls k).2.2 ∧ (gk ls k).2.2 ≤ 60) by
        rw [Bool.and_eq_true] at g4; exact ⟨inB_iff.1 g4.1, inB_iff.1 g4.2⟩)
      rw [g4] at hpa; have HPA := Lib.hid hpa
      have HGN := Lib.hid (show (trnF ls (k + 1)).length ≤ 3 → LkGd ls (k + 1) from fun h3 => ⟨HFR.out, fun i hi => by
        by_cases h : i < k
        · exact HGD.out.one i h
        · obtain rfl : i = k := by omega
          exact HT4.out.1, fun i hi => by
        by_cases h : i < k
        · exact HGD.out.two i h
        · obtain rfl : i = k := by omega
          exact HT4.out.2, fun i hi => by
        by_cases h : i < k
        · exact HGD.out.len i h
        · obtain rfl : i = k := by omega
          exact h3⟩)
      obtain ⟨F, hF⟩ : ∃ F, (gk ls k).1 = F := ⟨_, rfl⟩; rw [hF] at d0 g3; obtain ⟨T1, hT1⟩ : ∃ T1, (gk ls k).2.1 = T1 := ⟨_, rfl⟩; obtain ⟨T2, hT2⟩ : ∃ T2, (gk ls k).2.2 = T2 := ⟨_, rfl⟩; rw [hT1] at d1 HPA; rw [hT2] at d2 HPA; unfold TrPost at HTR; rw [show ((k + 1 : Nat) : Int) = (k : Int) + 1 by omega] at HTR; clear hc hF hpa g4 hT1 hT2; go_wp2_with fail; refine (i_in _ _ _ _).mono ?_; rw [g3]; rintro e w' ⟨rfl, rfl⟩; go_wp2_with fail; refine (HPA.out _).mono ?_; rintro e w2 ⟨rfl, b2⟩; have HBR2 := Lib.hid (HBR.out.trans (b2.mono HBR.out.size)); have HB2 := Lib.hid (HBW.out.trans (b2.mono HBW.out.size)); have htr := HTR.out w2 b2; have k0 := (b2.cell (lt_of_cellq k0)).trans k0; have k1 := (b2.cell (lt_of_cellq k1)).trans k1; clear b2 d0 d1 d2; go_wp2_with fail; refine htr.mono ?_; clear htr; rintro e w3 ⟨p3, c3, rfl, _, b3⟩; have HB3 := Lib.hid (HB2.out.trans (b3.mono HB2.out.size)); have HBR3 := Lib.hid (HBR2.out.trans (b3.mono HBR2.out.size))
      obtain ⟨n3, hn3⟩ : ∃ n, (trnF ls (k + 1)).length = n := ⟨_, rfl⟩; rw [hn3] at HGN ⊢; clear b3 hn3
      by_cases h3 : n3 ≤ 3
      · have h3I : decide ((n3 : Int) > 3) = false := by simp; omega
        have HGN2 := Lib.hid (HGN.out h3); clear HGN; go_wp2; go_roundw
        case rel => exact ⟨k + 1, by omega, by go_num, HGN2, HBR3⟩
        case measure => simp [intOf]; omega
      · have h3I : decide ((n3 : Int) > 3) = true := by simp; omega
        go_wp2; go_ret; exact ⟨false, rfl, (fun h => by cases h), HB3.out⟩
    · obtain rfl : k = ls.length := by omega
      have hltI : decide ((ls.length : Int) < (ls.length : Int)) = false := by simp
      obtain ⟨wn, rfl⟩ : ∃ wn : World, wn = wr := ⟨_, rfl⟩; go_wp2; clear k0 k1
      go_loopw [4] (fun a wr => ∃ k : Nat, k ≤ sp.length ∧ a = .int .i64 k ∧ Hid (∀ j, j < k → inB (gi sp j) 1 (ls.length : Int) = true) ∧ Hid (Below w1.heap.size w1 wr)) (fun a _ => sp.length - (intOf a).toNat)
      case atStart => exact ⟨0, Nat.zero_le _, rfl, Lib.hid (fun j hj => by omega), HBR⟩
      case round =>
        obtain ⟨k, hk, rfl, HIN, HBR⟩ := hrel; have k0 := (HBR.out.cell (lt_of_cellq HK.out.1)).trans HK.out.1; have k1 := (HBR.out.cell (lt_of_cellq HK.out.2)).trans HK.out.2; have HBW := Lib.hid (HB.out.trans (HBR.out.mono HB.out.size))
        by_cases hlt : k < sp.length
        · have hltI : decide ((k : Int) < (sp.length : Int)) = true := decide_eq_true (by omega)
          have hkI : (k : Int) < (sp.length : Int) := by omega
          have hwk : IntKind.i64.wrap ((k : Int) + 1) = (k : Int) + 1 := w64 _ (by omega) (by omega); obtain ⟨b, off, rfl, hc⟩ := (HQ.out.below HBW.out).at hlt; have d0 := hc k hlt; have HAR := Lib.hid (fun W => i_Arbor (.slice (some ⟨b, off, none⟩) sp.length c') p ls.length c (gi sp k) W)
          have HST := Lib.hid (show inB (gi sp k) 1 (ls.length : Int) = true → ∀ j, j < k + 1 → inB (gi sp j) 1 (ls.length : Int) = true from fun h j hj => by
            by_cases hh : j < k
            · exact HIN.out j hh
            · obtain rfl : j = k := by omega
              exact h)
          obtain ⟨y, hy⟩ : ∃ y, gi sp k = y := ⟨_, rfl⟩; rw [hy] at d0 HAR HST; clear hc hy; go_upto_region 11 with (fail); have HSB := Lib.hid (cl3 k0 k1 d0); refine held3 k0 k1 d0 (fun W0 HB0 => ?_); refine tk 0 rfl (by exact HSB.out _ HB0) ?_; (try simp only [Act.put, ptL]); refine tk 1 rfl (by exact HSB.out _ HB0) ?_; (try simp only [Act.put, ptL]); refine tk 2 rfl (by exact HSB.out _ HB0) ?_; (try simp only [Act.put, ptL]); refine tk 3 rfl (by exact HSB.out _ HB0) ?_; (try simp only [Act.put, ptL]); refine tk 4 rfl (by exact HSB.out _ HB0) ?_; (try simp only [Act.put, ptL]); refine tk 5 rfl (by exact HSB.out _ HB0) ?_; (try simp only [Act.put, ptL]); refine rz1 6 rfl ?_; intro K hK; go_simp; refine (HAR.out _).mono ?_; rintro e W1 ⟨rfl, ba⟩; have hb1 := HB0.trans (ba.mono HB0.size); have HBR2 := Lib.hid (HBR.out.trans (hb1.mono HBR.out.size)); have HBW2 := Lib.hid (HBW.out.trans (hb1.mono HBW.out.size))
          refine kz hK (by exact HSB.out _ hb1) ?_; clear hK K; (try simp only [Act.put, ptL]); refine tk 7 rfl (by exact HSB.out _ hb1) ?_; (try simp only [Act.put, ptL]); refine wpAnyH_done (by kernel_rfl) ?_ _; clear HSB HB0 ba hb1 k0 k1 d0
          rcases g5 : inB y 1 (ls.length : Int) with _ | _
          · go_wp2
            go_ret; exact ⟨false, rfl, (fun h => by cases h), HBW2.out⟩
          · have HST2 := Lib.hid (HST.out g5)
            go_wp2; go_roundw
            case rel => exact ⟨k + 1, by omega, by go_num, HST2, HBR2⟩
            case measure => simp [intOf]; omega
        · obtain rfl : k = sp.length := by omega
          have hltI : decide ((sp.length : Int) < (sp.length : Int)) = false := by simp
          go_wp2; go_ret; exact ⟨true, rfl, fun _ => pcGood_of HG1.out HG2.out HGD.out HIN.out, HBW.out⟩
end Go.Proofs.YtchclaipbahiiaaGreat
end

section
namespace Go.Proofs.YtchclaipbahiiaaGreat
set_option linter.unusedVariables false
theorem down_ediv (n b : Int) (hb : 0 < b) : (if n.tdiv b * b > n then n.tdiv b - 1 else n.tdiv b) = n / b := by
  have e2 : (n / b) * b + n % b = n := by have := Int.emod_add_mul_ediv n b; rw [Int.mul_comm (n / b) b]; omega
  have h1 := Int.emod_nonneg n (show b ≠ 0 by omega); have h2 := Int.emod_lt_of_pos n hb
  rcases Int.le_total 0 n with h | h
  · rw [Int.tdiv_eq_ediv_of_nonneg h, if_neg (by omega)]
  · rw [Int.tdiv_eq_ediv]
    by_cases hd : 0 ≤ n ∨ b ∣ n
    · rw [if_pos hd, Int.add_zero, if_neg (by omega)]
    · rw [if_neg hd, Int.sign_eq_one_of_pos hb]
      have hne : n % b ≠ 0 := fun hc => hd (.inr (Int.dvd_of_emod_eq_zero hc))
      rw [if_pos (by rw [Int.add_mul, Int.one_mul]; omega)]; omega
end Go.Proofs.YtchclaipbahiiaaGreat
end

section
namespace Go.Proofs.YtchclaipbahiiaaGreat
open Go Go.RowKit Go.Proofs
set_option linter.unusedVariables false
attribute [local go_sem] imax2 imin2

end Go.Proofs.YtchclaipbahiiaaGreat
end

section
namespace Go.Proofs.YtchclaipbahiiaaGreat
open Go Go.RowKit Go.Proofs
set_option linter.unusedVariables false
set_option linter.unusedSimpArgs false
attribute [local go_sem] imax2 imin2
theorem r_Last (pm : Option Addr) (cm : Nat) (n : Nat) (v1 v2 : Value) (a : Int) (w : World) :
    Calls Tryz.prog 59 #[.agg #[.slice pm n cm, v1, v2], .int .i64 a] w fun e w' => e = .returned (.bool (inB a 1 n)) ∧ Below w.heap.size w w' := by
  obtain ⟨w0, e0, HS0, k0, k1, k2, b0⟩ := box3 w (.slice pm n cm) v1 v2 59; have HB := Lib.hid b0; clear b0
  go_enter Tryz.func59, Tryz.ntmps59
  go_wp2_with fail; refine (r_in _ _ _ _).mono ?_; rintro e wn ⟨rfl, rfl⟩; go_wp2; go_ret; exact ⟨rfl, HB.out⟩
theorem all_badP {α : Type} {f : α → Bool} (d : α) {l : List α} {k : Nat} (hk : k < l.length) (h : f (l.getD k d) = false) : l.all f = false := by
  cases hh : l.all f with
  | false => rfl
  | true => have := (all_at d l).1 hh k hk; rw [h] at this; cases this
theorem upto_succ {P : Nat → Prop} {k : Nat} (h : ∀ j, j < k → P j) (hk : P k) : ∀ j, j < k + 1 → P j := fun j hj => by
  rcases Nat.lt_or_ge j k with h1 | h1
  · exact h j h1
  · obtain rfl : j = k := by omega
    exact hk
set_option maxHeartbeats 1600000 in
set_option maxRecDepth 100000 in
theorem r_Piece (pm pv pr : Option Addr) (cm cv cr : Nat) (p : Pc) (w : World) (hp : RdP w pm pv pr p) (hl : LenOk p) :
    Calls Tryz.prog 19 #[.agg #[.slice pm p.ms.length cm, .slice pv p.mv.length cv, .slice pr p.rs.length cr]] w fun e w' => e = .returned (.bool (pieceB p)) ∧ Below w.heap.size w w' := by
  obtain ⟨hl1, hl2, hl3⟩ := hl; obtain ⟨w0, e0, HS0, k0, k1, k2, b0⟩ := box3 w (.slice pm p.ms.length cm) (.slice pv p.mv.length cv) (.slice pr p.rs.length cr) 59; have HP := Lib.hid (hp.below b0); have HB := Lib.hid b0; have HQ := Lib.hid (pieceB_parts p); have HK0 := Lib.hid (And.intro k0 (And.intro k1 k2)); clear b0 hp
  rcases h1 : inB (p.ms.length : Int) 1 4 with _ | _
  · have H := Lib.hid (show pieceB p = false by rw [HQ.out]; simp [h1])
    go_enter Tryz.func19, Tryz.ntmps19
    go_wp2_with fail; refine (r_in _ _ _ _).mono ?_; rw [h1]; rintro e wn ⟨rfl, rfl⟩; clear e0; go_wp2; go_ret; exact ⟨by rw [H.out]; rfl, HB.out⟩
  by_cases h2 : (p.mv.length : Int) ≤ 8
  case neg =>
    have H := Lib.hid (show pieceB p = false by rw [HQ.out]; simp [h1, h2])
    go_enter Tryz.func19, Tryz.ntmps19
    go_wp2_with fail; refine (r_in _ _ _ _).mono ?_; rw [h1]; rintro e wn ⟨rfl, rfl⟩; clear e0; go_wp2; go_ret; exact ⟨by rw [H.out]; rfl, HB.out⟩
  by_cases h3 : (p.rs.length : Int) ≤ 6
  case neg =>
    have H := Lib.hid (show pieceB p = false by rw [HQ.out]; simp [h1, h2, h3])
    go_enter Tryz.func19, Tryz.ntmps19
    go_wp2_with fail; refine (r_in _ _ _ _).mono ?_; rw [h1]; rintro e wn ⟨rfl, rfl⟩; clear e0; go_wp2; go_ret; exact ⟨by rw [H.out]; rfl, HB.out⟩
  have H123 := Lib.hid (And.intro h1 (And.intro h2 h3))
  go_enter Tryz.func19, Tryz.ntmps19
  go_wp2_with fail; refine (r_in _ _ _ _).mono ?_; rw [h1]; rintro e wn ⟨rfl, rfl⟩; clear e0 h1; go_wp2; clear k0 k1 k2
  go_loopw [3] (fun i wr => ∃ k : Nat, k ≤ p.ms.length ∧ i = .int .i64 k ∧ Hid (∀ j, j < k → meshB (gm p.ms j) = true) ∧ Hid (Below w0.heap.size w0 wr)) (fun i _ => p.ms.length - (intOf i).toNat)
  case atStart => exact ⟨0, Nat.zero_le _, rfl, Lib.hid (fun j hj => by omega), Lib.hid (Below.refl _ _)⟩
  case round =>
    obtain ⟨k, hk, rfl, HK, HY⟩ := hrel; have HBB := Lib.hid (HB.out.trans (HY.out.mono HB.out.size)); have q0 := (HY.out.cell (lt_of_cellq HK0.out.1)).trans HK0.out.1
    by_cases hlt : k < p.ms.length
    · have hki : (k : Int) < (p.ms.length : Int) := by omega
      obtain ⟨b, off, rfl, hc⟩ := ((HP.out.below HY.out).ms).at hlt; obtain ⟨d0, d1⟩ := hc k hlt; have HBAD := Lib.hid (show meshB (gm p.ms k) = false → pieceB p = false from fun h => by rw [HQ.out, all_badP (0, 0) hlt (show meshB (p.ms.getD k (0, 0)) = false from h)]; simp); have HNX := Lib.hid (show meshB (gm p.ms k) = true → ∀ j, j < k + 1 → meshB (gm p.ms j) = true from upto_succ HK.out); obtain ⟨M, hM⟩ : ∃ M, gm p.ms k = M := ⟨_, rfl⟩; rw [hM] at d0 d1 HBAD HNX; obtain ⟨lo, hi⟩ := M; obtain ⟨w4, e4, HS4, y0, y1, b4⟩ := box2 wr (.int .i64 lo) (.int .i64 hi) 61; have HB4 := Lib.hid (HBB.out.trans (b4.mono HBB.out.size)); have HY4 := Lib.hid (HY.out.trans (b4.mono HY.out.size)); clear hc hM b4
      by_cases g1 : lo < 0
      · have H := Lib.hid (HBAD.out (by unfold meshB; simp; omega))
        go_wp2; go_ret; exact ⟨by rw [H.out]; rfl, HB4.out⟩
      by_cases g2 : lo > hi
      · have H := Lib.hid (HBAD.out (by unfold meshB; simp; omega))
        go_wp2; go_ret; exact ⟨by rw [H.out]; rfl, HB4.out⟩
      by_cases g3 : hi > 100
      · have H := Lib.hid (HBAD.out (by unfold meshB; simp; omega))
        go_wp2; go_ret; exact ⟨by rw [H.out]; rfl, HB4.out⟩
      have hw : IntKind.i64.wrap (hi - lo) = hi - lo := w64 _ (by omega) (by omega)
      by_cases g4 : hi - lo > 4
      · have H := Lib.hid (HBAD.out (by unfold meshB; simp; omega))
        go_wp2; go_ret; exact ⟨by rw [H.out]; rfl, HB4.out⟩
      · have H := Lib.hid (HNX.out (by unfold meshB; simp; omega))
        go_wp2; go_roundw
        case rel => exact ⟨k + 1, by omega, by go_num, H, HY4⟩
        case measure => simp [intOf]; omega
    · obtain rfl : k = p.ms.length := by omega
      have hki : ¬ (p.ms.length : Int) < (p.ms.length : Int) := by omega
      have HMS := Lib.hid (show p.ms.all meshB = true from (all_at (0, 0) p.ms).2 HK.out); clear HK; go_wp2
      go_loopw [5] (fun i wr => ∃ k : Nat, k ≤ p.mv.length ∧ i = .int .i64 k ∧ Hid (∀ j, j < k → inB (gi p.mv j) (-300) 300 = true) ∧ Hid (Below w0.heap.size w0 wr)) (fun i _ => p.mv.length - (intOf i).toNat)
      case atStart => exact ⟨0, Nat.zero_le _, rfl, Lib.hid (fun j hj => by omega), HY⟩
      case round =>
        clear q0; obtain ⟨k, hk, rfl, HK, HY⟩ := hrel; have HBB := Lib.hid (HB.out.trans (HY.out.mono HB.out.size)); have q1 := (HY.out.cell (lt_of_cellq HK0.out.2.1)).trans HK0.out.2.1
        by_cases hlt : k < p.mv.length
        · have hki : (k : Int) < (p.mv.length : Int) := by omega
          obtain ⟨b, off, rfl, hc⟩ := ((HP.out.below HY.out).mv).at hlt; have d0 := hc k hlt; clear hc
          cases hb : inB (gi p.mv k) (-300) 300 with
          | false =>
            have H := Lib.hid (show pieceB p = false by rw [HQ.out, all_badP (f := fun x => inB x (-300) 300) 0 hlt (show inB (p.mv.getD k 0) (-300) 300 = false from hb)]; simp); go_wp2_with fail; refine (r_in _ _ _ _).mono ?_; rw [hb]; rintro e wn ⟨rfl, rfl⟩; go_wp2; go_ret; exact ⟨by rw [H.out]; rfl, HBB.out⟩
          | true =>
            have H := Lib.hid (upto_succ HK.out hb); go_wp2_with fail; refine (r_in _ _ _ _).mono ?_; rw [hb]; rintro e wn ⟨rfl, rfl⟩; clear hb; go_wp2; go_roundw
            case rel => exact ⟨k + 1, by omega, by go_num, H, HY⟩
            case measure => simp [intOf]; omega
        · obtain rfl : k = p.mv.length := by omega
          have hki : ¬ (p.mv.length : Int) < (p.mv.length : Int) := by omega
          have HMV := Lib.hid (show (p.mv.all fun x => inB x (-300) 300) = true from (all_at (f := fun x => inB x (-300) 300) 0 p.mv).2 HK.out); clear HK; go_wp2
          go_loopw [6] (fun i wr => ∃ k : Nat, k ≤ p.rs.length ∧ i = .int .i64 k ∧ Hid (∀ j, j < k → readB p.ms.length p.mv.length (gr p.rs j) = true) ∧ Hid (Below w0.heap.size w0 wr)) (fun i _ => p.rs.length - (intOf i).toNat)
          case atStart => exact ⟨0, Nat.zero_le _, rfl, Lib.hid (fun j hj => by omega), HY⟩
          case round =>
            clear q1; obtain ⟨k, hk, rfl, HK, HY⟩ := hrel; have HBB := Lib.hid (HB.out.trans (HY.out.mono HB.out.size)); have q0 := (HY.out.cell (lt_of_cellq HK0.out.1)).trans HK0.out.1; have q1 := (HY.out.cell (lt_of_cellq HK0.out.2.1)).trans HK0.out.2.1; have q2 := (HY.out.cell (lt_of_cellq HK0.out.2.2)).trans HK0.out.2.2
            by_cases hlt : k < p.rs.length
            · have hki : (k : Int) < (p.rs.length : Int) := by omega
              obtain ⟨b, off, rfl, hc⟩ := ((HP.out.below HY.out).rs).at hlt; obtain ⟨d0, d1, d2, d3⟩ := hc k hlt; have HBAD := Lib.hid (show readB p.ms.length p.mv.length (gr p.rs k) = false → pieceB p = false from fun h => by rw [HQ.out, all_badP rd0 hlt (show readB p.ms.length p.mv.length (p.rs.getD k rd0) = false from h)]; simp); have HNX := Lib.hid (show readB p.ms.length p.mv.length (gr p.rs k) = true → ∀ j, j < k + 1 → readB p.ms.length p.mv.length (gr p.rs j) = true from upto_succ HK.out); obtain ⟨M, hM⟩ : ∃ M, gr p.rs k = M := ⟨_, rfl⟩; rw [hM] at d0 d1 d2 d3 HBAD HNX; obtain ⟨a, c, s, o⟩ := M; obtain ⟨w4, e4, HS4, y0, y1, y2, y3, b4⟩ := box4 wr (.int .i64 a) (.int .i64 c) (.int .i64 s) (.int .i64 o) 116; have HB4 := Lib.hid (HBB.out.trans (b4.mono HBB.out.size)); have HY4 := Lib.hid (HY.out.trans (b4.mono HY.out.size)); have q0 := (b4.cell (lt_of_cellq q0)).trans q0; have q1 := (b4.cell (lt_of_cellq q1)).trans q1
              have q2 := (b4.cell (lt_of_cellq q2)).trans q2; clear hc hM b4
              rcases g1 : inB a 0 (p.mv.length : Int) with _ | _
              · have H := Lib.hid (HBAD.out (by unfold readB; simp [g1]))
                go_wp2_with fail; refine (r_in _ _ _ _).mono ?_; rw [g1]; rintro e wn ⟨rfl, rfl⟩; clear e4; go_wp2; go_ret; exact ⟨by rw [H.out]; rfl, HB4.out⟩
              rcases g2 : inB c 1 (p.ms.length : Int) with _ | _
              · have H := Lib.hid (HBAD.out (by unfold readB; simp [g2]))
                go_wp2_with fail; refine (r_in _ _ _ _).mono ?_; rw [g1]; rintro e wn ⟨rfl, rfl⟩; clear e4; go_wp2_with fail; refine (r_Last _ _ _ _ _ _ _).mono ?_; rw [g2]; rintro e wn2 ⟨rfl, b5⟩; have HB5 := Lib.hid (HB4.out.trans (b5.mono HB4.out.size)); clear b5; go_wp2; go_ret; exact ⟨by rw [H.out]; rfl, HB5.out⟩
              go_wp2_with fail; refine (r_in _ _ _ _).mono ?_; rw [g1]; rintro e wn ⟨rfl, rfl⟩; clear e4; go_wp2_with fail; refine (r_Last _ _ _ _ _ _ _).mono ?_; rw [g2]; rintro e wn2 ⟨rfl, b5⟩; have HB5 := Lib.hid (HB4.out.trans (b5.mono HB4.out.size)); have HY5 := Lib.hid (HY4.out.trans (b5.mono HY4.out.size)); have y2 := (b5.cell (lt_of_cellq y2)).trans y2; have y3 := (b5.cell (lt_of_cellq y3)).trans y3; clear b5 q0 q1 q2; go_wp2_with fail; refine (r_in _ _ _ _).mono ?_
              rcases g3 : inB s (-5000) 5000 with _ | _
              · have H := Lib.hid (HBAD.out (by unfold readB; simp [g3]))
                rintro e wn ⟨rfl, rfl⟩; go_wp2; go_ret; exact ⟨by rw [H.out]; rfl, HB5.out⟩
              rintro e wn ⟨rfl, rfl⟩; go_wp2_with fail; refine (r_in _ _ _ _).mono ?_
              rcases g4 : inB o 0 50 with _ | _
              · have H := Lib.hid (HBAD.out (by unfold readB; simp [g4]))
                rintro e wn ⟨rfl, rfl⟩; go_wp2; go_ret; exact ⟨by rw [H.out]; rfl, HB5.out⟩
              · have H := Lib.hid (HNX.out (by unfold readB; simp [g1, g2, g3, g4]))
                rintro e wn ⟨rfl, rfl⟩; clear g1 g2 g3 g4; go_wp2; go_roundw
                case rel => exact ⟨k + 1, by omega, by go_num, H, HY5⟩
                case measure => simp [intOf]; omega
            · obtain rfl : k = p.rs.length := by omega
              have hki : ¬ (p.rs.length : Int) < (p.rs.length : Int) := by omega
              have H := Lib.hid (show pieceB p = true by
                rw [HQ.out, HMS.out, HMV.out, H123.out.1, (all_at rd0 p.rs).2 HK.out, decide_eq_true H123.out.2.1, decide_eq_true H123.out.2.2]; rfl)
              go_wp2; go_ret; exact ⟨by rw [H.out]; rfl, HBB.out⟩
end Go.Proofs.YtchclaipbahiiaaGreat
end

section
namespace Go.Proofs.YtchclaipbahiiaaGreat
open Go Go.RowKit Go.Proofs
set_option linter.unusedVariables false
attribute [local go_sem] imax2 imin2
theorem ovTo_all (p : Pc) (of : List Int → Int × Int) : ovTo of (truthsF p) (truthsF p).length = ovF p of := by unfold ovTo ovF; rw [List.take_length]
theorem c_isArbor (pm pv pr : Option Addr) (cm cv cr : Nat) (p : Pc) (n least : Int) (w : World) :
    Calls Tryz.prog 103 #[.agg #[.slice pm p.ms.length cm, .slice pv p.mv.length cv, .slice pr p.rs.length cr], .int .i64 n, .int .i64 least] w fun e w' => e = .returned (.bool (inB n least (p.ms.length : Int))) ∧ Below w.heap.size w w' := by
  obtain ⟨w1, e1, HS1, k0, k1, k2, b1⟩ := box3 w (.slice pm p.ms.length cm) (.slice pv p.mv.length cv) (.slice pr p.rs.length cr) 59; have HB := Lib.hid b1; clear b1
  go_enter Tryz.func103, Tryz.ntmps103
  go_wp2_with fail; refine (c_in n least (p.ms.length : Int) _).mono ?_; rintro e w2 ⟨rfl, rfl⟩; clear e1; go_wp2; go_ret; exact ⟨rfl, HB.out⟩
theorem RdI.take {w : World} {p : Option Addr} {xs : List Int} (h : RdI w p xs) (a : Nat) : RdI w p (xs.take a) := by
  rcases h with h | ⟨b, off, rfl, hc⟩
  · exact .inl (by rw [h]; simp)
  · refine .inr ⟨b, off, rfl, fun i hi => ?_⟩
    rw [List.length_take] at hi; have := hc i (by omega); rw [this]
    congr 2
    unfold gi; rw [List.getD_eq_getElem?_getD, List.getD_eq_getElem?_getD, List.getElem?_take_of_lt (by omega)]
theorem PlOk.take {pl : List Int} (h : PlOk pl) (a : Nat) : PlOk (pl.take a) := by
  refine ⟨by have := h.len; rw [List.length_take]; omega, fun i hi => ?_⟩; rw [List.length_take] at hi; have := h.in' i (by omega)
  have e : gi (pl.take a) i = gi pl i := by
    unfold gi; rw [List.getD_eq_getElem?_getD, List.getD_eq_getElem?_getD, List.getElem?_take_of_lt (by omega)]
  rw [e]; exact this

set_option maxHeartbeats 1600000 in
set_option maxRecDepth 100000 in
theorem over_gen (f : FuncId) (caps : Array Value) (hent : ∀ (args : Array Value) (w : World), (callFunc f args).run Tryz.prog w = .ok (.enter f args) w) (pm pv pr : Option Addr) (cm cv cr : Nat) (p : Pc) (aq : Option Addr) (ca : Nat) (ts : List (List Int)) (w : World) (of : List Int → Int × Int) (hq : RdQ w aq p ts) (hl : ts.length ≤ 1000000)
    (hcall : ∀ (W : World) (k : Nat) (p1 p2 : Option Addr) (c1 c2 : Nat), Below w.heap.size w W → k < ts.length → (gl ts k).length = p.ms.length → RdI W p1 (gl ts k) → RdI W p2 (endF p (gl ts k)) → (endF p (gl ts k)).length = p.ms.length + 1 → p.ms.length ≤ c1 → (∃ g, p2 = some ⟨g, 0, none⟩) →
      Calls Tryz.prog f (#[.agg #[.slice p1 p.ms.length c1, .slice p2 (p.ms.length + 1) c2]] ++ caps) W fun e w' => e = .returned (.agg #[.int .i64 (of (gl ts k)).1, .int .i64 (of (gl ts k)).2]) ∧ Below W.heap.size W w') :
    Calls Tryz.prog 62 #[.agg #[.slice pm p.ms.length cm, .slice pv p.mv.length cv, .slice pr p.rs.length cr, .slice aq ts.length ca], .func (.func f) #[] caps] w fun e w' =>
      e = .returned (.agg #[.int .i64 (ovTo of ts ts.length).1, .int .i64 (ovTo of ts ts.length).2]) ∧ Below w.heap.size w w' := by
  obtain ⟨w1, e1, HS1, k0, k1, k2, k3, b1⟩ := box4 w (.slice pm p.ms.length cm) (.slice pv p.mv.length cv) (.slice pr p.rs.length cr) (.slice aq ts.length ca) 120; have kr := alloc_new w1 (.cells #[.int .i64 0, .int .i64 0] 61); obtain ⟨w2, e2, HS2, _, _, b2⟩ := box2 w1 (.int .i64 0) (.int .i64 0) 61; rw [e2] at kr; have ko := alloc_new w2 (.cells #[.int .i64 0, .int .i64 0] 61); obtain ⟨w3, e3, HS3, _, _, b3⟩ := box2 w2 (.int .i64 0) (.int .i64 0) 61; rw [e3] at ko; have b23 := b2.trans (b3.mono b2.size); have b13 := b1.trans (b23.mono b1.size); have k3 := (b23.cell (lt_of_cellq k3)).trans k3; have HQ0 := Lib.hid hq; have HCALL := Lib.hid hcall; have HKO := Lib.hid ko; have HKR := Lib.hid ((b3.block _ (block_lt kr)).trans kr); have HB := Lib.hid b13; have HZ := Lib.hid (show w.heap.size < w1.heap.size ∧ w1.heap.size < w2.heap.size ∧ w2.heap.size < w3.heap.size from ⟨by have := HS1.out; omega, by have := HS2.out; omega, by have := HS3.out; omega⟩)
  have hov0 : overF [] = (0, 0) := rfl; clear hq hcall ko kr b1 b2 b3 b23 b13
  go_enter Tryz.func62, Tryz.ntmps62
  go_wp2; clear e1 e2 e3
  go_loopw [11] (fun i wr => ∃ k : Nat, k ≤ ts.length ∧ i = .int .i64 k ∧ Hid (wr.heap[w2.heap.size]? = some (.cells #[.int .i64 (ovTo of ts k).1, .int .i64 (ovTo of ts k).2] 61 (0, 0))) ∧ Hid (BelX (fun x => x = w2.heap.size) w3.heap.size w3 wr)) (fun i _ => ts.length - (intOf i).toNat)
  case atStart => exact ⟨0, by omega, rfl, by rw [ovTo_zero, hov0]; exact HKO, Lib.hid (BelX.refl _ _ _)⟩
  case round =>
    obtain ⟨k, hk, rfl, HO, HX⟩ := hrel; obtain ⟨hz01, hz12, hz23⟩ := HZ.out
    by_cases hlt : k < ts.length
    · have hBr : Below w.heap.size w wr := ((belX_of (X := fun x => x = w2.heap.size) HB.out).trans (HX.out.mono (by omega))).below (B' := w.heap.size) (Nat.le_refl _) (fun x hx => by subst hx; omega)
      obtain ⟨b, rfl, hall⟩ := HQ0.out.below hBr; obtain ⟨hl1, p1, c1, p2, c2, d0, d1, h1, h2, hl2, hcc, hpp⟩ := hall k hlt; obtain ⟨w4, e4, HS4, y0, y1, b4⟩ := box2 wr (.slice p1 p.ms.length c1) (.slice p2 (p.ms.length + 1) c2) 125; obtain ⟨o0, o1⟩ := cells2 HO.out; have o0 := (b4.cell (lt_of_cellq o0)).trans o0; have o1 := (b4.cell (lt_of_cellq o1)).trans o1; have hB4 : Below w.heap.size w w4 := hBr.trans (b4.mono hBr.size); have H1 := Lib.hid (h1.below b4); have H2 := Lib.hid (h2.below b4); have HCK := Lib.hid (fun (W : World) (hb : Below w4.heap.size w4 W) => HCALL.out W k p1 p2 c1 c2 (hB4.trans (hb.mono hB4.size)) hlt hl1 ((h1.below b4).below hb) ((h2.below b4).below hb) hl2 hcc hpp); have HL1 := Lib.hid hl1; have HL2 := Lib.hid hl2; have HX4 := Lib.hid (HX.out.trans ((belX_of b4).mono HX.out.size)); have HO4 := Lib.hid ((b4.block _ (block_lt HO.out)).trans HO.out); have h0k : (0 : Int) ≤ (k : Int) := by omega
      have hki : (k : Int) < (ts.length : Int) := by omega
      have KS : (w4.cell? ⟨w2.heap.size, 0, none⟩ = some (.int .i64 (ovTo of ts k).1) ∧ w4.cell? ⟨w2.heap.size, 1, none⟩ = some (.int .i64 (ovTo of ts k).2)) ∧ (w4.cell? ⟨wr.heap.size, 0, none⟩ = some (.slice p1 p.ms.length c1) ∧ w4.cell? ⟨wr.heap.size, 1, none⟩ = some (.slice p2 (p.ms.length + 1) c2)) := ⟨⟨o0, o1⟩, ⟨y0, y1⟩⟩; clear hBr hall hl1 hl2 h1 h2 b4 hB4; go_upto_region 5 with (fail); clear e4 d0 d1 y0 y1; refine wp_region_below_tail 7 (by kernel_rfl) (by kernel_rfl) ?_; simp only [List.take_succ_cons, List.take_zero, List.drop_succ_cons, List.drop_zero]; (repeat (first | ((with_reducible first | apply wq_fg faP0 | apply wq_fg faP1 | apply wq_fg faP2 | apply wq_fg faM0 | apply wq_fg faS0 | apply wq_fg faS1 | apply wq_fg faR0 | apply wq_fg faR1 | apply wq_fg faR2 | apply wq_fg faR3 | apply wq_fg faT0 | apply wq_fg faT1 | apply wq_fg faQ0 | apply wq_fg faQ1 | apply wq_fg faH0 | apply wq_fg faH1 | apply wq_fg faH2 | apply wq_fg faH3); (focus rfl); (focus rfl); go_frame) | ((with_reducible refine wq_lda agSp szSp ?_ ?_ ?_ (fun _ hbq => bcells2 o0 o1 hbq) ?_); (focus rfl); (focus rfl); (focus rfl); go_frame) | ((with_reducible refine wq_lda agT szT ?_ ?_ ?_ (fun _ hbq => bcells2 KS.2.1 KS.2.2 hbq) ?_); (focus rfl); (focus rfl); (focus rfl); go_frame) | ((with_reducible first | apply wq_ix Tryz.underlying23 szI | apply wq_ix Tryz.underlying48 szSp | apply wq_ix Tryz.underlying56 szM | apply wq_ix Tryz.underlying57 szR | apply wq_ix Tryz.underlying90 szL | apply wq_ix Tryz.underlying118 szT); (focus rfl); (focus rfl); (focus rfl); (focus omega); (try simp only [Nat.mul_one]); go_frame) | ((with_reducible first | apply wq_ld agI | apply wq_ld agB | apply wq_ld agLI | apply wq_ld agLS | apply wq_ld agLM | apply wq_ld agLR | apply wq_ld agLL | apply wq_ld agLT); (focus rfl); (focus rfl); (focus (intro _ hbq; first | fail)); go_frame) | ((with_reducible first | apply wq_add | apply wq_sub | apply wq_mul | apply wq_rem); (focus rfl); (focus rfl); (focus rfl); (focus omega); (focus omega); go_frame) | ((with_reducible first | apply wq_eql | apply wq_neq | apply wq_lss | apply wq_leq | apply wq_gtr | apply wq_geq | apply wq_max2 | apply wq_min2); (focus rfl); (focus rfl); (focus rfl); go_frame) | ((with_reducible first | apply wq_max3 | apply wq_min3); (focus rfl); (focus rfl); (focus rfl); (focus rfl); go_frame) | go_big_quiet_step ((first | (intro hbq; exact calls_below hbq (HCK.out _ hbq)) | (intro hbq; exact calls_below hbq (c_wider' (ovTo of ts k).1 (ovTo of ts k).2 (of (gl ts k)).1 (of (gl ts k)).2 ((k : Int) == 0) _)))))); refine wpQuiet_nil ?_; intro wq hbq
      have hox := (hbq.block _ (block_lt HO4.out)).trans HO4.out; obtain ⟨w5, w6, s1, s2, ⟨x0, f0⟩, ⟨x1, f1⟩, hx4, hxk, HZ6, hxb⟩ := set2 wq w2.heap.size 61 _ _ (.int .i64 (wdLo ((k : Int) == 0) (ovTo of ts k).1 (of (gl ts k)).1)) (.int .i64 (wdHi ((k : Int) == 0) (ovTo of ts k).2 (of (gl ts k)).2)) hox; have HO6 := Lib.hid hx4
      have HX6 := Lib.hid (show BelX (fun x => x = w2.heap.size) w3.heap.size w3 w6 by
        have g2 := HX4.out.trans ((belX_of hbq).mono HX4.out.size); have g3 := (g2.setCell (p := ⟨w2.heap.size, 0, none⟩) (.inl rfl) (.int .i64 (wdLo ((k : Int) == 0) (ovTo of ts k).1 (of (gl ts k)).1))).setCell (p := ⟨w2.heap.size, 1, none⟩) (.inl rfl) (.int .i64 (wdHi ((k : Int) == 0) (ovTo of ts k).2 (of (gl ts k)).2)); rw [s1, s2] at g3; exact g3)
      have HE1 := Lib.hid (show (ovTo of ts (k + 1)).1 = wdLo ((k : Int) == 0) (ovTo of ts k).1 (of (gl ts k)).1 by
        rw [ovTo_succ of ts k hlt]; unfold wdLo
        by_cases h : k = 0
        · subst h; simp
        · rw [if_neg h]; simp [h])
      have HE2 := Lib.hid (show (ovTo of ts (k + 1)).2 = wdHi ((k : Int) == 0) (ovTo of ts k).2 (of (gl ts k)).2 by
        rw [ovTo_succ of ts k hlt]; unfold wdHi
        by_cases h : k = 0
        · subst h; simp
        · rw [if_neg h]; simp [h])
      clear hx4 hxk hxb hox hbq KS o0 o1; go_wp2; go_roundw
      case rel => exact ⟨k + 1, by omega, by go_num, by rw [HE1.out, HE2.out]; exact HO6, HX6⟩
      case measure => simp [intOf]; omega
    · obtain rfl : k = ts.length := by omega
      obtain ⟨o0, o1⟩ := cells2 HO.out; have hkr := (HX.out.block w1.heap.size (by omega) (by omega)).trans HKR.out; obtain ⟨w5, w6, s1, s2, ⟨c0, f0⟩, ⟨c1, f1⟩, hx4, hxk, HZ6, hxb⟩ := set2 wr w1.heap.size 61 _ _ (.int .i64 (ovTo of ts ts.length).1) (.int .i64 (ovTo of ts ts.length).2) hkr; obtain ⟨r0, r1⟩ := cells2 hx4; have HBB := Lib.hid (show Below w.heap.size w w6 from hxb w w.heap.size (by omega) (((belX_of (X := fun x => x = w2.heap.size) HB.out).trans (HX.out.mono (by omega))).below (B' := w.heap.size) (Nat.le_refl _) (fun x hx => by subst hx; omega))); clear hx4 hxk hxb hkr; go_wp2; refine bodyPost_ret (v := .agg #[.int .i64 (ovTo of ts ts.length).1, .int .i64 (ovTo of ts ts.length).2]) ?_ rfl ⟨rfl, HBB.out⟩; simp [results, Tryz.results62, go_sem, r0, r1]


def hdV (h : Hd) (pe : Option Addr) (ce : Nat) : Value := .agg #[.int .i64 h.arb, .int .i64 h.num, .int .i64 h.den, .slice pe h.er.length ce]
theorem handB_parts (n : Nat) (h : Hd) : handB n h = (inB h.arb 0 n && inB h.num 1 100 && inB h.den 1 100 && inB (h.er.length : Int) 1 8 && h.er.all errB) := by
  have e : inB (h.er.length : Int) 1 8 = (decide (1 ≤ h.er.length) && decide (h.er.length ≤ 8)) := by
    unfold inB; rw [Bool.eq_iff_iff]; simp only [Bool.and_eq_true, decide_eq_true_eq]; omega
  unfold handB; rw [e]; simp only [Bool.and_assoc]
set_option maxHeartbeats 1600000 in
set_option maxRecDepth 100000 in
theorem c_isHand (pm pv pr : Option Addr) (cm cv cr : Nat) (p : Pc) (h : Hd) (pe : Option Addr) (ce : Nat) (w : World) (hh : RdS w pe h.er) (hl : h.er.length ≤ 1000000) :
    Calls Tryz.prog 61 #[.agg #[.slice pm p.ms.length cm, .slice pv p.mv.length cv, .slice pr p.rs.length cr], hdV h pe ce] w fun e w' => e = .returned (.bool (handB p.ms.length h)) ∧ Below w.heap.size w w' := by
  unfold hdV; obtain ⟨w0, e0, HS0, k0, k1, k2, b0⟩ := box3 w (.slice pm p.ms.length cm) (.slice pv p.mv.length cv) (.slice pr p.rs.length cr) 59; obtain ⟨w1, e1, HS1, q0, q1, q2, q3, b1⟩ := box4 w0 (.int .i64 h.arb) (.int .i64 h.num) (.int .i64 h.den) (.slice pe h.er.length ce) 65; have HE := Lib.hid ((hh.below b0).below b1); have HB := Lib.hid (b0.trans (b1.mono b0.size)); have k0 := (b1.cell (lt_of_cellq k0)).trans k0; have k1 := (b1.cell (lt_of_cellq k1)).trans k1; have k2 := (b1.cell (lt_of_cellq k2)).trans k2; have HQ := Lib.hid (handB_parts p.ms.length h); have ha := c_isArbor pm pv pr cm cv cr p h.arb 0; have HAR := Lib.hid ha; clear b0 b1 hh ha
  rcases h1 : inB h.arb 0 p.ms.length with _ | _
  · have H := Lib.hid (show handB p.ms.length h = false by rw [HQ.out]; simp [h1])
    go_enter Tryz.func61, Tryz.ntmps61
    go_wp2_with fail; refine (HAR.out _).mono ?_; rw [h1]; rintro e wn ⟨rfl, bq⟩; replace HB := Lib.hid (HB.out.trans (bq.mono HB.out.size)); replace HE := Lib.hid (HE.out.below bq); have q0 := (bq.cell (lt_of_cellq q0)).trans q0; have q1 := (bq.cell (lt_of_cellq q1)).trans q1; have q2 := (bq.cell (lt_of_cellq q2)).trans q2; have q3 := (bq.cell (lt_of_cellq q3)).trans q3; clear bq e0 e1; go_wp2; go_ret; exact ⟨by rw [H.out]; rfl, HB.out⟩
  rcases h2 : inB h.num 1 100 with _ | _
  · have H := Lib.hid (show handB p.ms.length h = false by rw [HQ.out]; simp [h1, h2])
    go_enter Tryz.func61, Tryz.ntmps61
    go_wp2_with fail; refine (HAR.out _).mono ?_; rw [h1]; rintro e wn ⟨rfl, bq⟩; replace HB := Lib.hid (HB.out.trans (bq.mono HB.out.size)); replace HE := Lib.hid (HE.out.below bq); have q0 := (bq.cell (lt_of_cellq q0)).trans q0; have q1 := (bq.cell (lt_of_cellq q1)).trans q1; have q2 := (bq.cell (lt_of_cellq q2)).trans q2; have q3 := (bq.cell (lt_of_cellq q3)).trans q3; clear bq e0 e1; go_wp2_with fail; refine (c_in _ _ _ _).mono ?_; rw [h2]; rintro e wn ⟨rfl, rfl⟩; go_wp2; go_ret; exact ⟨by rw [H.out]; rfl, HB.out⟩
  rcases h3 : inB h.den 1 100 with _ | _
  · have H := Lib.hid (show handB p.ms.length h = false by rw [HQ.out]; simp [h1, h2, h3])
    go_enter Tryz.func61, Tryz.ntmps61
    go_wp2_with fail; refine (HAR.out _).mono ?_; rw [h1]; rintro e wn ⟨rfl, bq⟩; replace HB := Lib.hid (HB.out.trans (bq.mono HB.out.size)); replace HE := Lib.hid (HE.out.below bq); have q0 := (bq.cell (lt_of_cellq q0)).trans q0; have q1 := (bq.cell (lt_of_cellq q1)).trans q1; have q2 := (bq.cell (lt_of_cellq q2)).trans q2; have q3 := (bq.cell (lt_of_cellq q3)).trans q3; clear bq e0 e1; go_wp2_with fail; refine (c_in _ _ _ _).mono ?_; rw [h2]; rintro e wn ⟨rfl, rfl⟩; go_wp2_with fail; refine (c_in _ _ _ _).mono ?_; rw [h3]; rintro e wn ⟨rfl, rfl⟩; go_wp2; go_ret; exact ⟨by rw [H.out]; rfl, HB.out⟩
  rcases h4 : inB (h.er.length : Int) 1 8 with _ | _
  · have H := Lib.hid (show handB p.ms.length h = false by rw [HQ.out]; simp [h1, h2, h3, h4])
    go_enter Tryz.func61, Tryz.ntmps61
    go_wp2_with fail; refine (HAR.out _).mono ?_; rw [h1]; rintro e wn ⟨rfl, bq⟩; replace HB := Lib.hid (HB.out.trans (bq.mono HB.out.size)); replace HE := Lib.hid (HE.out.below bq); have q0 := (bq.cell (lt_of_cellq q0)).trans q0; have q1 := (bq.cell (lt_of_cellq q1)).trans q1; have q2 := (bq.cell (lt_of_cellq q2)).trans q2; have q3 := (bq.cell (lt_of_cellq q3)).trans q3; clear bq e0 e1; go_wp2_with fail; refine (c_in _ _ _ _).mono ?_; rw [h2]; rintro e wn ⟨rfl, rfl⟩; go_wp2_with fail; refine (c_in _ _ _ _).mono ?_; rw [h3]; rintro e wn ⟨rfl, rfl⟩; go_wp2_with fail; refine (c_in _ _ _ _).mono ?_; rw [h4]; rintro e wn ⟨rfl, rfl⟩; go_wp2; go_ret; exact ⟨by rw [H.out]; rfl, HB.out⟩
  · have H := Lib.hid (show handB p.ms.length h = h.er.all errB by rw [HQ.out]; simp [h1, h2, h3, h4])
    go_enter Tryz.func61, Tryz.ntmps61
    go_wp2_with fail; refine (HAR.out _).mono ?_; rw [h1]; rintro e wn ⟨rfl, bq⟩; replace HB := Lib.hid (HB.out.trans (bq.mono HB.out.size)); replace HE := Lib.hid (HE.out.below bq); have q0 := (bq.cell (lt_of_cellq q0)).trans q0; have q1 := (bq.cell (lt_of_cellq q1)).trans q1; have q2 := (bq.cell (lt_of_cellq q2)).trans q2; have q3 := (bq.cell (lt_of_cellq q3)).trans q3; clear bq e0 e1; go_wp2_with fail; refine (c_in _ _ _ _).mono ?_; rw [h2]; rintro e wn ⟨rfl, rfl⟩; go_wp2_with fail; refine (c_in _ _ _ _).mono ?_; rw [h3]; rintro e wn ⟨rfl, rfl⟩; go_wp2_with fail; refine (c_in _ _ _ _).mono ?_; rw [h4]; rintro e wn ⟨rfl, rfl⟩; go_wp2_with fail; refine (cf_err pe ce h.er _ HE.out hl).mono ?_; rintro e wn ⟨rfl, bq⟩; replace HB := Lib.hid (HB.out.trans (bq.mono HB.out.size)); clear bq; go_wp2; go_ret; exact ⟨by rw [H.out]; simp, HB.out⟩
end Go.Proofs.YtchclaipbahiiaaGreat
end

section
namespace Go.Proofs.YtchclaipbahiiaaGreat
open Go Go.RowKit Go.Proofs
set_option linter.unusedVariables false
set_option linter.unusedSimpArgs false
attribute [local go_sem] imax2 imin2
set_option maxHeartbeats 1600000 in
set_option maxRecDepth 100000 in
theorem r_Hand (pm pv pr : Option Addr) (cm cv cr : Nat) (p : Pc) (h : Hd) (pe : Option Addr) (ce : Nat) (w : World) (hh : RdS w pe h.er) (hl : h.er.length ≤ 1000000) :
    Calls Tryz.prog 20 #[.agg #[.slice pm p.ms.length cm, .slice pv p.mv.length cv, .slice pr p.rs.length cr], hdV h pe ce] w fun e w' => e = .returned (.bool (handB p.ms.length h)) ∧ Below w.heap.size w w' := by
  unfold hdV; obtain ⟨w0, e0, HS0, k0, k1, k2, b0⟩ := box3 w (.slice pm p.ms.length cm) (.slice pv p.mv.length cv) (.slice pr p.rs.length cr) 59; obtain ⟨w1, e1, HS1, q0, q1, q2, q3, b1⟩ := box4 w0 (.int .i64 h.arb) (.int .i64 h.num) (.int .i64 h.den) (.slice pe h.er.length ce) 65; have HE := Lib.hid ((hh.below b0).below b1); have HB := Lib.hid (b0.trans (b1.mono b0.size)); have k0 := (b1.cell (lt_of_cellq k0)).trans k0; have HQ := Lib.hid (handB_parts p.ms.length h); have HKK := Lib.hid (And.intro k0 (And.intro q0 (And.intro q1 (And.intro q2 q3)))); clear b0 b1 hh k0 k1 k2 q0 q1 q2
  go_enter Tryz.func20, Tryz.ntmps20
  go_wp2; clear e0 e1 q3
  go_loopw [5] (fun i wr => ∃ k : Nat, k ≤ h.er.length ∧ i = .int .i64 k ∧ Hid (∀ j, j < k → errB (gm h.er j) = true) ∧ Hid (Below w1.heap.size w1 wr)) (fun i _ => h.er.length - (intOf i).toNat)
  case atStart => exact ⟨0, Nat.zero_le _, rfl, Lib.hid (fun j hj => by omega), Lib.hid (Below.refl _ _)⟩
  case round =>
    obtain ⟨k, hk, rfl, HK, HY⟩ := hrel; have HBB := Lib.hid (HB.out.trans (HY.out.mono HB.out.size)); have q3 := (HY.out.cell (lt_of_cellq HKK.out.2.2.2.2)).trans HKK.out.2.2.2.2
    by_cases hlt : k < h.er.length
    · have hki : (k : Int) < (h.er.length : Int) := by omega
      obtain ⟨b, off, rfl, hc⟩ := (HE.out.below HY.out).at hlt; obtain ⟨d0, d1⟩ := hc k hlt; have HBAD := Lib.hid (show errB (gm h.er k) = false → handB p.ms.length h = false from fun g => by rw [HQ.out, all_badP (0, 0) hlt (show errB (h.er.getD k (0, 0)) = false from g)]; simp); have HNX := Lib.hid (show errB (gm h.er k) = true → ∀ j, j < k + 1 → errB (gm h.er j) = true from upto_succ HK.out); obtain ⟨M, hM⟩ : ∃ M, gm h.er k = M := ⟨_, rfl⟩; rw [hM] at d0 d1 HBAD HNX; obtain ⟨lo, hi⟩ := M; obtain ⟨w4, e4, HS4, y0, y1, b4⟩ := box2 wr (.int .i64 lo) (.int .i64 hi) 61; have HB4 := Lib.hid (HBB.out.trans (b4.mono HBB.out.size)); have HY4 := Lib.hid (HY.out.trans (b4.mono HY.out.size)); clear hc hM b4
      by_cases g1 : lo < -30
      · have H := Lib.hid (HBAD.out (by unfold errB; simp; omega))
        go_wp2; go_ret; exact ⟨by rw [H.out]; rfl, HB4.out⟩
      by_cases g2 : lo > hi
      · have H := Lib.hid (HBAD.out (by unfold errB; simp; omega))
        go_wp2; go_ret; exact ⟨by rw [H.out]; rfl, HB4.out⟩
      by_cases g3 : hi > 30
      · have H := Lib.hid (HBAD.out (by unfold errB; simp; omega))
        go_wp2; go_ret; exact ⟨by rw [H.out]; rfl, HB4.out⟩
      · have H := Lib.hid (HNX.out (by unfold errB; simp; omega))
        go_wp2; go_roundw
        case rel => exact ⟨k + 1, by omega, by go_num, H, HY4⟩
        case measure => simp [intOf]; omega
    · obtain rfl : k = h.er.length := by omega
      have hki : ¬ (h.er.length : Int) < (h.er.length : Int) := by omega
      have HMS := Lib.hid (show h.er.all errB = true from (all_at (0, 0) h.er).2 HK.out); have k0 := (HY.out.cell (lt_of_cellq HKK.out.1)).trans HKK.out.1; have q0 := (HY.out.cell (lt_of_cellq HKK.out.2.1)).trans HKK.out.2.1; have q1 := (HY.out.cell (lt_of_cellq HKK.out.2.2.1)).trans HKK.out.2.2.1; have q2 := (HY.out.cell (lt_of_cellq HKK.out.2.2.2.1)).trans HKK.out.2.2.2.1; clear HK
      rcases h1 : inB h.arb 0 p.ms.length with _ | _
      · have H := Lib.hid (show handB p.ms.length h = false by rw [HQ.out]; simp [h1])
        go_wp2_with fail; refine (r_in _ _ _ _).mono ?_; rw [h1]; rintro e wn ⟨rfl, rfl⟩; go_wp2; go_ret; exact ⟨by rw [H.out]; rfl, HBB.out⟩
      rcases h2 : inB h.num 1 100 with _ | _
      · have H := Lib.hid (show handB p.ms.length h = false by rw [HQ.out]; simp [h1, h2])
        go_wp2_with fail; refine (r_in _ _ _ _).mono ?_; rw [h1]; rintro e wn ⟨rfl, rfl⟩; go_wp2_with fail; refine (r_in _ _ _ _).mono ?_; rw [h2]; rintro e wn ⟨rfl, rfl⟩; go_wp2; go_ret; exact ⟨by rw [H.out]; rfl, HBB.out⟩
      rcases h3 : inB h.den 1 100 with _ | _
      · have H := Lib.hid (show handB p.ms.length h = false by rw [HQ.out]; simp [h1, h2, h3])
        go_wp2_with fail; refine (r_in _ _ _ _).mono ?_; rw [h1]; rintro e wn ⟨rfl, rfl⟩; go_wp2_with fail; refine (r_in _ _ _ _).mono ?_; rw [h2]; rintro e wn ⟨rfl, rfl⟩; go_wp2_with fail; refine (r_in _ _ _ _).mono ?_; rw [h3]; rintro e wn ⟨rfl, rfl⟩; go_wp2; go_ret; exact ⟨by rw [H.out]; rfl, HBB.out⟩
      have H := Lib.hid (show handB p.ms.length h = inB (h.er.length : Int) 1 8 by rw [HQ.out, HMS.out, h1, h2, h3]; simp); go_wp2_with fail; refine (r_in _ _ _ _).mono ?_; rw [h1]; rintro e wn ⟨rfl, rfl⟩; go_wp2_with fail; refine (r_in _ _ _ _).mono ?_; rw [h2]; rintro e wn ⟨rfl, rfl⟩; go_wp2_with fail; refine (r_in _ _ _ _).mono ?_; rw [h3]; rintro e wn ⟨rfl, rfl⟩; go_wp2_with fail; refine (r_in _ _ _ _).mono ?_; rintro e wn ⟨rfl, rfl⟩; go_wp2; go_ret; exact ⟨by rw [H.out]; rfl, HBB.out⟩
set_option maxRecDepth 100000 in
theorem d_down (a b : Int) (w : World) (hb : 0 < b) (hb2 : b ≤ 100000) (ha : -1000000000 ≤ a ∧ a ≤ 1000000000) :
    Calls Tryz.prog 22 #[.int .i64 a, .int .i64 b] w fun e w' => e = .returned (.int .i64 (a / b)) ∧ w = w' := by
  obtain ⟨ha1, ha2⟩ := ha; have hb0 : ¬ b = 0 := by omega
  have HD := Lib.hid (down_ediv a b hb); have h2 := Int.tmod_lt_of_pos a hb; have h2b := Int.lt_tmod_of_pos a hb; have h5 := Int.mul_tdiv_add_tmod a b; have h6 : a.tdiv b * b = b * a.tdiv b := Int.mul_comm _ _
  have h3 : -1000000000 ≤ a.tdiv b ∧ a.tdiv b ≤ 1000000000 := by
    have h7 : (a.tdiv b).natAbs ≤ a.natAbs := by rw [Int.natAbs_tdiv]; exact Nat.div_le_self _ _
    omega
  obtain ⟨h31, h32⟩ := h3; obtain ⟨D, hD⟩ : ∃ D, a.tdiv b = D := ⟨_, rfl⟩; obtain ⟨E, hE⟩ : ∃ E, D * b = E := ⟨_, rfl⟩; rw [hD] at HD h5 h6 h31 h32; rw [hE] at HD h6; have w1 : IntKind.i64.wrap D = D := w64 _ (by omega) (by omega); have w2 : IntKind.i64.wrap E = E := w64 _ (by omega) (by omega); have w3 : IntKind.i64.wrap (D - 1) = D - 1 := w64 _ (by omega) (by omega); clear h5 h6 h31 h32 h2 h2b
  by_cases h : E > a
  · have H := Lib.hid (show a / b = D - 1 by rw [← HD.out, if_pos h])
    go_enter Tryz.func22, Tryz.ntmps22
    go_wp2; go_ret; exact ⟨by rw [H.out]; rfl, rfl⟩
  · have H := Lib.hid (show a / b = D by rw [← HD.out, if_neg h])
    go_enter Tryz.func22, Tryz.ntmps22
    go_wp2; go_ret; exact ⟨by rw [H.out]; rfl, rfl⟩
theorem a_in' (x lo hi : Int) (h : inB x lo hi = true) (w : World) : Calls Tryz.prog 24 #[.int .i64 x, .int .i64 lo, .int .i64 hi] w fun e w' => e = .returned (.bool true) ∧ w = w' := by
  have := a_in x lo hi w; rw [h] at this; exact this
set_option maxHeartbeats 1600000 in
set_option maxRecDepth 100000 in
theorem a_Train (p : Option Addr) (c : Nat) (xs : List (Int × Int)) (w : World) (hx : RdS w p xs) (hl : 1 ≤ xs.length ∧ xs.length ≤ 3) (hok : xs.all pairB = true) :
    Calls Tryz.prog 10 #[.slice p xs.length c] w fun e w' => e = .returned (.bool true) ∧ w = w' := by
  have HX := Lib.hid hx
  have HO := Lib.hid (show ∀ i, i < xs.length → inB (gm xs i).1 4 60 = true ∧ inB (gm xs i).2 4 60 = true from fun i hi => by
    have h := List.all_eq_true.1 hok (gm xs i) (by unfold gm; rw [List.getD_eq_getElem?_getD, List.getElem?_eq_getElem hi]; exact List.getElem_mem hi); unfold pairB at h; rw [Bool.and_eq_true] at h; exact h)
  have HL := Lib.hid hl; have hl3 := hl.2; clear hx hok hl
  go_enter Tryz.func10, Tryz.ntmps10
  go_wp2
  go_loopw [3] (fun a wr => ∃ k : Nat, k ≤ xs.length ∧ a = .int .i64 k ∧ w = wr) (fun a _ => xs.length - (intOf a).toNat)
  case atStart => exact ⟨0, Nat.zero_le _, rfl, rfl⟩
  case round =>
    obtain ⟨k, hk, rfl, rfl⟩ := hrel
    by_cases hlt : k < xs.length
    · have hltI : decide ((k : Int) < (xs.length : Int)) = true := decide_eq_true (by omega)
      have hkI : (k : Int) < (xs.length : Int) := by omega
      have hwk : IntKind.i64.wrap ((k : Int) + 1) = (k : Int) + 1 := w64 _ (by omega) (by omega); obtain ⟨b, off, rfl, hc⟩ := HX.out.at hlt; obtain ⟨d0, d1⟩ := hc k hlt; have h1 := fun W => a_teeth (gm xs k).1 W
      have h2 := fun W => a_teeth (gm xs k).2 W
      rw [(HO.out k hlt).1] at h1; rw [(HO.out k hlt).2] at h2; obtain ⟨T1, hT1⟩ : ∃ T1, (gm xs k).1 = T1 := ⟨_, rfl⟩; obtain ⟨T2, hT2⟩ : ∃ T2, (gm xs k).2 = T2 := ⟨_, rfl⟩; rw [hT1] at d0 h1; rw [hT2] at d1 h2; have H1 := Lib.hid h1; have H2 := Lib.hid h2; clear hc hT1 hT2 h1 h2; go_wp2_with fail; refine (H1.out _).mono ?_; rintro e w' ⟨rfl, rfl⟩; go_wp2_with fail; refine (H2.out _).mono ?_; rintro e w' ⟨rfl, rfl⟩; go_wp2; go_roundw
      case rel => exact ⟨k + 1, by omega, by go_num, trivial⟩
      case measure => simp [intOf]; omega
    · obtain rfl : k = xs.length := by omega
      have hltI : decide ((xs.length : Int) < (xs.length : Int)) = false := by simp
      have hin := a_in' (xs.length : Int) 1 3 (inB_iff.2 ⟨by have := HL.out; omega, by omega⟩) w; go_wp2_with fail; refine hin.mono ?_; rintro e w' ⟨rfl, rfl⟩; go_wp2; go_ret; exact ⟨rfl, rfl⟩
def P20Post (ls : List (Int × Int × Int)) (sp : List Int) (w : World) (e : Ending) (w' : World) : Prop := ∃ b, e = .returned (.bool b) ∧ (b = true → PcGood ls sp) ∧ Below w.heap.size w w'
set_option maxHeartbeats 1600000 in
set_option maxRecDepth 100000 in
theorem d_piece (p q : Option Addr) (c c' : Nat) (ls : List (Int × Int × Int)) (sp : List Int) (w : World) (hx : RdLk w p ls) (hq : RdI w q sp) :
    Calls Tryz.prog 15 #[.agg #[.slice p ls.length c, .slice q sp.length c']] w (P20Post ls sp w) := by
  obtain ⟨w1, e1, HS1, k0, k1, b1⟩ := box2 w (.slice p ls.length c) (.slice q sp.length c') 47; have HX := Lib.hid (hx.below b1); have HQ := Lib.hid (hq.below b1); have HB := Lib.hid b1; clear hx hq b1
  by_cases h1 : ls.length ≤ 5
  · have h1I : decide ((ls.length : Int) ≤ 5) = true := by simp; omega
    by_cases h2 : sp.length ≤ 4
    · have h2I : decide ((sp.length : Int) ≤ 4) = true := by simp; omega
      go_enter Tryz.func15, Tryz.ntmps15
      go_wp2_with fail; refine (i_Piece p q c c' ls sp _ HX.out HQ.out h1 h2).mono ?_; rintro e w2 ⟨b, rfl, hb, b2⟩; have HBB := Lib.hid hb; have HB2 := Lib.hid (HB.out.trans (b2.mono HB.out.size)); clear hb b2 e1
      cases b with
      | false =>
        go_wp2; go_ret; exact ⟨false, rfl, (fun h => by cases h), HB2.out⟩
      | true =>
        go_wp2; go_ret; exact ⟨true, rfl, (fun _ => HBB.out trivial), HB2.out⟩
    · have h2I : decide ((sp.length : Int) ≤ 4) = false := by simp; omega
      go_enter Tryz.func15, Tryz.ntmps15
      go_wp2; go_ret; exact ⟨false, rfl, (fun h => by cases h), HB.out⟩
  · have h1I : decide ((ls.length : Int) ≤ 5) = false := by simp; omega
    go_enter Tryz.func15, Tryz.ntmps15
    go_wp2; go_ret; exact ⟨false, rfl, (fun h => by cases h), HB.out⟩
set_option maxRecDepth 100000 in
theorem y_floor (a b : Int) (w : World) (hb : 0 < b) (hb2 : b ≤ 100000) (ha : -10000000000000 ≤ a ∧ a ≤ 10000000000000) :
    Calls Tryz.prog 150 #[.int .i64 a, .int .i64 b] w fun e w' => e = .returned (.tuple #[.int .i64 (a / b), .int .i64 (a % b)]) ∧ Below w.heap.size w w' := by
  obtain ⟨ha1, ha2⟩ := ha; have hb0 : ¬ b = 0 := by omega
  have hd := tdiv_down (a := a) hb; have h2 := Int.tmod_lt_of_pos a hb
  have h3 : -10000000000000 ≤ a / b ∧ a / b ≤ 10000000000000 := by
    have e1 := Int.mul_ediv_add_emod a b; have e2 := Int.emod_nonneg a hb0; have e3 := Int.emod_lt_of_pos a hb; refine ⟨?_, ?_⟩
    · exact Int.le_ediv_of_mul_le hb (by have : (-10000000000000 : Int) * b ≤ -10000000000000 * 1 := Int.mul_le_mul_of_nonpos_left (by omega) (by omega); omega)
    · exact Int.ediv_le_of_le_mul hb (by have : (10000000000000 : Int) * 1 ≤ 10000000000000 * b := Int.mul_le_mul_of_nonneg_left (by omega) (by omega); omega)
  have h4 := Int.emod_nonneg a hb0; have h5 := Int.emod_lt_of_pos a hb; obtain ⟨h31, h32⟩ := h3
  by_cases h : a.tmod b < 0
  · rw [if_pos h, if_pos h] at hd
    obtain ⟨hd1, hd2⟩ := hd; have HD := Lib.hid (And.intro hd1 hd2); have w1 : IntKind.i64.wrap (a.tdiv b) = a.tdiv b := w64 _ (by omega) (by omega); have w2 : IntKind.i64.wrap (a.tmod b) = a.tmod b := w64 _ (by omega) (by omega); have w3 : IntKind.i64.wrap (a.tdiv b - 1) = a.tdiv b - 1 := w64 _ (by omega) (by omega); have w4 : IntKind.i64.wrap (a.tmod b + b) = a.tmod b + b := w64 _ (by omega) (by omega); clear hd1 hd2 h31 h32 h4 h5 h2; rw [HD.out.1, HD.out.2]
    go_enter Tryz.func150, Tryz.ntmps150
    go_wp2
    go_quiet (fail)
    go_wp2; refine bodyPost_ret (v := .tuple #[.int .i64 (a.tdiv b - 1), .int .i64 (a.tmod b + b)]) (by simp [results, Tryz.results150, go_sem]) rfl ?_; exact ⟨rfl, below_drewN (Below.refl _ _) _⟩
  · rw [if_neg h, if_neg h] at hd
    obtain ⟨hd1, hd2⟩ := hd; have HD := Lib.hid (And.intro hd1 hd2); have w1 : IntKind.i64.wrap (a.tdiv b) = a.tdiv b := w64 _ (by omega) (by omega); have w2 : IntKind.i64.wrap (a.tmod b) = a.tmod b := w64 _ (by omega) (by omega); clear hd1 hd2 h31 h32 h4 h5 h2; rw [HD.out.1, HD.out.2]
    go_enter Tryz.func150, Tryz.ntmps150
    go_wp2
    go_quiet (fail)
    go_wp2; refine bodyPost_ret (v := .tuple #[.int .i64 (a.tdiv b), .int .i64 (a.tmod b)]) (by simp [results, Tryz.results150, go_sem]) rfl ?_; exact ⟨rfl, below_drewN (Below.refl _ _) _⟩
theorem y_around (a : Int) (w : World) (ha : -10000000000000 ≤ a ∧ a ≤ 10000000000000) : Calls Tryz.prog 165 #[.int .i64 a] w fun e w' => e = .returned (.int .i64 (a % 21600)) ∧ Below w.heap.size w w' := by
  have h := y_floor a 21600 w (by decide) (by decide) ha; clear ha
  go_enter Tryz.func165, Tryz.ntmps165
  go_wp2_with fail; refine h.mono ?_; clear h; rintro e w' ⟨rfl, b⟩; have HB := Lib.hid b; clear b; go_wp2; go_ret; exact ⟨rfl, HB.out⟩
set_option maxRecDepth 100000 in
theorem y_sum (p : Option Addr) (cap : Nat) (xs : List Int) (w : World) (hx : RdI w p xs) (hl : xs.length ≤ 1000) (hm : ∀ k, k ≤ xs.length → Mid (sumT xs k)) :
    Calls Tryz.prog 166 #[.slice p xs.length cap] w fun e w' => e = .returned (.int .i64 (sumT xs xs.length)) ∧ w = w' := by
  have HX := Lib.hid hx; have HM := Lib.hid hm; clear hx hm
  go_enter Tryz.func166, Tryz.ntmps166
  go_wp2
  go_loopw [3, 8] (fun v i wr => ∃ k : Nat, k ≤ xs.length ∧ i = .int .i64 k ∧ v = .int .i64 (sumT xs k) ∧ w = wr) (fun _ i _ => xs.length - (intOf i).toNat)
  case atStart => exact ⟨0, Nat.zero_le _, rfl, rfl, rfl⟩
  case round =>
    obtain ⟨k, hk, rfl, rfl, rfl⟩ := hrel
    by_cases hlt : k < xs.length
    · have hltI : decide ((k : Int) < (xs.length : Int)) = true := by simp; omega
      obtain ⟨b, off, rfl, hc⟩ := HX.out.at hlt; have d0 := hc k hlt; have HS := Lib.hid (show sumT xs (k + 1) = sumT xs k + gi xs k from rfl); have hmm := HM.out (k + 1) (by omega); rw [HS.out] at hmm; unfold Mid at hmm; obtain ⟨P, hP⟩ : ∃ P, sumT xs k = P := ⟨_, rfl⟩; obtain ⟨x, hxx⟩ : ∃ x, gi xs k = x := ⟨_, rfl⟩; rw [hP, hxx] at HS hmm; rw [hxx] at d0; rw [hP]; have hw : IntKind.i64.wrap (P + x) = P + x := w64 _ (by omega) (by omega); clear hP hxx hc; go_wp2; go_roundw
      case rel => exact ⟨k + 1, by omega, by go_num, by rw [HS.out], trivial⟩
      case measure => simp [intOf]; omega
    · obtain rfl : k = xs.length := by omega
      have hltI : decide ((xs.length : Int) < (xs.length : Int)) = false := by simp
      go_wp2; go_ret; exact ⟨rfl, rfl⟩
theorem y_passes (a b : Int) (w : World) (ha : -10000000000000 ≤ a ∧ a ≤ 10000000000000) (hb : -10000000000000 ≤ b ∧ b ≤ 10000000000000) : Calls Tryz.prog 118 #[.int .i64 a, .int .i64 b] w fun e w' => e = .returned (.bool (decide (b / 21600 > a / 21600))) ∧ Below w.heap.size w w' := by
  have h := y_floor a 21600 w (by decide) (by decide) ha; have HB2 := Lib.hid (fun W => y_floor b 21600 W (by decide) (by decide) hb); clear ha hb
  go_enter Tryz.func118, Tryz.ntmps118
  go_wp2_with fail; refine h.mono ?_; clear h; rintro e w1 ⟨rfl, b1⟩; have HB := Lib.hid b1; clear b1; go_wp2_with fail; refine (HB2.out _).mono ?_; rintro e w2 ⟨rfl, b2⟩; have HBB := Lib.hid (HB.out.trans (b2.mono HB.out.size)); clear b2; go_wp2; go_ret; exact ⟨rfl, HBB.out⟩
def goneF (num den day : Int) : Int := day * 21600 * den / num
set_option maxRecDepth 100000 in
theorem y_gone (v0 v1 v2 v3 : Value) (day num den : Int) (w : World) (hd : 0 ≤ day ∧ day ≤ 20000) (hn : 1 ≤ num ∧ num ≤ 10000) (hde : 1 ≤ den ∧ den ≤ 10000) :
    Calls Tryz.prog 170 #[.agg #[v0, v1, v2, v3, .int .i64 day], .agg #[.int .i64 num, .int .i64 den]] w fun e w' => e = .returned (.int .i64 (goneF num den day)) ∧ Below w.heap.size w w' := by
  obtain ⟨w0, e0, HS0, z0, z1, z2, z3, z4, b0⟩ := box5 w v0 v1 v2 v3 (.int .i64 day) 135; obtain ⟨w1, e1, HS1, x0, x1, b1⟩ := box2 w0 (.int .i64 num) (.int .i64 den) 79; have z4 := (b1.cell (lt_of_cellq z4)).trans z4; have HB := Lib.hid (b0.trans (b1.mono b0.size))
  have hp : 0 ≤ day * 21600 * den ∧ day * 21600 * den ≤ 4320000000000 := ⟨Int.mul_nonneg (by omega) (by omega), by
    have := Int.mul_le_mul_of_nonneg_left (a := den) (b := 10000) (c := day * 21600) hde.2 (by omega); omega⟩
  have HG := Lib.hid (show goneF num den day = day * 21600 * den / num from rfl); obtain ⟨P, hP⟩ : ∃ P, day * 21600 * den = P := ⟨_, rfl⟩; rw [hP] at hp HG; have hw0 : IntKind.i64.wrap (day * 21600) = day * 21600 := w64 _ (by omega) (by omega); have hw1 : IntKind.i64.wrap (day * 21600 * den) = P := by rw [hP]; exact w64 _ (by omega) (by omega)
  have hf := y_floor P num w1 (by omega) (by omega) (by omega); clear hP b0 b1 z0 z1 z2 z3
  go_enter Tryz.func170, Tryz.ntmps170
  go_wp2_with fail; refine hf.mono ?_; clear hf; rintro e w2 ⟨rfl, b2⟩; have HBB := Lib.hid (HB.out.trans (b2.mono HB.out.size)); clear b2; go_wp2; go_ret; exact ⟨by rw [HG.out]; rfl, HBB.out⟩
structure Bd where
  num : Int
  den : Int
  start : Int
  road : List Int
def bd0 : Bd := ⟨1, 1, 0, []⟩
def gb (l : List Bd) (i : Nat) : Bd := l.getD i bd0
def RdBd (w : World) (p : Option Addr) (bs : List Bd) : Prop :=
  ∃ b off, p = some ⟨b, off, none⟩ ∧ ∀ i, i < bs.length → w.cell? ⟨b, off + i * 4, none⟩ = some (.int .i64 (gb bs i).num) ∧ w.cell? ⟨b, off + i * 4 + 1, none⟩ = some (.int .i64 (gb bs i).den) ∧ w.cell? ⟨b, off + i * 4 + 2, none⟩ = some (.int .i64 (gb bs i).start) ∧
    ∃ q c, w.cell? ⟨b, off + i * 4 + 3, none⟩ = some (.slice q (gb bs i).road.length c) ∧ RdI w q (gb bs i).road
theorem RdBd.below {w w' : World} {p : Option Addr} {bs : List Bd} (h : RdBd w p bs) (hb : Below w.heap.size w w') : RdBd w' p bs := by
  obtain ⟨b, off, e, hc⟩ := h; refine ⟨b, off, e, fun i hi => ?_⟩; obtain ⟨h1, h2, h3, q, c, h4, h5⟩ := hc i hi; exact ⟨(hb.cell (lt_of_cellq h1)).trans h1, (hb.cell (lt_of_cellq h2)).trans h2, (hb.cell (lt_of_cellq h3)).trans h3, q, c, (hb.cell (lt_of_cellq h4)).trans h4, h5.below hb⟩
structure BdOk (b : Bd) : Prop where
  num : 1 ≤ b.num ∧ b.num ≤ 10000
  den : 1 ≤ b.den ∧ b.den ≤ 10000
  start : 0 ≤ b.start ∧ b.start ≤ 21599
  len : 1 ≤ b.road.length ∧ b.road.length ≤ 8
  err : ∀ i, i < b.road.length → -600 ≤ gi b.road i ∧ gi b.road i ≤ 600
def meanF (b : Bd) (day : Int) : Int := b.start + goneF b.num b.den day
theorem gone_range {num den day : Int} (hd : 0 ≤ day ∧ day ≤ 20000) (hn : 1 ≤ num ∧ num ≤ 10000) (hde : 1 ≤ den ∧ den ≤ 10000) : 0 ≤ goneF num den day ∧ goneF num den day ≤ 4320000000000 := by
  unfold goneF
  have hp : 0 ≤ day * 21600 * den ∧ day * 21600 * den ≤ 4320000000000 := ⟨Int.mul_nonneg (by omega) (by omega), by
    have := Int.mul_le_mul_of_nonneg_left (a := den) (b := 10000) (c := day * 21600) hde.2 (by omega); omega⟩
  refine ⟨Int.ediv_nonneg hp.1 (by omega), Int.ediv_le_of_le_mul (by omega) ?_⟩; have := Int.mul_le_mul_of_nonneg_left (a := 1) (b := num) (c := 4320000000000) hn.1 (by omega); omega
set_option maxHeartbeats 1600000 in
set_option maxRecDepth 100000 in
theorem y_mean (p : Option Addr) (c : Nat) (bs : List Bd) (v1 v2 v3 : Value) (day : Int) (k : Nat) (w : World) (hx : RdBd w p bs) (hk : k < bs.length) (hok : BdOk (gb bs k)) (hd : 0 ≤ day ∧ day ≤ 20000) (hl : bs.length ≤ 100) :
    Calls Tryz.prog 164 #[.agg #[.slice p bs.length c, v1, v2, v3, .int .i64 day], .int .i64 k] w fun e w' => e = .returned (.int .i64 (meanF (gb bs k) day)) ∧ Below w.heap.size w w' := by
  obtain ⟨w0, e0, HS0, z0, z1, z2, z3, z4, b0⟩ := box5 w (.slice p bs.length c) v1 v2 v3 (.int .i64 day) 135; obtain ⟨b, off, rfl, hc⟩ := hx.below b0; obtain ⟨d0, d1, d2, q, cq, d3, hr⟩ := hc k hk; have HME := Lib.hid (show meanF (gb bs k) day = (gb bs k).start + goneF (gb bs k).num (gb bs k).den day from rfl); have hgr := gone_range hd hok.num hok.den; have hst := hok.start; have hnu := hok.num; have hde := hok.den; obtain ⟨B, hB⟩ : ∃ B, gb bs k = B := ⟨_, rfl⟩; rw [hB] at d0 d1 d2 d3 hr HME hgr hst hnu hde; rw [hB]; obtain ⟨num, den, start, road⟩ := B; simp only at d0 d1 d2 d3 hr HME hgr hst hnu hde; have HGO := Lib.hid (fun W => y_gone (.slice (some ⟨b, off, none⟩) bs.length c) v1 v2 v3 day num den W hd hnu hde); obtain ⟨G, hG⟩ : ∃ G, goneF num den day = G := ⟨_, rfl⟩; rw [hG] at HME hgr HGO; obtain ⟨w1, e1, HS1, x0, x1, x2, x3, b1⟩ := box4 w0 (.int .i64 num) (.int .i64 den) (.int .i64 start) (.slice q road.length cq) 141
  have hkI : (k : Int) < (bs.length : Int) := by omega
  have HB := Lib.hid (b0.trans (b1.mono b0.size)); have HZ := Lib.hid (cl5 z0 z1 z2 z3 z4 w1 b1); clear hc hx hB hG b1 hok
  go_enter Tryz.func164, Tryz.ntmps164
  go_wp2; clear e0 e1 d0 d1 d2 d3 z0 z1 z2 z3 z4; obtain ⟨z0, z1, z2, z3, z4⟩ := HZ.out; have HSB := Lib.hid (cl8 z0 z1 z2 z3 z4 x0 x1 x2); refine held8 z0 z1 z2 z3 z4 x0 x1 x2 (fun W0 HB0 => ?_); refine tk 0 rfl (by exact HSB.out _ HB0) ?_; (try simp only [Act.put, ptL]); refine tk 1 rfl (by exact HSB.out _ HB0) ?_; (try simp only [Act.put, ptL]); refine tk 2 rfl (by exact HSB.out _ HB0) ?_; (try simp only [Act.put, ptL]); refine tk 3 rfl (by exact HSB.out _ HB0) ?_; (try simp only [Act.put, ptL]); refine tk 4 rfl (by exact HSB.out _ HB0) ?_; (try simp only [Act.put, ptL]); refine rz1 5 rfl ?_; intro K hK; go_simp; refine (HGO.out _).mono ?_; rintro e W1 ⟨rfl, c1⟩; have HB1 := HB0.trans (c1.mono HB0.size); clear c1; refine kz hK (by exact HSB.out _ HB1) ?_; clear hK K; (try simp only [Act.put, ptL]); refine rz1 6 rfl ?_; intro K hK; go_simp; obtain ⟨W2, e2⟩ : ∃ W2, W1.alloc (.cells #[.int .i64 start, .int .i64 G] 3) = W2 := ⟨_, rfl⟩
  rw [e2]; have HB2 : Below w1.heap.size w1 W2 := by rw [← e2]; exact HB1.alloc HB1.size _
  have hsu := y_sum (some ⟨W1.heap.size, 0, none⟩) 2 [start, G] W2 (by rw [← e2]; exact rd_new2 W1 start G 3) (by simp) (fun j hj => by
    match j, hj with
    | 0, _ => show Mid 0; unfold Mid; omega
    | 1, _ => show Mid (0 + start); unfold Mid; omega
    | 2, _ => show Mid (0 + start + G); unfold Mid; omega)
  refine kz hK (by exact HSB.out _ HB2) ?_; clear hK K; (try simp only [Act.put, ptL]); refine rz1 7 rfl ?_; intro K hK; go_simp; refine hsu.mono ?_; clear hsu; rintro e W3 ⟨rfl, hb3⟩; subst hb3; refine kz hK (by exact HSB.out _ HB2) ?_; clear hK K; (try simp only [Act.put, ptL]); refine tk 8 rfl (by exact HSB.out _ HB2) ?_; (try simp only [Act.put, ptL]); refine wpAnyH_done (by kernel_rfl) ?_ _; have HBZ := Lib.hid (HB.out.trans (HB2.mono HB.out.size)); have HS := Lib.hid (show sumT [start, G] 2 = start + G by show 0 + start + G = _; omega); clear HSB HB0 HB1 HB2 z0 z1 z2 z3 z4 x0 x1 x2 x3 e2; go_wp2; go_ret; exact ⟨by rw [HME.out, ← HS.out]; rfl, HBZ.out⟩
def stepY (b : Bd) (m : Int) : Nat := ((m % 21600) * (b.road.length : Int) / 21600).toNat
def partY (b : Bd) (m : Int) : Int := (gi b.road ((stepY b m + 1) % b.road.length) - gi b.road (stepY b m)) * ((m % 21600) * (b.road.length : Int) % 21600) / 21600
def wayF (b : Bd) (day : Int) : Int := meanF b day + gi b.road (stepY b (meanF b day)) + partY b (meanF b day)
set_option maxHeartbeats 3200000 in
set_option maxRecDepth 100000 in
theorem y_way (p : Option Addr) (c : Nat) (bs : List Bd) (v1 v2 v3 : Value) (day : Int) (k : Nat) (w : World) (hx : RdBd w p bs) (hk : k < bs.length) (hok : BdOk (gb bs k)) (hd : 0 ≤ day ∧ day ≤ 20000) (hl : bs.length ≤ 100) :
    Calls Tryz.prog 149 #[.agg #[.slice p bs.length c, v1, v2, v3, .int .i64 day], .int .i64 k] w fun e w' => e = .returned (.int .i64 (wayF (gb bs k) day)) ∧ Below w.heap.size w w' := by
  obtain ⟨w0, e0, HS0, z0, z1, z2, z3, z4, b0⟩ := box5 w (.slice p bs.length c) v1 v2 v3 (.int .i64 day) 135; have hme := y_mean p c bs v1 v2 v3 day k w0 (hx.below b0) hk hok hd hl; obtain ⟨b, off, rfl, hc⟩ := hx.below b0; obtain ⟨d0, d1, d2, q, cq, d3, hr⟩ := hc k hk; have HB := Lib.hid b0
  have hmr : 0 ≤ meanF (gb bs k) day ∧ meanF (gb bs k) day ≤ 4320000021599 := by
    have := gone_range hd hok.num hok.den; have := hok.start; unfold meanF; omega
  have hlen := hok.len; have herr := hok.err; have HW := Lib.hid (show wayF (gb bs k) day = meanF (gb bs k) day + gi (gb bs k).road (stepY (gb bs k) (meanF (gb bs k) day)) + partY (gb bs k) (meanF (gb bs k) day) from rfl); have hst : stepY (gb bs k) (meanF (gb bs k) day) = ((meanF (gb bs k) day % 21600) * ((gb bs k).road.length : Int) / 21600).toNat := rfl; have hpt : partY (gb bs k) (meanF (gb bs k) day) = (gi (gb bs k).road ((stepY (gb bs k) (meanF (gb bs k) day) + 1) % (gb bs k).road.length) - gi (gb bs k).road (stepY (gb bs k) (meanF (gb bs k) day))) * ((meanF (gb bs k) day % 21600) * ((gb bs k).road.length : Int) % 21600) / 21600 := rfl; obtain ⟨m, hm⟩ : ∃ m, meanF (gb bs k) day = m := ⟨_, rfl⟩; rw [hm] at hme hmr HW hst hpt; obtain ⟨s, hs⟩ : ∃ s, stepY (gb bs k) m = s := ⟨_, rfl⟩; rw [hs] at HW hst hpt; obtain ⟨P, hP⟩ : ∃ P, partY (gb bs k) m = P := ⟨_, rfl⟩; rw [hP] at HW hpt; obtain ⟨road, hrd⟩ : ∃ road, (gb bs k).road = road := ⟨_, rfl⟩
  rw [hrd] at HW hst hpt hlen herr hr d3; obtain ⟨L, hL⟩ : ∃ L, road.length = L := ⟨_, rfl⟩; have HR := Lib.hid hr; have HLL := Lib.hid hL; rw [hL] at hst hpt hlen herr d3; obtain ⟨A, hA⟩ : ∃ A, m % 21600 = A := ⟨_, rfl⟩; have hAr : 0 ≤ A ∧ A ≤ 21599 := by omega
  have har := fun W => y_around m W ⟨by omega, by omega⟩
  rw [hA] at hst hpt har; have hAL : 0 ≤ A * (L : Int) ∧ A * (L : Int) ≤ 21599 * L := ⟨Int.mul_nonneg hAr.1 (by omega), Int.mul_le_mul_of_nonneg_right hAr.2 (by omega)⟩; obtain ⟨Q, hQ⟩ : ∃ Q, A * (L : Int) = Q := ⟨_, rfl⟩; rw [hQ] at hst hpt hAL; have hwq : IntKind.i64.wrap (A * (L : Int)) = Q := by rw [hQ]; exact w64 _ (by omega) (by omega)
  have hfl := fun W => y_floor Q 21600 W (by decide) (by decide) ⟨by omega, by omega⟩
  have hsQ : Q / 21600 = (s : Int) := by rw [hst]; omega
  obtain ⟨R, hR⟩ : ∃ R, Q % 21600 = R := ⟨_, rfl⟩; have hRr : 0 ≤ R ∧ R ≤ 21599 := by omega
  rw [hsQ, hR] at hfl; rw [hR] at hpt; have hsL : s < L := by omega
  obtain ⟨nx, hnx⟩ : ∃ nx, (s + 1) % L = nx := ⟨_, rfl⟩; have hnL : nx < L := by rw [← hnx]; exact Nat.mod_lt _ (by omega)
  rw [hnx] at hpt; have hL0 : ¬ L = 0 := by omega
  have hr1 : ((s : Int) + 1) % (L : Int) = (nx : Int) := by rw [← hnx]; rfl
  have hr2 : ((s : Int) + 1).tmod (L : Int) = (nx : Int) := by rw [Int.tmod_eq_emod_of_nonneg (by omega)]; exact hr1
  have g1 := herr s hsL; have g2 := herr nx hnL; have HRD := Lib.hid (fun W (hb : Below w0.heap.size w0 W) => (HR.out.below hb)); obtain ⟨y, hy⟩ : ∃ y, gi road s = y := ⟨_, rfl⟩; obtain ⟨z, hz⟩ : ∃ z, gi road nx = z := ⟨_, rfl⟩; rw [hy] at g1 hpt HW; rw [hz] at g2 hpt; have HY := Lib.hid hy; have HZ := Lib.hid hz
  have hD : -1200 * 21599 ≤ (z - y) * R ∧ (z - y) * R ≤ 1200 * 21599 := by
    have e1 : (z - y) * R ≤ 1200 * R := Int.mul_le_mul_of_nonneg_right (by omega) hRr.1; have e2 : -1200 * R ≤ (z - y) * R := Int.mul_le_mul_of_nonneg_right (by omega) hRr.1; omega
  obtain ⟨D, hDe⟩ : ∃ D, (z - y) * R = D := ⟨_, rfl⟩; rw [hDe] at hD hpt; have hwd : IntKind.i64.wrap ((z - y) * R) = D := by rw [hDe]; exact w64 _ (by omega) (by omega)
  have hwz : IntKind.i64.wrap (z - y) = z - y := w64 _ (by omega) (by omega); have hfd := fun W => y_floor D 21600 W (by decide) (by decide) ⟨by omega, by omega⟩
  rw [← hpt] at hfd; have hPr : -1200 * 21599 ≤ P ∧ P ≤ 1200 * 21599 := by omega
  have hws : IntKind.i64.wrap ((s : Int) + 1) = (s : Int) + 1 := w64 _ (by omega) (by omega); have hwn : IntKind.i64.wrap (nx : Int) = (nx : Int) := w64 _ (by omega) (by omega); have H1 := Lib.hid har; have H2 := Lib.hid hfl; have H3 := Lib.hid hfd; have hkI : (k : Int) < (bs.length : Int) := by omega
  clear hm hs hP hrd hL hA hQ hR hnx hy hz hDe hst hpt hsQ har hfl hfd hc hx d0 d1 d2 b0 herr hr hok hD hAL
  go_enter Tryz.func149, Tryz.ntmps149
  go_wp2_with fail; refine hme.mono ?_; clear hme e0; rintro e w1 ⟨rfl, b1⟩; have HB1 := Lib.hid b1; clear b1 d3 z0 z1 z2 z3 z4; go_wp2_with fail; refine (H1.out _).mono ?_; rintro e w2 ⟨rfl, b2⟩; have HB2 := Lib.hid (HB1.out.trans (b2.mono HB1.out.size)); clear b2; go_wp2_with fail; refine (H2.out _).mono ?_; rintro e w3 ⟨rfl, b3⟩; have HB3 := Lib.hid (HB2.out.trans (b3.mono HB2.out.size)); clear b3; obtain ⟨b', off', rfl, hcr⟩ := (HRD.out _ HB3.out).at (i := s) (by rw [HLL.out]; exact hsL); have f1 := hcr s (by rw [HLL.out]; exact hsL); have f2 := hcr nx (by rw [HLL.out]; exact hnL); rw [HY.out] at f1; rw [HZ.out] at f2; clear hcr; go_wp2_with fail; refine (H3.out _).mono ?_; rintro e w4 ⟨rfl, b4⟩; have HB4 := Lib.hid (HB3.out.trans (b4.mono HB3.out.size)); have f1 := (b4.cell (lt_of_cellq f1)).trans f1; clear b4 f2; obtain ⟨w5, e5, HS5, _, _, _, b5⟩ := box3 w4 (.int .i64 m) (.int .i64 y) (.int .i64 P) 3
  have hsu := y_sum (some ⟨w4.heap.size, 0, none⟩) 3 [m, y, P] w5 (by rw [← e5]; exact .inr ⟨_, 0, rfl, fun i hi => match i, hi with
    | 0, _ => by rw [at_new]; rfl
    | 1, _ => by rw [at_new]; rfl
    | 2, _ => by rw [at_new]; rfl⟩) (by simp) (fun j hj => by
    match j, hj with
    | 0, _ => show Mid 0; unfold Mid; omega
    | 1, _ => show Mid (0 + m); unfold Mid; omega
    | 2, _ => show Mid (0 + m + y); unfold Mid; omega
    | 3, _ => show Mid (0 + m + y + P); unfold Mid; omega)
  have HB5 := Lib.hid (HB.out.trans ((HB4.out.trans (b5.mono HB4.out.size)).mono HB.out.size)); have HS := Lib.hid (show sumT [m, y, P] 3 = m + y + P by show 0 + m + y + P = _; omega); clear b5; go_wp2_with fail; refine hsu.mono ?_; clear hsu; rintro e w6 ⟨rfl, rfl⟩; go_wp2; go_ret; exact ⟨by rw [HW.out, ← HS.out]; rfl, HB5.out⟩
set_option maxRecDepth 100000 in
theorem y_sun (p : Option Addr) (c : Nat) (bs : List Bd) (v1 v2 v3 : Value) (day : Int) (w : World) (hx : RdBd w p bs) (hk : 0 < bs.length) (hok : BdOk (gb bs 0)) (hd : 0 ≤ day ∧ day ≤ 20000) (hl : bs.length ≤ 100) :
    Calls Tryz.prog 151 #[.agg #[.slice p bs.length c, v1, v2, v3, .int .i64 day]] w fun e w' => e = .returned (.int .i64 (wayF (gb bs 0) day)) ∧ Below w.heap.size w w' := by
  obtain ⟨w0, e0, HS0, z0, z1, z2, z3, z4, b0⟩ := box5 w (.slice p bs.length c) v1 v2 v3 (.int .i64 day) 135; have hw : Calls Tryz.prog 149 #[.agg #[.slice p bs.length c, v1, v2, v3, .int .i64 day], .int .i64 0] w0 fun e w' => e = .returned (.int .i64 (wayF (gb bs 0) day)) ∧ Below w0.heap.size w0 w' := y_way p c bs v1 v2 v3 day 0 w0 (hx.below b0) hk hok hd hl
  have HB := Lib.hid b0; clear b0 hx
  go_enter Tryz.func151, Tryz.ntmps151
  go_wp2_with fail; refine hw.mono ?_; clear hw; rintro e w1 ⟨rfl, b1⟩; have HBB := Lib.hid (HB.out.trans (b1.mono HB.out.size)); clear b1; go_wp2; go_ret; exact ⟨rfl, HBB.out⟩
set_option maxRecDepth 100000 in
theorem y_moon (p : Option Addr) (c : Nat) (bs : List Bd) (v1 v2 v3 : Value) (day : Int) (w : World) (hx : RdBd w p bs) (hk : 1 < bs.length) (hok : BdOk (gb bs 1)) (hd : 0 ≤ day ∧ day ≤ 20000) (hl : bs.length ≤ 100) :
    Calls Tryz.prog 152 #[.agg #[.slice p bs.length c, v1, v2, v3, .int .i64 day]] w fun e w' => e = .returned (.int .i64 (wayF (gb bs 1) day)) ∧ Below w.heap.size w w' := by
  obtain ⟨w0, e0, HS0, z0, z1, z2, z3, z4, b0⟩ := box5 w (.slice p bs.length c) v1 v2 v3 (.int .i64 day) 135; have hw : Calls Tryz.prog 149 #[.agg #[.slice p bs.length c, v1, v2, v3, .int .i64 day], .int .i64 1] w0 fun e w' => e = .returned (.int .i64 (wayF (gb bs 1) day)) ∧ Below w0.heap.size w0 w' := y_way p c bs v1 v2 v3 day 1 w0 (hx.below b0) hk hok hd hl
  have HB := Lib.hid b0; clear b0 hx
  go_enter Tryz.func152, Tryz.ntmps152
  go_wp2_with fail; refine hw.mono ?_; clear hw; rintro e w1 ⟨rfl, b1⟩; have HBB := Lib.hid (HB.out.trans (b1.mono HB.out.size)); clear b1; go_wp2; go_ret; exact ⟨rfl, HBB.out⟩
theorem ixG0 (f g : Value) (w : World) : (Instr.index 213 (.agg #[f, g]) (.int .i64 0)).run Tryz.prog w = .ok f w := by kernel_rfl
theorem ixG1 (f g : Value) (w : World) : (Instr.index 213 (.agg #[f, g]) (.int .i64 1)).run Tryz.prog w = .ok g w := by kernel_rfl
def lunarF (bs : List Bd) (day : Int) : Int := wayF (gb bs 1) day - wayF (gb bs 0) day
theorem way_range {b : Bd} {day : Int} (hok : BdOk b) (hd : 0 ≤ day ∧ day ≤ 20000) : -100000000 ≤ wayF b day ∧ wayF b day ≤ 4320100000000 := by
  have hmr : 0 ≤ meanF b day ∧ meanF b day ≤ 4320000021599 := by
    have := gone_range hd hok.num hok.den; have := hok.start; unfold meanF; omega
  have hl := hok.len; unfold wayF; obtain ⟨m, hm⟩ : ∃ m, meanF b day = m := ⟨_, rfl⟩; rw [hm] at hmr ⊢; have hA : 0 ≤ m % 21600 ∧ m % 21600 ≤ 21599 := by omega
  obtain ⟨A, hAe⟩ : ∃ A, m % 21600 = A := ⟨_, rfl⟩; obtain ⟨L, hL⟩ : ∃ L, b.road.length = L := ⟨_, rfl⟩; have hst : stepY b m = (A * (L : Int) / 21600).toNat := by unfold stepY; rw [hAe, hL]
  have hpt : partY b m = (gi b.road ((stepY b m + 1) % L) - gi b.road (stepY b m)) * (A * (L : Int) % 21600) / 21600 := by unfold partY; rw [hAe, hL]
  rw [hAe] at hA; rw [hL] at hl; have hAL : 0 ≤ A * (L : Int) ∧ A * (L : Int) ≤ 21599 * L := ⟨Int.mul_nonneg hA.1 (by omega), Int.mul_le_mul_of_nonneg_right hA.2 (by omega)⟩; obtain ⟨Q, hQ⟩ : ∃ Q, A * (L : Int) = Q := ⟨_, rfl⟩; rw [hQ] at hst hpt hAL; have hs : stepY b m < L := by omega
  have hn : (stepY b m + 1) % L < L := Nat.mod_lt _ (by omega); have g1 := hok.err _ (by rw [hL]; exact hs); have g2 := hok.err _ (by rw [hL]; exact hn); obtain ⟨y, hy⟩ : ∃ y, gi b.road (stepY b m) = y := ⟨_, rfl⟩; obtain ⟨z, hz⟩ : ∃ z, gi b.road ((stepY b m + 1) % L) = z := ⟨_, rfl⟩; obtain ⟨R, hR⟩ : ∃ R, Q % 21600 = R := ⟨_, rfl⟩; have hRr : 0 ≤ R ∧ R ≤ 21599 := by omega
  rw [hy] at g1 hpt; rw [hz] at g2 hpt; rw [hR] at hpt; have e1 : (z - y) * R ≤ 1200 * R := Int.mul_le_mul_of_nonneg_right (by omega) hRr.1; have e2 : -1200 * R ≤ (z - y) * R := Int.mul_le_mul_of_nonneg_right (by omega) hRr.1; rw [hy, hpt]; obtain ⟨D, hD⟩ : ∃ D, (z - y) * R = D := ⟨_, rfl⟩; rw [hD] at e1 e2 ⊢; omega
set_option maxHeartbeats 1600000 in
set_option maxRecDepth 100000 in
theorem y_lunar (p : Option Addr) (c : Nat) (bs : List Bd) (v1 v2 v3 : Value) (day : Int) (w : World) (hx : RdBd w p bs) (hk : 2 ≤ bs.length) (h0 : BdOk (gb bs 0)) (h1 : BdOk (gb bs 1)) (hd : 0 ≤ day ∧ day ≤ 20000) (hl : bs.length ≤ 100) :
    Calls Tryz.prog 119 #[.agg #[.slice p bs.length c, v1, v2, v3, .int .i64 day]] w fun e w' => e = .returned (.int .i64 (lunarF bs day)) ∧ Below w.heap.size w w' := by
  have hi0 := ixG0; have hi1 := ixG1; have hmf : ∀ (fn : Fn) (first cap : Array Value) (w : World), (Instr.makeFunc fn first cap).run Tryz.prog w = .ok (.func fn first cap) w := fun _ _ _ _ => rfl
  obtain ⟨w1, e1, HS1, z0, z1, z2, z3, z4, b1⟩ := box5 w (.slice p bs.length c) v1 v2 v3 (.int .i64 day) 135; have ko := alloc_new w1 (.cells #[.int .i64 0, .int .i64 0] 195); obtain ⟨w2, e2, HS2, _, _, b2⟩ := box2 w1 (.int .i64 0) (.int .i64 0) 195; rw [e2] at ko; obtain ⟨z0, z1, z2, z3, z4⟩ := cl5 z0 z1 z2 z3 z4 w2 b2; have HZ0 := Lib.hid (show w2.cell? ⟨w.heap.size, 0, none⟩ = some (.slice p bs.length c) ∧ True from ⟨z0, trivial⟩); have HB := Lib.hid (b1.trans (b2.mono b1.size)); have HO := Lib.hid ko; have HZ := Lib.hid (show w.heap.size < w1.heap.size ∧ w1.heap.size < w2.heap.size from ⟨by have := HS1.out; omega, by have := HS2.out; omega⟩); have HLU := Lib.hid (show lunarF bs day = wayF (gb bs 1) day - wayF (gb bs 0) day from rfl); have r0 := way_range h0 hd; have r1 := way_range h1 hd; have HF0 := Lib.hid (fun (wr : World) (hb : Below w.heap.size w wr) => y_sun p c bs v1 v2 v3 day wr (hx.below hb) (by omega) h0 hd hl)
  have HF1 := Lib.hid (fun (wr : World) (hb : Below w.heap.size w wr) => y_moon p c bs v1 v2 v3 day wr (hx.below hb) (by omega) h1 hd hl); obtain ⟨A, hA⟩ : ∃ A, wayF (gb bs 0) day = A := ⟨_, rfl⟩; obtain ⟨C, hC⟩ : ∃ C, wayF (gb bs 1) day = C := ⟨_, rfl⟩; rw [hA] at HLU r0 HF0; rw [hC] at HLU r1 HF1; have hws : IntKind.i64.wrap (C - A) = C - A := w64 _ (by omega) (by omega); clear hA hC ko b1 b2 hx h0 h1 hd
  go_enter Tryz.func119, Tryz.ntmps119
  go_wp2; clear e1 e2
  go_loopw [4, 5, 11] (fun _ _ i wr => ∃ (k : Nat) (x y : Int), k ≤ 2 ∧ i = .int .i64 k ∧ Hid (wr.heap[w1.heap.size]? = some (.cells #[.int .i64 x, .int .i64 y] 195 (0, 0))) ∧ Hid ((1 ≤ k → x = A) ∧ (2 ≤ k → y = C)) ∧ Hid (BelX (fun x => x = w1.heap.size) w2.heap.size w2 wr)) (fun _ _ i _ => 2 - (intOf i).toNat)
  case atStart => exact ⟨0, 0, 0, by omega, rfl, HO, Lib.hid ⟨fun h => by omega, fun h => by omega⟩, Lib.hid (BelX.refl _ _ _)⟩
  case round =>
    obtain ⟨k, x, y, hk, rfl, HX, HXY, HY⟩ := hrel; have hz := HZ.out; have hBr : Below w.heap.size w wr := ((belX_of (X := fun x => x = w1.heap.size) HB.out).trans (HY.out.mono (by omega))).below (B' := w.heap.size) (Nat.le_refl _) (fun x hx => by subst hx; omega)
    rcases (show k = 0 ∨ k = 1 ∨ k = 2 by omega) with hk0 | hk0 | hk0
    · have hca := (HF0.out wr hBr)
      subst hk0; have x0 := (cells2 HX.out).1; have x1 := (cells2 HX.out).2; have z0 := (HY.out.cell (lt_of_cellq HZ0.out.1) (by have := HZ.out; show ¬ (w.heap.size = w1.heap.size); omega)).trans HZ0.out.1; clear hBr hz; go_wp2_with fail; refine hca.mono ?_; clear hca; rintro e' w4 ⟨rfl, b4⟩; have HX4 := Lib.hid ((b4.block _ (block_lt HX.out)).trans HX.out); have y0 : w4.cell? ⟨w1.heap.size, 0, none⟩ = some (.int .i64 x) := by rw [cell_of_row _ _ _ _ _ _ HX4.out]; rfl
      have yf : w4.frozen? ⟨w1.heap.size, 0, none⟩ = false := frozen_of_row _ _ _ _ _ HX4.out; obtain ⟨w5, s5⟩ : ∃ w5, w4.setCell ⟨w1.heap.size, 0, none⟩ (.int .i64 A) = w5 := ⟨_, rfl⟩; have HX5 := Lib.hid (show w5.heap[w1.heap.size]? = some (.cells #[.int .i64 A, .int .i64 y] 195 (0, 0)) by rw [← s5, heap_setCell_same w4 w1.heap.size 0 _ _ _ HX4.out]; rfl)
      have HY5 := Lib.hid (show BelX (fun x => x = w1.heap.size) w2.heap.size w2 w5 by
        have g := (HY.out.trans ((belX_of b4).mono HY.out.size)).setCell (p := ⟨w1.heap.size, 0, none⟩) (.inl rfl) (.int .i64 A); rw [s5] at g; exact g)
      clear b4 HX4 x0 x1; go_wp2; go_roundw
      case rel => exact ⟨1, A, y, by omega, rfl, HX5, Lib.hid ⟨fun _ => rfl, fun h => by omega⟩, HY5⟩
      case measure => simp [intOf]
    · have hca := (HF1.out wr hBr)
      subst hk0; have x0 := (cells2 HX.out).1; have x1 := (cells2 HX.out).2; have z0 := (HY.out.cell (lt_of_cellq HZ0.out.1) (by have := HZ.out; show ¬ (w.heap.size = w1.heap.size); omega)).trans HZ0.out.1; clear hBr hz; go_wp2_with fail; refine hca.mono ?_; clear hca; rintro e' w4 ⟨rfl, b4⟩; have HX4 := Lib.hid ((b4.block _ (block_lt HX.out)).trans HX.out); have y0 : w4.cell? ⟨w1.heap.size, 1, none⟩ = some (.int .i64 y) := by rw [cell_of_row _ _ _ _ _ _ HX4.out]; rfl
      have yf : w4.frozen? ⟨w1.heap.size, 1, none⟩ = false := frozen_of_row _ _ _ _ _ HX4.out; obtain ⟨w5, s5⟩ : ∃ w5, w4.setCell ⟨w1.heap.size, 1, none⟩ (.int .i64 C) = w5 := ⟨_, rfl⟩; have HX5 := Lib.hid (show w5.heap[w1.heap.size]? = some (.cells #[.int .i64 x, .int .i64 C] 195 (0, 0)) by rw [← s5, heap_setCell_same w4 w1.heap.size 1 _ _ _ HX4.out]; rfl)
      have HY5 := Lib.hid (show BelX (fun x => x = w1.heap.size) w2.heap.size w2 w5 by
        have g := (HY.out.trans ((belX_of b4).mono HY.out.size)).setCell (p := ⟨w1.heap.size, 1, none⟩) (.inl rfl) (.int .i64 C); rw [s5] at g; exact g)
      clear b4 HX4 x0 x1; go_wp2; go_roundw
      case rel => exact ⟨2, x, C, by omega, rfl, HX5, Lib.hid ⟨fun _ => HXY.out.1 (by omega), fun _ => rfl⟩, HY5⟩
      case measure => simp [intOf]
    · subst hk0
      obtain rfl := HXY.out.1 (by omega); obtain rfl := HXY.out.2 (by omega); obtain ⟨x0, x1⟩ := cells2 HX.out; have HBB := Lib.hid hBr; clear hBr hz; go_wp2; go_ret; exact ⟨by rw [HLU.out]; rfl, HBB.out⟩
theorem as_meeting (v : Value) (w : World) : (Instr.typeAssert (.iface 188 v) 138 183 true).run Tryz.prog w = .ok (.tuple #[.agg #[.int .i64 0, .int .i64 0], .bool false]) w := by kernel_rfl
theorem as_full (v : Value) (w : World) : (Instr.typeAssert (.iface 188 v) 138 186 true).run Tryz.prog w = .ok (.tuple #[.agg #[], .bool false]) w := by kernel_rfl
theorem y_moonOf (w : World) : Calls Tryz.prog 70 #[.bool false] w fun e w' => e = .returned (.iface 188 (.agg #[])) ∧ w = w' := by
  go_enter Tryz.func70, Tryz.ntmps70
  go_wp2; go_ret; exact ⟨rfl, rfl⟩
def newB (bs : List Bd) (day : Int) : Bool := decide (lunarF bs day / 21600 > lunarF bs (day - 1) / 21600)
set_option maxHeartbeats 1600000 in
set_option maxRecDepth 100000 in
theorem y_has (p : Option Addr) (c : Nat) (bs : List Bd) (n1 n2 n3 : Int) (day : Int) (w : World) (hx : RdBd w p bs) (hk : 2 ≤ bs.length) (h0 : BdOk (gb bs 0)) (h1 : BdOk (gb bs 1)) (hd : 1 ≤ day ∧ day ≤ 20000) (hl : bs.length ≤ 100) :
    Calls Tryz.prog 69 #[.agg #[.slice p bs.length c, .int .i64 n1, .int .i64 n2, .int .i64 n3, .int .i64 day], .iface 188 (.agg #[])] w fun e w' => e = .returned (.bool (newB bs day)) ∧ Below w.heap.size w w' := by
  have ha1 := as_meeting (.agg #[]); have ha2 := as_full (.agg #[]); obtain ⟨w1, e1, HS1, z0, z1, z2, z3, z4, b1⟩ := box5 w (.slice p bs.length c) (.int .i64 n1) (.int .i64 n2) (.int .i64 n3) (.int .i64 day) 135; obtain ⟨w2, e2, HS2, y0, y1, y2, y3, y4, b2⟩ := box5 w1 (.slice p bs.length c) (.int .i64 n1) (.int .i64 n2) (.int .i64 n3) (.int .i64 (day - 1)) 135; have HB := Lib.hid (b1.trans (b2.mono b1.size)); have HC := Lib.hid (cl5 z0 z1 z2 z3 z4 w2 b2); have hws : IntKind.i64.wrap (day - 1) = day - 1 := w64 _ (by omega) (by omega); have HL0 := Lib.hid (fun (wr : World) (hb : Below w2.heap.size w2 wr) => y_lunar p c bs (.int .i64 n1) (.int .i64 n2) (.int .i64 n3) (day - 1) wr (hx.below (HB.out.trans (hb.mono HB.out.size))) hk h0 h1 ⟨by omega, by omega⟩ hl); have HL1 := Lib.hid (fun (wr : World) (hb : Below w2.heap.size w2 wr) => y_lunar p c bs (.int .i64 n1) (.int .i64 n2) (.int .i64 n3) day wr (hx.below (HB.out.trans (hb.mono HB.out.size))) hk h0 h1 ⟨by omega, by omega⟩ hl)
  have HN := Lib.hid (show newB bs day = decide (lunarF bs day / 21600 > lunarF bs (day - 1) / 21600) from rfl); have r0 := way_range h0 (day := day) ⟨by omega, by omega⟩; have r1 := way_range h1 (day := day) ⟨by omega, by omega⟩; have s0 := way_range h0 (day := day - 1) ⟨by omega, by omega⟩; have s1 := way_range h1 (day := day - 1) ⟨by omega, by omega⟩; have hA : -5000000000000 ≤ lunarF bs (day - 1) ∧ lunarF bs (day - 1) ≤ 5000000000000 := by unfold lunarF; omega
  have hC : -5000000000000 ≤ lunarF bs day ∧ lunarF bs day ≤ 5000000000000 := by unfold lunarF; omega
  obtain ⟨A, hAe⟩ : ∃ A, lunarF bs (day - 1) = A := ⟨_, rfl⟩; obtain ⟨C, hCe⟩ : ∃ C, lunarF bs day = C := ⟨_, rfl⟩; rw [hAe] at HL0 HN hA; rw [hCe] at HL1 HN hC; have HP := Lib.hid (fun W => y_passes A C W ⟨by omega, by omega⟩ ⟨by omega, by omega⟩); clear hAe hCe hx h0 h1 b1 b2 r0 r1 s0 s1 hA hC
  go_enter Tryz.func69, Tryz.ntmps69
  go_wp2; clear e1 e2 z0 z1 z2 z3 z4; obtain ⟨z0, z1, z2, z3, z4⟩ := HC.out; have HSB := Lib.hid (cl10 y0 y1 y2 y3 y4 z0 z1 z2 z3 z4); refine held10 y0 y1 y2 y3 y4 z0 z1 z2 z3 z4 (fun W0 HB0 => ?_); refine tk 0 rfl (by exact HSB.out _ HB0) ?_; (try simp only [Act.put, ptL]); refine tk 2 rfl (by exact HSB.out _ HB0) ?_; (try simp only [Act.put, ptL]); refine rz1 1 rfl ?_; intro K hK; go_simp; refine (HL0.out _ HB0).mono ?_; rintro e W1 ⟨rfl, c1⟩; have HB1 := HB0.trans (c1.mono HB0.size); clear c1; refine kz hK (by exact HSB.out _ HB1) ?_; clear hK K; (try simp only [Act.put, ptL]); refine rz1 3 rfl ?_; intro K hK; go_simp; refine (HL1.out _ HB1).mono ?_; rintro e W2 ⟨rfl, c2⟩; have HB2 := HB1.trans (c2.mono HB1.size); clear c2; refine kz hK (by exact HSB.out _ HB2) ?_; clear hK K; (try simp only [Act.put, ptL]); refine rz1 4 rfl ?_; intro K hK; go_simp; refine (HP.out _).mono ?_; rintro e W3 ⟨rfl, c3⟩
  have HB3 := HB2.trans (c3.mono HB2.size); clear c3; refine kz hK (by exact HSB.out _ HB3) ?_; clear hK K; (try simp only [Act.put, ptL]); refine tk 5 rfl (by exact HSB.out _ HB3) ?_; (try simp only [Act.put, ptL]); refine wpAnyH_done (by kernel_rfl) ?_ _; have HBZ := Lib.hid (HB.out.trans (HB3.mono HB.out.size)); clear HSB HB0 HB1 HB2 HB3 y0 y1 y2 y3 y4 z0 z1 z2 z3 z4; go_wp2; go_ret; exact ⟨by rw [HN.out]; rfl, HBZ.out⟩
end Go.Proofs.YtchclaipbahiiaaGreat
end
