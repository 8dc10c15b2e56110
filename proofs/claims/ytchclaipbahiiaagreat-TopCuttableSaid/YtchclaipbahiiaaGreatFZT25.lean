/-
  The fractions of some pairs that come nearest to a fraction: contract.
  The first train of some pairs: the search: contract.
  The first train of some pairs: contract.
  What was found, plain; lists that lie in known blocks.
  The nearest train of prepared wheels: contract.
-/
import Derived.WalkMore
import Derived.Test.YtchclaipbahiiaaGreatFZT24
section
namespace Go.Proofs.YtchclaipbahiiaaGreat
open Go Go.RowKit Go.Proofs
set_option linter.unusedVariables false
set_option linter.unusedSimpArgs false
attribute [local go_sem] imax2 imin2
theorem atN_le (xs : List Int) (num v : Int) : atN xs num v ≤ xs.length := by unfold atN; exact List.IsPrefix.length_le (List.takeWhile_prefix _)
theorem infFr' : (Tryz.prog.info? 27).map (fun i => (i.zero, i.size, i.bytes)) = some (some (.agg #[.int .i64 0, .int .i64 0]), 2, 16) := by kernel_rfl
def NearM (w : World) (bL bF bR : Nat) (f : Int × Int) (a : Value) (st : List (Int × Int) × (Int × Int)) (W : World) : Prop :=
  Two w w.heap.size 27 2 a st.1.length (spV st.1) 27 2 (.slice none 0 0) 0 []
    [(bL, .cells #[.int .i64 st.2.1, .int .i64 st.2.2] 27 (0, 0)), (bF, .cells #[.int .i64 f.1, .int .i64 f.2] 27 (0, 0)), (bR, .cells #[.int .i64 0, .int .i64 0] 27 (0, 0))] W
theorem Two.drop1 {w W : World} {B z1 z2 n1 n2 : Nat} {e1 e2 : TypeId} {v1 v2 : Value} {xs1 xs2 : List Value} {ks : List (Nat × Obj)} (h : Two w B e1 z1 v1 n1 xs1 e2 z2 v2 n2 xs2 ks W) : Two w B e1 z1 (.slice none 0 0) 0 [] e2 z2 v2 n2 xs2 ks W :=
  ⟨World.ownsRow_nil _ _ _ _, h.o2, fun g hg => by simp [Value.ownBlock] at hg, fun b o hm => ⟨(h.k b o hm).1, by simp [Value.ownBlock], (h.k b o hm).2.2⟩, h.below⟩
def NearPost (all : List Int) (f : Int × Int) (w : World) (e : Ending) (w' : World) : Prop :=
  ∃ p c, e = .returned (.tuple #[.slice p (nearFr all f).1.length c, .agg #[.int .i64 (nearFr all f).2.1, .int .i64 (nearFr all f).2.2]]) ∧ RdS w' p (nearFr all f).1 ∧ (∀ a, p = some a → w.heap.size ≤ a.block) ∧ Below w.heap.size w w'
set_option maxHeartbeats 3200000 in
set_option maxRecDepth 100000 in
theorem t_near (v0 v1 v2 v3 v4 v5 v7 : Value) (qs : Option Addr) (m cs : Nat) (t : List Int) (n : Nat) (f1 f2 : Int) (w : World) (hq : RdSr w qs t m) (hn : n < m) (hm : m ≤ 4) (ht : Tth t) (h1 : 0 ≤ f1 ∧ f1 ≤ 50000) (h2 : 1 ≤ f2 ∧ f2 ≤ 50000) :
    Calls Tryz.prog 78 #[.agg #[v0, v1, v2, v3, v4, v5, .slice qs m cs, v7], .int .i64 n, .agg #[.int .i64 f1, .int .i64 f2]] w (NearPost (srtF t n) (f1, f2) w) := by
  obtain ⟨i0, hi0, hz0, hz1, hz2⟩ := info_parts infFr'; have HSO := Lib.hid (srt_ok ht (n := n) (by omega)); obtain ⟨b, off, rfl, hrows⟩ := hq; obtain ⟨pa, ca, hcell, hrd⟩ := hrows n hn; obtain ⟨all, hall⟩ : ∃ all, srtF t n = all := ⟨_, rfl⟩; rw [hall] at hcell hrd HSO ⊢; obtain ⟨w1, e1, HS1, kW, b1⟩ := bx8 w v0 v1 v2 v3 v4 v5 (.slice (some ⟨b, off, none⟩) m cs) v7 93; obtain ⟨w2, e2, HS2, f0, f0', b2⟩ := box2 w1 (.int .i64 f1) (.int .i64 f2) 27; have kF := alloc_new w1 (.cells #[.int .i64 f1, .int .i64 f2] 27); rw [e2] at kF; obtain ⟨w3, e3, HS3, r0, r1, b3⟩ := box2 w2 (.int .i64 0) (.int .i64 0) 27; have kR := alloc_new w2 (.cells #[.int .i64 0, .int .i64 0] 27); rw [e3] at kR; obtain ⟨w4, e4, HS4, l0, l1, b4⟩ := box2 w3 (.int .i64 0) (.int .i64 0) 27; have kL := alloc_new w3 (.cells #[.int .i64 0, .int .i64 0] 27); rw [e4] at kL; have b34 := b3.trans (b4.mono b3.size); have b24 := b2.trans (b34.mono b2.size)
  have hB4 : Below w.heap.size w w4 := b1.trans (b24.mono b1.size); have kF := (b34.block _ (block_lt kF)).trans kF; have kR := (b4.block _ (block_lt kR)).trans kR; have kW := (b24.block _ (block_lt kW)).trans kW; obtain ⟨_, _, _, _, _, _, m6, _⟩ := cells8 kW; have c0 := (hB4.cell (lt_of_cellq hcell)).trans hcell; have hz1' := HS1.out; have hz2' := HS2.out; have hz3' := HS3.out; obtain ⟨bW, hbW⟩ : ∃ x, w.heap.size = x := ⟨_, rfl⟩; obtain ⟨bF, hbF⟩ : ∃ x, w1.heap.size = x := ⟨_, rfl⟩; obtain ⟨bR, hbR⟩ : ∃ x, w2.heap.size = x := ⟨_, rfl⟩; obtain ⟨bL, hbL⟩ : ∃ x, w3.heap.size = x := ⟨_, rfl⟩; have HNB := Lib.hid (show bW ≤ bL ∧ bW < bR ∧ bF ≠ bL ∧ bR ≠ bL by omega)
  have HM0 := Lib.hid (show NearM w w3.heap.size w1.heap.size w2.heap.size (f1, f2) (.slice none 0 0) (nearTo (f1, f2) all 0) w4 from Two.start hB4 (fun x o hx => by
    simp only [List.mem_cons, List.not_mem_nil, or_false, Prod.mk.injEq] at hx
    rcases hx with ⟨rfl, rfl⟩ | ⟨rfl, rfl⟩ | ⟨rfl, rfl⟩
    · exact kL
    · exact kF
    · exact kR))
  have HN0 := Lib.hid (show NrOk (2 * 0) (nearTo (f1, f2) all 0) from ⟨Nat.le_refl _, Int.le_refl 0, (show (0 : Int) ≤ 20000000000 by decide), Int.le_refl 0, (show (0 : Int) ≤ 216000 by decide)⟩); have HRD := Lib.hid hrd; have HF1 := Lib.hid h1; have HF2 := Lib.hid h2; rw [hbF, hbR, hbL] at HM0; rw [hbW] at m6; rw [hbF] at f0 f0'; rw [hbR] at r0 r1; rw [hbL] at l0 l1; have hlen := HSO.out.len; have HBW := Lib.hid hbW; have hnI : (n : Int) < (m : Int) := by omega
  clear hrows hcell hrd hall h1 h2 b1 b2 b3 b4 b34 b24 hB4 kF kR kL kW hz1' hz2' hz3' ht
  go_enter Tryz.func78, Tryz.ntmps78
  go_wp2; clear e1 e2 e3 e4 hbF hbR hbL hbW f0 f0' r0 r1 l0 l1 m6 c0
  go_loopw [8, 26] (fun a i wr => ∃ k : Nat, k ≤ all.length ∧ i = .int .i64 k ∧ Hid (NrOk (2 * k) (nearTo (f1, f2) all k)) ∧ Hid (NearM w bL bF bR (f1, f2) a (nearTo (f1, f2) all k) wr)) (fun _ i _ => all.length - (intOf i).toNat)
  case atStart => exact ⟨0, Nat.zero_le _, rfl, HN0, HM0⟩
  case round =>
    obtain ⟨k, hk, rfl, HN, HM⟩ := hrel
    by_cases hlt : k < all.length
    · have hltI : decide ((k : Int) < (all.length : Int)) = true := decide_eq_true (by omega)
      have hkI : (k : Int) < (all.length : Int) := by omega
      have hwk : IntKind.i64.wrap ((k : Int) + 1) = (k : Int) + 1 := w64 _ (by omega) (by omega); have HRW := Lib.hid (HRD.out.below HM.out.below); obtain ⟨b', off', rfl, hc⟩ := HRW.out.at hlt; have d0 := hc k hlt; have hdr := HSO.out.one k hlt; have HSU := Lib.hid (nearTo_succ (f1, f2) all hlt); obtain ⟨f0, f0'⟩ := cells2 (HM.out.cell (b := bF) (.tail _ (.head _))); obtain ⟨dr, hdre⟩ : ∃ dr, gi all k = dr := ⟨_, rfl⟩; rw [hdre] at d0 hdr HSU; obtain ⟨st, hst⟩ : ∃ st, nearTo (f1, f2) all k = st := ⟨_, rfl⟩; rw [hst] at HSU HN HM; have hv : 0 ≤ dr * f2 ∧ dr * f2 ≤ 216000 * 50000 := ⟨Int.mul_nonneg (by omega) (by have := HF2.out; omega), Int.le_trans (Int.mul_le_mul_of_nonneg_right hdr.2 (by have := HF2.out; omega)) (Int.mul_le_mul_of_nonneg_left HF2.out.2 (by decide))⟩; have HJ2 := Lib.hid (nearJ_two (f1, f2) all st dr); have hA := atN_le all f1 (dr * f2)
      have hbs := t_bsearch (some ⟨b', off', none⟩) ca all (dr * f2) f1 bF wr HRW.out (by omega) f0 (fun i hi => by
        have h3 := HSO.out.one i hi; have h4 : 0 ≤ gi all i * f1 := Int.mul_nonneg (by omega) (by have := HF1.out; omega); have h5 : gi all i * f1 ≤ 216000 * 50000 := Int.le_trans (Int.mul_le_mul_of_nonneg_right h3.2 (by have := HF1.out; omega)) (Int.mul_le_mul_of_nonneg_left HF1.out.2 (by decide)); unfold Mid; omega) (fun i j hij hj => Int.mul_le_mul_of_nonneg_right (HSO.out.mono i j hij hj) (by have := HF1.out; omega))
      unfold AtPost at hbs; simp only [] at HJ2; obtain ⟨A, hAe⟩ : ∃ A, atN all f1 (dr * f2) = A := ⟨_, rfl⟩; rw [hAe] at hbs hA HJ2; obtain ⟨V, hVe⟩ : ∃ V, dr * f2 = V := ⟨_, rfl⟩; rw [hVe] at hbs hv; have hwv : IntKind.i64.wrap (dr * f2) = V := by rw [hVe]; exact w64 _ (by omega) (by omega)
      have hwa : IntKind.i64.wrap ((A : Int) - 1) = (A : Int) - 1 := w64 _ (by omega) (by omega); clear hc hdre hst hAe hVe; go_wp2_with fail; refine hbs.mono ?_; clear hbs; rintro e w' ⟨⟨bb, rfl⟩, rfl⟩; obtain ⟨wn, rfl⟩ : ∃ wn : World, wn = wr := ⟨_, rfl⟩; go_wp2
      go_loopw [8, 44] (fun a i wr => ∃ j : Nat, j ≤ 2 ∧ i = .int .i64 j ∧ Hid (NrOk (2 * k + j) (nearJ (f1, f2) all st dr A j)) ∧ Hid (NearM w bL bF bR (f1, f2) a (nearJ (f1, f2) all st dr A j) wr)) (fun _ i _ => 2 - (intOf i).toNat)
      case atStart => exact ⟨0, Nat.zero_le _, rfl, HN, HM⟩
      case round =>
        obtain ⟨j, hj, rfl, HN, HM⟩ := hrel
        by_cases hlt2 : j < 2
        · have hlt2I : decide ((j : Int) < 2) = true := by simp; omega
          have hjj : j = 0 ∨ j = 1 := by omega
          have hwj : IntKind.i64.wrap ((j : Int) + 1) = (j : Int) + 1 := w64 _ (by omega) (by omega); have HJS := Lib.hid (nearJ_succ (f1, f2) all st dr A j hlt2); obtain ⟨I, hIe⟩ : ∃ I, (if j = 0 then (A : Int) - 1 else (A : Int)) = I := ⟨_, rfl⟩
          have hix : ∀ W, (Instr.index 195 (.agg #[.int .i64 ((A : Int) - 1), .int .i64 (A : Int)]) (.int .i64 (j : Int))).run Tryz.prog W = .ok (.int .i64 I) W := fun W => by
            rw [← hIe]
            rcases hjj with rfl | rfl <;> rfl
          have hIb : -1 ≤ I ∧ I ≤ (all.length : Int) := by rw [← hIe]; split <;> omega
          rw [hIe] at HJS; have hin := fun W => t_in I 0 ((all.length : Int) - 1) W
          have hwl : IntKind.i64.wrap ((all.length : Int) - 1) = (all.length : Int) - 1 := w64 _ (by omega) (by omega); obtain ⟨s, hse⟩ : ∃ s, nearJ (f1, f2) all st dr A j = s := ⟨_, rfl⟩; rw [hse] at HJS HN HM; clear hjj hIe hse
          rcases hib : inB I 0 ((all.length : Int) - 1) with _ | _
          · rw [hib] at hin
            have HNX := Lib.hid (show nearJ (f1, f2) all st dr A (j + 1) = s by rw [HJS.out]; exact nearS_out hib); have HIN := Lib.hid hin; clear hib hin; go_wp2_with fail; refine (HIN.out _).mono ?_; rintro e w' ⟨rfl, rfl⟩; go_wp2; go_roundw
            case rel => exact ⟨j + 1, by omega, by go_num, Lib.hid (by rw [HNX.out]; exact ⟨by have := HN.out.len; omega, HN.out.a0, HN.out.a1, HN.out.b0, HN.out.b1⟩), by rw [HNX.out]; exact HM⟩
            case measure => simp [intOf]; omega
          · skip
            obtain ⟨i, rfl⟩ : ∃ i : Nat, I = (i : Int) := ⟨I.toNat, by have := (inB_iff.1 hib).1; omega⟩; have hi : i < all.length := by have := (inB_iff.1 hib).2; omega
            have hiI : (i : Int) < (all.length : Int) := by omega
            have HIB := Lib.hid hib; rw [hib] at hin; have HIN := Lib.hid hin; obtain ⟨b2, off2, e2, hc2⟩ := HRD.out.at hi
            injection e2 with e2
            injection e2 with e2a e2b
            subst e2a e2b; have c2 := hc2 i hi; have d1 := (HM.out.below.cell (lt_of_cellq c2)).trans c2; have hy := HSO.out.one i hi; obtain ⟨y, hye⟩ : ∃ y, gi all i = y := ⟨_, rfl⟩; rw [hye] at d1 hy; have hre := fun W => t_reduced dr.toNat y.toNat (by omega) (by omega) (by omega) W
            rw [Int.toNat_of_nonneg (by omega), Int.toNat_of_nonneg (by omega)] at hre; have hxb := red_in hdr hy; obtain ⟨X1, hX1⟩ : ∃ X, (redF dr y).1 = X := ⟨_, rfl⟩; obtain ⟨X2, hX2⟩ : ∃ X, (redF dr y).2 = X := ⟨_, rfl⟩; have hXX : redF dr y = (X1, X2) := by rw [← hX1, ← hX2]
            rw [hX1, hX2] at hre hxb; have HRE := Lib.hid hre; have hdi := dst_in (x := (X1, X2)) (f := (f1, f2)) hxb.1 hxb.2 HF1.out HF2.out
            have hm1 : Mid (X1 * f2) := by
              have a1 : 0 ≤ X1 * f2 := Int.mul_nonneg (by omega) (by have := HF2.out; omega); have a2 : X1 * f2 ≤ 216000 * 50000 := Int.le_trans (Int.mul_le_mul_of_nonneg_right hxb.1.2 (by have := HF2.out; omega)) (Int.mul_le_mul_of_nonneg_left HF2.out.2 (by decide)); unfold Mid; omega
            have hm2 : Mid (f1 * X2) := by
              have a1 : 0 ≤ f1 * X2 := Int.mul_nonneg (by have := HF1.out; omega) (by omega); have a2 : f1 * X2 ≤ 50000 * 216000 := Int.le_trans (Int.mul_le_mul_of_nonneg_right HF1.out.2 (by omega)) (Int.mul_le_mul_of_nonneg_left hxb.2.2 (by decide)); unfold Mid; omega
            have hds := fun W => t_distance X1 X2 f1 f2 hm1 hm2 W
            obtain ⟨D1, hD1⟩ : ∃ D, (dstF (X1, X2) (f1, f2)).1 = D := ⟨_, rfl⟩; obtain ⟨D2, hD2⟩ : ∃ D, (dstF (X1, X2) (f1, f2)).2 = D := ⟨_, rfl⟩; have hDD : dstF (X1, X2) (f1, f2) = (D1, D2) := by rw [← hD1, ← hD2]
            rw [hD1, hD2] at hds hdi; have HDS := Lib.hid hds; have HDB := Lib.hid (show 0 ≤ D1 ∧ D1 ≤ 20000000000 ∧ 0 ≤ D2 ∧ D2 ≤ 216000 from ⟨hdi.1, hdi.2.1, by have := hdi.2.2; simp only [] at this; omega, by have := hdi.2.2; simp only [] at this; omega⟩); obtain ⟨S1, S21, S22⟩ := s; have hS := HN.out
            have hmid : ∀ a b : Int, 0 ≤ a → a ≤ 20000000000 → 0 ≤ b → b ≤ 216000 → Mid (a * b) := fun a b a0 a1 b0 b1 => by
              have h1 : 0 ≤ a * b := Int.mul_nonneg a0 b0; have h2 : a * b ≤ 20000000000 * 216000 := Int.le_trans (Int.mul_le_mul_of_nonneg_right a1 b0) (Int.mul_le_mul_of_nonneg_left b1 (by decide)); unfold Mid; omega
            have hcp := fun W => t_compare D1 D2 S21 S22 (hmid _ _ HDB.out.1 HDB.out.2.1 hS.b0 hS.b1) (hmid _ _ hS.a0 hS.a1 HDB.out.2.2.1 HDB.out.2.2.2) W
            have hc0 := fun W => t_compare D1 D2 D1 D2 (hmid _ _ HDB.out.1 HDB.out.2.1 HDB.out.2.2.1 HDB.out.2.2.2) (hmid _ _ HDB.out.1 HDB.out.2.1 HDB.out.2.2.1 HDB.out.2.2.2) W
            rw [show cmpF (D1, D2) (D1, D2) = 0 from Int.sub_self _] at hc0; have HC0 := Lib.hid hc0; have HE0 := Lib.hid (fun W => t_hasFr none 0 [] X1 X2 W (.inl rfl) (by simp)); rw [show (([] : List (Int × Int)).contains (X1, X2)) = false from rfl, List.length_nil] at HE0; obtain ⟨CC, hCC⟩ : ∃ C, cmpF (D1, D2) (S21, S22) = C := ⟨_, rfl⟩; rw [hCC] at hcp; have HCP := Lib.hid hcp; have hlen1 : S1.length ≤ 2 * k + j := hS.len; have HXI := Lib.hid (show redF dr (gi all ((i : Int)).toNat) = (X1, X2) by rw [Int.toNat_natCast, hye]; exact hXX); have HDI := Lib.hid hDD; have hln : NearM w bL bF bR (f1, f2) u8 (S1, (S21, S22)) wr := HM.out; obtain ⟨qa, cqa, rfl⟩ := own_any hln.o1; have HNS := Lib.hid (show (S1, ((S21, S22) : Int × Int)).1.length = S1.length from rfl); obtain ⟨ns, hns⟩ : ∃ ns, S1.length = ns := ⟨_, rfl⟩; have HNSS := Lib.hid hns
            have HM := Lib.hid (show Two w w.heap.size 27 2 (.slice qa ns cqa) ns (spV S1) 27 2 (.slice none 0 0) 0 []
                [(bL, .cells #[.int .i64 S21, .int .i64 S22] 27 (0, 0)), (bF, .cells #[.int .i64 f1, .int .i64 f2] 27 (0, 0)), (bR, .cells #[.int .i64 0, .int .i64 0] 27 (0, 0))] wr by rw [← hns]; exact hln)
            simp only []; rw [hns]; rw [hns] at hlen1; clear hc2 c2 hye hre hX1 hX2 hXX hD1 hD2 hDD hds hdi hm1 hm2 hmid hcp hc0 hS hln hib hin hy hns; go_wp2_with fail; refine (HIN.out _).mono ?_; rintro e w' ⟨rfl, rfl⟩; go_wp2_with fail; refine (HRE.out _).mono ?_; rintro e w5 ⟨rfl, b5⟩; have HM5 := Lib.hid (HM.out.kept b5 HM.out.below.size); obtain ⟨w6, e6, HS6, hX0, hX1, b6⟩ := box2 w5 (.int .i64 X1) (.int .i64 X2) 27; have kX := alloc_new w5 (.cells #[.int .i64 X1, .int .i64 X2] 27); rw [e6] at kX; have HM6 := Lib.hid (HM5.out.kept b6 HM5.out.below.size); obtain ⟨g0, g1⟩ := cells2 (HM6.out.cell (b := bF) (.tail _ (.head _))); clear b5 b6 d1; go_wp2_with fail; refine (HDS.out _).mono ?_; rintro e w7 ⟨rfl, b7⟩; have HM7 := Lib.hid (HM6.out.kept b7 HM6.out.below.size); have hX0 := (b7.cell (lt_of_cellq hX0)).trans hX0; have hX1 := (b7.cell (lt_of_cellq hX1)).trans hX1; have kX := (b7.block _ (block_lt kX)).trans kX
            obtain ⟨w8, e8, HS8, hD0, hD1, b8⟩ := box2 w7 (.int .i64 D1) (.int .i64 D2) 27; have kD := alloc_new w7 (.cells #[.int .i64 D1, .int .i64 D2] 27); rw [e8] at kD; have HM8 := Lib.hid (HM7.out.kept b8 HM7.out.below.size); have hX0 := (b8.cell (lt_of_cellq hX0)).trans hX0; have hX1 := (b8.cell (lt_of_cellq hX1)).trans hX1; have kX := (b8.block _ (block_lt kX)).trans kX; obtain ⟨l0, l1⟩ := cells2 (HM8.out.cell (b := bL) (.head _)); have HKX := Lib.hid kX; have HKD := Lib.hid kD; have HNX := Lib.hid (show w5.heap.size ≠ bL ∧ w7.heap.size ≠ bL from ⟨fun e => by have := block_lt (HM5.out.cell (b := bL) (.head _)); omega, fun e => by have := block_lt (HM7.out.cell (b := bL) (.head _)); omega⟩); clear b7 b8 kX kD g0 g1
            by_cases hne : ns = 0
            · have hneI : ((ns : Int) == 0) = true := by rw [hne]; rfl
              have HNW := Lib.hid (show nearJ (f1, f2) all st dr A (j + 1) = ([(X1, X2)], (D1, D2)) by rw [HJS.out]; exact nearS_new HIB.out HXI.out HDI.out (.inl (List.length_eq_zero_iff.1 (by rw [HNSS.out]; exact hne)))); clear hne l0 l1; have y0 := hD0; have y1 := hD1; go_upto_region 15 with (fail); have HSB := Lib.hid (cl2 y0 y1); refine held2 y0 y1 (fun W0 HB0 => ?_); refine tk 0 rfl (by exact HSB.out _ HB0) ?_; (try simp only [Act.put, ptL]); refine tk 1 rfl (by exact HSB.out _ HB0) ?_; (try simp only [Act.put, ptL]); have HM9 := Lib.hid (HM8.out.kept HB0 HM8.out.below.size); obtain ⟨wa, wb, sa, sb, ⟨l0, lf0⟩, ⟨l1, lf1⟩, hx4, hxk, HZs, hxb⟩ := set2 W0 bL 27 _ _ (.int .i64 D1) (.int .i64 D2) (HM9.out.cell (.head _)); have hkx := (hxk _ (HNX.out.1)).trans ((HB0.block _ (block_lt HKX.out)).trans HKX.out); have hkd := (hxk _ (HNX.out.2)).trans ((HB0.block _ (block_lt HKD.out)).trans HKD.out)
              obtain ⟨z0, z1⟩ := cells2 hkd; obtain ⟨x0, x1⟩ := cells2 hkx
              have HMR := Lib.hid (show Two w w.heap.size 27 2 (.slice none 0 0) 0 [] 27 2 (.slice none 0 0) 0 [] [(bL, .cells #[.int .i64 D1, .int .i64 D2] 27 (0, 0)), (bF, .cells #[.int .i64 f1, .int .i64 f2] 27 (0, 0)), (bR, .cells #[.int .i64 0, .int .i64 0] 27 (0, 0))] wb from (HM9.out.put (fun q hq => by
                simp only [List.mem_cons, List.not_mem_nil, or_false] at hq
                rcases hq with rfl | rfl
                · exact HNB.out.2.2.1
                · exact HNB.out.2.2.2) hxk hx4 (hxb w w.heap.size (by rw [HBW.out]; exact HNB.out.1) HM9.out.below)).drop1)
              refine rz1 2 rfl ?_; intro K hK; go_simp; refine kz hK (by exact ⟨z0, z1⟩) ?_; clear hK K; (try simp only [Act.put, ptL]); refine wpAnyH_done (by kernel_rfl) ?_ _; obtain ⟨l0, l1⟩ := cells2 (HMR.out.cell (b := bL) (.head _)); clear sa sb lf0 lf1 hx4 hxk HZs hxb hkd HSB HB0 y0 y1 hD0 hD1 hX0 hX1; go_wp2_with fail; refine (HC0.out _).mono ?_; rintro e wc ⟨rfl, bc⟩; have HMC := Lib.hid (HMR.out.kept bc HMR.out.below.size); have x0 := (bc.cell (lt_of_cellq x0)).trans x0; have x1 := (bc.cell (lt_of_cellq x1)).trans x1; have hkx := (bc.block _ (block_lt hkx)).trans hkx; clear bc z0 z1 l0 l1; go_wp2_with fail; refine (HE0.out _).mono ?_; rintro e WA ⟨rfl, bd⟩; have x0 := (bd.cell (lt_of_cellq x0)).trans x0; have x1 := (bd.cell (lt_of_cellq x1)).trans x1; have HMA := Lib.hid ((HMC.out.kept bd HMC.out.below.size).kept (below_alloc1 WA (.cells #[.int .i64 X1, .int .i64 X2] 27)) (Nat.le_trans HMC.out.below.size bd.size))
              clear bd hkx
              go_wp2_with (at_builtin; refine wpList_append_lies _ rfl _ _ 52 rfl w.heap.size 27 i0 _ 2 16 Tryz.underlying52 hi0 hz0 hz1 hz2 rfl (by decide) _ _ _ rfl HMA.out.o1 ⟨WA.heap.size, 0, none⟩ 1 1 [.int .i64 X1, .int .i64 X2] rfl rfl ?c1 ?c2 ?c6 ?c3 ?c4 ?c5 _ rfl ?_)
              case c1 => exact news_of WA [.int .i64 X1, .int .i64 X2] _
              case c2 => intro u hu; simp at hu; rcases hu with rfl | rfl <;> rfl
              case c6 => decide
              case c3 => unfold maxLen; omega
              case c4 => omega
              case c5 => exact HMA.out.below.size
              intro gg cg WB hob hgb hlb _; have HMB := Lib.hid (HMA.out.grow HMA.out.below.size hob hgb (by simpa using hlb)); clear hob hgb hlb; go_wp2; go_roundw
              case rel => exact ⟨j + 1, by omega, by go_num, Lib.hid (by rw [HNW.out]; exact ⟨by show 1 ≤ 2 * k + (j + 1); omega, HDB.out.1, HDB.out.2.1, HDB.out.2.2.1, HDB.out.2.2.2⟩), Lib.hid (by rw [HNW.out]; exact HMB.out)⟩
              case measure => simp [intOf]; omega
            · have hneI : ((ns : Int) == 0) = false := by rw [beq_eq_false_iff_ne]; omega
              by_cases hcl : CC < 0
              · have hclI : decide (CC < 0) = true := decide_eq_true hcl
                have HNW := Lib.hid (show nearJ (f1, f2) all st dr A (j + 1) = ([(X1, X2)], (D1, D2)) by rw [HJS.out]; exact nearS_new HIB.out HXI.out HDI.out (.inr (by rw [hCC]; exact hcl))); clear hne hcl hCC; go_wp2_with fail; refine (HCP.out _).mono ?_; rintro e wq ⟨rfl, bq⟩; replace HM8 := Lib.hid (HM8.out.kept bq HM8.out.below.size); replace HKX := Lib.hid ((bq.block _ (block_lt HKX.out)).trans HKX.out); replace HKD := Lib.hid ((bq.block _ (block_lt HKD.out)).trans HKD.out); replace hX0 := (bq.cell (lt_of_cellq hX0)).trans hX0; replace hX1 := (bq.cell (lt_of_cellq hX1)).trans hX1; replace hD0 := (bq.cell (lt_of_cellq hD0)).trans hD0; replace hD1 := (bq.cell (lt_of_cellq hD1)).trans hD1; clear bq l0 l1; have y0 := hD0; have y1 := hD1; go_upto_region 15 with (fail); have HSB := Lib.hid (cl2 y0 y1); refine held2 y0 y1 (fun W0 HB0 => ?_); refine tk 0 rfl (by exact HSB.out _ HB0) ?_; (try simp only [Act.put, ptL]); refine tk 1 rfl (by exact HSB.out _ HB0) ?_; (try simp only [Act.put, ptL])
                have HM9 := Lib.hid (HM8.out.kept HB0 HM8.out.below.size); obtain ⟨wa, wb, sa, sb, ⟨l0, lf0⟩, ⟨l1, lf1⟩, hx4, hxk, HZs, hxb⟩ := set2 W0 bL 27 _ _ (.int .i64 D1) (.int .i64 D2) (HM9.out.cell (.head _)); have hkx := (hxk _ (HNX.out.1)).trans ((HB0.block _ (block_lt HKX.out)).trans HKX.out); have hkd := (hxk _ (HNX.out.2)).trans ((HB0.block _ (block_lt HKD.out)).trans HKD.out); obtain ⟨z0, z1⟩ := cells2 hkd; obtain ⟨x0, x1⟩ := cells2 hkx
                have HMR := Lib.hid (show Two w w.heap.size 27 2 (.slice none 0 0) 0 [] 27 2 (.slice none 0 0) 0 [] [(bL, .cells #[.int .i64 D1, .int .i64 D2] 27 (0, 0)), (bF, .cells #[.int .i64 f1, .int .i64 f2] 27 (0, 0)), (bR, .cells #[.int .i64 0, .int .i64 0] 27 (0, 0))] wb from (HM9.out.put (fun q hq => by
                  simp only [List.mem_cons, List.not_mem_nil, or_false] at hq
                  rcases hq with rfl | rfl
                  · exact HNB.out.2.2.1
                  · exact HNB.out.2.2.2) hxk hx4 (hxb w w.heap.size (by rw [HBW.out]; exact HNB.out.1) HM9.out.below)).drop1)
                refine rz1 2 rfl ?_; intro K hK; go_simp; refine kz hK (by exact ⟨z0, z1⟩) ?_; clear hK K; (try simp only [Act.put, ptL]); refine wpAnyH_done (by kernel_rfl) ?_ _; obtain ⟨l0, l1⟩ := cells2 (HMR.out.cell (b := bL) (.head _)); clear sa sb lf0 lf1 hx4 hxk HZs hxb hkd HSB HB0 y0 y1 hD0 hD1 hX0 hX1; go_wp2_with fail; refine (HC0.out _).mono ?_; rintro e wc ⟨rfl, bc⟩; have HMC := Lib.hid (HMR.out.kept bc HMR.out.below.size); have x0 := (bc.cell (lt_of_cellq x0)).trans x0; have x1 := (bc.cell (lt_of_cellq x1)).trans x1; have hkx := (bc.block _ (block_lt hkx)).trans hkx; clear bc z0 z1 l0 l1; go_wp2_with fail; refine (HE0.out _).mono ?_; rintro e WA ⟨rfl, bd⟩; have x0 := (bd.cell (lt_of_cellq x0)).trans x0; have x1 := (bd.cell (lt_of_cellq x1)).trans x1; have HMA := Lib.hid ((HMC.out.kept bd HMC.out.below.size).kept (below_alloc1 WA (.cells #[.int .i64 X1, .int .i64 X2] 27)) (Nat.le_trans HMC.out.below.size bd.size))
                clear bd hkx
                go_wp2_with (at_builtin; refine wpList_append_lies _ rfl _ _ 52 rfl w.heap.size 27 i0 _ 2 16 Tryz.underlying52 hi0 hz0 hz1 hz2 rfl (by decide) _ _ _ rfl HMA.out.o1 ⟨WA.heap.size, 0, none⟩ 1 1 [.int .i64 X1, .int .i64 X2] rfl rfl ?c1 ?c2 ?c6 ?c3 ?c4 ?c5 _ rfl ?_)
                case c1 => exact news_of WA [.int .i64 X1, .int .i64 X2] _
                case c2 => intro u hu; simp at hu; rcases hu with rfl | rfl <;> rfl
                case c6 => decide
                case c3 => unfold maxLen; omega
                case c4 => omega
                case c5 => exact HMA.out.below.size
                intro gg cg WB hob hgb hlb _; have HMB := Lib.hid (HMA.out.grow HMA.out.below.size hob hgb (by simpa using hlb)); clear hob hgb hlb; go_wp2; go_roundw
                case rel => exact ⟨j + 1, by omega, by go_num, Lib.hid (by rw [HNW.out]; exact ⟨by show 1 ≤ 2 * k + (j + 1); omega, HDB.out.1, HDB.out.2.1, HDB.out.2.2.1, HDB.out.2.2.2⟩), Lib.hid (by rw [HNW.out]; exact HMB.out)⟩
                case measure => simp [intOf]; omega
              · have hclI : decide (CC < 0) = false := decide_eq_false hcl
                have HNO := Lib.hid (show ¬ (S1 = [] ∨ cmpF (D1, D2) (S21, S22) < 0) from fun h => by
                  rcases h with h | h
                  · exact hne (by rw [← HNSS.out, h]; rfl)
                  · exact hcl (by rw [← hCC]; exact h))
                have HCC := Lib.hid hCC; clear hcl hCC hne; go_wp2_with fail; refine (HCP.out _).mono ?_; rintro e wq ⟨rfl, bq⟩; replace HM8 := Lib.hid (HM8.out.kept bq HM8.out.below.size); replace hX0 := (bq.cell (lt_of_cellq hX0)).trans hX0; replace hX1 := (bq.cell (lt_of_cellq hX1)).trans hX1; replace hD0 := (bq.cell (lt_of_cellq hD0)).trans hD0; replace hD1 := (bq.cell (lt_of_cellq hD1)).trans hD1; clear bq l0 l1; obtain ⟨l0, l1⟩ := cells2 (HM8.out.cell (b := bL) (.head _)); go_wp2_with fail; refine (HCP.out _).mono ?_; rintro e wq ⟨rfl, bq⟩; replace HM8 := Lib.hid (HM8.out.kept bq HM8.out.below.size); replace hX0 := (bq.cell (lt_of_cellq hX0)).trans hX0; replace hX1 := (bq.cell (lt_of_cellq hX1)).trans hX1; clear bq l0 l1 hD0 hD1
                by_cases hc0 : CC = 0
                · have hc0I : (CC == 0) = true := by rw [hc0]; rfl
                  have HC00 := Lib.hid hc0; obtain ⟨q', c', heq', hrd'⟩ := rds_of_own (w := wq) (base := w.heap.size) (e := 27) (v := .slice qa ns cqa) (ss := S1) (by rw [HNSS.out]; exact HM8.out.o1); have he1 : qa = q' := by injection heq'
                  rw [← he1] at hrd'; clear heq' he1; have hhas := t_hasFr qa cqa S1 X1 X2 wq hrd' (by rw [HNSS.out]; omega); rw [HNSS.out] at hhas; clear hc0 hrd'
                  cases hcc : S1.contains (X1, X2) with
                  | true =>
                    rw [hcc] at hhas; have HNW := Lib.hid (show nearJ (f1, f2) all st dr A (j + 1) = (S1, (S21, S22)) by rw [HJS.out]; exact nearS_same HIB.out HXI.out HDI.out HNO.out (fun h => by have h2 := h.2; rw [show (S1, ((S21, S22) : Int × Int)).1.contains (X1, X2) = true from hcc] at h2; cases h2)); clear hcc; go_wp2_with fail; refine hhas.mono ?_; clear hhas; rintro e wq2 ⟨rfl, bq⟩; replace HM8 := Lib.hid (HM8.out.kept bq HM8.out.below.size); clear bq; go_wp2; go_roundw
                    case rel => exact ⟨j + 1, by omega, by go_num, Lib.hid (by rw [HNW.out]; exact ⟨by have := HN.out.len; omega, HN.out.a0, HN.out.a1, HN.out.b0, HN.out.b1⟩), Lib.hid (by rw [HNW.out]; show Two w w.heap.size 27 2 _ S1.length _ _ _ _ _ _ _ _; rw [HNSS.out]; exact HM8.out)⟩
                    case measure => simp [intOf]; omega
                  | false =>
                    rw [hcc] at hhas; have HNW := Lib.hid (show nearJ (f1, f2) all st dr A (j + 1) = (S1 ++ [(X1, X2)], (S21, S22)) by rw [HJS.out]; exact nearS_add HIB.out HXI.out HDI.out HNO.out (by rw [HCC.out]; exact HC00.out) hcc); clear hcc; go_wp2_with fail; refine hhas.mono ?_; clear hhas; rintro e WA ⟨rfl, bq⟩; have HMA := Lib.hid ((HM8.out.kept bq HM8.out.below.size).kept (below_alloc1 WA (.cells #[.int .i64 X1, .int .i64 X2] 27)) (Nat.le_trans HM8.out.below.size bq.size)); have x0 := (bq.cell (lt_of_cellq hX0)).trans hX0; have x1 := (bq.cell (lt_of_cellq hX1)).trans hX1; clear bq hX0 hX1; go_wp2_with (at_builtin; refine wpList_append_lies _ rfl _ _ 52 rfl w.heap.size 27 i0 _ 2 16 Tryz.underlying52 hi0 hz0 hz1 hz2 rfl (by decide) _ _ _ rfl HMA.out.o1 ⟨WA.heap.size, 0, none⟩ 1 1 [.int .i64 X1, .int .i64 X2] rfl rfl ?c1 ?c2 ?c6 ?c3 ?c4 ?c5 _ rfl ?_)
                    case c1 => exact news_of WA [.int .i64 X1, .int .i64 X2] _
                    case c2 => intro u hu; simp at hu; rcases hu with rfl | rfl <;> rfl
                    case c6 => decide
                    case c3 => unfold maxLen; omega
                    case c4 => omega
                    case c5 => exact HMA.out.below.size
                    intro gg cg WB hob hgb hlb _; have HMB := Lib.hid (HMA.out.grow HMA.out.below.size hob hgb (by simpa using hlb)); clear hob hgb hlb; go_wp2; go_roundw
                    case rel => exact ⟨j + 1, by omega, by go_num, Lib.hid (by rw [HNW.out]; exact ⟨by show (S1 ++ [(X1, X2)]).length ≤ _; rw [List.length_append, HNSS.out]; show ns + 1 ≤ _; omega, HN.out.a0, HN.out.a1, HN.out.b0, HN.out.b1⟩), Lib.hid (by rw [HNW.out]; show Two w w.heap.size 27 2 _ (S1 ++ [(X1, X2)]).length (spV (S1 ++ [(X1, X2)])) _ _ _ _ _ _ _; rw [List.length_append, HNSS.out, spV_append]; exact HMB.out)⟩
                    case measure => simp [intOf]; omega
                · have hc0I : (CC == 0) = false := by rw [beq_eq_false_iff_ne]; exact hc0
                  have HNW := Lib.hid (show nearJ (f1, f2) all st dr A (j + 1) = (S1, (S21, S22)) by rw [HJS.out]; exact nearS_same HIB.out HXI.out HDI.out HNO.out (fun h => hc0 (by rw [← HCC.out]; exact h.1))); clear hc0; go_wp2; go_roundw
                  case rel => exact ⟨j + 1, by omega, by go_num, Lib.hid (by rw [HNW.out]; exact ⟨by have := HN.out.len; omega, HN.out.a0, HN.out.a1, HN.out.b0, HN.out.b1⟩), Lib.hid (by rw [HNW.out]; show Two w w.heap.size 27 2 _ S1.length _ _ _ _ _ _ _ _; rw [HNSS.out]; exact HM8.out)⟩
                  case measure => simp [intOf]; omega
        · have hje : j = 2 := by omega
          have hlt2I : decide ((j : Int) < 2) = false := by simp; omega
          have HST := Lib.hid (show nearTo (f1, f2) all (k + 1) = nearJ (f1, f2) all st dr A j by rw [HSU.out, hje, HJ2.out]); have HJE := Lib.hid hje; clear hje; go_wp2; go_roundw
          case rel => exact ⟨k + 1, by omega, by go_num, Lib.hid (by rw [HST.out]; exact ⟨by have := HN.out.len; have := HJE.out; omega, HN.out.a0, HN.out.a1, HN.out.b0, HN.out.b1⟩), by rw [HST.out]; exact HM⟩
          case measure => simp [intOf]; omega
    · obtain rfl : k = all.length := by omega
      have hltI : decide ((all.length : Int) < (all.length : Int)) = false := by simp
      rw [nearTo_all] at HM HN; obtain ⟨R, hR⟩ : ∃ R, nearFr all (f1, f2) = R := ⟨_, rfl⟩; have HRQ := Lib.hid hR; rw [hR] at HM HN; clear hR; obtain ⟨S1, S21, S22⟩ := R; have hln : NearM w bL bF bR (f1, f2) u8 (S1, (S21, S22)) wr := HM.out; obtain ⟨qa, cqa, rfl⟩ := own_any hln.o1; simp only [] at HM HN; obtain ⟨ns, hns⟩ : ∃ ns, S1.length = ns := ⟨_, rfl⟩; have HNSS := Lib.hid hns
      have HM := Lib.hid (show Two w w.heap.size 27 2 (.slice qa ns cqa) ns (spV S1) 27 2 (.slice none 0 0) 0 []
        [(bL, .cells #[.int .i64 S21, .int .i64 S22] 27 (0, 0)), (bF, .cells #[.int .i64 f1, .int .i64 f2] 27 (0, 0)), (bR, .cells #[.int .i64 0, .int .i64 0] 27 (0, 0))] wr by rw [← hns]; exact hln)
      (try rw [hns])
      have HR0 := Lib.hid (show RdS wr qa S1 by
        obtain ⟨q', c', heq', hrd'⟩ := rds_of_own hln.o1; have he1 : qa = q' := by injection heq'
        rw [he1]; exact hrd')
      clear hns hln; obtain ⟨l0, l1⟩ := cells2 (HM.out.cell (b := bL) (.head _)); go_upto_region 20 with (fail); have HSB := Lib.hid (cl2 l0 l1); refine held2 l0 l1 (fun W0 HB0 => ?_); refine tk 0 rfl (by exact HSB.out _ HB0) ?_; (try simp only [Act.put, ptL]); refine tk 1 rfl (by exact HSB.out _ HB0) ?_; (try simp only [Act.put, ptL]); refine tk 2 rfl (by exact HSB.out _ HB0) ?_; (try simp only [Act.put, ptL]); have HM9 := Lib.hid (HM.out.kept HB0 HM.out.below.size); obtain ⟨wa, wb, sa, sb, ⟨y0, yf0⟩, ⟨y1, yf1⟩, hx4, hxk, HZs, hxb⟩ := set2 W0 bR 27 _ _ (.int .i64 S21) (.int .i64 S22) (HM9.out.cell (.tail _ (.tail _ (.head _)))); have hkl := (hxk bL (fun e => HNB.out.2.2.2 e.symm)).trans (HM9.out.cell (b := bL) (.head _)); obtain ⟨z0, z1⟩ := cells2 hkl; obtain ⟨g0, g1⟩ := cells2 hx4; have HBB := Lib.hid (hxb w w.heap.size (by have := HNB.out.2.1; have := HBW.out; omega) HM9.out.below); have HFB := Lib.hid (show ∀ a, qa = some a → w.heap.size ≤ a.block from fun a ha => (HM.out.o1.lt a.block (by rw [ha]; rfl)).1)
      have HRB := Lib.hid (show RdS wb qa S1 by
        have ho := own_same HM9.out.o1 (w' := wb) (fun g hg => hxk g (fun e => (HM9.out.k bR _ (.tail _ (.tail _ (.head _)))).2.1 (by rw [hg, e]))); rw [← HNSS.out] at ho; obtain ⟨q', c', heq', hrd'⟩ := rds_of_own ho; have he1 : qa = q' := by injection heq'
        rw [he1]; exact hrd')
      refine rz1 3 rfl ?_; intro K hK; go_simp; refine kz hK (by exact ⟨z0, z1⟩) ?_; clear hK K; (try simp only [Act.put, ptL]); refine wpAnyH_done (by kernel_rfl) ?_ _; clear HSB HB0 hx4 hxk HZs hxb hkl z0 z1 l0 l1 sa sb; go_wp2; refine bodyPost_ret (v := .tuple #[.slice qa ns cqa, .agg #[.int .i64 S21, .int .i64 S22]]) ?_ rfl ⟨qa, cqa, by rw [HRQ.out]; show _ = Ending.returned (.tuple #[.slice qa S1.length cqa, .agg #[.int .i64 S21, .int .i64 S22]]); rw [HNSS.out], by rw [HRQ.out]; exact HRB.out, HFB.out, HBB.out⟩; simp [results, Tryz.results78, go_sem, g0, g1]
end Go.Proofs.YtchclaipbahiiaaGreat
end

section
namespace Go.Proofs.YtchclaipbahiiaaGreat
open Go Go.RowKit Go.Proofs
set_option linter.unusedVariables false
set_option linter.unusedSimpArgs false
attribute [local go_sem] imax2 imin2 neqLP
theorem red_le {M n d : Int} (hn : 1 ≤ n ∧ n ≤ M) (hd : 1 ≤ d ∧ d ≤ M) : (1 ≤ (redF n d).1 ∧ (redF n d).1 ≤ M) ∧ (1 ≤ (redF n d).2 ∧ (redF n d).2 ≤ M) := by
  obtain ⟨a, rfl⟩ : ∃ a : Nat, n = a := ⟨n.toNat, by omega⟩; obtain ⟨b, rfl⟩ : ∃ b : Nat, d = b := ⟨d.toNat, by omega⟩; rw [redF_nat]; have ha : 0 < a := by omega
  have hb : 0 < b := by omega
  have h1 : Nat.gcd a b ≤ a := Nat.le_of_dvd ha (Nat.gcd_dvd_left a b); have h2 : Nat.gcd a b ≤ b := Nat.le_of_dvd hb (Nat.gcd_dvd_right a b); have h0 : 0 < Nat.gcd a b := Nat.gcd_pos_of_pos_left b ha; have e1 : 0 < a / Nat.gcd a b := Nat.div_pos h1 h0; have e2 : 0 < b / Nat.gcd a b := Nat.div_pos h2 h0; have e3 : a / Nat.gcd a b ≤ a := Nat.div_le_self _ _; have e4 : b / Nat.gcd a b ≤ b := Nat.div_le_self _ _; simp only []; omega
structure FsEnv (bP bW bS pairs : Nat) (v0 v1 v2 v3 v4 v6 : Value) (qt : Option Addr) (ct : Nat) (t : List Int) (qm : Option Addr) (nm cm : Nat) (W : World) : Prop where
  kP : W.cell? ⟨bP, 0, none⟩ = some (.int .i64 pairs)
  kW : W.heap[bW]? = some (.cells #[v0, v1, v2, v3, v4, .slice qt t.length ct, v6, .slice qm nm cm] 93 (0, 0))
  kS : W.cell? ⟨bS, 0, none⟩ = some (.func (.func 130) #[] #[.pointer (some ⟨bP, 0, none⟩), .pointer (some ⟨bW, 0, none⟩), .pointer (some ⟨bS, 0, none⟩)])
  rt : RdI W qt t
  rm : RdMk W qm t nm
theorem FsEnv.below {bP bW bS pairs : Nat} {v0 v1 v2 v3 v4 v6 : Value} {qt : Option Addr} {ct : Nat} {t : List Int} {qm : Option Addr} {nm cm : Nat} {W W' : World} (h : FsEnv bP bW bS pairs v0 v1 v2 v3 v4 v6 qt ct t qm nm cm W) (hb : Below W.heap.size W W') : FsEnv bP bW bS pairs v0 v1 v2 v3 v4 v6 qt ct t qm nm cm W' :=
  ⟨(hb.cell (lt_of_cellq h.kP)).trans h.kP, (hb.block _ (block_lt h.kW)).trans h.kW, (hb.cell (lt_of_cellq h.kS)).trans h.kS, h.rt.below hb, h.rm.below hb⟩
def FsOut (B : Nat) (o : Option (List (Int × Int))) (e : Ending) (W' : World) : Prop :=
  match o with
  | none => e = .returned (.slice none 0 0)
  | some l => ∃ p c, e = .returned (.slice (some p) l.length c) ∧ RdS W' (some p) l ∧ B ≤ p.block
def FsPost (B : Nat) (o : Option (List (Int × Int))) (W : World) (e : Ending) (W' : World) : Prop := FsOut B o e W' ∧ Below W.heap.size W W'
set_option maxHeartbeats 3200000 in
set_option maxRecDepth 100000 in
theorem f_node (bP bW bS pairs : Nat) (v0 v1 v2 v3 v4 v6 : Value) (qt : Option Addr) (ct : Nat) (t : List Int) (qm : Option Addr) (nm cm : Nat) (hnm : nm ≤ 4) (ht : Tth t) (k : Nat) (hk : k < nm) (hpairs : pairs ≤ 3) (B : Nat)
    (ih : ∀ (now : List (Int × Int)) (q : Option Addr) (c : Nat) (l1 l2 : Int) (W : World), FsEnv bP bW bS pairs v0 v1 v2 v3 v4 v6 qt ct t qm nm cm W → RdS W q now → now ≠ [] → now.length + k = pairs → (1 ≤ l1 ∧ l1 ≤ topN k) → (1 ≤ l2 ∧ l2 ≤ topN k) → (∀ a, q = some a → B ≤ a.block) → B ≤ W.heap.size →
      Calls Tryz.prog 130 #[.slice q now.length c, .agg #[.int .i64 l1, .int .i64 l2], .pointer (some ⟨bP, 0, none⟩), .pointer (some ⟨bW, 0, none⟩), .pointer (some ⟨bS, 0, none⟩)] W (FsPost B (fstF t k now (l1, l2)) W))
    (now : List (Int × Int)) (q : Option Addr) (c : Nat) (l1 l2 : Int) (w : World) (hE : FsEnv bP bW bS pairs v0 v1 v2 v3 v4 v6 qt ct t qm nm cm w) (hr : RdS w q now) (hq : now = [] → q = none ∧ c = 0) (hl : now.length + (k + 1) = pairs) (hl1 : 1 ≤ l1 ∧ l1 ≤ topN (k + 1)) (hl2 : 1 ≤ l2 ∧ l2 ≤ topN (k + 1)) (hBw : B ≤ w.heap.size) :
    Calls Tryz.prog 130 #[.slice q now.length c, .agg #[.int .i64 l1, .int .i64 l2], .pointer (some ⟨bP, 0, none⟩), .pointer (some ⟨bW, 0, none⟩), .pointer (some ⟨bS, 0, none⟩)] w (FsPost B (fstF t (k + 1) now (l1, l2)) w) := by
  obtain ⟨i0, hi0, hz0, hz1, hz2⟩ := info_parts infPr; obtain ⟨w1, e1, HS1, k0, k1, b1⟩ := box2 w (.int .i64 l1) (.int .i64 l2) 27; have HE := Lib.hid (hE.below b1); have HR := Lib.hid (hr.below b1); have HB := Lib.hid b1; have HQ := Lib.hid hq; have HIH := Lib.hid ih; have HT := Lib.hid ht; have HL := Lib.hid hl; have HLL := Lib.hid (And.intro hl1 hl2); have HSS := Lib.hid (fstF_succ t k now (l1, l2)); have HK := Lib.hid (And.intro k0 k1); have kP := HE.out.kP; have hneI : ((now.length : Int) == (pairs : Int)) = false := by rw [beq_eq_false_iff_ne]; omega
  have hln : now.length ≤ 3 := by omega
  have hlt60 : t.length ≤ 60 := ht.1; clear hE hr b1 hq ih ht hl hl1 hl2
  go_enter Tryz.func130, Tryz.ntmps130
  go_wp2_with fail
  go_step3
  go_wp2
  go_step3
  obtain ⟨j0, j1, j2, j3, j4, j5, j6, j7⟩ := cells8 HE.out.kW; go_wp2; clear e1 k0 k1 kP j0 j1 j2 j3 j4 j5 j6 j7
  go_loopw [24] (fun a wr => ∃ i : Nat, i ≤ t.length ∧ a = .int .i64 i ∧ Hid (fsTo (fun a => t.findSome? fun b => fstG t k now (l1, l2) a b) t i = none) ∧ Hid (Below w1.heap.size w1 wr)) (fun a _ => t.length - (intOf a).toNat)
  case atStart => exact ⟨0, Nat.zero_le _, rfl, Lib.hid rfl, Lib.hid (Below.refl _ _)⟩
  case round =>
    obtain ⟨i, hi, rfl, HNO, HBR⟩ := hrel
    by_cases hlt : i < t.length
    · have hltI : decide ((i : Int) < (t.length : Int)) = true := decide_eq_true (by omega)
      have hiI : (i : Int) < (t.length : Int) := by omega
      have hwi : IntKind.i64.wrap ((i : Int) + 1) = (i : Int) + 1 := w64 _ (by omega) (by omega); have HEW := Lib.hid (HE.out.below HBR.out); obtain ⟨j0, j1, j2, j3, j4, j5, j6, j7⟩ := cells8 HEW.out.kW; obtain ⟨bt, offt, rfl, hc⟩ := HEW.out.rt.at hlt; have d0 := hc i hlt; have ha := HT.out.2 i hlt; have HSU := Lib.hid (fsTo_succ hlt HNO.out); have HHIT := Lib.hid (fun y hy => fsTo_hit (y := y) hlt HNO.out hy); obtain ⟨a, hae⟩ : ∃ a, gi t i = a := ⟨_, rfl⟩; rw [hae] at d0 ha HSU HHIT; clear hc hae; go_wp2; clear j0 j1 j2 j3 j4 j5 j6 j7 d0; obtain ⟨wn, rfl⟩ : ∃ wn : World, wn = wr := ⟨_, rfl⟩
      go_loopw [32] (fun bb wr => ∃ j : Nat, j ≤ t.length ∧ bb = .int .i64 j ∧ Hid (fsTo (fun b => fstG t k now (l1, l2) a b) t j = none) ∧ Hid (Below w1.heap.size w1 wr)) (fun a _ => t.length - (intOf a).toNat)
      case atStart => exact ⟨0, Nat.zero_le _, rfl, Lib.hid rfl, HBR⟩
      case round =>
        obtain ⟨j, hj, rfl, HNO2, HBR2⟩ := hrel
        by_cases hlt2 : j < t.length
        · have hlt2I : decide ((j : Int) < (t.length : Int)) = true := decide_eq_true (by omega)
          have hjI : (j : Int) < (t.length : Int) := by omega
          have hwj : IntKind.i64.wrap ((j : Int) + 1) = (j : Int) + 1 := w64 _ (by omega) (by omega); have HEW2 := Lib.hid (HE.out.below HBR2.out); obtain ⟨bt', offt', heq, hc⟩ := HEW2.out.rt.at hlt2; have hbt : bt' = bt ∧ offt' = offt := by injection heq with h1; injection h1 with h2 h3; exact ⟨h2.symm, h3.symm⟩
          have d0 := hc j hlt2; rw [hbt.1, hbt.2] at d0; have hb := HT.out.2 j hlt2; have HSU2 := Lib.hid (fsTo_succ hlt2 HNO2.out); have HHIT2 := Lib.hid (fun y hy => fsTo_hit (y := y) hlt2 HNO2.out hy); obtain ⟨b, hbe⟩ : ∃ b, gi t j = b := ⟨_, rfl⟩; rw [hbe] at d0 hb HSU2 HHIT2; clear hc hbe heq hbt; obtain ⟨w2, e2, HS2, x0, x1, b2⟩ := box2 wr (.int .i64 a) (.int .i64 b) 99; have HBX := Lib.hid (HBR2.out.trans (b2.mono HBR2.out.size)); go_upto_region 10 with (fail)
          by_cases hnw : now = []
          · have hn0I : decide ((now.length : Int) > 0) = false := by rw [hnw]; rfl
            have hn0N : decide (0 < now.length) = false := by rw [hnw]; rfl
            have HANY := Lib.hid (show now.getLast?.any (fun l => ordB (a, b) l) = false by rw [hnw]; rfl); clear hnw e2 d0; have HSB := Lib.hid (cl2 x0 x1); refine held2 x0 x1 (fun W0 HB0 => ?_); refine tk 0 rfl (by exact HSB.out _ HB0) ?_; (try simp only [Act.put, ptL]); refine tk 1 rfl (by exact HSB.out _ HB0) ?_; (try simp only [Act.put, ptL]); refine tk 2 rfl (by exact HSB.out _ HB0) ?_; (try simp only [Act.put, ptL]); refine tk 3 rfl (by exact HSB.out _ HB0) ?_; (try simp only [Act.put, ptL]); refine tu 4 rfl (by exact HSB.out _ HB0) ?_; (try simp only [Act.put, ptL]); refine tu 5 rfl (by exact HSB.out _ HB0) ?_; (try simp only [Act.put, ptL]); refine tu 6 rfl (by exact HSB.out _ HB0) ?_; (try simp only [Act.put, ptL]); refine tu 7 rfl (by exact HSB.out _ HB0) ?_; (try simp only [Act.put, ptL]); refine tu 8 rfl (by exact HSB.out _ HB0) ?_; (try simp only [Act.put, ptL]); refine tu 9 rfl (by exact HSB.out _ HB0) ?_; (try simp only [Act.put, ptL]); refine tu 10 rfl (by exact HSB.out _ HB0) ?_; (try simp only [Act.put, ptL]); refine tu 11 rfl (by exact HSB.out _ HB0) ?_; (try simp only [Act.put, ptL]); refine tu 12 rfl (by exact HSB.out _ HB0) ?_; (try simp only [Act.put, ptL])
            refine tk 13 rfl (by exact HSB.out _ HB0) ?_; (try simp only [Act.put, ptL]); refine wpAnyH_done (by kernel_rfl) ?_ _; obtain ⟨x0, x1⟩ := HSB.out _ HB0; have HBC := Lib.hid (HBX.out.trans (HB0.mono HBX.out.size)); clear HSB HB0; have k0 := (HBC.out.cell (lt_of_cellq HK.out.1)).trans HK.out.1; have k1 := (HBC.out.cell (lt_of_cellq HK.out.2)).trans HK.out.2; have HTK := Lib.hid (show topN (k + 1) ≤ 216000 from show (60 : Nat) ^ (k + 1) ≤ 60 ^ 3 from Nat.pow_le_pow_right (by decide) (by have := HL.out; omega))
            have hp1 : 1 ≤ l1 * b ∧ l1 * b ≤ 12960000 := by
              have h := HLL.out.1; have hh := HTK.out; refine ⟨?_, Int.le_trans (Int.mul_le_mul_of_nonneg_right (show l1 ≤ 216000 by omega) (by omega)) (Int.mul_le_mul_of_nonneg_left hb.2 (by decide))⟩; have := Int.mul_le_mul_of_nonneg_left (a := 1) (b := b) (c := l1) hb.1 (by omega); omega
            have hp2 : 1 ≤ l2 * a ∧ l2 * a ≤ 12960000 := by
              have h := HLL.out.2; have hh := HTK.out; refine ⟨?_, Int.le_trans (Int.mul_le_mul_of_nonneg_right (show l2 ≤ 216000 by omega) (by omega)) (Int.mul_le_mul_of_nonneg_left ha.2 (by decide))⟩; have := Int.mul_le_mul_of_nonneg_left (a := 1) (b := a) (c := l2) ha.1 (by omega); omega
            have HCAN := Lib.hid (show canF t k (redF (l1 * b) (l2 * a)) = false → fstG t k now (l1, l2) a b = none from fun h => fstG_can HANY.out h); have HGO := Lib.hid (show canF t k (redF (l1 * b) (l2 * a)) = true → fstG t k now (l1, l2) a b = fstF t k (now ++ [(a, b)]) (redF (l1 * b) (l2 * a)) from fun h => fstG_go HANY.out h); obtain ⟨P1, hP1⟩ : ∃ P, l1 * b = P := ⟨_, rfl⟩; obtain ⟨P2, hP2⟩ : ∃ P, l2 * a = P := ⟨_, rfl⟩; have hw1 : IntKind.i64.wrap (l1 * b) = P1 := by rw [hP1]; exact w64 _ (by omega) (by omega)
            have hw2 : IntKind.i64.wrap (l2 * a) = P2 := by rw [hP2]; exact w64 _ (by omega) (by omega)
            rw [hP1] at hp1 HCAN HGO; rw [hP2] at hp2 HCAN HGO; have hre := fun W => t_reduced P1.toNat P2.toNat (by omega) (by omega) (by omega) W
            rw [Int.toNat_of_nonneg (by omega), Int.toNat_of_nonneg (by omega)] at hre; have hx := red_le (M := 12960000) hp1 hp2; obtain ⟨X1, hX1⟩ : ∃ X, (redF P1 P2).1 = X := ⟨_, rfl⟩; obtain ⟨X2, hX2⟩ : ∃ X, (redF P1 P2).2 = X := ⟨_, rfl⟩; have hXX : redF P1 P2 = (X1, X2) := by rw [← hX1, ← hX2]
            rw [hX1, hX2] at hre hx; rw [hXX] at HCAN HGO; have HRE := Lib.hid hre; clear hre hX1 hX2 hXX hP1 hP2; go_wp2_with fail; refine (HRE.out _).mono ?_; rintro e w5 ⟨rfl, b5⟩; have HB5 := Lib.hid (HBC.out.trans (b5.mono HBC.out.size)); have x0 := (b5.cell (lt_of_cellq x0)).trans x0; have x1 := (b5.cell (lt_of_cellq x1)).trans x1; obtain ⟨w6, e6, HS6, r0, r1, b6⟩ := box2 w5 (.int .i64 X1) (.int .i64 X2) 27; have HB6 := Lib.hid (HB5.out.trans (b6.mono HB5.out.size)); have x0 := (b6.cell (lt_of_cellq x0)).trans x0; have x1 := (b6.cell (lt_of_cellq x1)).trans x1; have HE6 := Lib.hid (HE.out.below HB6.out); have kP := HE6.out.kP; obtain ⟨j0, j1, j2, j3, j4, j5, j6, j7⟩ := cells8 HE6.out.kW; have hcan := t_can v0 v1 v2 v3 v4 (.slice (some ⟨bt, offt, none⟩) t.length ct) v6 qm nm cm t k X1 X2 w6 HE6.out.rm hk hnm ⟨hx.1.1, by omega⟩ ⟨hx.2.1, by omega⟩; have hwp1 : IntKind.i64.wrap ((pairs : Int) - (now.length : Int)) = (k : Int) + 1 := by rw [show (pairs : Int) - (now.length : Int) = (k : Int) + 1 by have := HL.out; omega]; exact w64 _ (by omega) (by omega)
            have hwp2 : IntKind.i64.wrap ((k : Int) + 1 - 1) = (k : Int) := by rw [show (k : Int) + 1 - 1 = (k : Int) by omega]; exact w64 _ (by omega) (by omega)
            have hwp3 : IntKind.i64.wrap (k : Int) = (k : Int) := w64 _ (by omega) (by omega); clear b5 b6 k0 k1
            cases hcc : canF t k (X1, X2) with
            | false =>
              rw [hcc] at hcan; have HG := Lib.hid (HCAN.out hcc); clear hcc x0 x1; go_wp2_with fail; refine hcan.mono ?_; clear hcan; rintro e w7 ⟨rfl, b7⟩; have HB7 := Lib.hid (HB6.out.trans (b7.mono HB6.out.size)); clear b7; go_wp2; go_roundw
              case rel => exact ⟨j + 1, by omega, by go_num, Lib.hid (by rw [HSU2.out]; exact HG.out), HB7⟩
              case measure => simp [intOf]; omega
            | true =>
              rw [hcc] at hcan; have HGE := Lib.hid (HGO.out hcc); have HSM := Lib.hid (canF_small hcc (show 0 ≤ X1 by omega) (show 0 ≤ X2 by omega)); clear hcc; go_wp2_with fail; refine hcan.mono ?_; clear hcan; rintro e w7 ⟨rfl, b7⟩; have HB7 := Lib.hid (HB6.out.trans (b7.mono HB6.out.size)); have x0 := (b7.cell (lt_of_cellq x0)).trans x0; have x1 := (b7.cell (lt_of_cellq x1)).trans x1; have r0 := (b7.cell (lt_of_cellq r0)).trans r0; have r1 := (b7.cell (lt_of_cellq r1)).trans r1; have HE7 := Lib.hid (HE.out.below HB7.out); have kS := HE7.out.kS; have HIX := Lib.hid (fun q' c' W (he : FsEnv bP bW bS pairs v0 v1 v2 v3 v4 v6 (some ⟨bt, offt, none⟩) ct t qm nm cm W) (hrr : RdS W q' (now ++ [(a, b)])) (hbq : ∀ a, q' = some a → B ≤ a.block) (hbw : B ≤ W.heap.size) => HIH.out (now ++ [(a, b)]) q' c' X1 X2 W he hrr (by simp) (by rw [List.length_append]; have := HL.out; simp; omega) ⟨hx.1.1, HSM.out.1⟩ ⟨hx.2.1, HSM.out.2⟩ hbq hbw)
              rw [show (now ++ [(a, b)]).length = now.length + 1 by rw [List.length_append]; rfl] at HIX; clear b7 kP j0 j1 j2 j3 j4 j5 j6 j7 e6; go_upto_region 14 with (fail); have HSB := Lib.hid (cl5 kS x0 x1 r0 r1); refine held5 kS x0 x1 r0 r1 (fun W0 HB0 => ?_); clear kS x0 x1 r0 r1; refine tk 0 rfl (by exact HSB.out _ HB0) ?_; (try simp only [Act.put, ptL]); refine tk 1 rfl (by exact HSB.out _ HB0) ?_; (try simp only [Act.put, ptL]); refine tk 3 rfl (by exact HSB.out _ HB0) ?_; (try simp only [Act.put, ptL]); refine tk 6 rfl (by exact HSB.out _ HB0) ?_; (try simp only [Act.put, ptL]); refine rz2 2 4 rfl rfl ?o1 ?o2
              case' o1 =>
                intro K hK; go_simp; refine (p_Clone_any _ c now W0 ((HR.out.below HB7.out).below HB0) (by omega) HQ.out).mono ?_; rintro e W1 ⟨v, rfl, hov, bv⟩; have hb1 := HB0.trans (bv.mono HB0.size); obtain ⟨ga, cga, rfl⟩ := own_any hov; refine kz hK (by exact HSB.out _ hb1) ?_; clear hK K; (try simp only [Act.put, ptL]); refine rz1 4 rfl ?_; intro K hK; go_simp; refine kz hK (by exact HSB.out _ (hb1.alloc hb1.size _)) ?_; clear hK K; (try simp only [Act.put, ptL]); have g1 := (own_mono hov HB0.size).alloc (.cells #[.int .i64 a, .int .i64 b] 99); have g2 := hb1.alloc hb1.size (.cells #[.int .i64 a, .int .i64 b] 99); have g3 : ∀ j u, ([.int .i64 a, .int .i64 b] : List Value)[j]? = some u → (W1.alloc (.cells #[.int .i64 a, .int .i64 b] 99)).cell? ((⟨W1.heap.size, 0, none⟩ : Addr).add j) = some u := news_of W1 _ _; obtain ⟨G, hG⟩ : ∃ G, W1.heap.size = G := ⟨_, rfl⟩; obtain ⟨W2, hW2⟩ : ∃ W2, W1.alloc (.cells #[.int .i64 a, .int .i64 b] 99) = W2 := ⟨_, rfl⟩
                rw [hW2] at g1 g2 g3; rw [hG] at g3; rw [hW2, hG]; clear hov bv hb1 hG hW2 HB0
              case' o2 =>
                intro K hK; go_simp; have bl := HB0.alloc HB0.size (.cells #[.int .i64 a, .int .i64 b] 99); refine kz hK (by exact HSB.out _ bl) ?_; clear hK K; (try simp only [Act.put, ptL]); have hn0 : ∀ j u, ([.int .i64 a, .int .i64 b] : List Value)[j]? = some u → (W0.alloc (.cells #[.int .i64 a, .int .i64 b] 99)).cell? ((⟨W0.heap.size, 0, none⟩ : Addr).add j) = some u := news_of W0 _ _; refine rz1 2 rfl ?_; intro K hK; go_simp; refine (p_Clone_any _ c now _ ((HR.out.below HB7.out).below bl) (by omega) HQ.out).mono ?_; rintro e W2 ⟨v, rfl, hov, bv⟩; have g2 : Below w7.heap.size w7 W2 := bl.trans (bv.mono bl.size); obtain ⟨ga, cga, rfl⟩ := own_any hov; refine kz hK (by exact HSB.out _ g2) ?_; clear hK K; (try simp only [Act.put, ptL]); have g1 := own_mono hov bl.size; have g3 : ∀ j u, ([.int .i64 a, .int .i64 b] : List Value)[j]? = some u → W2.cell? ((⟨W0.heap.size, 0, none⟩ : Addr).add j) = some u := fun j u hj => (bv.cell (lt_of_cellq (hn0 j u hj))).trans (hn0 j u hj)
                obtain ⟨G, hG⟩ : ∃ G, W0.heap.size = G := ⟨_, rfl⟩; rw [hG] at g3; rw [hG]; clear hov bv bl hG hn0 HB0
              all_goals
                refine rz1 5 rfl ?_; intro K hK; refine step_append_lies _ rfl _ _ 34 rfl w7.heap.size 99 i0 _ 2 16 Tryz.underlying34 hi0 hz0 hz1 hz2 rfl (by decide) (.slice ga now.length cga) now.length (spV now) rfl g1 ⟨G, 0, none⟩ 1 1 [.int .i64 a, .int .i64 b] rfl rfl g3 (by intro u hu; simp at hu; rcases hu with rfl | rfl <;> rfl) (by decide) (by unfold maxLen; omega) (by omega) g2.size _ rfl ?_; intro gg cgg W3 hown hgrow hlies _; have g4 : Below w7.heap.size w7 W3 := g2.grown hgrow g2.size (fun j hj => (g1.lt j hj).1)
                have hrd : RdS W3 (some ⟨gg, 0, none⟩) (now ++ [(a, b)]) := by
                  have hown2 : W3.ownsRow w7.heap.size 99 2 (.slice (some ⟨gg, 0, none⟩) (now ++ [(a, b)]).length cgg) (now ++ [(a, b)]).length (spV (now ++ [(a, b)])) := by
                    rw [List.length_append, spV_append]; exact hown
                  obtain ⟨q', c', he, hrd⟩ := rds_of_own hown2; have he1 : some ⟨gg, 0, none⟩ = q' := by injection he
                  rw [he1]; exact hrd
                have hcl := HIX.out (some ⟨gg, 0, none⟩) cgg W3 (HE7.out.below g4) hrd (fun a ha => by
                  injection ha with ha
                  subst ha; have h1 := (hown.lt gg rfl).1; have h2 := (HB.out.trans (HB7.out.mono HB.out.size)).size; show B ≤ gg; omega) (by have h2 := (HB.out.trans (HB7.out.mono HB.out.size)).size; have := g4.size; omega)
                refine kz hK (by exact HSB.out _ g4) ?_; clear hK K; (try simp only [Act.put, ptL]); clear g1 g2 g3 hown hgrow hlies hrd; refine rz1 7 rfl ?_; intro K hK; go_simp; refine hcl.mono ?_; clear hcl; rintro e W4 ⟨ho, b4⟩; have hb4 := g4.trans (b4.mono g4.size); have HB4 := Lib.hid (HB7.out.trans (hb4.mono HB7.out.size))
                cases hoo : fstF t k (now ++ [(a, b)]) (X1, X2) with
                | none =>
                  rw [hoo] at ho; have ho' : e = .returned (.slice none 0 0) := ho; subst ho'; have HG := Lib.hid (HGE.out.trans hoo); refine kz hK (by exact HSB.out _ hb4) ?_; clear hK K; (try simp only [Act.put, ptL]); refine tk 8 rfl (by exact HSB.out _ hb4) ?_; (try simp only [Act.put, ptL]); refine wpAnyH_done (by kernel_rfl) ?_ _; clear HSB hoo ho b4 hb4 g4; go_wp2; go_roundw
                  case rel => exact ⟨j + 1, by omega, by go_num, Lib.hid (by rw [HSU2.out]; exact HG.out), HB4⟩
                  case measure => simp [intOf]; omega
                | some l =>
                  rw [hoo] at ho; obtain ⟨pp, cp, rfl, hrl, hpb⟩ := ho; have HY := Lib.hid (show fstF t (k + 1) now (l1, l2) = some l by rw [HSS.out]; exact HHIT.out l (HHIT2.out l (HGE.out.trans hoo))); have HRL := Lib.hid hrl; have HPB := Lib.hid hpb; refine kz hK (by exact HSB.out _ hb4) ?_; clear hK K; (try simp only [Act.put, ptL]); refine tk 8 rfl (by exact HSB.out _ hb4) ?_; (try simp only [Act.put, ptL]); refine wpAnyH_done (by kernel_rfl) ?_ _; clear HSB hoo hrl hpb b4 hb4 g4; go_wp2; simp only [Exit.noGoto]; go_ret; exact ⟨by rw [HY.out]; exact ⟨pp, cp, rfl, HRL.out, HPB.out⟩, HB.out.trans (HB4.out.mono HB.out.size)⟩
          · have hnp : 0 < now.length := List.length_pos_iff.2 hnw
            have hn0I : decide ((now.length : Int) > 0) = true := by simp; omega
            have hn0N : decide (0 < now.length) = true := decide_eq_true hnp; obtain ⟨m, hm⟩ : ∃ m, now.length = m + 1 := ⟨now.length - 1, by omega⟩; obtain ⟨bn, offn, hqe, hcn⟩ := (HR.out.below HBX.out).at (i := m) (by omega); obtain ⟨n0, n1⟩ := hcn m (by omega); have hwm : IntKind.i64.wrap ((now.length : Int) - 1) = (m : Int) := by rw [show (now.length : Int) - 1 = (m : Int) by omega]; exact w64 _ (by omega) (by omega)
            have hmI : (m : Int) < (now.length : Int) := by omega
            have hlast : now.getLast? = some (gm now m) := by
              rw [List.getLast?_eq_getElem?, hm, Nat.add_sub_cancel]; unfold gm; rw [List.getD_eq_getElem?_getD, List.getElem?_eq_getElem (by omega)]
              rfl
            obtain ⟨L, hgm⟩ : ∃ L, gm now m = L := ⟨_, rfl⟩; rw [hgm] at n0 n1 hlast; clear hgm; obtain ⟨L1, L2⟩ := L; simp only [] at n0 n1; have HLA := Lib.hid hlast; have hio := fun W => t_inOrder a b L1 L2 W
            have HCM := Lib.hid (cmpP_neg (a, b) (L1, L2)); obtain ⟨CM, hCM⟩ : ∃ C, cmpP (a, b) (L1, L2) = C := ⟨_, rfl⟩; rw [hCM] at hio HCM; have HIO := Lib.hid hio; subst hqe; clear hnw hnp hm hcn hlast hio hCM e2 d0; have HSB := Lib.hid (cl4 x0 x1 n0 n1); refine held4 x0 x1 n0 n1 (fun W0 HB0 => ?_); refine tk 0 rfl (by exact HSB.out _ HB0) ?_; (try simp only [Act.put, ptL]); refine tk 1 rfl (by exact HSB.out _ HB0) ?_; (try simp only [Act.put, ptL]); refine tk 2 rfl (by exact HSB.out _ HB0) ?_; (try simp only [Act.put, ptL]); refine tk 3 rfl (by exact HSB.out _ HB0) ?_; (try simp only [Act.put, ptL]); refine tk 4 rfl (by exact HSB.out _ HB0) ?_; (try simp only [Act.put, ptL]); refine tk 5 rfl (by exact HSB.out _ HB0) ?_; (try simp only [Act.put, ptL]); refine tk 6 rfl (by exact HSB.out _ HB0) ?_; (try simp only [Act.put, ptL]); refine tk 7 rfl (by exact HSB.out _ HB0) ?_; (try simp only [Act.put, ptL]); refine tk 8 rfl (by exact HSB.out _ HB0) ?_; (try simp only [Act.put, ptL]); refine tk 9 rfl (by exact HSB.out _ HB0) ?_; (try simp only [Act.put, ptL]); refine tk 10 rfl (by exact HSB.out _ HB0) ?_; (try simp only [Act.put, ptL])
            refine rz1 11 rfl ?_; intro K hK; go_simp; refine (HIO.out _).mono ?_; rintro e W1 ⟨rfl, ba⟩; have HB1 := HB0.trans (ba.mono HB0.size); clear ba; refine kz hK (by exact HSB.out _ HB1) ?_; clear hK K; (try simp only [Act.put, ptL]); refine tk 12 rfl (by exact HSB.out _ HB1) ?_; (try simp only [Act.put, ptL]); refine tk 13 rfl (by exact HSB.out _ HB1) ?_; (try simp only [Act.put, ptL]); refine wpAnyH_done (by kernel_rfl) ?_ _; obtain ⟨x0, x1, n0, n1⟩ := HSB.out _ HB1; have HBC := Lib.hid (HBX.out.trans (HB1.mono HBX.out.size)); clear HSB HB0 HB1
            cases hoo : ordB (a, b) (L1, L2) with
            | true =>
              have hcI : decide (CM < 0) = true := by rw [HCM.out]; exact hoo
              have hcR : CM < 0 := of_decide_eq_true hcI; have HG := Lib.hid (fstG_skip (t := t) (k := k) (left := (l1, l2)) HLA.out hoo); clear hoo
              by_cases hal : a < L1
              · have halI : decide (a < L1) = true := decide_eq_true hal
                have HGR := Lib.hid (fstG_row (t := t) (k := k) (left := (l1, l2)) HLA.out hal); go_wp2; go_roundw
                case rel => exact ⟨i + 1, by omega, by go_num, Lib.hid (by rw [HSU.out]; exact HGR.out), HBC⟩
                case measure => simp [intOf]; omega
              · have halI : decide (a < L1) = false := decide_eq_false hal
                go_wp2; go_roundw
                case rel => exact ⟨j + 1, by omega, by go_num, Lib.hid (by rw [HSU2.out]; exact HG.out), HBC⟩
                case measure => simp [intOf]; omega
            | false =>
              have hcI : decide (CM < 0) = false := by rw [HCM.out]; exact hoo
              have hcR : ¬ CM < 0 := of_decide_eq_false hcI; have HANY := Lib.hid (show now.getLast?.any (fun l => ordB (a, b) l) = false by rw [HLA.out, Option.any_some]; exact hoo); clear hoo n0 n1; have k0 := (HBC.out.cell (lt_of_cellq HK.out.1)).trans HK.out.1; have k1 := (HBC.out.cell (lt_of_cellq HK.out.2)).trans HK.out.2; have HTK := Lib.hid (show topN (k + 1) ≤ 216000 from show (60 : Nat) ^ (k + 1) ≤ 60 ^ 3 from Nat.pow_le_pow_right (by decide) (by have := HL.out; omega))
              have hp1 : 1 ≤ l1 * b ∧ l1 * b ≤ 12960000 := by
                have h := HLL.out.1; have hh := HTK.out; refine ⟨?_, Int.le_trans (Int.mul_le_mul_of_nonneg_right (show l1 ≤ 216000 by omega) (by omega)) (Int.mul_le_mul_of_nonneg_left hb.2 (by decide))⟩; have := Int.mul_le_mul_of_nonneg_left (a := 1) (b := b) (c := l1) hb.1 (by omega); omega
              have hp2 : 1 ≤ l2 * a ∧ l2 * a ≤ 12960000 := by
                have h := HLL.out.2; have hh := HTK.out; refine ⟨?_, Int.le_trans (Int.mul_le_mul_of_nonneg_right (show l2 ≤ 216000 by omega) (by omega)) (Int.mul_le_mul_of_nonneg_left ha.2 (by decide))⟩; have := Int.mul_le_mul_of_nonneg_left (a := 1) (b := a) (c := l2) ha.1 (by omega); omega
              have HCAN := Lib.hid (show canF t k (redF (l1 * b) (l2 * a)) = false → fstG t k now (l1, l2) a b = none from fun h => fstG_can HANY.out h); have HGO := Lib.hid (show canF t k (redF (l1 * b) (l2 * a)) = true → fstG t k now (l1, l2) a b = fstF t k (now ++ [(a, b)]) (redF (l1 * b) (l2 * a)) from fun h => fstG_go HANY.out h); obtain ⟨P1, hP1⟩ : ∃ P, l1 * b = P := ⟨_, rfl⟩; obtain ⟨P2, hP2⟩ : ∃ P, l2 * a = P := ⟨_, rfl⟩; have hw1 : IntKind.i64.wrap (l1 * b) = P1 := by rw [hP1]; exact w64 _ (by omega) (by omega)
              have hw2 : IntKind.i64.wrap (l2 * a) = P2 := by rw [hP2]; exact w64 _ (by omega) (by omega)
              rw [hP1] at hp1 HCAN HGO; rw [hP2] at hp2 HCAN HGO; have hre := fun W => t_reduced P1.toNat P2.toNat (by omega) (by omega) (by omega) W
              rw [Int.toNat_of_nonneg (by omega), Int.toNat_of_nonneg (by omega)] at hre; have hx := red_le (M := 12960000) hp1 hp2; obtain ⟨X1, hX1⟩ : ∃ X, (redF P1 P2).1 = X := ⟨_, rfl⟩; obtain ⟨X2, hX2⟩ : ∃ X, (redF P1 P2).2 = X := ⟨_, rfl⟩; have hXX : redF P1 P2 = (X1, X2) := by rw [← hX1, ← hX2]
              rw [hX1, hX2] at hre hx; rw [hXX] at HCAN HGO; have HRE := Lib.hid hre; clear hre hX1 hX2 hXX hP1 hP2; go_wp2_with fail; refine (HRE.out _).mono ?_; rintro e w5 ⟨rfl, b5⟩; have HB5 := Lib.hid (HBC.out.trans (b5.mono HBC.out.size)); have x0 := (b5.cell (lt_of_cellq x0)).trans x0; have x1 := (b5.cell (lt_of_cellq x1)).trans x1; obtain ⟨w6, e6, HS6, r0, r1, b6⟩ := box2 w5 (.int .i64 X1) (.int .i64 X2) 27; have HB6 := Lib.hid (HB5.out.trans (b6.mono HB5.out.size)); have x0 := (b6.cell (lt_of_cellq x0)).trans x0; have x1 := (b6.cell (lt_of_cellq x1)).trans x1; have HE6 := Lib.hid (HE.out.below HB6.out); have kP := HE6.out.kP; obtain ⟨j0, j1, j2, j3, j4, j5, j6, j7⟩ := cells8 HE6.out.kW; have hcan := t_can v0 v1 v2 v3 v4 (.slice (some ⟨bt, offt, none⟩) t.length ct) v6 qm nm cm t k X1 X2 w6 HE6.out.rm hk hnm ⟨hx.1.1, by omega⟩ ⟨hx.2.1, by omega⟩; have hwp1 : IntKind.i64.wrap ((pairs : Int) - (now.length : Int)) = (k : Int) + 1 := by rw [show (pairs : Int) - (now.length : Int) = (k : Int) + 1 by have := HL.out; omega]; exact w64 _ (by omega) (by omega)
              have hwp2 : IntKind.i64.wrap ((k : Int) + 1 - 1) = (k : Int) := by rw [show (k : Int) + 1 - 1 = (k : Int) by omega]; exact w64 _ (by omega) (by omega)
              have hwp3 : IntKind.i64.wrap (k : Int) = (k : Int) := w64 _ (by omega) (by omega); clear b5 b6 k0 k1
              cases hcc : canF t k (X1, X2) with
              | false =>
                rw [hcc] at hcan; have HG := Lib.hid (HCAN.out hcc); clear hcc x0 x1; go_wp2_with fail; refine hcan.mono ?_; clear hcan; rintro e w7 ⟨rfl, b7⟩; have HB7 := Lib.hid (HB6.out.trans (b7.mono HB6.out.size)); clear b7; go_wp2; go_roundw
                case rel => exact ⟨j + 1, by omega, by go_num, Lib.hid (by rw [HSU2.out]; exact HG.out), HB7⟩
                case measure => simp [intOf]; omega
              | true =>
                rw [hcc] at hcan; have HGE := Lib.hid (HGO.out hcc); have HSM := Lib.hid (canF_small hcc (show 0 ≤ X1 by omega) (show 0 ≤ X2 by omega)); clear hcc; go_wp2_with fail; refine hcan.mono ?_; clear hcan; rintro e w7 ⟨rfl, b7⟩; have HB7 := Lib.hid (HB6.out.trans (b7.mono HB6.out.size)); have x0 := (b7.cell (lt_of_cellq x0)).trans x0; have x1 := (b7.cell (lt_of_cellq x1)).trans x1; have r0 := (b7.cell (lt_of_cellq r0)).trans r0; have r1 := (b7.cell (lt_of_cellq r1)).trans r1; have HE7 := Lib.hid (HE.out.below HB7.out); have kS := HE7.out.kS; have HIX := Lib.hid (fun q' c' W (he : FsEnv bP bW bS pairs v0 v1 v2 v3 v4 v6 (some ⟨bt, offt, none⟩) ct t qm nm cm W) (hrr : RdS W q' (now ++ [(a, b)])) (hbq : ∀ a, q' = some a → B ≤ a.block) (hbw : B ≤ W.heap.size) => HIH.out (now ++ [(a, b)]) q' c' X1 X2 W he hrr (by simp) (by rw [List.length_append]; have := HL.out; simp; omega) ⟨hx.1.1, HSM.out.1⟩ ⟨hx.2.1, HSM.out.2⟩ hbq hbw)
                rw [show (now ++ [(a, b)]).length = now.length + 1 by rw [List.length_append]; rfl] at HIX; clear b7 kP j0 j1 j2 j3 j4 j5 j6 j7 e6; go_upto_region 14 with (fail); have HSB := Lib.hid (cl5 kS x0 x1 r0 r1); refine held5 kS x0 x1 r0 r1 (fun W0 HB0 => ?_); clear kS x0 x1 r0 r1; refine tk 0 rfl (by exact HSB.out _ HB0) ?_; (try simp only [Act.put, ptL]); refine tk 1 rfl (by exact HSB.out _ HB0) ?_; (try simp only [Act.put, ptL]); refine tk 3 rfl (by exact HSB.out _ HB0) ?_; (try simp only [Act.put, ptL]); refine tk 6 rfl (by exact HSB.out _ HB0) ?_; (try simp only [Act.put, ptL]); refine rz2 2 4 rfl rfl ?o3 ?o4
                case' o3 =>
                  intro K hK; go_simp; refine (p_Clone_any _ c now W0 ((HR.out.below HB7.out).below HB0) (by omega) HQ.out).mono ?_; rintro e W1 ⟨v, rfl, hov, bv⟩; have hb1 := HB0.trans (bv.mono HB0.size); obtain ⟨ga, cga, rfl⟩ := own_any hov; refine kz hK (by exact HSB.out _ hb1) ?_; clear hK K; (try simp only [Act.put, ptL]); refine rz1 4 rfl ?_; intro K hK; go_simp; refine kz hK (by exact HSB.out _ (hb1.alloc hb1.size _)) ?_; clear hK K; (try simp only [Act.put, ptL]); have g1 := (own_mono hov HB0.size).alloc (.cells #[.int .i64 a, .int .i64 b] 99); have g2 := hb1.alloc hb1.size (.cells #[.int .i64 a, .int .i64 b] 99); have g3 : ∀ j u, ([.int .i64 a, .int .i64 b] : List Value)[j]? = some u → (W1.alloc (.cells #[.int .i64 a, .int .i64 b] 99)).cell? ((⟨W1.heap.size, 0, none⟩ : Addr).add j) = some u := news_of W1 _ _; obtain ⟨G, hG⟩ : ∃ G, W1.heap.size = G := ⟨_, rfl⟩; obtain ⟨W2, hW2⟩ : ∃ W2, W1.alloc (.cells #[.int .i64 a, .int .i64 b] 99) = W2 := ⟨_, rfl⟩
                  rw [hW2] at g1 g2 g3; rw [hG] at g3; rw [hW2, hG]; clear hov bv hb1 hG hW2 HB0
                case' o4 =>
                  intro K hK; go_simp; have bl := HB0.alloc HB0.size (.cells #[.int .i64 a, .int .i64 b] 99); refine kz hK (by exact HSB.out _ bl) ?_; clear hK K; (try simp only [Act.put, ptL]); have hn0 : ∀ j u, ([.int .i64 a, .int .i64 b] : List Value)[j]? = some u → (W0.alloc (.cells #[.int .i64 a, .int .i64 b] 99)).cell? ((⟨W0.heap.size, 0, none⟩ : Addr).add j) = some u := news_of W0 _ _; refine rz1 2 rfl ?_; intro K hK; go_simp; refine (p_Clone_any _ c now _ ((HR.out.below HB7.out).below bl) (by omega) HQ.out).mono ?_; rintro e W2 ⟨v, rfl, hov, bv⟩; have g2 : Below w7.heap.size w7 W2 := bl.trans (bv.mono bl.size); obtain ⟨ga, cga, rfl⟩ := own_any hov; refine kz hK (by exact HSB.out _ g2) ?_; clear hK K; (try simp only [Act.put, ptL]); have g1 := own_mono hov bl.size; have g3 : ∀ j u, ([.int .i64 a, .int .i64 b] : List Value)[j]? = some u → W2.cell? ((⟨W0.heap.size, 0, none⟩ : Addr).add j) = some u := fun j u hj => (bv.cell (lt_of_cellq (hn0 j u hj))).trans (hn0 j u hj)
                  obtain ⟨G, hG⟩ : ∃ G, W0.heap.size = G := ⟨_, rfl⟩; rw [hG] at g3; rw [hG]; clear hov bv bl hG hn0 HB0
                all_goals
                  refine rz1 5 rfl ?_; intro K hK; refine step_append_lies _ rfl _ _ 34 rfl w7.heap.size 99 i0 _ 2 16 Tryz.underlying34 hi0 hz0 hz1 hz2 rfl (by decide) (.slice ga now.length cga) now.length (spV now) rfl g1 ⟨G, 0, none⟩ 1 1 [.int .i64 a, .int .i64 b] rfl rfl g3 (by intro u hu; simp at hu; rcases hu with rfl | rfl <;> rfl) (by decide) (by unfold maxLen; omega) (by omega) g2.size _ rfl ?_; intro gg cgg W3 hown hgrow hlies _; have g4 : Below w7.heap.size w7 W3 := g2.grown hgrow g2.size (fun j hj => (g1.lt j hj).1)
                  have hrd : RdS W3 (some ⟨gg, 0, none⟩) (now ++ [(a, b)]) := by
                    have hown2 : W3.ownsRow w7.heap.size 99 2 (.slice (some ⟨gg, 0, none⟩) (now ++ [(a, b)]).length cgg) (now ++ [(a, b)]).length (spV (now ++ [(a, b)])) := by
                      rw [List.length_append, spV_append]; exact hown
                    obtain ⟨q', c', he, hrd⟩ := rds_of_own hown2; have he1 : some ⟨gg, 0, none⟩ = q' := by injection he
                    rw [he1]; exact hrd
                  have hcl := HIX.out (some ⟨gg, 0, none⟩) cgg W3 (HE7.out.below g4) hrd (fun a ha => by
                    injection ha with ha
                    subst ha; have h1 := (hown.lt gg rfl).1; have h2 := (HB.out.trans (HB7.out.mono HB.out.size)).size; show B ≤ gg; omega) (by have h2 := (HB.out.trans (HB7.out.mono HB.out.size)).size; have := g4.size; omega)
                  refine kz hK (by exact HSB.out _ g4) ?_; clear hK K; (try simp only [Act.put, ptL]); clear g1 g2 g3 hown hgrow hlies hrd; refine rz1 7 rfl ?_; intro K hK; go_simp; refine hcl.mono ?_; clear hcl; rintro e W4 ⟨ho, b4⟩; have hb4 := g4.trans (b4.mono g4.size); have HB4 := Lib.hid (HB7.out.trans (hb4.mono HB7.out.size))
                  cases hoo : fstF t k (now ++ [(a, b)]) (X1, X2) with
                  | none =>
                    rw [hoo] at ho; have ho' : e = .returned (.slice none 0 0) := ho; subst ho'; have HG := Lib.hid (HGE.out.trans hoo); refine kz hK (by exact HSB.out _ hb4) ?_; clear hK K; (try simp only [Act.put, ptL]); refine tk 8 rfl (by exact HSB.out _ hb4) ?_; (try simp only [Act.put, ptL]); refine wpAnyH_done (by kernel_rfl) ?_ _; clear HSB hoo ho b4 hb4 g4; go_wp2; go_roundw
                    case rel => exact ⟨j + 1, by omega, by go_num, Lib.hid (by rw [HSU2.out]; exact HG.out), HB4⟩
                    case measure => simp [intOf]; omega
                  | some l =>
                    rw [hoo] at ho; obtain ⟨pp, cp, rfl, hrl, hpb⟩ := ho; have HY := Lib.hid (show fstF t (k + 1) now (l1, l2) = some l by rw [HSS.out]; exact HHIT.out l (HHIT2.out l (HGE.out.trans hoo))); have HRL := Lib.hid hrl; have HPB := Lib.hid hpb; refine kz hK (by exact HSB.out _ hb4) ?_; clear hK K; (try simp only [Act.put, ptL]); refine tk 8 rfl (by exact HSB.out _ hb4) ?_; (try simp only [Act.put, ptL]); refine wpAnyH_done (by kernel_rfl) ?_ _; clear HSB hoo hrl hpb b4 hb4 g4; go_wp2; simp only [Exit.noGoto]; go_ret; exact ⟨by rw [HY.out]; exact ⟨pp, cp, rfl, HRL.out, HPB.out⟩, HB.out.trans (HB4.out.mono HB.out.size)⟩
        · have hje : j = t.length := by omega
          have hlt2I : decide ((j : Int) < (t.length : Int)) = false := by simp; omega
          have HNF := Lib.hid (show (t.findSome? fun b => fstG t k now (l1, l2) a b) = none by rw [← fsTo_all, ← hje]; exact HNO2.out); clear hje; go_wp2; go_roundw
          case rel => exact ⟨i + 1, by omega, by go_num, Lib.hid (by rw [HSU.out]; exact HNF.out), HBR2⟩
          case measure => simp [intOf]; omega
    · obtain rfl : i = t.length := by omega
      have hltI : decide ((t.length : Int) < (t.length : Int)) = false := by simp
      have HF := Lib.hid (show fstF t (k + 1) now (l1, l2) = none by rw [HSS.out, ← fsTo_all]; exact HNO.out); go_wp2; simp only [Exit.noGoto]; go_ret; exact ⟨by rw [HF.out]; rfl, HB.out.trans (HBR.out.mono HB.out.size)⟩
end Go.Proofs.YtchclaipbahiiaaGreat
end

section
namespace Go.Proofs.YtchclaipbahiiaaGreat
open Go Go.RowKit Go.Proofs
set_option linter.unusedVariables false
set_option linter.unusedSimpArgs false
attribute [local go_sem] imax2 imin2
set_option maxHeartbeats 1600000 in
set_option maxRecDepth 100000 in
theorem f_end (bP bW bS pairs : Nat) (t : List Int) (now : List (Int × Int)) (q : Option Addr) (c : Nat) (l1 l2 : Int) (w : World) (kP : w.cell? ⟨bP, 0, none⟩ = some (.int .i64 pairs)) (hr : RdS w q now) (hne : now ≠ []) (hl : now.length = pairs) (B : Nat) (hBq : ∀ a, q = some a → B ≤ a.block) :
    Calls Tryz.prog 130 #[.slice q now.length c, .agg #[.int .i64 l1, .int .i64 l2], .pointer (some ⟨bP, 0, none⟩), .pointer (some ⟨bW, 0, none⟩), .pointer (some ⟨bS, 0, none⟩)] w (FsPost B (fstF t 0 now (l1, l2)) w) := by
  obtain ⟨w1, e1, HS1, k0, k1, b1⟩ := box2 w (.int .i64 l1) (.int .i64 l2) 27; have HB := Lib.hid b1; have kP := (b1.cell (lt_of_cellq kP)).trans kP; have hneI : ((now.length : Int) == (pairs : Int)) = true := by rw [hl]; simp
  have HR := Lib.hid (hr.below b1); obtain ⟨b, off, rfl, _⟩ := hr.at (i := 0) (List.length_pos_iff.2 hne); have HBQ := Lib.hid (hBq _ rfl); clear hr hne hl b1 k0 k1 hBq
  go_enter Tryz.func130, Tryz.ntmps130
  go_wp2_with fail
  go_step3
  go_wp2; simp only [Exit.noGoto]; go_ret; exact ⟨⟨⟨b, off, none⟩, c, rfl, HR.out, HBQ.out⟩, HB.out⟩
theorem f_search (bP bW bS pairs : Nat) (v0 v1 v2 v3 v4 v6 : Value) (qt : Option Addr) (ct : Nat) (t : List Int) (qm : Option Addr) (nm cm : Nat) (hnm : nm ≤ 4) (ht : Tth t) (hpairs : pairs ≤ 3) (B : Nat) :
    ∀ (k : Nat), k ≤ nm → ∀ (now : List (Int × Int)) (q : Option Addr) (c : Nat) (l1 l2 : Int) (W : World), FsEnv bP bW bS pairs v0 v1 v2 v3 v4 v6 qt ct t qm nm cm W → RdS W q now → (now = [] → q = none ∧ c = 0) → (k = 0 → now ≠ []) → now.length + k = pairs → (1 ≤ l1 ∧ l1 ≤ topN k) → (1 ≤ l2 ∧ l2 ≤ topN k) → (∀ a, q = some a → B ≤ a.block) → B ≤ W.heap.size →
      Calls Tryz.prog 130 #[.slice q now.length c, .agg #[.int .i64 l1, .int .i64 l2], .pointer (some ⟨bP, 0, none⟩), .pointer (some ⟨bW, 0, none⟩), .pointer (some ⟨bS, 0, none⟩)] W (FsPost B (fstF t k now (l1, l2)) W) := by
  intro k
  induction k with
  | zero =>
    intro _ now q c l1 l2 W hE hr hq h0 hl h1 h2 h3 h4; exact f_end bP bW bS pairs t now q c l1 l2 W hE.kP hr (h0 rfl) hl B h3
  | succ k ih =>
    intro hk now q c l1 l2 W hE hr hq h0 hl h1 h2 h3 h4
    exact f_node bP bW bS pairs v0 v1 v2 v3 v4 v6 qt ct t qm nm cm hnm ht k (by omega) hpairs B
      (fun now' q' c' a b W' hE' hr' hne' hl' h1' h2' h3' h4' => ih (by omega) now' q' c' a b W' hE' hr' (fun e => absurd e hne') (fun _ => hne') hl' h1' h2' h3' h4') now q c l1 l2 W hE hr hq hl h1 h2 h4
set_option maxHeartbeats 1600000 in
set_option maxRecDepth 100000 in
theorem t_first (v0 v1 v2 v3 v4 v6 : Value) (qt : Option Addr) (ct : Nat) (t : List Int) (qm : Option Addr) (nm cm pairs : Nat) (x1 x2 : Int) (w : World) (hrt : RdI w qt t) (hrm : RdMk w qm t nm) (hnm : nm ≤ 4) (ht : Tth t) (hp : 1 ≤ pairs ∧ pairs ≤ 3) (hpn : pairs ≤ nm) (h1 : 1 ≤ x1 ∧ x1 ≤ topN pairs) (h2 : 1 ≤ x2 ∧ x2 ≤ topN pairs) :
    Calls Tryz.prog 83 #[.agg #[v0, v1, v2, v3, v4, .slice qt t.length ct, v6, .slice qm nm cm], .int .i64 pairs, .agg #[.int .i64 x1, .int .i64 x2]] w (FsPost w.heap.size (fstF t pairs [] (x1, x2)) w) := by
  obtain ⟨w1, e1, HS1, kW, b1⟩ := bx8 w v0 v1 v2 v3 v4 (.slice qt t.length ct) v6 (.slice qm nm cm) 93; obtain ⟨w2, e2, HS2, p0, pf, b2⟩ := box1 w1 (.int .i64 pairs) 3; obtain ⟨w3, e3, HS3, k0, k1, b3⟩ := box2 w2 (.int .i64 x1) (.int .i64 x2) 27; obtain ⟨F, hF⟩ : ∃ F : Value, Value.func (.func 130) #[] #[.pointer (some ⟨w1.heap.size, 0, none⟩), .pointer (some ⟨w.heap.size, 0, none⟩), .pointer (some ⟨w3.heap.size, 0, none⟩)] = F := ⟨_, rfl⟩; obtain ⟨w5, s5, HS4, c5, sf, b5⟩ := box1 w3 F 199; have b35 := b3.trans (b5.mono b3.size); have b25 := b2.trans (b35.mono b2.size); have hB : Below w.heap.size w w5 := b1.trans (b25.mono b1.size); have k0 := (b5.cell (lt_of_cellq k0)).trans k0; have k1 := (b5.cell (lt_of_cellq k1)).trans k1
  have hcl := f_search w1.heap.size w.heap.size w3.heap.size pairs v0 v1 v2 v3 v4 v6 qt ct t qm nm cm hnm ht hp.2 w.heap.size pairs hpn [] none 0 x1 x2 w5
    ⟨(b35.cell (lt_of_cellq p0)).trans p0, (b25.block _ (block_lt kW)).trans kW, by rw [c5, ← hF], hrt.below hB, hrm.below hB⟩ (.inl rfl) (fun _ => ⟨rfl, rfl⟩) (fun e => by omega) (by simp) h1 h2 (fun a ha => by cases ha) hB.size
  have HB := Lib.hid hB; clear hrt hrm h1 h2 b1 b2 b3 b5 b35 b25 hB kW p0 pf; rw [← hF] at s5 c5; subst hF
  go_enter Tryz.func83, Tryz.ntmps83
  go_wp2_with fail; refine hcl.mono ?_; clear hcl; rintro e w6 ⟨ho, b6⟩; have HB6 := Lib.hid (HB.out.trans (b6.mono HB.out.size)); clear b6
  cases hoo : fstF t pairs [] (x1, x2) with
  | none =>
    rw [hoo] at ho; have ho' : e = .returned (.slice none 0 0) := ho; subst ho'; have HOO := Lib.hid hoo; clear ho hoo; go_wp2; go_ret; exact ⟨by rw [HOO.out]; rfl, HB6.out⟩
  | some l =>
    rw [hoo] at ho; obtain ⟨pp, cp, rfl, hrl, hpb⟩ := ho; have HRL := Lib.hid hrl; have HPB := Lib.hid hpb; have HOO := Lib.hid hoo; clear hrl hoo hpb; go_wp2; go_ret; exact ⟨by rw [HOO.out]; exact ⟨pp, cp, rfl, HRL.out, HPB.out⟩, HB6.out⟩
end Go.Proofs.YtchclaipbahiiaaGreat
end

section
namespace Go.Proofs.YtchclaipbahiiaaGreat
open Go Go.RowKit Go.Proofs
set_option linter.unusedVariables false
structure NrGood (M : Int) (k : Nat) (st : List (Int × Int) × (Int × Int)) : Prop where
  mem : ∀ y ∈ st.1, (1 ≤ y.1 ∧ y.1 ≤ M) ∧ (1 ≤ y.2 ∧ y.2 ≤ M)
  len : st.1.length ≤ k
  a0 : 0 ≤ st.2.1
  a1 : st.2.1 ≤ 20000000000
  b0 : 0 ≤ st.2.2
  b1 : st.2.2 ≤ 216000
theorem NrGood.step {M : Int} {k : Nat} {st : List (Int × Int) × (Int × Int)} {f : Int × Int} {dr : Int} {all : List Int} (h : NrGood M k st) (hM : M ≤ 216000) (hall : ∀ i, i < all.length → 1 ≤ gi all i ∧ gi all i ≤ M) (hdr : 1 ≤ dr ∧ dr ≤ M) (hf1 : 0 ≤ f.1 ∧ f.1 ≤ 50000) (hf2 : 1 ≤ f.2 ∧ f.2 ≤ 50000) (i : Int) : NrGood M (k + 1) (nearS f dr all st i) := by
  cases hib : inB i 0 ((all.length : Int) - 1) with
  | false =>
    rw [nearS_out hib]; exact ⟨h.mem, by have := h.len; omega, h.a0, h.a1, h.b0, h.b1⟩
  | true =>
    have hi := hall i.toNat (by have := inB_iff.1 hib; omega); have hx := red_le (M := M) hdr hi; obtain ⟨x, hxe⟩ : ∃ x, redF dr (gi all i.toNat) = x := ⟨_, rfl⟩; obtain ⟨d, hde⟩ : ∃ d, dstF x f = d := ⟨_, rfl⟩; rw [hxe] at hx; have hd := dst_in (x := x) (f := f) ⟨hx.1.1, by omega⟩ ⟨hx.2.1, by omega⟩ hf1 hf2; rw [hde] at hd
    by_cases hc : st.1 = [] ∨ cmpF d st.2 < 0
    · rw [nearS_new hib hxe hde hc]
      refine ⟨fun y hy => ?_, by simp, hd.1, hd.2.1, by rw [hd.2.2]; omega, by rw [hd.2.2]; omega⟩; rw [List.mem_singleton] at hy; subst hy; exact hx
    · by_cases h0 : cmpF d st.2 = 0 ∧ st.1.contains x = false
      · rw [nearS_add hib hxe hde hc h0.1 h0.2]
        refine ⟨fun y hy => ?_, by show (st.1 ++ [x]).length ≤ _; rw [List.length_append]; have := h.len; simp; omega, h.a0, h.a1, h.b0, h.b1⟩
        rcases List.mem_append.1 hy with hy | hy
        · exact h.mem y hy
        · rw [List.mem_singleton] at hy
          subst hy; exact hx
      · rw [nearS_same hib hxe hde hc h0]
        exact ⟨h.mem, by have := h.len; omega, h.a0, h.a1, h.b0, h.b1⟩
theorem near_good {M : Int} {f : Int × Int} {all : List Int} (hM : M ≤ 216000) (hall : ∀ i, i < all.length → 1 ≤ gi all i ∧ gi all i ≤ M) (hf1 : 0 ≤ f.1 ∧ f.1 ≤ 50000) (hf2 : 1 ≤ f.2 ∧ f.2 ≤ 50000) : ∀ k, k ≤ all.length → NrGood M (2 * k) (nearTo f all k) := by
  intro k
  induction k with
  | zero => intro _; exact ⟨fun y hy => (by cases hy), Nat.le_refl _, Int.le_refl 0, (show (0 : Int) ≤ 20000000000 by decide), Int.le_refl 0, (show (0 : Int) ≤ 216000 by decide)⟩
  | succ k ih =>
    intro hk; rw [nearTo_succ f all (by omega)]; have h := ((ih (by omega)).step (f := f) (dr := gi all k) hM hall (hall k (by omega)) hf1 hf2 ((atN all f.1 (gi all k * f.2) : Int) - 1)).step (f := f) (dr := gi all k) hM hall (hall k (by omega)) hf1 hf2 (atN all f.1 (gi all k * f.2) : Int); exact h
theorem srt_in {t : List Int} (ht : Tth t) {n : Nat} (hn : n ≤ 3) : ∀ i, i < (srtF t n).length → 1 ≤ gi (srtF t n) i ∧ gi (srtF t n) i ≤ (topN n : Int) := by
  intro i hi; refine ⟨((srt_ok ht hn).one i hi).1, ?_⟩; rw [gi_of hi]; have hm := List.getElem_mem hi; unfold srtF at hm; obtain ⟨x, hx, e⟩ := List.mem_map.1 hm; have h3 := List.mem_range.1 (List.mem_filter.1 hx).1; rw [show (srtF t n)[i] = (x : Int) from e.symm]; omega
theorem top_le {n : Nat} (hn : n ≤ 3) : (topN n : Int) ≤ 216000 := by
  have : (60 : Nat) ^ n ≤ 60 ^ 3 := Nat.pow_le_pow_right (by decide) hn; have : topN n ≤ 216000 := this; omega
theorem near_all {t : List Int} (ht : Tth t) {n : Nat} (hn : n ≤ 3) {f : Int × Int} (hf1 : 0 ≤ f.1 ∧ f.1 ≤ 50000) (hf2 : 1 ≤ f.2 ∧ f.2 ≤ 50000) : NrGood (topN n) 500000 (nearFr (srtF t n) f) := by
  have h := near_good (top_le hn) (srt_in ht hn) hf1 hf2 (srtF t n).length (Nat.le_refl _); rw [nearTo_all] at h; have hl := (srt_ok ht hn).len; exact ⟨h.mem, by have := h.len; omega, h.a0, h.a1, h.b0, h.b1⟩
theorem fstF_len (t : List Int) : ∀ (k : Nat) (now : List (Int × Int)) (left : Int × Int) (l : List (Int × Int)), fstF t k now left = some l → l.length = now.length + k := by
  intro k
  induction k with
  | zero => intro now left l h; cases h; rfl
  | succ k ih =>
    intro now left l h; rw [fstF_succ] at h; obtain ⟨a, _, ha⟩ := List.exists_of_findSome?_eq_some h; obtain ⟨b, _, hb⟩ := List.exists_of_findSome?_eq_some ha; unfold fstG at hb
    split at hb
    · cases hb
    · split at hb
      · have := ih _ _ _ hb
        rw [this, List.length_append]
        simp; omega
      · cases hb
def foundTo (t : List Int) (se : Int) (n : Nat) (f : Int × Int) : List Fd :=
  ((List.range n).map fun i => (i + 1, (nearFr (srtF t (i + 1)) f).2, (nearFr (srtF t (i + 1)) f).1)).filter fun y => !y.2.2.isEmpty && letsB se y.1
theorem foundTo_all (t : List Int) (se : Int) (n : Nat) (f : Int × Int) : foundTo t se n f = foundL t se n f := rfl
theorem foundTo_succ (t : List Int) (se : Int) (n : Nat) (f : Int × Int) : foundTo t se (n + 1) f = if (!(nearFr (srtF t (n + 1)) f).1.isEmpty && letsB se (n + 1)) = true then foundTo t se n f ++ [(n + 1, (nearFr (srtF t (n + 1)) f).2, (nearFr (srtF t (n + 1)) f).1)] else foundTo t se n f := by
  unfold foundTo; rw [List.range_succ, List.map_append, List.filter_append]
  by_cases h : (!(nearFr (srtF t (n + 1)) f).1.isEmpty && letsB se (n + 1)) = true
  · rw [if_pos h]
    congr 1
    simp only [List.map_cons, List.map_nil]; rw [List.filter_cons, if_pos h]; rfl
  · rw [if_neg h]
    simp only [List.map_cons, List.map_nil]; rw [List.filter_cons, if_neg h]; simp
theorem foundTo_len (t : List Int) (se : Int) (n : Nat) (f : Int × Int) : (foundTo t se n f).length ≤ n := by
  unfold foundTo; exact Nat.le_trans (List.length_filter_le _ _) (by simp)
theorem foundTo_mem {t : List Int} {se : Int} {n : Nat} {f : Int × Int} {x : Fd} (h : x ∈ foundTo t se n f) : ∃ i, i < n ∧ x = (i + 1, (nearFr (srtF t (i + 1)) f).2, (nearFr (srtF t (i + 1)) f).1) ∧ x.2.2 ≠ [] := by
  unfold foundTo at h; obtain ⟨h1, h2⟩ := List.mem_filter.1 h; obtain ⟨i, hi, rfl⟩ := List.mem_map.1 h1; refine ⟨i, List.mem_range.1 hi, rfl, fun e => ?_⟩; simp only [Bool.and_eq_true] at h2; have e' : (nearFr (srtF t (i + 1)) f).1 = [] := e; rw [e'] at h2; exact absurd h2.1 (by decide)
theorem bestO_mem {α : Type} (lt : α → α → Bool) : ∀ (l : List α) (x : α), bestO lt l = some x → x ∈ l := by
  have key : ∀ (l : List α) (o : Option α) (x : α), l.foldl (fun (o : Option α) x => match o with | none => some x | some y => if lt x y then some x else o) o = some x → x ∈ l ∨ o = some x := by
    intro l
    induction l with
    | nil => intro o x h; exact .inr h
    | cons a l ih =>
      intro o x h; rw [List.foldl_cons] at h
      rcases ih _ _ h with h | h
      · exact .inl (List.mem_cons_of_mem _ h)
      · cases o with
        | none => simp only [Option.some.injEq] at h; subst h; exact .inl List.mem_cons_self
        | some y =>
          simp only at h
          split at h
          · cases h; exact .inl List.mem_cons_self
          · exact .inr h
  intro l x h
  rcases key l none x h with h | h
  · exact h
  · cases h
def FrAt (ks : List (Nat × Obj)) (l : List (Int × Int)) (q : Option Addr) : Prop := l = [] ∨ ∃ b off o, q = some ⟨b, off, none⟩ ∧ (b, o) ∈ ks ∧ ∀ W : World, W.heap[b]? = some o → RdS W q l
theorem rds_obj {W : World} {q : Option Addr} {l : List (Int × Int)} (h : RdS W q l) : l = [] ∨ ∃ b off o, q = some ⟨b, off, none⟩ ∧ W.heap[b]? = some o ∧ ∀ W' : World, W'.heap[b]? = some o → RdS W' q l := by
  by_cases hl : l = []
  · exact .inl hl
  · obtain ⟨b, off, e, hc⟩ := h.at (i := 0) (List.length_pos_iff.2 hl)
    have h0 := lt_of_cellq (hc 0 (List.length_pos_iff.2 hl)).1; refine .inr ⟨b, off, W.heap[b]'h0, e, Array.getElem?_eq_getElem h0, fun W' hW => .inr ⟨b, off, e, fun i hi => ?_⟩⟩; have hb : W'.heap[b]? = W.heap[b]? := by rw [hW, Array.getElem?_eq_getElem h0]
    exact ⟨(World.cell?_of_block (a := ⟨b, off + i * 2, none⟩) hb).trans (hc i hi).1, (World.cell?_of_block (a := ⟨b, off + i * 2 + 1, none⟩) hb).trans (hc i hi).2⟩
theorem FrAt.more {ks ks' : List (Nat × Obj)} {l : List (Int × Int)} {q : Option Addr} (h : FrAt ks l q) (hs : ∀ p, p ∈ ks → p ∈ ks') : FrAt ks' l q := by
  rcases h with h | ⟨b, off, o, e, h1, h2⟩
  · exact .inl h
  · exact .inr ⟨b, off, o, e, hs _ h1, h2⟩
def FdVs (ks : List (Nat × Obj)) (ls : List Fd) (xs : List Value) : Prop :=
  xs.length = ls.length * 4 ∧ ∀ j, j < ls.length → ∃ q c, xs[j * 4]? = some (.int .i64 (gfd ls j).1) ∧ xs[j * 4 + 1]? = some (.int .i64 (gfd ls j).2.1.1) ∧ xs[j * 4 + 2]? = some (.int .i64 (gfd ls j).2.1.2) ∧ xs[j * 4 + 3]? = some (.slice q (gfd ls j).2.2.length c) ∧ FrAt ks (gfd ls j).2.2 q
theorem FdVs.nil (ks : List (Nat × Obj)) : FdVs ks [] [] := ⟨rfl, fun j hj => by simp at hj⟩
theorem FdVs.more {ks ks' : List (Nat × Obj)} {ls : List Fd} {xs : List Value} (h : FdVs ks ls xs) (hs : ∀ p, p ∈ ks → p ∈ ks') : FdVs ks' ls xs :=
  ⟨h.1, fun j hj => by obtain ⟨q, c, h0, h1, h2, h3, h4⟩ := h.2 j hj; exact ⟨q, c, h0, h1, h2, h3, h4.more hs⟩⟩
theorem FdVs.snoc {ks : List (Nat × Obj)} {ls : List Fd} {xs : List Value} (h : FdVs ks ls xs) (x : Fd) (q : Option Addr) (c : Nat) (hx : FrAt ks x.2.2 q) : FdVs ks (ls ++ [x]) (xs ++ [.int .i64 x.1, .int .i64 x.2.1.1, .int .i64 x.2.1.2, .slice q x.2.2.length c]) := by
  refine ⟨by rw [List.length_append, List.length_append, h.1]; simp; omega, fun j hj => ?_⟩; rw [List.length_append] at hj; have hj' : j < ls.length + 1 := hj
  by_cases hlt : j < ls.length
  · obtain ⟨q', c', h0, h1, h2, h3, h4⟩ := h.2 j hlt
    have e : gfd (ls ++ [x]) j = gfd ls j := by unfold gfd; rw [List.getD_eq_getElem?_getD, List.getD_eq_getElem?_getD, List.getElem?_append_left hlt]
    rw [e]
    have hl : ∀ i v, xs[i]? = some v → (xs ++ [.int .i64 x.1, .int .i64 x.2.1.1, .int .i64 x.2.1.2, .slice q x.2.2.length c])[i]? = some v := fun i v hv => by
      rw [List.getElem?_append_left (List.getElem?_eq_some_iff.1 hv).1]; exact hv
    exact ⟨q', c', hl _ _ h0, hl _ _ h1, hl _ _ h2, hl _ _ h3, h4⟩
  · obtain rfl : j = ls.length := by omega
    have e : gfd (ls ++ [x]) ls.length = x := by unfold gfd; rw [List.getD_eq_getElem?_getD, List.getElem?_append_right (Nat.le_refl _), Nat.sub_self]; rfl
    rw [e]
    have hr : ∀ i, (xs ++ [.int .i64 x.1, .int .i64 x.2.1.1, .int .i64 x.2.1.2, .slice q x.2.2.length c])[ls.length * 4 + i]? = ([.int .i64 x.1, .int .i64 x.2.1.1, .int .i64 x.2.1.2, .slice q x.2.2.length c] : List Value)[i]? := fun i => by
      rw [List.getElem?_append_right (by rw [h.1]; omega), h.1, Nat.add_sub_cancel_left]
    exact ⟨q, c, by have := hr 0; rw [Nat.add_zero] at this; rw [this]; rfl, by rw [hr 1]; rfl, by rw [hr 2]; rfl, by rw [hr 3]; rfl, hx⟩
end Go.Proofs.YtchclaipbahiiaaGreat
end

section
namespace Go.Proofs.YtchclaipbahiiaaGreat
open Go Go.RowKit Go.Proofs
set_option linter.unusedVariables false
set_option linter.unusedSimpArgs false
attribute [local go_sem] imax2 imin2
theorem infFd : (Tryz.prog.info? 151).map (fun i => (i.zero, i.size, i.bytes)) = some (some (.agg #[.int .i64 0, .int .i64 0, .int .i64 0, .slice none 0 0]), 4, 48) := by kernel_rfl
theorem infTr : (Tryz.prog.info? 34).map (fun i => (i.zero, i.size, i.bytes)) = some (some (.slice none 0 0), 1, 24) := by kernel_rfl
def TlVs (ks : List (Nat × Obj)) (ls : List (List (Int × Int))) (xs : List Value) : Prop :=
  xs.length = ls.length ∧ ∀ j, j < ls.length → ∃ q c, xs[j]? = some (.slice q (gtr ls j).length c) ∧ FrAt ks (gtr ls j) q
theorem TlVs.more {ks ks' : List (Nat × Obj)} {ls : List (List (Int × Int))} {xs : List Value} (h : TlVs ks ls xs) (hs : ∀ p, p ∈ ks → p ∈ ks') : TlVs ks' ls xs :=
  ⟨h.1, fun j hj => by obtain ⟨q, c, h0, h4⟩ := h.2 j hj; exact ⟨q, c, h0, h4.more hs⟩⟩
theorem TlVs.snoc {ks : List (Nat × Obj)} {ls : List (List (Int × Int))} {xs : List Value} (h : TlVs ks ls xs) (x : List (Int × Int)) (q : Option Addr) (c : Nat) (hx : FrAt ks x q) : TlVs ks (ls ++ [x]) (xs ++ [.slice q x.length c]) := by
  refine ⟨by rw [List.length_append, List.length_append, h.1]; rfl, fun j hj => ?_⟩; rw [List.length_append] at hj; have hj' : j < ls.length + 1 := hj
  by_cases hlt : j < ls.length
  · obtain ⟨q', c', h0, h4⟩ := h.2 j hlt
    have e : gtr (ls ++ [x]) j = gtr ls j := by unfold gtr; rw [List.getD_eq_getElem?_getD, List.getD_eq_getElem?_getD, List.getElem?_append_left hlt]
    rw [e]; exact ⟨q', c', by rw [List.getElem?_append_left (List.getElem?_eq_some_iff.1 h0).1]; exact h0, h4⟩
  · obtain rfl : j = ls.length := by omega
    have e : gtr (ls ++ [x]) ls.length = x := by unfold gtr; rw [List.getD_eq_getElem?_getD, List.getElem?_append_right (Nat.le_refl _), Nat.sub_self]; rfl
    rw [e]; exact ⟨q, c, by rw [List.getElem?_append_right (by rw [h.1]; exact Nat.le_refl _), h.1, Nat.sub_self]; rfl, hx⟩
theorem rdFd_of {W : World} {B : Nat} {q : Option Addr} {c : Nat} {ls : List Fd} {xs : List Value} {ks : List (Nat × Obj)} (ho : W.ownsRow B 151 4 (.slice q ls.length c) ls.length xs) (hv : FdVs ks ls xs) (hk : ∀ b o, (b, o) ∈ ks → W.heap[b]? = some o) : RdFd W q ls := by
  rcases ho.2 with ⟨_, e⟩ | ⟨g, cap, cur, e, _⟩
  · exact .inl (List.length_eq_zero_iff.1 e)
  · injection e with e _ _
    subst e; refine .inr ⟨g, 0, rfl, fun i hi => ?_⟩; obtain ⟨q', c', h0, h1, h2, h3, h4⟩ := hv.2 i hi; have k0 := ho.cells (g := g) rfl _ _ h0; have k1 := ho.cells (g := g) rfl _ _ h1; have k2 := ho.cells (g := g) rfl _ _ h2; have k3 := ho.cells (g := g) rfl _ _ h3; rw [add_new] at k0 k1 k2 k3; refine ⟨q', c', by rw [Nat.zero_add]; exact k0, by rw [Nat.zero_add]; exact k1, by rw [Nat.zero_add]; exact k2, by rw [Nat.zero_add]; exact k3, ?_⟩
    rcases h4 with h4 | ⟨b, off, o, e, hm, hr⟩
    · exact .inl h4
    · exact hr W (hk b o hm)
theorem rdTl_of {W : World} {B : Nat} {q : Option Addr} {c : Nat} {ls : List (List (Int × Int))} {xs : List Value} {ks : List (Nat × Obj)} (ho : W.ownsRow B 34 1 (.slice q ls.length c) ls.length xs) (hv : TlVs ks ls xs) (hk : ∀ b o, (b, o) ∈ ks → W.heap[b]? = some o) : RdTl W q ls := by
  rcases ho.2 with ⟨_, e⟩ | ⟨g, cap, cur, e, _⟩
  · exact .inl (List.length_eq_zero_iff.1 e)
  · injection e with e _ _
    subst e; refine .inr ⟨g, 0, rfl, fun i hi => ?_⟩; obtain ⟨q', c', h0, h4⟩ := hv.2 i hi; have k0 := ho.cells (g := g) rfl _ _ h0; rw [add_new] at k0; refine ⟨q', c', by rw [Nat.zero_add]; exact k0, ?_⟩
    rcases h4 with h4 | ⟨b, off, o, e, hm, hr⟩
    · exact .inl h4
    · exact hr W (hk b o hm)
def NwI (w : World) (bW bF : Nat) (oW oF : Obj) (ls : List Fd) (v : Value) (W : World) : Prop :=
  ∃ xs ks, Two w w.heap.size 151 4 v ls.length xs 151 4 (.slice none 0 0) 0 [] ks W ∧ FdVs ks ls xs ∧ (bW, oW) ∈ ks ∧ (bF, oF) ∈ ks
def NxI (w : World) (bW bX : Nat) (oW oX : Obj) (q : Option Addr) (fr : List (Int × Int)) (ls : List (List (Int × Int))) (v : Value) (W : World) : Prop :=
  ∃ xs ks, Two w w.heap.size 34 1 v ls.length xs 151 4 (.slice none 0 0) 0 [] ks W ∧ TlVs ks ls xs ∧ (bW, oW) ∈ ks ∧ (bX, oX) ∈ ks ∧ FrAt ks fr q
set_option maxHeartbeats 3200000 in
set_option maxRecDepth 100000 in
theorem t_nearestW (lo hi se : Int) (pr : Nat) (p : Option Addr) (nn cap : Nat) (q : Option Addr) (c : Nat) (t : List Int) (qs : Option Addr) (cs : Nat) (qm : Option Addr) (cm : Nat) (f1 f2 : Int) (w : World) (hrt : RdI w q t) (hrs : RdSr w qs t (pr + 1)) (hrm : RdMk w qm t (pr + 1)) (ht : Tth t) (hp : 1 ≤ pr ∧ pr ≤ 3) (hse : 1 ≤ se ∧ se ≤ 3) (h1 : 0 ≤ f1 ∧ f1 ≤ 50000) (h2 : 1 ≤ f2 ∧ f2 ≤ 50000) :
    Calls Tryz.prog 37 #[.agg #[.int .i64 lo, .int .i64 hi, .int .i64 pr, .int .i64 se, .slice p nn cap, .slice q t.length c, .slice qs (pr + 1) cs, .slice qm (pr + 1) cm], .agg #[.int .i64 f1, .int .i64 f2]] w (BtPost (nrstF t se pr (f1, f2)) w) := by
  obtain ⟨i0, hi0, hz0, hz1, hz2⟩ := info_parts infFd; obtain ⟨i1, hi1, hy0, hy1, hy2⟩ := info_parts infTr; obtain ⟨w1, e1, HS1, kW, b1⟩ := bx8 w (.int .i64 lo) (.int .i64 hi) (.int .i64 pr) (.int .i64 se) (.slice p nn cap) (.slice q t.length c) (.slice qs (pr + 1) cs) (.slice qm (pr + 1) cm) 93; obtain ⟨w2, e2, HS2, _, _, b2⟩ := box2 w1 (.int .i64 f1) (.int .i64 f2) 27; have kF := alloc_new w1 (.cells #[.int .i64 f1, .int .i64 f2] 27); rw [e2] at kF; have kW := (b2.block _ (block_lt kW)).trans kW; have hB2 : Below w.heap.size w w2 := b1.trans (b2.mono b1.size); obtain ⟨bW, hbW⟩ : ∃ x, w.heap.size = x := ⟨_, rfl⟩; obtain ⟨bF, hbF⟩ : ∃ x, w1.heap.size = x := ⟨_, rfl⟩; rw [hbW] at kW; rw [hbF] at kF; obtain ⟨oW, hoW⟩ : ∃ o : Obj, o = .cells #[.int .i64 lo, .int .i64 hi, .int .i64 pr, .int .i64 se, .slice p nn cap, .slice q t.length c, .slice qs (pr + 1) cs, .slice qm (pr + 1) cm] 93 (0, 0) := ⟨_, rfl⟩
  obtain ⟨oF, hoF⟩ : ∃ o : Obj, o = .cells #[.int .i64 f1, .int .i64 f2] 27 (0, 0) := ⟨_, rfl⟩
  have HI0 := Lib.hid (show NwI w bW bF oW oF (foundTo t se 0 (f1, f2)) (.slice none 0 0) w2 from ⟨[], [(bW, oW), (bF, oF)], Two.start hB2 (fun b o hm => by
    simp only [List.mem_cons, List.not_mem_nil, or_false, Prod.mk.injEq] at hm
    rcases hm with ⟨rfl, rfl⟩ | ⟨rfl, rfl⟩
    · rw [hoW]; exact kW
    · rw [hoF]; exact kF), FdVs.nil _, .head _, .tail _ (.head _)⟩)
  have HRT := Lib.hid hrt; have HRS := Lib.hid hrs; have HRM := Lib.hid hrm; have HT := Lib.hid ht; have HF := Lib.hid (And.intro h1 h2); have HOW := Lib.hid hoW; have HOF := Lib.hid hoF; have HBW := Lib.hid (show w.heap.size ≤ bW by omega); clear hrt hrs hrm ht h1 h2 b1 b2 hB2 kW kF hoW hoF
  go_enter Tryz.func37, Tryz.ntmps37
  go_wp2; clear e1 e2 hbW hbF
  go_loopw [6, 7] (fun v a wr => ∃ n m : Nat, Hid (n = m + 1) ∧ m ≤ pr ∧ n ≤ 4 ∧ a = .int .i64 n ∧ Hid (NwI w bW bF oW oF (foundTo t se m (f1, f2)) v wr)) (fun _ a _ => 5 - (intOf a).toNat)
  case atStart => exact ⟨1, 0, Lib.hid rfl, Nat.zero_le _, by omega, rfl, HI0⟩
  case round =>
    obtain ⟨n, m, HNM, hm, hn4, rfl, HI⟩ := hrel; obtain ⟨xs, ks, HTW, HFV, HKW, HKF⟩ := HI.out; have HTW := Lib.hid HTW; have HFV := Lib.hid HFV; have HKW := Lib.hid HKW; have HKF := Lib.hid HKF; have kW := (HTW.out.k bW oW HKW.out).1; rw [HOW.out] at kW; obtain ⟨j0, j1, j2, j3, j4, j5, j6, j7⟩ := cells8 kW; have kF := (HTW.out.k bF oF HKF.out).1; rw [HOF.out] at kF; obtain ⟨g0, g1⟩ := cells2 kF; clear kW kF
    by_cases hlt : m < pr
    · have hnp : n ≤ pr := by have := HNM.out; omega
      have hltI : decide ((n : Int) ≤ (pr : Int)) = true := by simp; omega
      have hwn : IntKind.i64.wrap ((n : Int) + 1) = (n : Int) + 1 := w64 _ (by omega) (by omega); have hnear := t_near (.int .i64 lo) (.int .i64 hi) (.int .i64 pr) (.int .i64 se) (.slice p nn cap) (.slice q t.length c) (.slice qm (pr + 1) cm) qs (pr + 1) cs t n f1 f2 wr (HRS.out.below HTW.out.below) (by omega) (by omega) HT.out HF.out.1 HF.out.2; have HGO := Lib.hid (near_all (f := (f1, f2)) HT.out (n := n) (by omega) HF.out.1 HF.out.2); have HSU := Lib.hid (foundTo_succ t se m (f1, f2)); rw [← HNM.out] at HSU; unfold NearPost at hnear; obtain ⟨⟨L, L1, L2⟩, hLe⟩ : ∃ R, nearFr (srtF t n) (f1, f2) = R := ⟨_, rfl⟩; rw [hLe] at hnear HGO HSU; have HFL := Lib.hid (foundTo_len t se m (f1, f2)); obtain ⟨FL, hFL⟩ : ∃ l, foundTo t se m (f1, f2) = l := ⟨_, rfl⟩; rw [hFL] at HSU HTW HFV HFL; clear hLe hFL; go_wp2_with fail; refine hnear.mono ?_; clear hnear; rintro e w3 ⟨pl, cl, rfl, hrl, hfr, b3⟩; have HT3 := Lib.hid (HTW.out.kept b3 HTW.out.below.size)
      have HOB := Lib.hid (show ∀ b, wr.heap.size ≤ b → u6.ownBlock ≠ some b from fun b hb e => by have := (HTW.out.o1.lt _ e).2; omega)
      obtain ⟨ks3, HT3K, HFRL, HIN3⟩ : ∃ ks3, Two w w.heap.size 151 4 u6 FL.length xs 151 4 (.slice none 0 0) 0 [] ks3 w3 ∧ FrAt ks3 L pl ∧ (∀ x, x ∈ ks → x ∈ ks3) := by
        rcases rds_obj hrl with h | ⟨b, off, o, e, ho, hr⟩
        · exact ⟨ks, HT3.out, .inl h, fun x hx => hx⟩
        · exact ⟨_, HT3.out.add ho (HOB.out b (by have := hfr _ e; omega)) (by simp [Value.ownBlock]), .inr ⟨b, off, o, e, .head _, hr⟩, fun x hx => .tail _ hx⟩
      have HT3K := Lib.hid HT3K; have HFRL := Lib.hid HFRL; have HIN3 := Lib.hid HIN3; obtain ⟨w4, e4, HS4, l0, l1, b4⟩ := box2 w3 (.int .i64 L1) (.int .i64 L2) 27; have HT4 := Lib.hid (HT3K.out.kept b4 HT3K.out.below.size); have kW := (HT4.out.k bW oW (HIN3.out _ HKW.out)).1; rw [HOW.out] at kW; obtain ⟨j0, j1, j2, j3, j4, j5, j6, j7⟩ := cells8 kW; obtain ⟨nl, hnl⟩ : ∃ x, L.length = x := ⟨_, rfl⟩; have HNL := Lib.hid hnl; have HNLB := Lib.hid (show nl ≤ 500000 by rw [← hnl]; exact HGO.out.len); have HEM := Lib.hid (show L.isEmpty = decide (nl = 0) by rw [← hnl]; cases L <;> simp); rw [HEM.out] at HSU; have hlets := t_lets (.int .i64 lo) (.int .i64 hi) (.int .i64 pr) (.slice p nn cap) (.slice q t.length c) se n w4 hse (by omega)
      (try rw [hnl])
      clear b3 b4 hrl hfr kW hnl g0 g1
      by_cases hn0 : nl = 0
      · have hn0I : decide ((nl : Int) > 0) = false := decide_eq_false (by omega)
        have hn0N : decide (0 < nl) = false := decide_eq_false (by omega); rw [show decide (nl = 0) = true from decide_eq_true hn0, if_neg (by simp)] at HSU; have HIN := Lib.hid (show NwI w bW bF oW oF (foundTo t se n (f1, f2)) u6 w4 by rw [HSU.out]; exact ⟨xs, ks3, HT4.out, HFV.out.more HIN3.out, HIN3.out _ HKW.out, HIN3.out _ HKF.out⟩); clear hn0 hlets; go_wp2; go_roundw
        case rel => exact ⟨n + 1, n, Lib.hid rfl, by have := HNM.out; omega, by have := HNM.out; omega, by go_num, HIN⟩
        case measure => simp [intOf]; omega
      · have hn0I : decide ((nl : Int) > 0) = true := decide_eq_true (by omega)
        have hn0N : decide (0 < nl) = true := decide_eq_true (by omega); rw [show decide (nl = 0) = false from decide_eq_false hn0] at HSU
        cases hle : letsB se n with
        | false =>
          rw [hle] at hlets HSU; rw [if_neg (by decide)] at HSU; clear hn0 hle; go_wp2_with fail; refine hlets.mono ?_; clear hlets; rintro e w5 ⟨rfl, b5⟩; have HT5 := Lib.hid (HT4.out.kept b5 HT4.out.below.size); have HIN := Lib.hid (show NwI w bW bF oW oF (foundTo t se n (f1, f2)) u6 w5 by rw [HSU.out]; exact ⟨xs, ks3, HT5.out, HFV.out.more HIN3.out, HIN3.out _ HKW.out, HIN3.out _ HKF.out⟩); clear b5; go_wp2; go_roundw
          case rel => exact ⟨n + 1, n, Lib.hid rfl, by have := HNM.out; omega, by have := HNM.out; omega, by go_num, HIN⟩
          case measure => simp [intOf]; omega
        | true =>
          rw [hle] at hlets HSU; rw [if_pos (by decide)] at HSU; clear hn0 hle; go_wp2_with fail; refine hlets.mono ?_; clear hlets; rintro e w5 ⟨rfl, b5⟩; have HT5 := Lib.hid (HT4.out.kept b5 HT4.out.below.size); have l0 := (b5.cell (lt_of_cellq l0)).trans l0; have l1 := (b5.cell (lt_of_cellq l1)).trans l1; have HT6 := Lib.hid (HT5.out.kept (below_alloc1 w5 (.cells #[.int .i64 n, .int .i64 L1, .int .i64 L2, .slice pl nl cl] 151)) HT5.out.below.size); have hfl := HFL.out; clear b5; go_wp2_with (at_builtin; refine wpList_append_lies _ rfl _ _ 147 rfl w.heap.size 151 i0 _ 4 48 Tryz.underlying147 hi0 hz0 hz1 hz2 rfl (by decide) _ _ _ rfl HT6.out.o1 ⟨w5.heap.size, 0, none⟩ 1 1 [.int .i64 n, .int .i64 L1, .int .i64 L2, .slice pl nl cl] rfl rfl ?c1 ?c2 ?c6 ?c3 ?c4 ?c5 _ rfl ?_)
          case c1 => exact news_of w5 [.int .i64 n, .int .i64 L1, .int .i64 L2, .slice pl nl cl] _
          case c2 => intro u hu; simp at hu; rcases hu with rfl | rfl | rfl | rfl <;> rfl
          case c6 => decide
          case c3 => unfold maxLen; omega
          case c4 => omega
          case c5 => exact HT6.out.below.size
          intro gg cg WB hob hgb hlb _; have HT7 := Lib.hid (HT6.out.grow HT6.out.below.size hob hgb (by simpa using hlb))
          have HIN := Lib.hid (show NwI w bW bF oW oF (foundTo t se n (f1, f2)) (.slice (some ⟨gg, 0, none⟩) (FL.length + 1) cg) WB by
            rw [HSU.out]; refine ⟨_, ks3, ?_, (HFV.out.more HIN3.out).snoc (n, (L1, L2), L) pl cl HFRL.out, HIN3.out _ HKW.out, HIN3.out _ HKF.out⟩; rw [List.length_append, HNL.out]; exact HT7.out)
          clear hob hgb hlb; go_wp2; go_roundw
          case rel => exact ⟨n + 1, n, Lib.hid rfl, by have := HNM.out; omega, by have := HNM.out; omega, by go_num, HIN⟩
          case measure => simp [intOf]; omega
    · have hltI : decide ((n : Int) ≤ (pr : Int)) = false := by have := HNM.out; simp; omega
      have hltN : ¬ n ≤ pr := by have := HNM.out; omega
      obtain rfl : m = pr := by omega
      have HFO := Lib.hid (foundTo_all t se m (f1, f2)); have HFM := Lib.hid (fun x hx => foundTo_mem (t := t) (se := se) (n := m) (f := (f1, f2)) (x := x) hx); have HFL := Lib.hid (foundTo_len t se m (f1, f2)); have HNR := Lib.hid (show nrstF t se m (f1, f2) = (bestO fdLt (foundTo t se m (f1, f2))).bind fun x => bestO trL (x.2.2.map fun y => (fstF t x.1 [] y).getD []) from rfl); obtain ⟨FL, hFL⟩ : ∃ l, foundTo t se m (f1, f2) = l := ⟨_, rfl⟩; rw [hFL] at HTW HFV HFM HFL HNR; obtain ⟨qa, cqa, rfl⟩ := own_any HTW.out.o1; have hrf := rdFd_of HTW.out.o1 HFV.out (fun b o h => (HTW.out.k b o h).1)
      have hbf := t_bestF qa cqa FL wr hrf (by have := HFL.out; omega) (fun i hi => by
        obtain ⟨j, hj, e, _⟩ := HFM.out (gfd FL i) (List.mem_of_getElem? (gfd_of hi)); have hg := near_all (f := (f1, f2)) HT.out (n := j + 1) (by omega) HF.out.1 HF.out.2; rw [e]; exact ⟨hg.a0, hg.a1, hg.b0, hg.b1⟩)
      have HBM := Lib.hid (bestO_mem fdLt FL); obtain ⟨nf, hnf⟩ : ∃ x, FL.length = x := ⟨_, rfl⟩
      (try rw [hnf])
      rw [hnf] at hbf; clear hrf hFL hnf g0 g1; go_wp2_with fail; refine hbf.mono ?_; clear hbf j0 j1 j2 j3 j4 j5 j6 j7; rintro e w3 ⟨ho, b3⟩; have HB3 := Lib.hid (HTW.out.below.trans (b3.mono HTW.out.below.size))
      cases hoo : bestO fdLt FL with
      | none =>
        rw [hoo] at ho; have ho' : e = .returned (.tuple #[.agg #[.int .i64 0, .int .i64 0, .int .i64 0, .slice none 0 0], .bool false]) := ho; subst ho'; have HE := Lib.hid (show nrstF t se m (f1, f2) = none by rw [HNR.out, hoo]; rfl); clear ho hoo b3; obtain ⟨w4, e4, HS4, _, _, _, _, b4⟩ := box4 w3 (.int .i64 0) (.int .i64 0) (.int .i64 0) (.slice none 0 0) 151; have k4 := alloc_new w3 (.cells #[.int .i64 0, .int .i64 0, .int .i64 0, .slice none 0 0] 151); rw [e4] at k4; obtain ⟨y1, y2, y3, y4, s1, s2, s3, s4, ⟨c0, f0⟩, ⟨c1, f1'⟩, ⟨c2, f2'⟩, ⟨c3, f3⟩, hx4, hxk, HZs, hxb⟩ := set4 w4 w3.heap.size 151 _ _ _ _ (.int .i64 0) (.int .i64 0) (.int .i64 0) (.slice none 0 0) k4; have HB4 := Lib.hid (hxb w w.heap.size HB3.out.size (HB3.out.trans (b4.mono HB3.out.size))); clear b4 k4 hx4 hxk hxb; go_wp2; refine bodyPost_ret (v := .tuple #[.slice none 0 0, .bool false]) (by simp [results, Tryz.results37, go_sem]) rfl ?_
        rw [HE.out]; exact ⟨_, rfl, rfl, HB4.out⟩
      | some x =>
        rw [hoo] at ho; obtain ⟨qx, cx, rfl, hrx⟩ := ho; obtain ⟨xi, hxi, hxe, hxn⟩ := HFM.out x (HBM.out x hoo); have hgd := near_all (f := (f1, f2)) HT.out (n := xi + 1) (by omega) HF.out.1 HF.out.2; have HMEM := Lib.hid (show ∀ y ∈ x.2.2, (1 ≤ y.1 ∧ y.1 ≤ (topN x.1 : Int)) ∧ (1 ≤ y.2 ∧ y.2 ≤ (topN x.1 : Int)) by rw [hxe]; exact hgd.mem); have HXN := Lib.hid (show 1 ≤ x.1 ∧ x.1 ≤ m by rw [hxe]; exact ⟨by show 1 ≤ xi + 1; omega, by show xi + 1 ≤ m; omega⟩); have HXL := Lib.hid (show x.2.2.length ≤ 500000 by rw [hxe]; exact hgd.len); have HE := Lib.hid (show nrstF t se m (f1, f2) = bestO trL (x.2.2.map fun y => (fstF t x.1 [] y).getD []) by rw [HNR.out, hoo]; rfl); obtain ⟨X, ⟨Xf, Xg⟩, XL⟩ := x; simp only [] at HMEM HXN HXL HE hrx; have hrx2 := hrx; have hxn1 := HXN.out.1; have hxn2 := HXN.out.2; have hxl := HXL.out; have HB3W := Lib.hid (show w3.heap[bW]? = wr.heap[bW]? from b3.block bW (block_lt (HTW.out.k bW oW HKW.out).1))
        clear hoo hxi hxe hxn hgd hrx b3; obtain ⟨w4, e4, HS4, x0, x1, x2, x3, b4⟩ := box4 w3 (.int .i64 X) (.int .i64 Xf) (.int .i64 Xg) (.slice qx XL.length cx) 151; have kX := alloc_new w3 (.cells #[.int .i64 X, .int .i64 Xf, .int .i64 Xg, .slice qx XL.length cx] 151); rw [e4] at kX; obtain ⟨oX, hoX⟩ : ∃ o : Obj, o = .cells #[.int .i64 X, .int .i64 Xf, .int .i64 Xg, .slice qx XL.length cx] 151 (0, 0) := ⟨_, rfl⟩; have HOX := Lib.hid hoX; obtain ⟨bX, hbX⟩ : ∃ b, w3.heap.size = b := ⟨_, rfl⟩; rw [hbX] at x0 x1 x2 x3 kX; have HB4 := Lib.hid (HB3.out.trans (b4.mono HB3.out.size)); have HW3 := Lib.hid (show w3.heap[bW]? = some oW from (HB3W.out).trans (HTW.out.k bW oW HKW.out).1)
        have HI4 := Lib.hid (show NxI w bW bX oW oX qx XL [] (.slice none 0 0) w4 by
          have hr4 := hrx2.below b4; have kw4 := (b4.block bW (block_lt HW3.out)).trans HW3.out
          rcases rds_obj hr4 with h | ⟨b, off, o, e, ho, hr⟩
          · exact ⟨[], [(bW, oW), (bX, oX)], Two.start HB4.out (fun b o hm => by
              simp only [List.mem_cons, List.not_mem_nil, or_false, Prod.mk.injEq] at hm
              rcases hm with ⟨rfl, rfl⟩ | ⟨rfl, rfl⟩
              · exact kw4
              · rw [hoX]; exact kX), ⟨rfl, fun j hj => by simp at hj⟩, .head _, .tail _ (.head _), .inl h⟩
          · exact ⟨[], [(bW, oW), (bX, oX), (b, o)], Two.start HB4.out (fun b' o' hm => by
              simp only [List.mem_cons, List.not_mem_nil, or_false, Prod.mk.injEq] at hm
              rcases hm with ⟨rfl, rfl⟩ | ⟨rfl, rfl⟩ | ⟨rfl, rfl⟩
              · exact kw4
              · rw [hoX]; exact kX
              · exact ho), ⟨rfl, fun j hj => by simp at hj⟩, .head _, .tail _ (.head _), .inr ⟨b, off, o, e, .tail _ (.tail _ (.head _)), hr⟩⟩)
        clear kX hoX b4 hrx2; go_wp2; clear e4 x0 x1 x2 x3 hbX; obtain ⟨wn, rfl⟩ : ∃ wn : World, wn = wr := ⟨_, rfl⟩
        go_loopw [12, 56] (fun v a wr => ∃ k : Nat, k ≤ XL.length ∧ a = .int .i64 k ∧ Hid (NxI w bW bX oW oX qx XL ((XL.take k).map fun y => (fstF t X [] y).getD []) v wr)) (fun _ a _ => XL.length - (intOf a).toNat)
        case atStart => exact ⟨0, Nat.zero_le _, rfl, HI4⟩
        case round =>
          obtain ⟨k, hk, rfl, HI⟩ := hrel; obtain ⟨xs2, ks2, HTX, HTV, HKW2, HKX2, HFX⟩ := HI.out; have HTX := Lib.hid HTX; have HTV := Lib.hid HTV; have HKW2 := Lib.hid HKW2; have HKX2 := Lib.hid HKX2; have HFX := Lib.hid HFX; have HLN := Lib.hid (show ((XL.take k).map fun y => (fstF t X [] y).getD []).length = k by rw [List.length_map, List.length_take]; omega)
          by_cases hlt2 : k < XL.length
          · have hlt2I : decide ((k : Int) < (XL.length : Int)) = true := by simp; omega
            have hkI : (k : Int) < (XL.length : Int) := by omega
            have hwk : IntKind.i64.wrap ((k : Int) + 1) = (k : Int) + 1 := w64 _ (by omega) (by omega); have kW := (HTX.out.k bW oW HKW2.out).1; rw [HOW.out] at kW; obtain ⟨j0, j1, j2, j3, j4, j5, j6, j7⟩ := cells8 kW; have kX := (HTX.out.k bX oX HKX2.out).1; rw [HOX.out] at kX; obtain ⟨x0, x1, x2, x3⟩ := cells4 kX
            have hrq : RdS wr qx XL := by
              rcases HFX.out with h | ⟨b, off, o, e, hm, hr⟩
              · exact .inl h
              · exact hr wr (HTX.out.k b o hm).1
            obtain ⟨bq, oq, rfl, hcq⟩ := hrq.at hlt2; obtain ⟨d0, d1⟩ := hcq k hlt2; have hym := HMEM.out (gm XL k) (by unfold gm; rw [List.getD_eq_getElem?_getD, List.getElem?_eq_getElem hlt2]; exact List.getElem_mem hlt2)
            have HTK := Lib.hid (show (XL.take (k + 1)).map (fun y => (fstF t X [] y).getD []) = (XL.take k).map (fun y => (fstF t X [] y).getD []) ++ [(fstF t X [] (gm XL k)).getD []] by
              rw [List.take_add_one, List.getElem?_eq_getElem hlt2, List.map_append]; unfold gm; rw [List.getD_eq_getElem?_getD, List.getElem?_eq_getElem hlt2]
              rfl)
            obtain ⟨⟨Y1, Y2⟩, hye⟩ : ∃ y, gm XL k = y := ⟨_, rfl⟩; rw [hye] at d0 d1 hym HTK; simp only [] at d0 d1; obtain ⟨w5, e5, HS5, y0, y1, b5⟩ := box2 wr (.int .i64 Y1) (.int .i64 Y2) 27; have HT5 := Lib.hid (HTX.out.kept b5 HTX.out.below.size); have j0 := (b5.cell (lt_of_cellq j0)).trans j0; have j1 := (b5.cell (lt_of_cellq j1)).trans j1; have j2 := (b5.cell (lt_of_cellq j2)).trans j2; have j3 := (b5.cell (lt_of_cellq j3)).trans j3; have j4 := (b5.cell (lt_of_cellq j4)).trans j4; have j5 := (b5.cell (lt_of_cellq j5)).trans j5; have j6 := (b5.cell (lt_of_cellq j6)).trans j6; have j7 := (b5.cell (lt_of_cellq j7)).trans j7; have x0 := (b5.cell (lt_of_cellq x0)).trans x0; have hfi := t_first (.int .i64 lo) (.int .i64 hi) (.int .i64 m) (.int .i64 se) (.slice p nn cap) (.slice qs (m + 1) cs) q c t qm (m + 1) cm X Y1 Y2 w5 (HRT.out.below HT5.out.below) (HRM.out.below HT5.out.below) (by omega) HT.out ⟨hxn1, by omega⟩ (by omega) hym.1 hym.2
            have HOB := Lib.hid (show ∀ b, w5.heap.size ≤ b → u12.ownBlock ≠ some b from fun b hb e => by have := (HT5.out.o1.lt _ e).2; omega); clear hrq hcq hye b5 kW kX; go_wp2_with fail; refine hfi.mono ?_; clear hfi; rintro e w6 ⟨ho, b6⟩; have HT6 := Lib.hid (HT5.out.kept b6 HT5.out.below.size)
            obtain ⟨pv, cv, hev, ks3, HT6K, HFRL, HIN3⟩ : ∃ pv cv, e = .returned (.slice pv ((fstF t X [] (Y1, Y2)).getD []).length cv) ∧ ∃ ks3, Two w w.heap.size 34 1 u12 ((XL.take k).map fun y => (fstF t X [] y).getD []).length xs2 151 4 (.slice none 0 0) 0 [] ks3 w6 ∧ FrAt ks3 ((fstF t X [] (Y1, Y2)).getD []) pv ∧ (∀ x, x ∈ ks2 → x ∈ ks3) := by
              cases hoo : fstF t X [] (Y1, Y2) with
              | none =>
                rw [hoo] at ho; exact ⟨none, 0, ho, ks2, HT6.out, .inl rfl, fun x hx => hx⟩
              | some l =>
                rw [hoo] at ho; obtain ⟨pp, cp, he, hr, hb⟩ := ho
                rcases rds_obj hr with h | ⟨b, off, o, e2, ho2, hr2⟩
                · exact ⟨some pp, cp, he, ks2, HT6.out, .inl h, fun x hx => hx⟩
                · refine ⟨some pp, cp, he, _, HT6.out.add ho2 (HOB.out b ?_) (by simp [Value.ownBlock]), .inr ⟨b, off, o, e2, .head _, hr2⟩, fun x hx => .tail _ hx⟩
                  injection e2 with e2
                  subst e2; exact hb
            subst hev
            have HLE := Lib.hid (show ((fstF t X [] (Y1, Y2)).getD []).length ≤ 3 by
              cases hoo : fstF t X [] (Y1, Y2) with
              | none => exact Nat.zero_le _
              | some l => have := fstF_len t X [] (Y1, Y2) l hoo; show l.length ≤ 3; simp at this; omega)
            obtain ⟨LL, hLL⟩ : ∃ l, (fstF t X [] (Y1, Y2)).getD [] = l := ⟨_, rfl⟩; rw [hLL] at HTK HFRL HLE
            (try rw [hLL])
            obtain ⟨nL, hnL⟩ : ∃ n, LL.length = n := ⟨_, rfl⟩; have HNL := Lib.hid hnL
            (try rw [hnL])
            have HT6K := Lib.hid HT6K; have HFRL := Lib.hid HFRL; have HIN3 := Lib.hid HIN3; have HT7 := Lib.hid (HT6K.out.kept (below_alloc1 w6 (.cells #[.slice pv nL cv] 34)) HT6K.out.below.size); have hln := HLN.out; clear ho b6 hLL hnL; go_wp2_with (at_builtin; refine wpList_append_lies _ rfl _ _ 156 rfl w.heap.size 34 i1 _ 1 24 Tryz.underlying156 hi1 hy0 hy1 hy2 rfl (by decide) _ _ _ rfl HT7.out.o1 ⟨w6.heap.size, 0, none⟩ 1 1 [.slice pv nL cv] rfl rfl ?d1 ?d2 ?d6 ?d3 ?d4 ?d5 _ rfl ?_)
            case d1 => exact news_of w6 [.slice pv nL cv] _
            case d2 => intro u hu; simp at hu; subst hu; rfl
            case d6 => decide
            case d3 => rw [hln]; unfold maxLen; omega
            case d4 => rw [hln]; omega
            case d5 => exact HT7.out.below.size
            intro gg cg WB hob hgb hlb _; have HT8 := Lib.hid (HT7.out.grow HT7.out.below.size hob hgb (by simpa using hlb))
            have HIN := Lib.hid (show NxI w bW bX oW oX (some ⟨bq, oq, none⟩) XL ((XL.take (k + 1)).map fun y => (fstF t X [] y).getD []) (.slice (some ⟨gg, 0, none⟩) (k + 1) cg) WB by
              rw [HTK.out]; refine ⟨_, ks3, ?_, (HTV.out.more HIN3.out).snoc LL pv cv HFRL.out, HIN3.out _ HKW2.out, HIN3.out _ HKX2.out, HFX.out.more HIN3.out⟩; rw [List.length_append, HNL.out, HLN.out]; exact HT8.out)
            clear hob hgb hlb; go_wp2; go_roundw
            case rel => exact ⟨k + 1, by omega, by go_num, HIN⟩
            case measure => simp [intOf]; omega
          · have hke : k = XL.length := by omega
            have hlt2I : decide ((k : Int) < (XL.length : Int)) = false := by simp; omega
            have HTE := Lib.hid (show (XL.take k).map (fun y => (fstF t X [] y).getD []) = XL.map fun y => (fstF t X [] y).getD [] by rw [hke, List.take_length]); rw [HTE.out] at HTX HTV; obtain ⟨qa2, cqa2, rfl⟩ := own_any HTX.out.o1; have hrt2 := rdTl_of HTX.out.o1 HTV.out (fun b o h => (HTX.out.k b o h).1)
            have hbt := t_best qa2 cqa2 (XL.map fun y => (fstF t X [] y).getD []) wr hrt2 (by rw [List.length_map]; omega) (fun i hi => by
              rw [List.length_map] at hi; have e : gtr (XL.map fun y => (fstF t X [] y).getD []) i = (fstF t X [] XL[i]).getD [] := by unfold gtr; rw [List.getD_eq_getElem?_getD, List.getElem?_map, List.getElem?_eq_getElem hi]; rfl
              rw [e]
              cases hoo : fstF t X [] XL[i] with
              | none => exact Nat.zero_le _
              | some l => have := fstF_len t X [] XL[i] l hoo; show l.length ≤ 1000; simp at this; omega)
            obtain ⟨nt, hnt⟩ : ∃ x, (XL.map fun y => (fstF t X [] y).getD []).length = x := ⟨_, rfl⟩
            (try rw [hnt])
            rw [hnt] at hbt; have HBW5 := Lib.hid HTX.out.below; clear hrt2 hnt hke; go_wp2_with fail; refine hbt.mono ?_; clear hbt; rintro e w9 ⟨v, rfl, hv, b9⟩; have HV := Lib.hid hv; have HB9 := Lib.hid (HBW5.out.trans (b9.mono HBW5.out.size)); clear hv b9; go_wp2; refine bodyPost_ret (v := .tuple #[v, .bool (bestO trL (XL.map fun y => (fstF t X [] y).getD [])).isSome]) (by simp [results, Tryz.results37, go_sem]) rfl ?_; rw [HE.out]; exact ⟨v, rfl, HV.out, HB9.out⟩
end Go.Proofs.YtchclaipbahiiaaGreat
end
