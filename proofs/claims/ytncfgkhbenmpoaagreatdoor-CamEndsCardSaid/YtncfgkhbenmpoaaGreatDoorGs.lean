/-
  The fewest changes up to each height (Before): plain words, and the walk.
  The spans that are come to by heights, step by step: the rows of the reference's loops, in plain words.
  What is known of a cam by the document (ref.Known): the walk.
  The law of what is known of a cam (the walk), and its plain law.
-/
import Derived.Test.YtncfgkhbenmpoaaGreatDoorGi
import Derived.Deep.Cut
import Derived.Test.YtncfgkhbenmpoaaGreatDoorGg
import Derived.Test.YtncfgkhbenmpoaaGreatDoorGf
import Derived.Test.YtncfgkhbenmpoaaGreatDoorGk
import Derived.Deep.RegionHeld3
import Derived.StillTailTactics
import Derived.Test.YtncfgkhbenmpoaaGreatDoorGm
import Derived.Test.YtncfgkhbenmpoaaGreatDoorGj
section
namespace Go.Proofs.YtncfgkhbenmpoaaGreatDoor
open Go Go.RowKit Go.Proofs
set_option linter.unusedVariables false
attribute [local go_sem] imax2 imin2

/-! ### plain words -/
def befX (lo hi sl f : Int) (ss : List (Int × Int)) (i : Nat) (h : Int) : Nat → Int
  | 0 => 1000
  | k + 1 => min (befX lo hi sl f ss i h k) (befF lo hi sl f ss i k + chgd sl k h)
theorem befX_fold (lo hi sl f : Int) (ss : List (Int × Int)) (i : Nat) (h : Int) : ∀ k : Nat, ((List.range k).map fun (k : Nat) => (k : Int)).foldl (fun acc x => min acc (befF lo hi sl f ss i x + chgd sl x h)) 1000 = befX lo hi sl f ss i h k := by
  intro k
  induction k with
  | zero => rfl
  | succ k ih => rw [List.range_succ, List.map_append, List.foldl_append, ih]; rfl
theorem befX_range (lo hi sl f : Int) (ss : List (Int × Int)) (i : Nat) (h : Int) : ∀ k, 0 ≤ befX lo hi sl f ss i h k ∧ befX lo hi sl f ss i h k ≤ 1000 := by
  intro k
  induction k with
  | zero => simp [befX]
  | succ k ih =>
    simp only [befX]
    have := chgd_range sl k h
    have := befF_range lo hi sl f ss i k
    omega
theorem befW_out {lo hi sl f : Int} {ss : List (Int × Int)} {i : Nat} {h : Int} (hw : witB lo hi f ss i h = false) : befF lo hi sl f ss i h = 1000 := by
  unfold witB at hw
  cases i with
  | zero =>
    simp only [befF]
    rw [if_neg]
    rintro ⟨h1, h2⟩
    rw [h1, h2] at hw
    simp at hw
  | succ i =>
    simp only [befF]
    rw [if_neg]
    intro h1
    rw [h1] at hw
    simp at hw
theorem bef_in0 {lo hi sl f : Int} {ss : List (Int × Int)} {h : Int} (hw : witB lo hi f ss 0 h = true) : befF lo hi sl f ss 0 h = 0 := by
  unfold witB at hw
  simp only [befF]
  rw [if_pos]
  simpa using hw
theorem bef_in {lo hi sl f : Int} {ss : List (Int × Int)} {i : Nat} {h : Int} (hw : witB lo hi f ss (i + 1) h = true) : befF lo hi sl f ss (i + 1) h = befX lo hi sl f ss i h 31 := by
  unfold witB at hw
  simp only [befF]
  rw [if_pos (by simpa using hw), rng30, befX_fold]
def befG (lo hi sl f : Int) (ss : List (Int × Int)) (i : Nat) : Nat → Int := fun h => befF lo hi sl f ss i h
def befL (lo hi sl f : Int) (ss : List (Int × Int)) (i : Nat) : List Int := rowW (befG lo hi sl f ss i)

def BeforePost (lo hi sl f : Int) (ss : List (Int × Int)) (w : World) (e : Ending) (w' : World) : Prop :=
  ∃ N, e = .returned (.slice (some ⟨N, 0, none⟩) ss.length ss.length) ∧ w.heap.size ≤ N ∧ MatOk w' N ss.length 0 ss.length (befL lo hi sl f ss) w'.heap.size ∧ Below w.heap.size w w'

set_option maxRecDepth 100000 in
set_option maxHeartbeats 1000000 in
theorem c98 (lo hi sl ch f : Int) (q : Option Addr) (cap : Nat) (ss : List (Int × Int)) (hlen : ss.length ≤ 1000) (hsl : 0 ≤ sl ∧ sl ≤ 30) (hf : 0 ≤ f ∧ f ≤ 30) (w : World) (hx : RdS w q ss) :
    Calls Tryz.prog 98 #[.agg #[.int .i64 lo, .int .i64 hi, .int .i64 sl, .int .i64 ch, .slice q ss.length cap, .int .i64 f]] w (BeforePost lo hi sl f ss w) := by
  obtain ⟨w0, e0, HS0, k0, k1, k2, k3, k4, k5, b0⟩ := box6 w (.int .i64 lo) (.int .i64 hi) (.int .i64 sl) (.int .i64 ch) (.slice q ss.length cap) (.int .i64 f) 118
  have HX0 := Lib.hid (hx.below b0)
  have HB0 := Lib.hid b0
  have hmk := make90 ss.length hlen w0
  obtain ⟨w1, e1, HS1⟩ : ∃ w1, w0.alloc (.cells (List.replicate ss.length (.slice none 0 0)).toArray 24) = w1 ∧ Hid (w1.heap.size = w0.heap.size + 1) := ⟨_, rfl, Lib.hid (by simp)⟩
  have hb1 := below_alloc1 w0 (.cells (List.replicate ss.length (.slice none 0 0)).toArray 24)
  have hN0 := alloc_new w0 (.cells (List.replicate ss.length (.slice none 0 0)).toArray 24)
  rw [e1] at hb1 hN0 hmk
  have HB1 := Lib.hid hb1
  have HM1 := Lib.hid (show MatOk w1 w0.heap.size ss.length 0 0 (befL lo hi sl f ss) w1.heap.size from ⟨⟨_, hN0, by simp, fun j h1 h2 => by omega⟩, by have := HS1.out; omega⟩)
  have hbl := lt_of_cellq k0
  have HBL := Lib.hid (show w.heap.size < w0.heap.size from hbl)
  clear hb1 hN0 e1 hbl hx b0
  go_enter Tryz.func98, Tryz.ntmps98
  go_wp2
  clear e0 hmk
  go_loopw [5] (fun i wr => ∃ m : Nat, m ≤ ss.length ∧ i = .int .i64 m ∧ Hid (MatOk wr w0.heap.size ss.length 0 m (befL lo hi sl f ss) wr.heap.size) ∧ Hid (Below w0.heap.size w1 wr)) (fun i _ => ss.length - (intOf i).toNat)
  case atStart => exact ⟨0, Nat.zero_le _, rfl, HM1, Lib.hid (Below.refl _ _)⟩
  case round =>
    obtain ⟨i, hm, rfl, HM, HB⟩ := hrel
    by_cases hi' : i < ss.length
    case neg =>
      obtain rfl : i = ss.length := by omega
      have hltI : decide ((ss.length : Int) < (ss.length : Int)) = false := by simp
      go_wp2
      go_ret
      exact ⟨w0.heap.size, rfl, by have := HBL.out; omega, HM.out, HB0.out.trans ((HB1.out.trans HB.out).mono HB0.out.size)⟩
    case pos =>
      have hltI : decide ((i : Int) < (ss.length : Int)) = true := by simp; omega
      have hm31 := make31 wr
      obtain ⟨wA, w2, eA, e2, HM2, c2, hrow2, HS2, HB2, fz2, ⟨v2, cv2⟩, HO2⟩ := HM.out.new (Nat.le_refl _) hi' (by omega) (.cells (inV z31).toArray 3)
      rw [eA] at hm31
      clear eA
      have HT2 := Lib.hid ((HB1.out.trans HB.out).trans HB2)
      have HB12 := Lib.hid (HB.out.trans HB2)
      have HM2' := Lib.hid HM2
      have hNg := HM2.lt
      have HR2 := Lib.hid (show RowI w2 wr.heap.size (rowA (befG lo hi sl f ss i) 0 0) from by rw [rowA_zero]; exact hrow2)
      have C2 := Lib.hid c2
      clear HM2 hrow2 HB2 HO2 c2
      generalize wr.heap.size = g at *
      go_wp2
      clear e2 fz2 cv2 hm31
      go_loopw [6] (fun j wx => ∃ h : Nat, h ≤ 31 ∧ j = .int .i64 h ∧ Hid (RowI wx g (rowA (befG lo hi sl f ss i) h 0)) ∧ Hid (Below g w2 wx)) (fun j _ => 31 - (intOf j).toNat)
      case atStart => exact ⟨0, by omega, rfl, HR2, Lib.hid (Below.refl _ _)⟩
      case round =>
        rename_i wo
        obtain ⟨h, hh, rfl, HR, HBg⟩ := hrel
        by_cases hlt : h < 31
        · have hle : decide ((h : Int) ≤ 30) = true := by simp; omega
          have hltJ : decide ((h : Int) < 31) = true := by simp; omega
          have cN := (HBg.out.cell (p := ⟨w0.heap.size, i, none⟩) hNg).trans C2.out
          have cg := HR.out.at (i := h) (by simpa using hlt)
          have fg := HR.out.fz h
          obtain ⟨ws, es⟩ : ∃ ws, wr.setCell ⟨g, h, none⟩ (.int .i64 1000) = ws := ⟨_, rfl⟩
          have HRs := HR.out.set h 1000
          have HBs := HBg.out.setCell (p := ⟨g, h, none⟩) (Nat.le_refl _) (.int .i64 1000)
          rw [es] at HRs HBs
          rw [rowA_set _ _ _ _ hlt] at HRs
          have HTs := HT2.out.trans (HBs.mono (by omega))
          have t0 := (HTs.cell (lt_of_cellq k0)).trans k0
          have t1 := (HTs.cell (lt_of_cellq k1)).trans k1
          have t2 := (HTs.cell (lt_of_cellq k2)).trans k2
          have t3 := (HTs.cell (lt_of_cellq k3)).trans k3
          have t4 := (HTs.cell (lt_of_cellq k4)).trans k4
          have t5 := (HTs.cell (lt_of_cellq k5)).trans k5
          obtain ⟨bw, hbw⟩ : ∃ bw, witB lo hi f ss i h = bw := ⟨_, rfl⟩
          have h138 := c138 lo hi sl ch f q cap ss i hi' h ws (HX0.out.below HTs)
          rw [hbw] at h138
          have HBW := Lib.hid hbw
          have HRS := Lib.hid HRs
          have HBS := Lib.hid HBs
          clear HRs HBs HTs hbw
          go_wp2_with fail
          refine h138.mono ?_
          rintro e w3 ⟨rfl, hb3⟩
          have hgs : g < ws.heap.size := HRS.out.lt
          have HR3 := Lib.hid (HRS.out.keep (hb3.block g hgs))
          have HB3 := Lib.hid (HBS.out.trans (hb3.mono (by omega)))
          have v0 := (hb3.cell (lt_of_cellq t0)).trans t0
          have v1 := (hb3.cell (lt_of_cellq t1)).trans t1
          have v2 := (hb3.cell (lt_of_cellq t2)).trans t2
          have v3 := (hb3.cell (lt_of_cellq t3)).trans t3
          have v5 := (hb3.cell (lt_of_cellq t5)).trans t5
          clear t0 t1 t2 t3 t4 t5 h138 es cN cg fg hb3 hgs
          cases bw with
          | false =>
            have HG := Lib.hid (show befG lo hi sl f ss i h = 1000 from befW_out HBW.out)
            go_wp2
            go_roundw
            case rel => exact ⟨h + 1, by omega, by go_num, Lib.hid (by rw [← rowA_next _ _ (1000 : Int) HG.out.symm]; exact HR3.out), HB3⟩
            case measure => simp [intOf]; omega
          | true =>
            rcases Nat.eq_zero_or_pos i with h0 | hpos
            · have HG := Lib.hid (show (0 : Int) = befG lo hi sl f ss i h by subst h0; exact (bef_in0 HBW.out).symm)
              have heq : ((i : Int) == 0) = true := by simp; omega
              have cN := (HB3.out.cell (p := ⟨w0.heap.size, i, none⟩) hNg).trans C2.out
              have H0 := Lib.hid h0
              clear h0
              have cq := HR3.out.at (i := h) (by simpa using hlt)
              have fq := HR3.out.fz h
              have HR4 := Lib.hid (HR3.out.set h 0)
              have HB4 := Lib.hid (HB3.out.setCell (p := ⟨g, h, none⟩) (Nat.le_refl _) (.int .i64 0))
              clear v0 v1 v2 v3 v5
              go_wp2
              go_roundw
              case rel => exact ⟨h + 1, by omega, by go_num, Lib.hid (by rw [← rowA_next _ _ (0 : Int) HG.out]; have := HR4.out; rwa [rowA_set _ _ _ _ hlt] at this), HB4⟩
              case measure => simp [intOf]; omega
            · obtain ⟨p, hp⟩ : ∃ p, i = p + 1 := ⟨i - 1, by omega⟩
              have heq : ((i : Int) == 0) = false := by simp; omega
              have HG := Lib.hid (show befX lo hi sl f ss p h 31 = befG lo hi sl f ss i h by subst hp; unfold befG; rw [bef_in HBW.out])
              have HK := Lib.hid (show (w3.cell? ⟨w.heap.size, 0, none⟩ = some (.int .i64 lo) ∧ w3.cell? ⟨w.heap.size, 1, none⟩ = some (.int .i64 hi)) ∧ (w3.cell? ⟨w.heap.size, 2, none⟩ = some (.int .i64 sl) ∧ w3.cell? ⟨w.heap.size, 3, none⟩ = some (.int .i64 ch)) from ⟨⟨v0, v1⟩, v2, v3⟩)
              have HWg := Lib.hid (show w.heap.size < g by have := HBL.out; omega)
              clear v0 v1 v2 v3 v5
              have HP := Lib.hid hp
              clear hp
              go_wp2
              go_loopw [7] (fun x wy => ∃ k : Nat, k ≤ 31 ∧ x = .int .i64 k ∧ Hid (RowI wy g (rowA (befG lo hi sl f ss i) h (befX lo hi sl f ss p h k))) ∧ Hid (Below g w3 wy)) (fun x _ => 31 - (intOf x).toNat)
              case atStart => exact ⟨0, by omega, rfl, HR3, Lib.hid (Below.refl _ _)⟩
              case round =>
                rename_i wh
                obtain ⟨k, hk, rfl, HRk, HBk⟩ := hrel
                by_cases hkl : k < 31
                · have hle2 : decide ((k : Int) ≤ 30) = true := by simp; omega
                  have hltK : decide ((k : Int) < 31) = true := by simp; omega
                  have en : (i : Int) - 1 = (p : Int) := by have := HP.out; omega
                  have HBa := HB3.out.trans HBk.out
                  have cN := (HBa.cell (p := ⟨w0.heap.size, i, none⟩) hNg).trans C2.out
                  obtain ⟨g1, cN1, _, _, hr1⟩ := (HM2'.out.below HBa).at (j := p) (Nat.zero_le _) (by have := HP.out; omega)
                  have cg := HRk.out.at (i := h) (by simpa using hlt)
                  have c1 := hr1.at (i := k) (by unfold befL; simpa using hkl)
                  rw [gi_rowA _ _ _ _ hlt, if_neg (by omega), if_pos rfl] at cg
                  unfold befL at c1
                  rw [gi_rowW _ _ hkl] at c1
                  unfold befG at c1
                  have hX := befX_range lo hi sl f ss p h k
                  have hA := befF_range lo hi sl f ss p k
                  have hC := chgd_range sl k h
                  have HST := Lib.hid (show befX lo hi sl f ss p h (k + 1) = min (befX lo hi sl f ss p h k) (befF lo hi sl f ss p k + chgd sl k h) from rfl)
                  obtain ⟨X, hXe⟩ : ∃ X, befX lo hi sl f ss p h k = X := ⟨_, rfl⟩
                  obtain ⟨A, hAe⟩ : ∃ A, befF lo hi sl f ss p k = A := ⟨_, rfl⟩
                  rw [hXe] at cg hX HST
                  rw [hAe] at c1 hA HST
                  have v0 := (HBk.out.cell (p := ⟨w.heap.size, 0, none⟩) HWg.out).trans HK.out.1.1
                  have v1 := (HBk.out.cell (p := ⟨w.heap.size, 1, none⟩) HWg.out).trans HK.out.1.2
                  have v2 := (HBk.out.cell (p := ⟨w.heap.size, 2, none⟩) HWg.out).trans HK.out.2.1
                  have v3 := (HBk.out.cell (p := ⟨w.heap.size, 3, none⟩) HWg.out).trans HK.out.2.2
                  rw [← Nat.zero_add i] at cN
                  rw [← Nat.zero_add p] at cN1
                  rw [← Nat.zero_add h] at cg
                  rw [← Nat.zero_add k] at c1
                  clear HBa hXe hAe hr1
                  go_wp2
                  refine wp_region_below_tail 28 (by kernel_rfl) (by kernel_rfl) ?_; simp only [List.take_succ_cons, List.take_zero, List.drop_succ_cons, List.drop_zero]; (repeat (first | ((with_reducible apply wq_fa fa118_0); (focus rfl); (focus rfl); go_frame) | ((with_reducible apply wq_fa fa118_1); (focus rfl); (focus rfl); go_frame) | ((with_reducible apply wq_fa fa118_2); (focus rfl); (focus rfl); go_frame) | ((with_reducible apply wq_fa fa23_0); (focus rfl); (focus rfl); go_frame) | ((with_reducible apply wq_fa fa23_1); (focus rfl); (focus rfl); go_frame) | ((with_reducible apply wq_fa fa23_2); (focus rfl); (focus rfl); go_frame) | ((with_reducible apply wq_fa fa23_3); (focus rfl); (focus rfl); go_frame) | ((with_reducible apply wq_fa fa61_0); (focus rfl); (focus rfl); go_frame) | ((with_reducible apply wq_fa fa61_1); (focus rfl); (focus rfl); go_frame) | ((with_reducible refine wq_lda ag23 sz23 ?_ ?_ ?_ (fun _ hbq => bcells4 v0 v1 v2 v3 hbq) ?_); (focus rfl); (focus rfl); (focus rfl); go_frame) | (rw [en]) | ((with_reducible apply wq_ix Tryz.underlying24 sz3); (focus rfl); (focus rfl); (focus rfl); (focus omega); (try simp only [Nat.mul_one]); go_frame) | ((with_reducible apply wq_ix Tryz.underlying37 sz50); (focus rfl); (focus rfl); (focus rfl); (focus omega); (try simp only [Nat.mul_one]); go_frame) | ((with_reducible apply wq_ix Tryz.underlying35 sz47); (focus rfl); (focus rfl); (focus rfl); (focus omega); (try simp only [Nat.mul_one]); go_frame) | ((with_reducible apply wq_ix Tryz.underlying90 sz24); (focus rfl); (focus rfl); (focus rfl); (focus omega); (try simp only [Nat.mul_one]); go_frame) | ((with_reducible apply wq_ld ag3); (focus rfl); (focus rfl); (focus (intro _ hbq; first | exact (hbq.cell (lt_of_cellq cN)).trans cN | exact (hbq.cell (lt_of_cellq cN1)).trans cN1 | exact (hbq.cell (lt_of_cellq cg)).trans cg | exact (hbq.cell (lt_of_cellq c1)).trans c1)); go_frame) | ((with_reducible apply wq_ld ag24); (focus rfl); (focus rfl); (focus (intro _ hbq; first | exact (hbq.cell (lt_of_cellq cN)).trans cN | exact (hbq.cell (lt_of_cellq cN1)).trans cN1 | exact (hbq.cell (lt_of_cellq cg)).trans cg | exact (hbq.cell (lt_of_cellq c1)).trans c1)); go_frame) | ((with_reducible apply wq_ld ag37); (focus rfl); (focus rfl); (focus (intro _ hbq; first | exact (hbq.cell (lt_of_cellq cN)).trans cN | exact (hbq.cell (lt_of_cellq cN1)).trans cN1 | exact (hbq.cell (lt_of_cellq cg)).trans cg | exact (hbq.cell (lt_of_cellq c1)).trans c1)); go_frame) | ((with_reducible apply wq_ld ag90); (focus rfl); (focus rfl); (focus (intro _ hbq; first | exact (hbq.cell (lt_of_cellq cN)).trans cN | exact (hbq.cell (lt_of_cellq cN1)).trans cN1 | exact (hbq.cell (lt_of_cellq cg)).trans cg | exact (hbq.cell (lt_of_cellq c1)).trans c1)); go_frame) | ((with_reducible apply wq_ld ag35); (focus rfl); (focus rfl); (focus (intro _ hbq; first | exact (hbq.cell (lt_of_cellq cN)).trans cN | exact (hbq.cell (lt_of_cellq cN1)).trans cN1 | exact (hbq.cell (lt_of_cellq cg)).trans cg | exact (hbq.cell (lt_of_cellq c1)).trans c1)); go_frame) | ((with_reducible apply wq_add); (focus rfl); (focus rfl); (focus rfl); (focus omega); (focus omega); go_frame) | ((with_reducible apply wq_sub); (focus rfl); (focus rfl); (focus rfl); (focus omega); (focus omega); go_frame) | ((with_reducible apply wq_mul); (focus rfl); (focus rfl); (focus rfl); (focus omega); (focus omega); go_frame) | ((with_reducible apply wq_rem); (focus rfl); (focus rfl); (focus rfl); (focus omega); (focus omega); go_frame) | ((with_reducible apply wq_eql); (focus rfl); (focus rfl); (focus rfl); go_frame) | ((with_reducible apply wq_neq); (focus rfl); (focus rfl); (focus rfl); go_frame) | ((with_reducible apply wq_lss); (focus rfl); (focus rfl); (focus rfl); go_frame) | ((with_reducible apply wq_leq); (focus rfl); (focus rfl); (focus rfl); go_frame) | ((with_reducible apply wq_gtr); (focus rfl); (focus rfl); (focus rfl); go_frame) | ((with_reducible apply wq_geq); (focus rfl); (focus rfl); (focus rfl); go_frame) | ((with_reducible apply wq_max2); (focus rfl); (focus rfl); (focus rfl); go_frame) | ((with_reducible apply wq_min2); (focus rfl); (focus rfl); (focus rfl); go_frame) | ((with_reducible apply wq_max3); (focus rfl); (focus rfl); (focus rfl); (focus rfl); go_frame) | ((with_reducible apply wq_min3); (focus rfl); (focus rfl); (focus rfl); (focus rfl); go_frame) | ((with_reducible apply wq_neq50); (focus rfl); (focus rfl); (focus rfl); go_frame) | go_big_quiet_step ((intro hbq; exact calls_below hbq (c132 lo hi sl ch _ _ _ hsl (by omega) (by omega)))))); refine wpQuiet_nil ?_; intro wq hbq
                  have hg3 := HRk.out.lt
                  have HRq := HRk.out.keep (hbq.block g hg3)
                  have fq := HRq.fz h
                  have cq := HRq.at (i := h) (by simpa using hlt)
                  have HR4 := Lib.hid (HRq.set h (min X (A + chgd sl k h)))
                  have HB4 := Lib.hid ((HBk.out.trans (hbq.mono (by omega))).setCell (p := ⟨g, h, none⟩) (Nat.le_refl _) (.int .i64 (min X (A + chgd sl k h))))
                  clear hbq HRq v0 v1 v2 v3 cN cN1 cg c1 hg3
                  go_wp2
                  go_roundw
                  case rel => exact ⟨k + 1, by omega, by go_num, Lib.hid (by rw [HST.out]; have := HR4.out; rwa [rowA_set _ _ _ _ hlt] at this), HB4⟩
                  case measure => simp [intOf]; omega
                · obtain rfl : k = 31 := by omega
                  go_wp2
                  go_roundw
                  case rel => exact ⟨h + 1, by omega, by go_num, Lib.hid (by rw [← rowA_next _ _ _ HG.out]; exact HRk.out), Lib.hid (HB3.out.trans HBk.out)⟩
                  case measure => simp [intOf]; omega
        · obtain rfl : h = 31 := by omega
          have HRa := Lib.hid (show RowI wr g (befL lo hi sl f ss i) by have := HR.out; rwa [rowA_all] at this)
          have HMa := Lib.hid ((HM2'.out.below HBg.out).snoc ((HBg.out.cell (p := ⟨w0.heap.size, i, none⟩) hNg).trans C2.out) HRa.out)
          have HBa := Lib.hid (HB12.out.trans (HBg.out.mono (by omega)))
          go_wp2
          go_roundw
          case rel => exact ⟨i + 1, by omega, by go_num, HMa, HBa⟩
          case measure => simp [intOf]; omega
end Go.Proofs.YtncfgkhbenmpoaaGreatDoor
end

section
namespace Go.Proofs.YtncfgkhbenmpoaaGreatDoor
open Go Go.RowKit Go.Proofs Go.Shelf
set_option linter.unusedVariables false

section
variable (good : Int → Nat → Int → Bool) (n : Nat)
/-- the bounds behind so many first heights -/
def rPre (pre : List Int) (i : Nat) : Int × Int := bnd updR (fun f h => good f i h) (31, -1) pre
theorem rPre_snoc (pre : List Int) (f : Int) (i : Nat) : rPre good (pre ++ [f]) i = bndH updR (good f i) (rPre good pre i) (rng 0 30) := by
  unfold rPre bnd; rw [List.foldl_append]; rfl
def rowRB (pre : List Int) : List (Int × Int) := (List.range n).map fun i => rPre good pre i
def rowRP (pre : List Int) (f : Int) (st j : Nat) : List (Int × Int) := (List.range n).map fun i =>
  if i < st then rPre good (pre ++ [f]) i else if i = st then bndH updR (good f i) (rPre good pre i) ((rng 0 30).take j) else rPre good pre i
theorem rowRB_length (pre : List Int) : (rowRB good n pre).length = n := by simp [rowRB]
theorem rowRP_length (pre : List Int) (f : Int) (st j : Nat) : (rowRP good n pre f st j).length = n := by simp [rowRP]
theorem rowRP_start (pre : List Int) (f : Int) : rowRP good n pre f 0 0 = rowRB good n pre := by
  unfold rowRP rowRB
  apply List.map_congr_left
  intro i _
  rw [if_neg (by omega)]
  split
  · rfl
  · rfl
theorem rowRP_next (pre : List Int) (f : Int) (st : Nat) : rowRP good n pre f st 31 = rowRP good n pre f (st + 1) 0 := by
  unfold rowRP
  apply List.map_congr_left
  intro i _
  by_cases h1 : i < st
  · rw [if_pos h1, if_pos (by omega)]
  · rw [if_neg h1]
    by_cases h2 : i = st
    · rw [if_pos h2, if_pos (by omega), rPre_snoc, List.take_of_length_le (by simp [rng])]
    · rw [if_neg h2, if_neg (by omega)]
      split
      · rfl
      · rfl
theorem rowRP_end (pre : List Int) (f : Int) (j : Nat) : rowRP good n pre f n j = rowRB good n (pre ++ [f]) := by
  unfold rowRP rowRB
  apply List.map_congr_left
  intro i hi
  rw [List.mem_range] at hi
  rw [if_pos hi]
theorem rowRP_at (pre : List Int) (f : Int) (st j : Nat) (h : st < n) : spn (rowRP good n pre f st j) st = bndH updR (good f st) (rPre good pre st) ((rng 0 30).take j) := by
  unfold rowRP; rw [spn_map _ _ _ h, if_neg (by omega), if_pos rfl]
theorem rowRP_skip (pre : List Int) (f : Int) (st j : Nat) (hj : j < 31) (hg : good f st j = false) : rowRP good n pre f st (j + 1) = rowRP good n pre f st j := by
  unfold rowRP
  apply List.map_congr_left
  intro i _
  split
  · rfl
  · split
    · rename_i h; subst h
      rw [bndH_snoc _ _ _ _ hj, hg]; rfl
    · rfl
theorem rowRP_set (pre : List Int) (f : Int) (st j : Nat) (hj : j < 31) (hs : st < n) (hg : good f st j = true) : (rowRP good n pre f st j).set st (updR (spn (rowRP good n pre f st j) st) j) = rowRP good n pre f st (j + 1) := by
  apply spn_ext (by simp [rowRP])
  intro i hi
  rw [List.length_set, rowRP_length] at hi
  rw [spn_set _ _ _ (by rw [rowRP_length]; exact hs)]
  by_cases h : st = i
  · subst h
    rw [if_pos rfl, rowRP_at _ _ _ _ _ _ hs, rowRP_at _ _ _ _ _ _ hs, bndH_snoc _ _ _ _ hj, hg]; rfl
  · rw [if_neg h]
    unfold rowRP
    rw [spn_map _ _ _ hi, spn_map _ _ _ hi]
    split
    · rfl
    · rw [if_neg (fun e => h e.symm), if_neg (fun e => h e.symm)]
theorem rowRB_nil : rowRB good n [] = List.replicate n (31, -1) := by
  apply spn_ext (by simp [rowRB])
  intro i hi
  rw [rowRB_length] at hi
  unfold rowRB
  rw [spn_map _ _ _ hi]
  unfold spn
  rw [List.getD_eq_getElem?_getD, List.getElem?_replicate, if_pos hi]; rfl
end
/-- the spans that the reference tells -/
def boundRL (lo hi sl ch : Int) (ss : List (Int × Int)) : List (Int × Int) := (List.range ss.length).map fun i => boundR lo hi sl ch ss i
theorem rowRB_all (lo hi sl ch : Int) (ss : List (Int × Int)) : rowRB (fun f i h => goodR lo hi sl ch ss f i h) ss.length (rng lo hi) = boundRL lo hi sl ch ss := rfl
end Go.Proofs.YtncfgkhbenmpoaaGreatDoor
end

section
namespace Go.Proofs.YtncfgkhbenmpoaaGreatDoor
open Go Go.RowKit Go.Proofs Go.Shelf
set_option linter.unusedVariables false
attribute [local go_sem] imax2 imin2

/-- a row of spans of which the first ones are filled -/
def fillS (v : Int × Int) (n i : Nat) : List (Int × Int) := (List.range n).map fun j => if j < i then v else (0, 0)
@[simp] theorem fillS_length (v : Int × Int) (n i : Nat) : (fillS v n i).length = n := by simp [fillS]
theorem fillS_zero (v : Int × Int) (n : Nat) : fillS v n 0 = List.replicate n (0, 0) := by
  apply spn_ext (by simp)
  intro i hi
  unfold fillS
  rw [spn_map _ _ _ (by simpa using hi), if_neg (by omega)]
  unfold spn
  rw [List.getD_eq_getElem?_getD, List.getElem?_replicate, if_pos (by simpa using hi)]; rfl
theorem fillS_all (v : Int × Int) (n : Nat) : fillS v n n = List.replicate n v := by
  apply spn_ext (by simp)
  intro i hi
  have hi' : i < n := by simpa using hi
  unfold fillS
  rw [spn_map _ _ _ hi', if_pos hi']
  unfold spn
  rw [List.getD_eq_getElem?_getD, List.getElem?_replicate, if_pos hi']; rfl
theorem fillS_set (v : Int × Int) (n i : Nat) (hi : i < n) : (fillS v n i).set i v = fillS v n (i + 1) := by
  apply spn_ext (by simp)
  intro j hj
  have hj' : j < n := by simpa using hj
  rw [spn_set _ _ _ (by simpa using hi)]
  unfold fillS
  rw [spn_map _ _ _ hj', spn_map _ _ _ hj']
  by_cases h : i = j
  · subst h; rw [if_pos rfl, if_pos (by omega)]
  · rw [if_neg h]
    by_cases h2 : j < i
    · rw [if_pos h2, if_pos (by omega)]
    · rw [if_neg h2, if_neg (by omega)]
theorem RowS.keep {w w' : World} {g : Nat} {ss : List (Int × Int)} (h : RowS w g ss) (e : w'.heap[g]? = w.heap[g]?) : RowS w' g ss := e.trans h

theorem rowRP_range {good : Int → Nat → Int → Bool} : ∀ (hs : List Int) (a : Int × Int) (i : Nat) (f : Int), (∀ h ∈ hs, 0 ≤ h ∧ h ≤ 30) → (-1 ≤ a.1 ∧ a.1 ≤ 31 ∧ -1 ≤ a.2 ∧ a.2 ≤ 31) → (-1 ≤ (bndH updR (good f i) a hs).1 ∧ (bndH updR (good f i) a hs).1 ≤ 31 ∧ -1 ≤ (bndH updR (good f i) a hs).2 ∧ (bndH updR (good f i) a hs).2 ≤ 31) := by
  intro hs
  induction hs with
  | nil => intro a i f _ h; exact h
  | cons x r ih =>
    intro a i f hh h
    have hx := hh x List.mem_cons_self
    unfold bndH
    rw [List.foldl_cons]
    refine ih _ i f (fun y hy => hh y (List.mem_cons_of_mem _ hy)) ?_
    by_cases hg : good f i x = true
    · rw [if_pos hg]; simp only [updR]; omega
    · rw [if_neg hg]; exact h

/-- what the bands' box holds -/
def BandCells (w : World) (B : Nat) (lo hi sl ch : Int) (g n : Nat) (f : Int) : Prop :=
  w.cell? ⟨B, 0, none⟩ = some (.int .i64 lo) ∧ w.cell? ⟨B, 1, none⟩ = some (.int .i64 hi) ∧ w.cell? ⟨B, 2, none⟩ = some (.int .i64 sl) ∧ w.cell? ⟨B, 3, none⟩ = some (.int .i64 ch) ∧ w.cell? ⟨B, 4, none⟩ = some (.slice (some ⟨g, 0, none⟩) n n) ∧ w.cell? ⟨B, 5, none⟩ = some (.int .i64 f)
theorem BandCells.below {w w' : World} {B : Nat} {lo hi sl ch : Int} {g n : Nat} {f : Int} (h : BandCells w B lo hi sl ch g n f) (hb : Below w.heap.size w w') : BandCells w' B lo hi sl ch g n f := by
  obtain ⟨a, b, c, d, e, k⟩ := h
  exact ⟨(hb.cell (lt_of_cellq a)).trans a, (hb.cell (lt_of_cellq b)).trans b, (hb.cell (lt_of_cellq c)).trans c, (hb.cell (lt_of_cellq d)).trans d, (hb.cell (lt_of_cellq e)).trans e, (hb.cell (lt_of_cellq k)).trans k⟩

def RefKnownPost (lo hi sl ch : Int) (n : Nat) (gs : List Gau) (w : World) (e : Ending) (w' : World) : Prop :=
  (∃ g, e = .returned (.tuple #[.slice (some ⟨g, 0, none⟩) n n, .bool (decide ((spn (boundRL lo hi sl ch (gaTo lo hi n gs gs.length)) 0).2 ≥ 0))]) ∧ RowS w' g (boundRL lo hi sl ch (gaTo lo hi n gs gs.length))) ∧ Below w.heap.size w w'

set_option maxRecDepth 100000 in
set_option maxHeartbeats 4000000 in
theorem c35 (lo hi sl ch : Int) (p : Option Addr) (cap : Nat) (n : Nat) (gs : List Gau) (w : World) (hr : ruleB lo hi sl ch = true) (hn : 3 ≤ n ∧ n ≤ 24) (hx : RdG w p gs) (hl : gs.length ≤ 1000) (hg : gausB n gs = true) :
    Calls Tryz.prog 35 #[.agg #[.int .i64 lo, .int .i64 hi, .int .i64 sl, .int .i64 ch], .int .i64 n, .slice p gs.length cap] w (RefKnownPost lo hi sl ch n gs w) := by
  obtain ⟨⟨hlo, hlh, hhi⟩, ⟨hs0, hs1⟩, hc0, hc1⟩ := rule_parts hr
  obtain ⟨hn3, hn24⟩ := hn
  obtain ⟨w0, e0, HS, k0, k1, k2, k3, b0⟩ := box4 w (.int .i64 lo) (.int .i64 hi) (.int .i64 sl) (.int .i64 ch) 23
  have HX := Lib.hid (hx.below b0)
  have HG := Lib.hid hg
  have HB0 := Lib.hid b0
  have hbr := lt_of_cellq k0
  simp only at hbr
  have hmk0 := make37 n (by omega) w0
  obtain ⟨w1, e1, HS1⟩ : ∃ w1, w0.alloc (.cells (repC [.int .i64 0, .int .i64 0] n).toArray 50) = w1 ∧ Hid (w1.heap.size = w0.heap.size + 1) := ⟨_, rfl, Lib.hid (by simp)⟩
  have n1 := alloc_new w0 (.cells (repC [.int .i64 0, .int .i64 0] n).toArray 50)
  have a1 := below_alloc1 w0 (.cells (repC [.int .i64 0, .int .i64 0] n).toArray 50)
  rw [e1] at hmk0 n1 a1
  have hmk1 := make37 n (by omega) w1
  obtain ⟨w2, e2, HS2⟩ : ∃ w2, w1.alloc (.cells (repC [.int .i64 0, .int .i64 0] n).toArray 50) = w2 ∧ Hid (w2.heap.size = w1.heap.size + 1) := ⟨_, rfl, Lib.hid (by simp)⟩
  have n2 := alloc_new w1 (.cells (repC [.int .i64 0, .int .i64 0] n).toArray 50)
  have a2 := below_alloc1 w1 (.cells (repC [.int .i64 0, .int .i64 0] n).toArray 50)
  rw [e2] at hmk1 n2 a2
  obtain ⟨g1, hg1⟩ : ∃ g1, w0.heap.size = g1 := ⟨_, rfl⟩
  obtain ⟨g2, hg2⟩ : ∃ g2, w1.heap.size = g2 := ⟨_, rfl⟩
  have HR1 := Lib.hid (show RowS w2 g1 (fillS (lo, hi) n 0) by
    unfold RowS; rw [fillS_zero, ← spV_rep, ← hg1]; exact (a2.block _ (block_lt n1)).trans n1)
  have HR2 := Lib.hid (show RowS w2 g2 (fillS (31, -1) n 0) by
    unfold RowS; rw [fillS_zero, ← spV_rep, ← hg2]; exact n2)
  have HBW := Lib.hid (show Below w0.heap.size w0 w2 from a1.trans (a2.mono a1.size))
  have hg12 : g1 < g2 := by have := HS1.out; omega
  have hg0 : w0.heap.size ≤ g1 := by omega
  have hgb : w.heap.size < g1 := by omega
  clear hx hg b0 n1 n2 a1 a2 e1 e2 hr
  go_enter Tryz.func35, Tryz.ntmps35
  rw [hg1] at hmk0
  rw [hg2] at hmk1
  go_wp2
  clear e0 hmk0 hmk1
  go_loopw [10] (fun v wr => ∃ i : Nat, i ≤ n ∧ v = .int .i64 i ∧ Hid (RowS wr g1 (fillS (lo, hi) n i)) ∧ Hid (RowS wr g2 (fillS (31, -1) n i)) ∧ Hid (Below w0.heap.size w0 wr)) (fun v _ => n - (intOf v).toNat)
  case atStart => exact ⟨0, Nat.zero_le _, rfl, HR1, HR2, HBW⟩
  case round =>
    obtain ⟨i, hi', rfl, HA, HC, HB⟩ := hrel
    by_cases hlt : i < n
    · have hltI : decide ((i : Int) < (n : Int)) = true := by simp; omega
      have j0 := (HB.out.cell (lt_of_cellq k0)).trans k0
      have j1 := (HB.out.cell (lt_of_cellq k1)).trans k1
      obtain ⟨d1, d2⟩ := HA.out.at (i := i) (by simpa using hlt)
      have z1 := frozen_of_row _ _ (i * 2) _ _ HA.out
      have z2 := frozen_of_row _ _ (i * 2 + 1) _ _ HA.out
      have hi2 : i * 2 + 1 < n * 2 := by omega
      go_upto_region 7 with (fail)
      have HA' := Lib.hid (show RowS ((wr.setCell ⟨g1, i * 2, none⟩ (.int .i64 lo)).setCell ⟨g1, i * 2 + 1, none⟩ (.int .i64 hi)) g1 (fillS (lo, hi) n (i + 1)) by
        rw [← fillS_set _ _ _ hlt]; exact HA.out.set (i := i) (by simpa using hlt) (lo, hi))
      have HC' := Lib.hid (show RowS ((wr.setCell ⟨g1, i * 2, none⟩ (.int .i64 lo)).setCell ⟨g1, i * 2 + 1, none⟩ (.int .i64 hi)) g2 (fillS (31, -1) n i) from
        HC.out.keep ((Below.heap_setCell _ _ _ _ (by show g2 ≠ g1; omega)).trans (Below.heap_setCell _ _ _ _ (by show g2 ≠ g1; omega))))
      have HB' := Lib.hid ((HB.out.setCell (p := ⟨g1, i * 2, none⟩) hg0 (.int .i64 lo)).setCell (p := ⟨g1, i * 2 + 1, none⟩) hg0 (.int .i64 hi))
      generalize (wr.setCell ⟨g1, i * 2, none⟩ (.int .i64 lo)).setCell ⟨g1, i * 2 + 1, none⟩ (.int .i64 hi) = ws at *
      clear z1 z2 d1 d2 j0 j1 HA HC HB
      obtain ⟨d1, d2⟩ := HC'.out.at (i := i) (by simpa using hlt)
      have z1 := frozen_of_row _ _ (i * 2) _ _ HC'.out
      have z2 := frozen_of_row _ _ (i * 2 + 1) _ _ HC'.out
      go_wp2
      have HC2 := Lib.hid (show RowS ((ws.setCell ⟨g2, i * 2, none⟩ (.int .i64 31)).setCell ⟨g2, i * 2 + 1, none⟩ (.int .i64 (-1))) g2 (fillS (31, -1) n (i + 1)) by
        rw [← fillS_set _ _ _ hlt]; exact HC'.out.set (i := i) (by simpa using hlt) (31, -1))
      have HA2 := Lib.hid (show RowS ((ws.setCell ⟨g2, i * 2, none⟩ (.int .i64 31)).setCell ⟨g2, i * 2 + 1, none⟩ (.int .i64 (-1))) g1 (fillS (lo, hi) n (i + 1)) from
        HA'.out.keep ((Below.heap_setCell _ _ _ _ (by show g1 ≠ g2; omega)).trans (Below.heap_setCell _ _ _ _ (by show g1 ≠ g2; omega))))
      have HB2 := Lib.hid ((HB'.out.setCell (p := ⟨g2, i * 2, none⟩) (by show w0.heap.size ≤ g2; omega) (.int .i64 31)).setCell (p := ⟨g2, i * 2 + 1, none⟩) (by show w0.heap.size ≤ g2; omega) (.int .i64 (-1)))
      go_roundw
      case rel => exact ⟨i + 1, by omega, by go_num, HA2, HC2, HB2⟩
      case measure => simp [intOf]; omega
    · obtain rfl : i = n := by omega
      have hltI : decide ((i : Int) < (i : Int)) = false := by simp
      rw [fillS_all] at HA HC
      have HA := Lib.hid (show RowS wr g1 (gaTo lo hi i gs 0) from HA.out)
      clear hlt HR1 HR2 HBW
      obtain ⟨wm, rfl⟩ : ∃ wm : World, wm = wr := ⟨_, rfl⟩
      go_wp2
      go_loopw [11] (fun v wr => ∃ k : Nat, k ≤ gs.length ∧ v = .int .i64 k ∧ Hid (RowS wr g1 (gaTo lo hi i gs k)) ∧ Hid (RowS wr g2 (List.replicate i (31, -1))) ∧ Hid (Below w0.heap.size w0 wr)) (fun v _ => gs.length - (intOf v).toNat)
      case atStart => exact ⟨0, Nat.zero_le _, rfl, HA, HC, HB⟩
      case round =>
        obtain ⟨k, hk, rfl, HR, HQ, HBk⟩ := hrel
        by_cases hlt : k < gs.length
        · have hltJ : decide ((k : Int) < (gs.length : Int)) = true := by simp; omega
          obtain ⟨b, off, rfl, hc⟩ := (HX.out.below HBk.out).at hlt
          obtain ⟨e1, e2, e3⟩ := hc k hlt
          obtain ⟨⟨hst0, hst1⟩, ⟨hh0, hh1⟩, ho0, ho1⟩ := gauge_at HG.out hlt
          obtain ⟨st, hst⟩ : ∃ st : Nat, (gg gs k).step = st := ⟨(gg gs k).step.toNat, by omega⟩
          have hstn : st < i := by omega
          have hrg := gaTo_range lo hi i gs ⟨hlo, by omega⟩ ⟨by omega, hhi⟩ HG.out k hk st hstn
          obtain ⟨f1, f2⟩ := HR.out.at (i := st) (by rw [gaTo_length]; exact hstn)
          have HST := Lib.hid (show gaTo lo hi i gs (k + 1) = (gaTo lo hi i gs k).set st (max (spn (gaTo lo hi i gs k) st).1 ((gg gs k).height - (gg gs k).off), min (spn (gaTo lo hi i gs k) st).2 ((gg gs k).height + (gg gs k).off)) by simp only [gaTo]; rw [hst]; rfl)
          rw [hst] at e1
          generalize (gg gs k).height = hgt at *
          generalize (gg gs k).off = hof at *
          obtain ⟨L0, hL0⟩ : ∃ L0, (spn (gaTo lo hi i gs k) st).1 = L0 := ⟨_, rfl⟩
          obtain ⟨U0, hU0⟩ : ∃ U0, (spn (gaTo lo hi i gs k) st).2 = U0 := ⟨_, rfl⟩
          rw [hL0] at f1 hrg HST
          rw [hU0] at f2 hrg HST
          obtain ⟨m1, m2, m3, m4⟩ := hrg
          obtain ⟨wg, ewg, HSW, j0, j1, j2, bg⟩ := box3 wr (.int .i64 st) (.int .i64 hgt) (.int .i64 hof) 47
          have f1 := (bg.cell (lt_of_cellq f1)).trans f1
          have f2 := (bg.cell (lt_of_cellq f2)).trans f2
          obtain ⟨wb, ewb, HSB, i0, i1, bb⟩ := box2 wg (.int .i64 L0) (.int .i64 U0) 50
          have x0 := (bb.cell (lt_of_cellq j0)).trans j0
          have x1 := (bb.cell (lt_of_cellq j1)).trans j1
          have x2 := (bb.cell (lt_of_cellq j2)).trans j2
          have HRb := Lib.hid (show RowS wb g1 (gaTo lo hi i gs k) from ((bb.block g1 (by have := bg.size; have := block_lt HR.out; omega)).trans (bg.block g1 (block_lt HR.out))).trans HR.out)
          have HQb := Lib.hid (show RowS wb g2 (List.replicate i (31, -1)) from ((bb.block g2 (by have := bg.size; have := block_lt HQ.out; omega)).trans (bg.block g2 (block_lt HQ.out))).trans HQ.out)
          have HBb := Lib.hid ((HBk.out.trans (bg.mono HBk.out.size)).trans (bb.mono (by have := bg.size; have := HBk.out.size; omega)))
          have z1 := frozen_of_row _ _ (st * 2) _ _ HRb.out
          have z2 := frozen_of_row _ _ (st * 2 + 1) _ _ HRb.out
          obtain ⟨y1, y2⟩ := HRb.out.at (i := st) (by rw [gaTo_length]; exact hstn)
          have hst2 : st * 2 + 1 < i * 2 := by omega
          have hw1 : IntKind.i64.wrap (hgt - hof) = hgt - hof := w64 _ (by omega) (by omega)
          have hw2 : IntKind.i64.wrap (hgt + hof) = hgt + hof := w64 _ (by omega) (by omega)
          have hgw : g1 < wr.heap.size := block_lt HR.out
          clear hst hst0 hst1 hc bg bb hL0 hU0
          go_wp2
          have HR3 := Lib.hid (show RowS ((wb.setCell ⟨g1, st * 2, none⟩ (.int .i64 (max L0 (hgt - hof)))).setCell ⟨g1, st * 2 + 1, none⟩ (.int .i64 (min U0 (hgt + hof)))) g1 (gaTo lo hi i gs (k + 1)) by
            rw [HST.out]; exact HRb.out.set (i := st) (by rw [gaTo_length]; exact hstn) (max L0 (hgt - hof), min U0 (hgt + hof)))
          have HQ3 := Lib.hid (show RowS ((wb.setCell ⟨g1, st * 2, none⟩ (.int .i64 (max L0 (hgt - hof)))).setCell ⟨g1, st * 2 + 1, none⟩ (.int .i64 (min U0 (hgt + hof)))) g2 (List.replicate i (31, -1)) from
            HQb.out.keep ((Below.heap_setCell _ _ _ _ (by show g2 ≠ g1; omega)).trans (Below.heap_setCell _ _ _ _ (by show g2 ≠ g1; omega))))
          have HB3 := Lib.hid ((HBb.out.setCell (p := ⟨g1, st * 2, none⟩) hg0 (.int .i64 (max L0 (hgt - hof)))).setCell (p := ⟨g1, st * 2 + 1, none⟩) hg0 (.int .i64 (min U0 (hgt + hof))))
          go_roundw
          case rel => exact ⟨k + 1, by omega, by go_num, HR3, HQ3, HB3⟩
          case measure => simp [intOf]; omega
        · obtain rfl : k = gs.length := by omega
          have hltJ : decide ((gs.length : Int) < (gs.length : Int)) = false := by simp
          obtain ⟨wm2, rfl⟩ : ∃ wm2 : World, wm2 = wr := ⟨_, rfl⟩
          obtain ⟨ss, hss⟩ : ∃ ss, gaTo lo hi i gs gs.length = ss := ⟨_, rfl⟩
          have hsl : ss.length = i := by rw [← hss, gaTo_length]
          rw [hss] at HR
          have HSS := Lib.hid hss
          subst hsl
          have hmk : ∃ good : Int → Nat → Int → Bool, (fun f i h => goodR lo hi sl ch ss f i h) = good := ⟨_, rfl⟩
          obtain ⟨good, hgood⟩ := hmk
          have HGD := Lib.hid (fun f st h => show good f st h = decide (befF lo hi sl f ss st h + aft0 lo hi sl f ss st h ≤ ch) by rw [← hgood]; rfl)
          have HALL := Lib.hid (show rowRB good ss.length (rng lo hi) = boundRL lo hi sl ch ss by rw [← hgood]; exact rowRB_all lo hi sl ch ss)
          have HQ := Lib.hid (show RowS wm2 g2 (rowRB good ss.length ((rng lo hi).take 0)) by rw [List.take_zero, rowRB_nil]; exact HQ.out)
          have j0 := (HBk.out.cell (lt_of_cellq k0)).trans k0
          have hlt0 : gs.length ≤ gs.length := Nat.le_refl _
          clear hss hgood hlt hk hi' HX HG HA HC HB
          go_wp2
          clear j0
          go_loopw [14] (fun v wr => ∃ k : Nat, k ≤ (hi - lo + 1).toNat ∧ v = .int .i64 (lo + k) ∧ Hid (RowS wr g1 ss) ∧ Hid (RowS wr g2 (rowRB good ss.length ((rng lo hi).take k))) ∧ Hid (Below w0.heap.size w0 wr)) (fun v _ => (hi + 1 - intOf v).toNat)
          case atStart => exact ⟨0, Nat.zero_le _, by simp, HR, HQ, HBk⟩
          case round =>
            obtain ⟨k, hk, rfl, HR1, HR2, HB1⟩ := hrel
            by_cases hlt : k < (hi - lo + 1).toNat
            · have hle : lo + (k : Int) ≤ hi := by omega
              obtain ⟨f, hf⟩ : ∃ f : Nat, lo + (k : Int) = f := ⟨(lo + k).toNat, by omega⟩
              have HF := Lib.hid hf
              rw [hf] at hle
              rw [hf]
              have hf30 : 0 ≤ (f : Int) ∧ (f : Int) ≤ 30 := by omega
              have hleI : decide ((f : Int) ≤ hi) = true := by simp; omega
              have j0 := (HB1.out.cell (lt_of_cellq k0)).trans k0
              have j1 := (HB1.out.cell (lt_of_cellq k1)).trans k1
              have j2 := (HB1.out.cell (lt_of_cellq k2)).trans k2
              have j3 := (HB1.out.cell (lt_of_cellq k3)).trans k3
              obtain ⟨w5, e5, HS5, c0, c1, c2, c3, c4, c5, b5⟩ := box6 wr (.int .i64 lo) (.int .i64 hi) (.int .i64 sl) (.int .i64 ch) (.slice (some ⟨g1, 0, none⟩) ss.length ss.length) (.int .i64 f) 118
              have HSP := Lib.hid (show RdS w5 (some ⟨g1, 0, none⟩) ss from RdS.below (HR1.out.rd) b5)
              have hBC : BandCells w5 wr.heap.size lo hi sl ch g1 ss.length f := ⟨c0, c1, c2, c3, c4, c5⟩
              have HB5 := Lib.hid b5
              have hgw1 : g1 < wr.heap.size := block_lt HR1.out
              have hgw2 : g2 < wr.heap.size := block_lt HR2.out
              have hsl30 : 0 ≤ sl ∧ sl ≤ 30 := ⟨hs0, hs1⟩
              have hlen : ss.length ≤ 1000 := by omega
              have HLE := Lib.hid hle
              clear b5 hf hle
              go_wp2
              clear e5
              go_region_held3 (fun w' => w'.cell? ⟨wr.heap.size, 0, none⟩ = some (.int .i64 lo) ∧ w'.cell? ⟨wr.heap.size, 1, none⟩ = some (.int .i64 hi) ∧ w'.cell? ⟨wr.heap.size, 2, none⟩ = some (.int .i64 sl) ∧ w'.cell? ⟨wr.heap.size, 3, none⟩ = some (.int .i64 ch) ∧ w'.cell? ⟨wr.heap.size, 4, none⟩ = some (.slice (some ⟨g1, 0, none⟩) ss.length ss.length) ∧ w'.cell? ⟨wr.heap.size, 5, none⟩ = some (.int .i64 f))
                  (first | exact hBC | exact kA | exact kC)
                  (first
                    | (go_at_call 98; (with_reducible refine (c98 lo hi sl ch f (some ⟨g1, 0, none⟩) ss.length ss hlen hsl30 hf30 _ (HSP.out.below ((Below.refl _ _).drew))).mono ?_); rintro e wa ⟨N1, rfl, hN1, hM1, hba⟩
                       have hwa : Below w5.heap.size w5 wa := ⟨hba.os, hba.tape, hba.output, hba.size, hba.block⟩
                       have kA : BandCells wa wr.heap.size lo hi sl ch g1 ss.length f := hBC.below hwa)
                    | (go_at_call 99; (with_reducible refine (c99 lo hi sl ch f (some ⟨g1, 0, none⟩) ss.length ss hlen hsl30 hf30 _ (HSP.out.below hwa)).mono ?_); rintro e wc ⟨N2, rfl, hN2, hM2, hbc⟩
                       have kC : BandCells wc wr.heap.size lo hi sl ch g1 ss.length f := kA.below hbc))
              have hb5a : Below w5.heap.size w5 wa := ⟨hba.os, hba.tape, hba.output, hba.size, hba.block⟩
              have hN1' : w5.heap.size ≤ N1 := hN1
              have hrc : Below wr.heap.size wr wc := HB5.out.trans ((hb5a.trans (hbc.mono hb5a.size)).mono HB5.out.size)
              have HM1 := Lib.hid ((hM1.below hbc).mono hbc.size)
              have HM2 := Lib.hid hM2
              have HR1c := Lib.hid (show RowS wc g1 ss from (hrc.block g1 hgw1).trans HR1.out)
              have HBc := Lib.hid (HB1.out.trans (hrc.mono HB1.out.size))
              obtain ⟨pre, hpre⟩ : ∃ pre, (rng lo hi).take k = pre := ⟨_, rfl⟩
              have HPRE := Lib.hid (show (rng lo hi).take (k + 1) = pre ++ [(f : Int)] by rw [rng_take lo hi k hlt, hpre, HF.out])
              have HR2c := Lib.hid (show RowS wc g2 (rowRP good ss.length pre f 0 0) by rw [rowRP_start, ← hpre]; exact (hrc.block g2 hgw2).trans HR2.out)
              have hw5 := HB5.out.size
              have hN2' : w5.heap.size ≤ N2 := by have := hb5a.size; omega
              have hn1 : ¬ N1 = g2 := by omega
              have hn2 : ¬ N2 = g2 := by omega
              have K3 := Lib.hid ((HBc.out.cell (lt_of_cellq k3)).trans k3)
              have hcg1 : g1 < wc.heap.size := block_lt HR1c.out
              have hbrc : w.heap.size < wc.heap.size := by omega
              clear hb5a hN1 hN2 hba hbc hM1 hM2 kA kC hBC hrc c0 c1 c2 c3 c4 c5 j0 j1 j2 j3 hpre HR1 HR2 HB1 HB5 HSP
              go_wp2
              go_loopw [18] (fun v wx => ∃ st : Nat, st ≤ ss.length ∧ v = .int .i64 st ∧ Hid (RowS wx g2 (rowRP good ss.length pre f st 0)) ∧ Hid (BelX (fun x => x = g2) wc.heap.size wc wx)) (fun v _ => ss.length - (intOf v).toNat)
              case atStart => exact ⟨0, Nat.zero_le _, rfl, HR2c, Lib.hid (BelX.refl _ _ _)⟩
              case round =>
                obtain ⟨st, hst, rfl, HRx, HBx⟩ := hrel
                by_cases hstl : st < ss.length
                · have hstI : decide ((st : Int) < (ss.length : Int)) = true := by simp; omega
                  go_wp2
                  go_loopw [19] (fun v wx => ∃ j : Nat, j ≤ 31 ∧ v = .int .i64 j ∧ Hid (RowS wx g2 (rowRP good ss.length pre f st j)) ∧ Hid (BelX (fun x => x = g2) wc.heap.size wc wx)) (fun v _ => 31 - (intOf v).toNat)
                  case atStart => exact ⟨0, Nat.zero_le _, rfl, HRx, HBx⟩
                  case round =>
                    obtain ⟨j, hj, rfl, HRy, HBy⟩ := hrel
                    by_cases hj31 : j < 31
                    · have hjI : decide ((j : Int) ≤ 30) = true := by simp; omega
                      have hj30 : (j : Int) ≤ 30 := by omega
                      obtain ⟨ga, cA, hga1, hga2, hra⟩ := HM1.out.at (j := st) (Nat.zero_le _) hstl
                      obtain ⟨gc, cC, hgc1, hgc2, hrc⟩ := HM2.out.at (j := st) (Nat.zero_le _) hstl
                      have cA' : wr.cell? ⟨N1, 0 + st, none⟩ = some (.slice (some ⟨ga, 0, none⟩) 31 31) := by
                        rw [Nat.zero_add]; exact (HBy.out.cell (lt_of_cellq cA) hn1).trans cA
                      have cC' : wr.cell? ⟨N2, 0 + st, none⟩ = some (.slice (some ⟨gc, 0, none⟩) 31 31) := by
                        rw [Nat.zero_add]; exact (HBy.out.cell (lt_of_cellq cC) hn2).trans cC
                      have va := hra.at (i := j) (by unfold befL; simp; omega)
                      have vc := hrc.at (i := j) (by unfold aftL; simp; omega)
                      unfold befL at va
                      unfold aftL at vc
                      rw [gi_rowW _ _ hj31] at va vc
                      have va' : wr.cell? ⟨ga, 0 + j, none⟩ = some (.int .i64 (befF lo hi sl f ss st j)) := by
                        rw [Nat.zero_add]; exact (HBy.out.cell (lt_of_cellq va) (by show ¬ ga = g2; omega)).trans va
                      have vc' : wr.cell? ⟨gc, 0 + j, none⟩ = some (.int .i64 (aft0 lo hi sl f ss st j)) := by
                        rw [Nat.zero_add]; exact (HBy.out.cell (lt_of_cellq vc) (by show ¬ gc = g2; omega)).trans vc
                      have k3' : wr.cell? ⟨w.heap.size, 3, none⟩ = some (.int .i64 ch) := (HBy.out.cell (lt_of_cellq K3.out) (by show ¬ w.heap.size = g2; omega)).trans K3.out
                      have HGF := Lib.hid (HGD.out f st j)
                      have rb := befF_range lo hi sl f ss st j
                      have ra := aft0_range lo hi sl f ss st j
                      generalize befF lo hi sl f ss st j = bv at *
                      generalize aft0 lo hi sl f ss st j = av at *
                      clear cA cC hra hrc va vc
                      by_cases hg : bv + av ≤ ch
                      · have hgI : decide (bv + av ≤ ch) = true := by simpa using hg
                        have HSET := Lib.hid (rowRP_set good ss.length pre f st j hj31 hstl (by rw [HGF.out]; exact hgI))
                        go_wp2
                        refine wp_region_quiet_lit (by kernel_rfl) (by kernel_rfl) ?_; (repeat (first | ((with_reducible apply wq_ix Tryz.underlying24 sz3); (focus rfl); (focus rfl); (focus rfl); (focus omega); (try simp only [Nat.mul_one]); go_frame) | ((with_reducible apply wq_ix Tryz.underlying37 sz50); (focus rfl); (focus rfl); (focus rfl); (focus omega); go_frame) | ((with_reducible apply wq_ix Tryz.underlying35 sz47); (focus rfl); (focus rfl); (focus rfl); (focus omega); (try simp only [Nat.mul_one]); go_frame) | ((with_reducible apply wq_ix Tryz.underlying90 sz24); (focus rfl); (focus rfl); (focus rfl); (focus omega); (try simp only [Nat.mul_one]); go_frame) | ((with_reducible apply wq_ld ag3); (focus rfl); (focus rfl); (focus (rintro _ ⟨_, rfl⟩; first | exact cA' | exact va' | exact cC' | exact vc' | exact k3')); go_frame) | ((with_reducible apply wq_ld ag24); (focus rfl); (focus rfl); (focus (rintro _ ⟨_, rfl⟩; first | exact cA' | exact va' | exact cC' | exact vc' | exact k3')); go_frame) | ((with_reducible apply wq_ld ag37); (focus rfl); (focus rfl); (focus (rintro _ ⟨_, rfl⟩; first | exact cA' | exact va' | exact cC' | exact vc' | exact k3')); go_frame) | ((with_reducible apply wq_ld ag90); (focus rfl); (focus rfl); (focus (rintro _ ⟨_, rfl⟩; first | exact cA' | exact va' | exact cC' | exact vc' | exact k3')); go_frame) | ((with_reducible apply wq_ld ag35); (focus rfl); (focus rfl); (focus (rintro _ ⟨_, rfl⟩; first | exact cA' | exact va' | exact cC' | exact vc' | exact k3')); go_frame) | ((with_reducible apply wq_add); (focus rfl); (focus rfl); (focus rfl); (focus omega); (focus omega); go_frame) | ((with_reducible apply wq_sub); (focus rfl); (focus rfl); (focus rfl); (focus omega); (focus omega); go_frame) | ((with_reducible apply wq_mul); (focus rfl); (focus rfl); (focus rfl); (focus omega); (focus omega); go_frame) | ((with_reducible apply wq_rem); (focus rfl); (focus rfl); (focus rfl); (focus omega); (focus omega); go_frame) | ((with_reducible apply wq_eql); (focus rfl); (focus rfl); (focus rfl); go_frame) | ((with_reducible apply wq_neq); (focus rfl); (focus rfl); (focus rfl); go_frame) | ((with_reducible apply wq_lss); (focus rfl); (focus rfl); (focus rfl); go_frame) | ((with_reducible apply wq_leq); (focus rfl); (focus rfl); (focus rfl); go_frame) | ((with_reducible apply wq_gtr); (focus rfl); (focus rfl); (focus rfl); go_frame) | ((with_reducible apply wq_geq); (focus rfl); (focus rfl); (focus rfl); go_frame) | ((with_reducible apply wq_max2); (focus rfl); (focus rfl); (focus rfl); go_frame) | ((with_reducible apply wq_min2); (focus rfl); (focus rfl); (focus rfl); go_frame) | ((with_reducible apply wq_max3); (focus rfl); (focus rfl); (focus rfl); (focus rfl); go_frame) | ((with_reducible apply wq_min3); (focus rfl); (focus rfl); (focus rfl); (focus rfl); go_frame) | go_big_quiet_step (fail))); refine wpQuiet_nil ?_; rintro _ ⟨nq, rfl⟩
                        go_wp2
                        have HRd := Lib.hid (show RowS (wr.drewN nq) g2 (rowRP good ss.length pre f st j) from HRy.out)
                        have HBd := Lib.hid (show BelX (fun x => x = g2) wc.heap.size wc (wr.drewN nq) from ⟨HBy.out.os, HBy.out.tape, HBy.out.output, HBy.out.size, HBy.out.block⟩)
                        generalize wr.drewN nq = wd at *
                        clear cA' va' cC' vc' k3'
                        obtain ⟨A, hA⟩ : ∃ A, (spn (rowRP good ss.length pre f st j) st).1 = A := ⟨_, rfl⟩
                        obtain ⟨B, hB'⟩ : ∃ B, (spn (rowRP good ss.length pre f st j) st).2 = B := ⟨_, rfl⟩
                        have HEQ := Lib.hid (show (rowRP good ss.length pre f st j).set st (min A j, max B j) = rowRP good ss.length pre f st (j + 1) by
                          rw [← HSET.out, ← hA, ← hB']; rfl)
                        obtain ⟨y1, y2⟩ := HRd.out.at (i := st) (by rw [rowRP_length]; exact hstl)
                        rw [hA] at y1
                        rw [hB'] at y2
                        have x1 := frozen_of_row _ _ (st * 2) _ _ HRd.out
                        have x2 := frozen_of_row _ _ (st * 2 + 1) _ _ HRd.out
                        have hst2 : st * 2 + 1 < ss.length * 2 := by omega
                        clear hA hB' hg hgI
                        go_still_tail 18, (by kernel_rfl)
                        go_wp2
                        have HRe := Lib.hid (show RowS ((wd.setCell ⟨g2, st * 2, none⟩ (.int .i64 (min A j))).setCell ⟨g2, st * 2 + 1, none⟩ (.int .i64 (max B j))) g2 (rowRP good ss.length pre f st (j + 1)) by
                          rw [← HEQ.out]; exact HRd.out.set (i := st) (by rw [rowRP_length]; exact hstl) (min A j, max B j))
                        have HBe := Lib.hid ((HBd.out.setCell (p := ⟨g2, st * 2, none⟩) (.inl rfl) (.int .i64 (min A j))).setCell (p := ⟨g2, st * 2 + 1, none⟩) (.inl rfl) (.int .i64 (max B j)))
                        go_roundw
                        case rel => exact ⟨j + 1, by omega, by go_num, HRe, Lib.hid ⟨HBe.out.os, HBe.out.tape, HBe.out.output, HBe.out.size, HBe.out.block⟩⟩
                        case measure => simp [intOf]; omega
                      · have hgI : decide (bv + av ≤ ch) = false := by simpa using hg
                        have HSK := Lib.hid (rowRP_skip good ss.length pre f st j hj31 (by rw [HGF.out]; exact hgI))
                        go_wp2
                        refine wp_region_quiet_lit (by kernel_rfl) (by kernel_rfl) ?_; (repeat (first | ((with_reducible apply wq_ix Tryz.underlying24 sz3); (focus rfl); (focus rfl); (focus rfl); (focus omega); (try simp only [Nat.mul_one]); go_frame) | ((with_reducible apply wq_ix Tryz.underlying37 sz50); (focus rfl); (focus rfl); (focus rfl); (focus omega); go_frame) | ((with_reducible apply wq_ix Tryz.underlying35 sz47); (focus rfl); (focus rfl); (focus rfl); (focus omega); (try simp only [Nat.mul_one]); go_frame) | ((with_reducible apply wq_ix Tryz.underlying90 sz24); (focus rfl); (focus rfl); (focus rfl); (focus omega); (try simp only [Nat.mul_one]); go_frame) | ((with_reducible apply wq_ld ag3); (focus rfl); (focus rfl); (focus (rintro _ ⟨_, rfl⟩; first | exact cA' | exact va' | exact cC' | exact vc' | exact k3')); go_frame) | ((with_reducible apply wq_ld ag24); (focus rfl); (focus rfl); (focus (rintro _ ⟨_, rfl⟩; first | exact cA' | exact va' | exact cC' | exact vc' | exact k3')); go_frame) | ((with_reducible apply wq_ld ag37); (focus rfl); (focus rfl); (focus (rintro _ ⟨_, rfl⟩; first | exact cA' | exact va' | exact cC' | exact vc' | exact k3')); go_frame) | ((with_reducible apply wq_ld ag90); (focus rfl); (focus rfl); (focus (rintro _ ⟨_, rfl⟩; first | exact cA' | exact va' | exact cC' | exact vc' | exact k3')); go_frame) | ((with_reducible apply wq_ld ag35); (focus rfl); (focus rfl); (focus (rintro _ ⟨_, rfl⟩; first | exact cA' | exact va' | exact cC' | exact vc' | exact k3')); go_frame) | ((with_reducible apply wq_add); (focus rfl); (focus rfl); (focus rfl); (focus omega); (focus omega); go_frame) | ((with_reducible apply wq_sub); (focus rfl); (focus rfl); (focus rfl); (focus omega); (focus omega); go_frame) | ((with_reducible apply wq_mul); (focus rfl); (focus rfl); (focus rfl); (focus omega); (focus omega); go_frame) | ((with_reducible apply wq_rem); (focus rfl); (focus rfl); (focus rfl); (focus omega); (focus omega); go_frame) | ((with_reducible apply wq_eql); (focus rfl); (focus rfl); (focus rfl); go_frame) | ((with_reducible apply wq_neq); (focus rfl); (focus rfl); (focus rfl); go_frame) | ((with_reducible apply wq_lss); (focus rfl); (focus rfl); (focus rfl); go_frame) | ((with_reducible apply wq_leq); (focus rfl); (focus rfl); (focus rfl); go_frame) | ((with_reducible apply wq_gtr); (focus rfl); (focus rfl); (focus rfl); go_frame) | ((with_reducible apply wq_geq); (focus rfl); (focus rfl); (focus rfl); go_frame) | ((with_reducible apply wq_max2); (focus rfl); (focus rfl); (focus rfl); go_frame) | ((with_reducible apply wq_min2); (focus rfl); (focus rfl); (focus rfl); go_frame) | ((with_reducible apply wq_max3); (focus rfl); (focus rfl); (focus rfl); (focus rfl); go_frame) | ((with_reducible apply wq_min3); (focus rfl); (focus rfl); (focus rfl); (focus rfl); go_frame) | go_big_quiet_step (fail))); refine wpQuiet_nil ?_; rintro _ ⟨nq, rfl⟩
                        go_wp2
                        go_roundw
                        case rel => exact ⟨j + 1, by omega, by go_num, Lib.hid (by rw [HSK.out]; exact HRy.out), Lib.hid ⟨HBy.out.os, HBy.out.tape, HBy.out.output, HBy.out.size, HBy.out.block⟩⟩
                        case measure => simp [intOf]; omega
                    · obtain rfl : j = 31 := by omega
                      have hjI : decide ((31 : Int) ≤ 30) = false := by simp
                      rw [rowRP_next] at HRy
                      go_wp2
                      go_roundw
                      case rel => exact ⟨st + 1, by omega, by go_num, HRy, HBy⟩
                      case measure => simp [intOf]; omega
                · obtain rfl : st = ss.length := by omega
                  have hstI : decide ((ss.length : Int) < (ss.length : Int)) = false := by simp
                  have hfw : IntKind.i64.wrap ((f : Int) + 1) = (f : Int) + 1 := w64 _ (by omega) (by omega)
                  have HBo := Lib.hid (HBc.out.trans (HBx.out.below (B' := w0.heap.size) HBc.out.size (fun k hk => by rw [hk]; omega)))
                  have HR1o := Lib.hid (show RowS wr g1 ss from (HBx.out.block g1 hcg1 (by show ¬ g1 = g2; omega)).trans HR1c.out)
                  go_wp2
                  go_roundw
                  case rel => exact ⟨k + 1, by omega, by have := HF.out; congr 1; omega, HR1o, Lib.hid (by rw [HPRE.out, ← rowRP_end good ss.length pre f 0]; exact HRx.out), HBo⟩
                  case measure => simp [intOf]; have := HF.out; have := HLE.out; omega
            · obtain rfl : k = (hi - lo + 1).toNat := by omega
              have hgt : decide (lo + (((hi - lo + 1).toNat : Nat) : Int) ≤ hi) = false := by simp; omega
              have j1 := (HB1.out.cell (lt_of_cellq k1)).trans k1
              rw [List.take_of_length_le (by rw [rng_length]; omega), HALL.out] at HR2
              obtain ⟨a1, a2⟩ := HR2.out.at (i := 0) (by simp [boundRL]; omega)
              simp only [Nat.zero_mul, Nat.zero_add] at a1 a2
              have hnl : (0 : Int) < (ss.length : Int) := by omega
              have hnl2 : 0 < ss.length := by omega
              clear hlt hk
              go_wp2
              refine wp_region_quiet_lit (by kernel_rfl) (by kernel_rfl) ?_; (repeat (first | ((with_reducible apply wq_ix Tryz.underlying24 sz3); (focus rfl); (focus rfl); (focus rfl); (focus omega); (try simp only [Nat.mul_one]); go_frame) | ((with_reducible apply wq_ix Tryz.underlying37 sz50); (focus rfl); (focus rfl); (focus rfl); (focus omega); go_frame) | ((with_reducible apply wq_ix Tryz.underlying35 sz47); (focus rfl); (focus rfl); (focus rfl); (focus omega); (try simp only [Nat.mul_one]); go_frame) | ((with_reducible apply wq_ix Tryz.underlying90 sz24); (focus rfl); (focus rfl); (focus rfl); (focus omega); (try simp only [Nat.mul_one]); go_frame) | ((with_reducible apply wq_ld ag3); (focus rfl); (focus rfl); (focus (rintro _ ⟨_, rfl⟩; first | exact a2)); go_frame) | ((with_reducible apply wq_ld ag24); (focus rfl); (focus rfl); (focus (rintro _ ⟨_, rfl⟩; first | exact a2)); go_frame) | ((with_reducible apply wq_ld ag37); (focus rfl); (focus rfl); (focus (rintro _ ⟨_, rfl⟩; first | exact a2)); go_frame) | ((with_reducible apply wq_ld ag90); (focus rfl); (focus rfl); (focus (rintro _ ⟨_, rfl⟩; first | exact a2)); go_frame) | ((with_reducible apply wq_ld ag35); (focus rfl); (focus rfl); (focus (rintro _ ⟨_, rfl⟩; first | exact a2)); go_frame) | ((with_reducible apply wq_add); (focus rfl); (focus rfl); (focus rfl); (focus omega); (focus omega); go_frame) | ((with_reducible apply wq_sub); (focus rfl); (focus rfl); (focus rfl); (focus omega); (focus omega); go_frame) | ((with_reducible apply wq_mul); (focus rfl); (focus rfl); (focus rfl); (focus omega); (focus omega); go_frame) | ((with_reducible apply wq_rem); (focus rfl); (focus rfl); (focus rfl); (focus omega); (focus omega); go_frame) | ((with_reducible apply wq_eql); (focus rfl); (focus rfl); (focus rfl); go_frame) | ((with_reducible apply wq_neq); (focus rfl); (focus rfl); (focus rfl); go_frame) | ((with_reducible apply wq_lss); (focus rfl); (focus rfl); (focus rfl); go_frame) | ((with_reducible apply wq_leq); (focus rfl); (focus rfl); (focus rfl); go_frame) | ((with_reducible apply wq_gtr); (focus rfl); (focus rfl); (focus rfl); go_frame) | ((with_reducible apply wq_geq); (focus rfl); (focus rfl); (focus rfl); go_frame) | ((with_reducible apply wq_max2); (focus rfl); (focus rfl); (focus rfl); go_frame) | ((with_reducible apply wq_min2); (focus rfl); (focus rfl); (focus rfl); go_frame) | ((with_reducible apply wq_max3); (focus rfl); (focus rfl); (focus rfl); (focus rfl); go_frame) | ((with_reducible apply wq_min3); (focus rfl); (focus rfl); (focus rfl); (focus rfl); go_frame) | go_big_quiet_step (fail))); refine wpQuiet_nil ?_; rintro _ ⟨nq, rfl⟩
              go_wp2
              go_ret2
              exact ⟨⟨g2, by rw [HSS.out] <;> rfl, by rw [HSS.out]; exact HR2.out⟩, HB0.out.trans ((below_drewN HB1.out _).mono HB0.out.size)⟩
end Go.Proofs.YtncfgkhbenmpoaaGreatDoor
end

section
namespace Go.Proofs.YtncfgkhbenmpoaaGreatDoor
open Go Go.RowKit Go.Proofs Go.Shelf
set_option linter.unusedVariables false
attribute [local go_sem] imax2 imin2

theorem ga_within (lo hi : Int) (n : Nat) (gs : List Gau) : ∀ k i, i < n → lo ≤ (spn (gaTo lo hi n gs k) i).1 ∧ (spn (gaTo lo hi n gs k) i).2 ≤ hi := by
  intro k
  induction k with
  | zero =>
    intro i hi'
    simp only [gaTo, spn]
    rw [List.getD_eq_getElem?_getD, List.getElem?_replicate, if_pos hi']
    exact ⟨Int.le_refl _, Int.le_refl _⟩
  | succ k ih =>
    intro i hi'
    simp only [gaTo]
    by_cases hs : (gg gs k).step.toNat < n
    · rw [spn_set _ _ _ (by rw [gaTo_length]; exact hs)]
      by_cases h : (gg gs k).step.toNat = i
      · have := ih (gg gs k).step.toNat hs
        rw [if_pos h]; simp only; omega
      · rw [if_neg h]; exact ih i hi'
    · rw [List.set_eq_of_length_le (by rw [gaTo_length]; omega)]; exact ih i hi'
theorem ga_clip (lo hi : Int) (n : Nat) (gs : List Gau) (k : Nat) : clip lo hi (gaTo lo hi n gs k) = gaTo lo hi n gs k := by
  have hl : (clip lo hi (gaTo lo hi n gs k)).length = n := by unfold clip; rw [List.length_map, gaTo_length]
  apply spn_ext (by rw [hl, gaTo_length])
  intro i hi'
  rw [hl] at hi'
  have := ga_within lo hi n gs k i hi'
  rw [spn_clip _ _ _ _ (by rw [gaTo_length]; exact hi')]
  refine Prod.ext ?_ ?_
  · show max _ lo = _; omega
  · show min _ hi = _; omega
theorem known_ref {lo hi sl ch : Int} {n : Nat} {gs : List Gau} (hr : ruleB lo hi sl ch = true) (hn : 3 ≤ n ∧ n ≤ 24) (hg : gausB n gs = true) :
    (KnownOk lo hi sl ch n gs ↔ (spn (boundRL lo hi sl ch (gaTo lo hi n gs gs.length)) 0).2 ≥ 0) ∧ (KnownOk lo hi sl ch n gs → boundL sl ch (gaTo lo hi n gs gs.length) = boundRL lo hi sl ch (gaTo lo hi n gs gs.length)) := by
  obtain ⟨⟨h1, h2, h3⟩, ⟨h4, h5⟩, h6, h7⟩ := rule_parts hr
  have hlen := gaTo_length lo hi n gs gs.length
  have hb := bound_eq (ch := ch) h4 h1 h3 (by omega) (gaTo lo hi n gs gs.length) (by omega)
  rw [ga_clip] at hb
  obtain ⟨hb1, hb2⟩ := hb
  have e0 : spn (boundRL lo hi sl ch (gaTo lo hi n gs gs.length)) 0 = boundR lo hi sl ch (gaTo lo hi n gs gs.length) 0 := by unfold boundRL; rw [spn_map _ _ _ (by omega)]
  have eF : spn (boundL sl ch (gaTo lo hi n gs gs.length)) 0 = boundF sl ch (gaTo lo hi n gs gs.length) 0 := spn_bound _ _ _ _ (by omega)
  have hcs := ga_cs (n := n) (gs := gs) hr hg
  have hif : ∀ i h, i < n → (Is sl ch (gaTo lo hi n gs gs.length) i h ↔ ∃ xs, FitS sl ch (gaTo lo hi n gs gs.length) xs ∧ gi xs i = h) := fun i h hi' => is_fit (by omega) hcs (by omega) (by omega) h
  have hk : KnownOk lo hi sl ch n gs ↔ (boundR lo hi sl ch (gaTo lo hi n gs gs.length) 0).2 ≥ 0 := by
    constructor
    · rintro ⟨_, h⟩
      rw [eF] at h
      rcases Int.lt_or_le (boundR lo hi sl ch (gaTo lo hi n gs gs.length) 0).2 0 with h8 | h8
      · have := hb1.2 (by omega); omega
      · exact h8
    · intro h
      have h9 : ¬ (boundF sl ch (gaTo lo hi n gs gs.length) 0).1 > (boundF sl ch (gaTo lo hi n gs gs.length) 0).2 := fun h10 => (hb1.1 h10) h
      rcases seen_F sl ch (gaTo lo hi n gs gs.length) 0 with ⟨e, _⟩ | ⟨_, h3, _, _⟩
      · rw [e] at h9; simp at h9
      · obtain ⟨xs, hx, _⟩ := (hif 0 _ (by omega)).1 h3
        exact (known_iff hr hn hg).2 ⟨xs, (fit_ga hg).1 hx⟩
  refine ⟨by rw [e0]; exact hk, fun h => ?_⟩
  apply spn_ext (by unfold boundL boundRL; simp)
  intro i hi'
  have hi2 : i < (gaTo lo hi n gs gs.length).length := by unfold boundL at hi'; simpa using hi'
  rw [spn_bound _ _ _ _ hi2]
  unfold boundRL
  rw [spn_map _ _ _ hi2]
  exact hb2 (hk.1 h) i hi2

theorem c36n {p q : Option Addr} {c d n m : Nat} {xs ys : List (Int × Int)} {w : World} (hn : xs.length = n) (hm : ys.length = m) (he : xs = ys) (hx : RdS w p xs) (hy : RdS w q ys) (hl : n ≤ 1000000) :
    Calls Tryz.prog 36 #[.slice p n c, .slice q m d] w fun e w' => e = .returned (.bool true) ∧ ∃ n, w' = w.drewN n := by
  subst hn; subst hm
  have h := c36 p c xs q d ys w hx hy hl
  rw [decide_eq_true he] at h; exact h
theorem c32_no {lo hi sl ch n : Int} {p : Option Addr} {cap : Nat} {gs : List Gau} {w : World} (hx : RdG w p gs) (hl : gs.length ≤ 1000000) (h : knownB lo hi sl ch n gs = false) :
    Calls Tryz.prog 32 #[.agg #[.int .i64 lo, .int .i64 hi, .int .i64 sl, .int .i64 ch], .int .i64 n, .slice p gs.length cap] w fun e w' => e = .returned (.tuple #[.slice none 0 0, .int .i64 2]) ∧ Below w.heap.size w w' := by
  refine (c32 lo hi sl ch n p cap gs w hx hl).mono ?_
  rintro e w' ⟨⟨_, he⟩ | ⟨hk, _⟩ | ⟨hk, _⟩, b⟩
  · exact ⟨he, b⟩
  · rw [h] at hk; cases hk
  · rw [h] at hk; cases hk
theorem c32_ok {lo hi sl ch : Int} {n : Nat} {p : Option Addr} {cap : Nat} {gs : List Gau} {w : World} (hx : RdG w p gs) (hl : gs.length ≤ 1000000) (h : knownB lo hi sl ch n gs = true) (hk : KnownOk lo hi sl ch n gs) :
    Calls Tryz.prog 32 #[.agg #[.int .i64 lo, .int .i64 hi, .int .i64 sl, .int .i64 ch], .int .i64 n, .slice p gs.length cap] w fun e w' => (∃ g, e = .returned (.tuple #[.slice (some ⟨g, 0, none⟩) n n, .int .i64 0]) ∧ RowS w' g (boundL sl ch (gaTo lo hi n gs gs.length))) ∧ Below w.heap.size w w' := by
  refine (c32 lo hi sl ch n p cap gs w hx hl).mono ?_
  rintro e w' ⟨⟨hk', _⟩ | ⟨_, _, g, he, _, hr⟩ | ⟨_, hk', _⟩, b⟩
  · rw [h] at hk'; cases hk'
  · rw [Int.toNat_natCast] at he hr; exact ⟨⟨g, he, hr⟩, b⟩
  · rw [Int.toNat_natCast] at hk'; exact absurd hk hk'
theorem c32_none {lo hi sl ch : Int} {n : Nat} {p : Option Addr} {cap : Nat} {gs : List Gau} {w : World} (hx : RdG w p gs) (hl : gs.length ≤ 1000000) (h : knownB lo hi sl ch n gs = true) (hk : ¬ KnownOk lo hi sl ch n gs) :
    Calls Tryz.prog 32 #[.agg #[.int .i64 lo, .int .i64 hi, .int .i64 sl, .int .i64 ch], .int .i64 n, .slice p gs.length cap] w fun e w' => e = .returned (.tuple #[.slice none 0 0, .int .i64 7]) ∧ Below w.heap.size w w' := by
  refine (c32 lo hi sl ch n p cap gs w hx hl).mono ?_
  rintro e w' ⟨⟨hk', _⟩ | ⟨_, hk', _⟩ | ⟨_, _, he⟩, b⟩
  · rw [h] at hk'; cases hk'
  · rw [Int.toNat_natCast] at hk'; exact absurd hk' hk
  · exact ⟨he, b⟩
theorem boundL_len {lo hi sl ch : Int} {n : Nat} {gs : List Gau} : (boundL sl ch (gaTo lo hi n gs gs.length)).length = n := by unfold boundL; rw [List.length_map, List.length_range, gaTo_length]

set_option maxRecDepth 100000 in
set_option maxHeartbeats 1000000 in
theorem law4 (lo hi sl ch : Int) (n : Int) (p : Option Addr) (cap : Nat) (gs : List Gau) (w : World) (hx : RdG w p gs) :
    Calls Tryz.prog 4 #[.agg #[.int .i64 lo, .int .i64 hi, .int .i64 sl, .int .i64 ch], .int .i64 n, .slice p gs.length cap] w (LawPost w) := by
  obtain ⟨w0, e0, HS0, k0, k1, k2, k3, b0⟩ := box4 w (.int .i64 lo) (.int .i64 hi) (.int .i64 sl) (.int .i64 ch) 23
  have HX := Lib.hid (hx.below b0)
  have HB := Lib.hid b0
  clear hx b0
  go_enter Tryz.func4, Tryz.ntmps4
  (go_wp2_with fail); refine (c31 p gs.length cap _).mono ?_; rintro e wn ⟨rfl, rfl⟩
  clear e0
  cases hTT : (decide (gs.length ≤ 11)); (case false => ((clear hTT); (go_wp2_with fail); refine (c25 _).mono ?_; rintro e wn ⟨rfl, bq⟩; replace HB := Lib.hid (HB.out.trans (bq.mono HB.out.size)); clear bq; go_wp2; go_ret; exact ⟨rfl, HB.out⟩)); have S1 := Lib.hid hTT; clear hTT
  have hl1 := of_decide_eq_true S1.out
  cases hok : knownB lo hi sl ch n gs with
  | false =>
    have HOK := Lib.hid hok
    clear hok
    (go_wp2_with fail); refine (c32_no HX.out (by omega) HOK.out).mono ?_; rintro e wn ⟨rfl, bq⟩; replace HB := Lib.hid (HB.out.trans (bq.mono HB.out.size)); replace HX := Lib.hid (HX.out.below bq); replace k0 := (bq.cell (lt_of_cellq k0)).trans k0; replace k1 := (bq.cell (lt_of_cellq k1)).trans k1; replace k2 := (bq.cell (lt_of_cellq k2)).trans k2; replace k3 := (bq.cell (lt_of_cellq k3)).trans k3; clear bq
    (go_wp2_with fail); refine (c27 lo hi sl ch _).mono ?_; rintro e wn ⟨rfl, bq⟩; replace HB := Lib.hid (HB.out.trans (bq.mono HB.out.size)); replace HX := Lib.hid (HX.out.below bq); replace k0 := (bq.cell (lt_of_cellq k0)).trans k0; replace k1 := (bq.cell (lt_of_cellq k1)).trans k1; replace k2 := (bq.cell (lt_of_cellq k2)).trans k2; replace k3 := (bq.cell (lt_of_cellq k3)).trans k3; clear bq
    cases hTT : (ruleB lo hi sl ch); (case false => ((clear hTT); (go_wp2_with fail); refine (c25 _).mono ?_; rintro e wn ⟨rfl, bq⟩; replace HB := Lib.hid (HB.out.trans (bq.mono HB.out.size)); clear bq; go_wp2; go_ret; exact ⟨rfl, HB.out⟩)); have H1 := Lib.hid hTT; clear hTT
    (go_wp2_with fail); refine (c33 n _).mono ?_; rintro e wn ⟨rfl, rfl⟩
    cases hTT : (inB n 3 24); (case false => ((clear hTT); (go_wp2_with fail); refine (c25 _).mono ?_; rintro e wn ⟨rfl, bq⟩; replace HB := Lib.hid (HB.out.trans (bq.mono HB.out.size)); clear bq; go_wp2; go_ret; exact ⟨rfl, HB.out⟩)); have H2 := Lib.hid hTT; clear hTT
    obtain ⟨hn1, hn2⟩ : 3 ≤ n ∧ n ≤ 24 := by have h := H2.out; unfold inB at h; simpa using h
    (go_wp2_with fail); refine (c34 n p cap gs _ HX.out (by omega) (by omega)).mono ?_; rintro e wn ⟨rfl, rfl⟩
    cases hTT : (gausB n gs && decide (gs.length ≤ 8)); (case false => ((clear hTT); (go_wp2_with fail); refine (c25 _).mono ?_; rintro e wn ⟨rfl, bq⟩; replace HB := Lib.hid (HB.out.trans (bq.mono HB.out.size)); clear bq; go_wp2; go_ret; exact ⟨rfl, HB.out⟩)); have H3 := Lib.hid hTT; clear hTT
    exact absurd HOK.out (by
      have h3 := H3.out
      rw [Bool.and_eq_true] at h3
      unfold knownB; rw [H1.out, H2.out, h3.1, h3.2]; simp)
  | true =>
    have HOK := Lib.hid hok
    have hp := hok
    unfold knownB at hp
    simp only [Bool.and_eq_true] at hp
    obtain ⟨⟨⟨h1, h2⟩, h3⟩, h4⟩ := hp
    have H1 := Lib.hid h1
    have H2 := Lib.hid h2
    have H3 := Lib.hid (show (gausB n gs && decide (gs.length ≤ 8)) = true by rw [h4, h3]; rfl)
    have HG := Lib.hid h4
    obtain ⟨hn1, hn2⟩ : 3 ≤ n ∧ n ≤ 24 := by unfold inB at h2; simpa using h2
    clear hok h1 h2 h3 h4
    obtain ⟨n, rfl⟩ : ∃ m : Nat, n = m := ⟨n.toNat, by omega⟩
    obtain ⟨hk1, hk2⟩ := known_ref (n := n) H1.out (by omega) HG.out
    have hbl := boundL_len (lo := lo) (hi := hi) (sl := sl) (ch := ch) (n := n) (gs := gs)
    obtain ⟨bl, hble⟩ : ∃ bl, boundL sl ch (gaTo lo hi n gs gs.length) = bl := ⟨_, rfl⟩
    obtain ⟨br, hbre⟩ : ∃ br, boundRL lo hi sl ch (gaTo lo hi n gs gs.length) = br := ⟨_, rfl⟩
    rw [hble] at hk2 hbl
    rw [hbre] at hk1 hk2
    have HBL := Lib.hid hble
    have HBR := Lib.hid hbre
    have HLN := Lib.hid hbl
    clear hble hbre hbl
    by_cases hko : KnownOk lo hi sl ch n gs
    · have HKO := Lib.hid hko
      have HEQ := Lib.hid (hk2 hko)
      have hge := hk1.1 hko
      have HIS := Lib.hid (show decide ((spn br 0).2 ≥ 0) = true by simpa using hge)
      clear hk1 hk2 hko hge
      (go_wp2_with fail); refine (c32_ok HX.out (by omega) HOK.out HKO.out).mono ?_; rw [HBL.out]; rintro e wn ⟨⟨g, rfl, hr⟩, bq⟩; replace HB := Lib.hid (HB.out.trans (bq.mono HB.out.size)); replace HX := Lib.hid (HX.out.below bq); replace k0 := (bq.cell (lt_of_cellq k0)).trans k0; replace k1 := (bq.cell (lt_of_cellq k1)).trans k1; replace k2 := (bq.cell (lt_of_cellq k2)).trans k2; replace k3 := (bq.cell (lt_of_cellq k3)).trans k3; clear bq
      have HR := Lib.hid (RowS.rd hr)
      clear hr
      (go_wp2_with fail); refine (c27 lo hi sl ch _).mono ?_; rw [H1.out]; rintro e wn ⟨rfl, bq⟩; replace HB := Lib.hid (HB.out.trans (bq.mono HB.out.size)); replace HX := Lib.hid (HX.out.below bq); replace HR := Lib.hid (HR.out.below bq); replace k0 := (bq.cell (lt_of_cellq k0)).trans k0; replace k1 := (bq.cell (lt_of_cellq k1)).trans k1; replace k2 := (bq.cell (lt_of_cellq k2)).trans k2; replace k3 := (bq.cell (lt_of_cellq k3)).trans k3; clear bq
      (go_wp2_with fail); refine (c33 n _).mono ?_; rw [H2.out]; rintro e wn ⟨rfl, rfl⟩
      (go_wp2_with fail); refine (c34 n p cap gs _ HX.out (by omega) (by omega)).mono ?_; rw [H3.out]; rintro e wn ⟨rfl, rfl⟩
      have h35 := c35 lo hi sl ch p cap n gs wn H1.out (by omega) HX.out (by omega) HG.out
      unfold RefKnownPost at h35
      rw [HBR.out, HIS.out] at h35
      (go_wp2_with fail); refine (h35).mono ?_; rintro e wn ⟨⟨g2, rfl, hr⟩, bq⟩; replace HB := Lib.hid (HB.out.trans (bq.mono HB.out.size)); replace HR := Lib.hid (HR.out.below bq); clear bq
      clear h35
      have HR2 := Lib.hid (RowS.rd hr)
      clear hr
      (go_wp2_with fail); refine (c36n HLN.out (by rw [← HEQ.out, HLN.out]) HEQ.out HR.out HR2.out (by omega)).mono ?_; rintro e wn ⟨rfl, nq, hq⟩; (have bq := below_dr hq); clear hq; replace HB := Lib.hid (HB.out.trans (bq.mono HB.out.size)); clear bq
      (go_wp2_with fail); refine (c25 _).mono ?_; rintro e wn ⟨rfl, bq⟩; replace HB := Lib.hid (HB.out.trans (bq.mono HB.out.size)); clear bq; go_wp2; go_ret; exact ⟨rfl, HB.out⟩
    · have HKO := Lib.hid hko
      have hge : ¬ (spn br 0).2 ≥ 0 := fun h => hko (hk1.2 h)
      have HIS := Lib.hid (show decide ((spn br 0).2 ≥ 0) = false by simpa using hge)
      clear hk1 hk2 hko hge
      (go_wp2_with fail); refine (c32_none HX.out (by omega) HOK.out HKO.out).mono ?_; rintro e wn ⟨rfl, bq⟩; replace HB := Lib.hid (HB.out.trans (bq.mono HB.out.size)); replace HX := Lib.hid (HX.out.below bq); replace k0 := (bq.cell (lt_of_cellq k0)).trans k0; replace k1 := (bq.cell (lt_of_cellq k1)).trans k1; replace k2 := (bq.cell (lt_of_cellq k2)).trans k2; replace k3 := (bq.cell (lt_of_cellq k3)).trans k3; clear bq
      (go_wp2_with fail); refine (c27 lo hi sl ch _).mono ?_; rw [H1.out]; rintro e wn ⟨rfl, bq⟩; replace HB := Lib.hid (HB.out.trans (bq.mono HB.out.size)); replace HX := Lib.hid (HX.out.below bq); replace k0 := (bq.cell (lt_of_cellq k0)).trans k0; replace k1 := (bq.cell (lt_of_cellq k1)).trans k1; replace k2 := (bq.cell (lt_of_cellq k2)).trans k2; replace k3 := (bq.cell (lt_of_cellq k3)).trans k3; clear bq
      (go_wp2_with fail); refine (c33 n _).mono ?_; rw [H2.out]; rintro e wn ⟨rfl, rfl⟩
      (go_wp2_with fail); refine (c34 n p cap gs _ HX.out (by omega) (by omega)).mono ?_; rw [H3.out]; rintro e wn ⟨rfl, rfl⟩
      have h35 := c35 lo hi sl ch p cap n gs wn H1.out (by omega) HX.out (by omega) HG.out
      unfold RefKnownPost at h35
      rw [HBR.out, HIS.out] at h35
      (go_wp2_with fail); refine (h35).mono ?_; rintro e wn ⟨⟨g2, rfl, hr⟩, bq⟩; replace HB := Lib.hid (HB.out.trans (bq.mono HB.out.size)); clear bq
      clear h35 hr
      (go_wp2_with fail); refine (c25 _).mono ?_; rintro e wn ⟨rfl, bq⟩; replace HB := Lib.hid (HB.out.trans (bq.mono HB.out.size)); clear bq; go_wp2; go_ret; exact ⟨rfl, HB.out⟩
end Go.Proofs.YtncfgkhbenmpoaaGreatDoor
end
