/-
  The follower's heights by the document, and the cam below a want (ref.Follow, ref.under).
  Plain laws of two cams that are turned against each other.
  Small references about lists: turned lists, sums, the greatest number, lists below others, before others, changes, errors.
  The references' shifts and turns of two cams.
  The references' cam for a want and a foot.
  Contracts said with the lists' lengths as numbers; the branches of Follow and of Carve by themselves.
-/
import Derived.Test.YtncfgkhbenmpoaaGreatDoorGc
import Derived.Test.YtncfgkhbenmpoaaGreatDoorGb
import Derived.Test.YtncfgkhbenmpoaaGreatDoorGi
import Derived.Test.YtncfgkhbenmpoaaGreatDoorGk
section
namespace Go.Proofs.YtncfgkhbenmpoaaGreatDoor
open Go Go.RowKit Go.Proofs
set_option linter.unusedVariables false
attribute [local go_sem] imax2 imin2

theorem followF_take (xs : List Int) (f i : Nat) (h : i < xs.length) : inV ((followF xs f).take (i + 1)) = inV ((followF xs f).take i) ++ [.int .i64 (mx xs i f)] := by
  rw [List.take_succ_eq_append_getElem (by simpa using h), inV_append]
  simp [followF, inV]
set_option maxRecDepth 100000 in
set_option maxHeartbeats 1000000 in
theorem c42 (q : Option Addr) (cap : Nat) (xs : List Int) (f : Nat) (w : World) (hx : RdI w q xs) (h : camB xs = true) (hf : f ≤ 5) :
    Calls Tryz.prog 42 #[.slice q xs.length cap, .int .i64 (f : Int)] w fun e w' => (∃ p c, e = .returned (.slice p (followF xs f).length c) ∧ RdI w' p (followF xs f)) ∧ Below w.heap.size w w' := by
  obtain ⟨h3, h24, _⟩ := (camB_parts h)
  obtain ⟨b, off, rfl, hc⟩ := hx.at (show 0 < xs.length by omega)
  have HC := Lib.hid hc
  have HX := Lib.hid hx
  have H := Lib.hid h
  obtain ⟨i0, hi0, hz0, hz1, hz2⟩ := info_parts info3
  clear hc hx h
  go_enter Tryz.func42, Tryz.ntmps42
  go_wp2
  go_loopw [6, 7] (fun v i wr => ∃ k : Nat, k ≤ xs.length ∧ i = .int .i64 k ∧ Hid (wr.ownsRow w.heap.size 3 1 v k (inV ((followF xs f).take k))) ∧ Hid (Below w.heap.size w wr)) (fun _ i _ => xs.length - (intOf i).toNat)
  case atStart => exact ⟨0, Nat.zero_le _, rfl, Lib.hid (World.ownsRow_nil _ _ _ _), Lib.hid (Below.refl _ _)⟩
  case round =>
    obtain ⟨k, hk, rfl, HO, HB⟩ := hrel
    by_cases hlt : k < xs.length
    · have e1 := (HB.out.cell (lt_of_cellq (HC.out k hlt))).trans (HC.out k hlt)
      have H0 := Lib.hid (show gi xs k = mx xs k 0 from (cg_nat xs k hlt).symm)
      go_wp2
      clear e1
      rw [H0.out]
      go_loopw [8, 9] (fun x y wx => ∃ j : Nat, j ≤ f ∧ x = .int .i64 (mx xs k j) ∧ y = .int .i64 ((j : Int) + 1) ∧ Hid (wx.ownsRow w.heap.size 3 1 u6 k (inV ((followF xs f).take k))) ∧ Hid (Below w.heap.size w wx)) (fun _ y _ => f + 1 - (intOf y).toNat)
      case atStart => exact ⟨0, Nat.zero_le _, rfl, rfl, HO, HB⟩
      case round =>
        rename_i wo
        obtain ⟨j, hj, rfl, rfl, HO2, HB2⟩ := hrel
        by_cases hjl : j < f
        · have hle : (j : Int) + 1 ≤ (f : Int) := by omega
          have hp : 0 < xs.length := by omega
          obtain ⟨m1, hm1, hm1l⟩ : ∃ m1 : Nat, ((k : Int) + ((j : Int) + 1)) % (xs.length : Int) = (m1 : Int) ∧ m1 < xs.length := ⟨(((k : Int) + ((j : Int) + 1)) % (xs.length : Int)).toNat, by have := Int.emod_nonneg ((k : Int) + ((j : Int) + 1)) (show (xs.length : Int) ≠ 0 by omega); omega, cg_lt xs hp _⟩
          obtain ⟨m2, hm2, hm2l⟩ : ∃ m2 : Nat, ((k : Int) + (xs.length : Int) * 5 - ((j : Int) + 1)) % (xs.length : Int) = (m2 : Int) ∧ m2 < xs.length := ⟨(((k : Int) + (xs.length : Int) * 5 - ((j : Int) + 1)) % (xs.length : Int)).toNat, by have := Int.emod_nonneg ((k : Int) + (xs.length : Int) * 5 - ((j : Int) + 1)) (show (xs.length : Int) ≠ 0 by omega); omega, cg_lt xs hp _⟩
          have HM1 := Lib.hid (show cg xs ((k : Int) + ((j + 1 : Nat) : Int)) = gi xs m1 by unfold cg; rw [show (k : Int) + ((j + 1 : Nat) : Int) = (k : Int) + ((j : Int) + 1) by omega, hm1]; rfl)
          have HM2 := Lib.hid (show cg xs ((k : Int) - ((j + 1 : Nat) : Int)) = gi xs m2 by rw [← cg_add xs _ 5]; unfold cg; rw [show (k : Int) - ((j + 1 : Nat) : Int) + 5 * (xs.length : Int) = (k : Int) + (xs.length : Int) * 5 - ((j : Int) + 1) by omega, hm2]; rfl)
          have a1 := (HB2.out.cell (lt_of_cellq (HC.out m1 hm1l))).trans (HC.out m1 hm1l)
          have a2 := (HB2.out.cell (lt_of_cellq (HC.out m2 hm2l))).trans (HC.out m2 hm2l)
          have HNX := Lib.hid (show mx xs k (j + 1) = max (max (mx xs k j) (gi xs m1)) (gi xs m2) by simp only [mx]; rw [HM1.out, HM2.out]; omega)
          generalize mx xs k j = M at *
          generalize gi xs m1 = A at *
          generalize gi xs m2 = B at *
          go_wp2
          refine wp_region_quiet_lit (by kernel_rfl) (by kernel_rfl) ?_; (repeat (first | (rw [hm1]) | (rw [hm2]) | ((with_reducible apply wq_ix Tryz.underlying24 sz3); (focus rfl); (focus rfl); (focus rfl); (focus omega); (try simp only [Nat.mul_one]); go_frame) | ((with_reducible apply wq_ix Tryz.underlying37 sz50); (focus rfl); (focus rfl); (focus rfl); (focus omega); (try simp only [Nat.mul_one]); go_frame) | ((with_reducible apply wq_ix Tryz.underlying35 sz47); (focus rfl); (focus rfl); (focus rfl); (focus omega); (try simp only [Nat.mul_one]); go_frame) | ((with_reducible apply wq_ix Tryz.underlying90 sz24); (focus rfl); (focus rfl); (focus rfl); (focus omega); (try simp only [Nat.mul_one]); go_frame) | ((with_reducible apply wq_ld ag3); (focus rfl); (focus rfl); (focus (rintro _ ⟨_, rfl⟩; first | exact a1 | exact a2)); go_frame) | ((with_reducible apply wq_ld ag24); (focus rfl); (focus rfl); (focus (rintro _ ⟨_, rfl⟩; first | exact a1 | exact a2)); go_frame) | ((with_reducible apply wq_ld ag37); (focus rfl); (focus rfl); (focus (rintro _ ⟨_, rfl⟩; first | exact a1 | exact a2)); go_frame) | ((with_reducible apply wq_ld ag90); (focus rfl); (focus rfl); (focus (rintro _ ⟨_, rfl⟩; first | exact a1 | exact a2)); go_frame) | ((with_reducible apply wq_ld ag35); (focus rfl); (focus rfl); (focus (rintro _ ⟨_, rfl⟩; first | exact a1 | exact a2)); go_frame) | ((with_reducible apply wq_add); (focus rfl); (focus rfl); (focus rfl); (focus omega); (focus omega); go_frame) | ((with_reducible apply wq_sub); (focus rfl); (focus rfl); (focus rfl); (focus omega); (focus omega); go_frame) | ((with_reducible apply wq_mul); (focus rfl); (focus rfl); (focus rfl); (focus omega); (focus omega); go_frame) | ((with_reducible apply wq_rem); (focus rfl); (focus rfl); (focus rfl); (focus omega); (focus omega); go_frame) | ((with_reducible apply wq_eql); (focus rfl); (focus rfl); (focus rfl); go_frame) | ((with_reducible apply wq_neq); (focus rfl); (focus rfl); (focus rfl); go_frame) | ((with_reducible apply wq_lss); (focus rfl); (focus rfl); (focus rfl); go_frame) | ((with_reducible apply wq_leq); (focus rfl); (focus rfl); (focus rfl); go_frame) | ((with_reducible apply wq_gtr); (focus rfl); (focus rfl); (focus rfl); go_frame) | ((with_reducible apply wq_geq); (focus rfl); (focus rfl); (focus rfl); go_frame) | ((with_reducible apply wq_max2); (focus rfl); (focus rfl); (focus rfl); go_frame) | ((with_reducible apply wq_min2); (focus rfl); (focus rfl); (focus rfl); go_frame) | ((with_reducible apply wq_max3); (focus rfl); (focus rfl); (focus rfl); (focus rfl); go_frame) | ((with_reducible apply wq_min3); (focus rfl); (focus rfl); (focus rfl); (focus rfl); go_frame) | go_big_quiet_step (fail))); refine wpQuiet_nil ?_; rintro _ ⟨nq, rfl⟩
          go_wp2
          go_roundw
          case rel => exact ⟨j + 1, by omega, by rw [HNX.out], by go_num, Lib.hid (own_kept HO2.out (below_drewN (Below.refl _ _) _)), Lib.hid (below_drewN HB2.out _)⟩
          case measure => simp [intOf]; omega
        · obtain rfl : j = f := by omega
          have HT := Lib.hid (followF_take xs j k hlt)
          have HMX : ∃ M, mx xs k j = M := ⟨_, rfl⟩
          obtain ⟨M, hM⟩ := HMX
          rw [hM]
          rw [hM] at HT
          clear hM
          go_wp2_with (at_builtin; refine wpList_append_own _ rfl _ _ 24 rfl w.heap.size 3 i0 _ 1 8 Tryz.underlying24 hi0 hz0 hz1 hz2 rfl (by decide) _ _ _ rfl (HO2.out.alloc _) ⟨wr.heap.size, 0, none⟩ 1 1 [.int .i64 M] rfl rfl ?c1 ?c2 ?c3 ?c4 ?c5 ?_)
          case c1 => exact news_of _ _ _
          case c2 => intro u hu; simp at hu; subst hu; rfl
          case c3 => unfold maxLen; omega
          case c4 => omega
          case c5 => have := HB2.out.size; simp; omega
          intro v' w1 hown' hgrow _
          have hlt' := HO2.out.lt
          have HB' := Lib.hid (HB2.out.trans (((Below.refl w.heap.size wr).alloc HB2.out.size _).grown hgrow (by have := HB2.out.size; simp; omega) (fun j hj => (hlt' j hj).1)))
          have HO' := Lib.hid hown'
          clear hown' hgrow hlt'
          go_wp2
          go_roundw
          case rel =>
            refine ⟨k + 1, by omega, by go_num, Lib.hid ?_, HB'⟩
            have := HO'.out
            rw [HT.out]
            exact this
          case measure => simp [intOf]; omega
    · obtain rfl : k = xs.length := by omega
      have hown := HO.out
      rw [List.take_of_length_le (by simp)] at hown
      obtain ⟨p, c, rfl, hrd⟩ := rd_of_own (xs := followF xs f) (by rw [followF_length]; exact hown)
      have HRD := Lib.hid hrd
      clear hown hrd HO
      go_wp2
      go_ret
      exact ⟨⟨p, c, by simp, HRD.out⟩, HB.out⟩

theorem underF_take (xs : List Int) (f i : Nat) (h : i < xs.length) : inV ((underF xs f).take (i + 1)) = inV ((underF xs f).take i) ++ [.int .i64 (mn xs i f)] := by
  rw [List.take_succ_eq_append_getElem (by simpa using h), inV_append]
  simp [underF, inV]
set_option maxRecDepth 100000 in
set_option maxHeartbeats 1000000 in
theorem c102 (q : Option Addr) (cap : Nat) (xs : List Int) (f : Nat) (w : World) (hx : RdI w q xs) (h : camB xs = true) (hf : f ≤ 5) :
    Calls Tryz.prog 102 #[.slice q xs.length cap, .int .i64 (f : Int)] w fun e w' => (∃ p c, e = .returned (.slice p (underF xs f).length c) ∧ RdI w' p (underF xs f)) ∧ Below w.heap.size w w' := by
  obtain ⟨h3, h24, _⟩ := (camB_parts h)
  obtain ⟨b, off, rfl, hc⟩ := hx.at (show 0 < xs.length by omega)
  have HC := Lib.hid hc
  have HX := Lib.hid hx
  have H := Lib.hid h
  obtain ⟨i0, hi0, hz0, hz1, hz2⟩ := info_parts info3
  clear hc hx h
  go_enter Tryz.func102, Tryz.ntmps102
  go_wp2
  go_loopw [6, 7] (fun v i wr => ∃ k : Nat, k ≤ xs.length ∧ i = .int .i64 k ∧ Hid (wr.ownsRow w.heap.size 3 1 v k (inV ((underF xs f).take k))) ∧ Hid (Below w.heap.size w wr)) (fun _ i _ => xs.length - (intOf i).toNat)
  case atStart => exact ⟨0, Nat.zero_le _, rfl, Lib.hid (World.ownsRow_nil _ _ _ _), Lib.hid (Below.refl _ _)⟩
  case round =>
    obtain ⟨k, hk, rfl, HO, HB⟩ := hrel
    by_cases hlt : k < xs.length
    · have e1 := (HB.out.cell (lt_of_cellq (HC.out k hlt))).trans (HC.out k hlt)
      have H0 := Lib.hid (show gi xs k = mn xs k 0 from (cg_nat xs k hlt).symm)
      go_wp2
      clear e1
      rw [H0.out]
      go_loopw [8, 9] (fun x y wx => ∃ j : Nat, j ≤ f ∧ x = .int .i64 (mn xs k j) ∧ y = .int .i64 ((j : Int) + 1) ∧ Hid (wx.ownsRow w.heap.size 3 1 u6 k (inV ((underF xs f).take k))) ∧ Hid (Below w.heap.size w wx)) (fun _ y _ => f + 1 - (intOf y).toNat)
      case atStart => exact ⟨0, Nat.zero_le _, rfl, rfl, HO, HB⟩
      case round =>
        rename_i wo
        obtain ⟨j, hj, rfl, rfl, HO2, HB2⟩ := hrel
        by_cases hjl : j < f
        · have hle : (j : Int) + 1 ≤ (f : Int) := by omega
          have hp : 0 < xs.length := by omega
          obtain ⟨m1, hm1, hm1l⟩ : ∃ m1 : Nat, ((k : Int) + ((j : Int) + 1)) % (xs.length : Int) = (m1 : Int) ∧ m1 < xs.length := ⟨(((k : Int) + ((j : Int) + 1)) % (xs.length : Int)).toNat, by have := Int.emod_nonneg ((k : Int) + ((j : Int) + 1)) (show (xs.length : Int) ≠ 0 by omega); omega, cg_lt xs hp _⟩
          obtain ⟨m2, hm2, hm2l⟩ : ∃ m2 : Nat, ((k : Int) + (xs.length : Int) * 5 - ((j : Int) + 1)) % (xs.length : Int) = (m2 : Int) ∧ m2 < xs.length := ⟨(((k : Int) + (xs.length : Int) * 5 - ((j : Int) + 1)) % (xs.length : Int)).toNat, by have := Int.emod_nonneg ((k : Int) + (xs.length : Int) * 5 - ((j : Int) + 1)) (show (xs.length : Int) ≠ 0 by omega); omega, cg_lt xs hp _⟩
          have HM1 := Lib.hid (show cg xs ((k : Int) + ((j + 1 : Nat) : Int)) = gi xs m1 by unfold cg; rw [show (k : Int) + ((j + 1 : Nat) : Int) = (k : Int) + ((j : Int) + 1) by omega, hm1]; rfl)
          have HM2 := Lib.hid (show cg xs ((k : Int) - ((j + 1 : Nat) : Int)) = gi xs m2 by rw [← cg_add xs _ 5]; unfold cg; rw [show (k : Int) - ((j + 1 : Nat) : Int) + 5 * (xs.length : Int) = (k : Int) + (xs.length : Int) * 5 - ((j : Int) + 1) by omega, hm2]; rfl)
          have a1 := (HB2.out.cell (lt_of_cellq (HC.out m1 hm1l))).trans (HC.out m1 hm1l)
          have a2 := (HB2.out.cell (lt_of_cellq (HC.out m2 hm2l))).trans (HC.out m2 hm2l)
          have HNX := Lib.hid (show mn xs k (j + 1) = min (min (mn xs k j) (gi xs m1)) (gi xs m2) by simp only [mn]; rw [HM1.out, HM2.out]; omega)
          generalize mn xs k j = M at *
          generalize gi xs m1 = A at *
          generalize gi xs m2 = B at *
          go_wp2
          refine wp_region_quiet_lit (by kernel_rfl) (by kernel_rfl) ?_; (repeat (first | (rw [hm1]) | (rw [hm2]) | ((with_reducible apply wq_ix Tryz.underlying24 sz3); (focus rfl); (focus rfl); (focus rfl); (focus omega); (try simp only [Nat.mul_one]); go_frame) | ((with_reducible apply wq_ix Tryz.underlying37 sz50); (focus rfl); (focus rfl); (focus rfl); (focus omega); (try simp only [Nat.mul_one]); go_frame) | ((with_reducible apply wq_ix Tryz.underlying35 sz47); (focus rfl); (focus rfl); (focus rfl); (focus omega); (try simp only [Nat.mul_one]); go_frame) | ((with_reducible apply wq_ix Tryz.underlying90 sz24); (focus rfl); (focus rfl); (focus rfl); (focus omega); (try simp only [Nat.mul_one]); go_frame) | ((with_reducible apply wq_ld ag3); (focus rfl); (focus rfl); (focus (rintro _ ⟨_, rfl⟩; first | exact a1 | exact a2)); go_frame) | ((with_reducible apply wq_ld ag24); (focus rfl); (focus rfl); (focus (rintro _ ⟨_, rfl⟩; first | exact a1 | exact a2)); go_frame) | ((with_reducible apply wq_ld ag37); (focus rfl); (focus rfl); (focus (rintro _ ⟨_, rfl⟩; first | exact a1 | exact a2)); go_frame) | ((with_reducible apply wq_ld ag90); (focus rfl); (focus rfl); (focus (rintro _ ⟨_, rfl⟩; first | exact a1 | exact a2)); go_frame) | ((with_reducible apply wq_ld ag35); (focus rfl); (focus rfl); (focus (rintro _ ⟨_, rfl⟩; first | exact a1 | exact a2)); go_frame) | ((with_reducible apply wq_add); (focus rfl); (focus rfl); (focus rfl); (focus omega); (focus omega); go_frame) | ((with_reducible apply wq_sub); (focus rfl); (focus rfl); (focus rfl); (focus omega); (focus omega); go_frame) | ((with_reducible apply wq_mul); (focus rfl); (focus rfl); (focus rfl); (focus omega); (focus omega); go_frame) | ((with_reducible apply wq_rem); (focus rfl); (focus rfl); (focus rfl); (focus omega); (focus omega); go_frame) | ((with_reducible apply wq_eql); (focus rfl); (focus rfl); (focus rfl); go_frame) | ((with_reducible apply wq_neq); (focus rfl); (focus rfl); (focus rfl); go_frame) | ((with_reducible apply wq_lss); (focus rfl); (focus rfl); (focus rfl); go_frame) | ((with_reducible apply wq_leq); (focus rfl); (focus rfl); (focus rfl); go_frame) | ((with_reducible apply wq_gtr); (focus rfl); (focus rfl); (focus rfl); go_frame) | ((with_reducible apply wq_geq); (focus rfl); (focus rfl); (focus rfl); go_frame) | ((with_reducible apply wq_max2); (focus rfl); (focus rfl); (focus rfl); go_frame) | ((with_reducible apply wq_min2); (focus rfl); (focus rfl); (focus rfl); go_frame) | ((with_reducible apply wq_max3); (focus rfl); (focus rfl); (focus rfl); (focus rfl); go_frame) | ((with_reducible apply wq_min3); (focus rfl); (focus rfl); (focus rfl); (focus rfl); go_frame) | go_big_quiet_step (fail))); refine wpQuiet_nil ?_; rintro _ ⟨nq, rfl⟩
          go_wp2
          go_roundw
          case rel => exact ⟨j + 1, by omega, by rw [HNX.out], by go_num, Lib.hid (own_kept HO2.out (below_drewN (Below.refl _ _) _)), Lib.hid (below_drewN HB2.out _)⟩
          case measure => simp [intOf]; omega
        · obtain rfl : j = f := by omega
          have HT := Lib.hid (underF_take xs j k hlt)
          have HMX : ∃ M, mn xs k j = M := ⟨_, rfl⟩
          obtain ⟨M, hM⟩ := HMX
          rw [hM]
          rw [hM] at HT
          clear hM
          go_wp2_with (at_builtin; refine wpList_append_own _ rfl _ _ 24 rfl w.heap.size 3 i0 _ 1 8 Tryz.underlying24 hi0 hz0 hz1 hz2 rfl (by decide) _ _ _ rfl (HO2.out.alloc _) ⟨wr.heap.size, 0, none⟩ 1 1 [.int .i64 M] rfl rfl ?c1 ?c2 ?c3 ?c4 ?c5 ?_)
          case c1 => exact news_of _ _ _
          case c2 => intro u hu; simp at hu; subst hu; rfl
          case c3 => unfold maxLen; omega
          case c4 => omega
          case c5 => have := HB2.out.size; simp; omega
          intro v' w1 hown' hgrow _
          have hlt' := HO2.out.lt
          have HB' := Lib.hid (HB2.out.trans (((Below.refl w.heap.size wr).alloc HB2.out.size _).grown hgrow (by have := HB2.out.size; simp; omega) (fun j hj => (hlt' j hj).1)))
          have HO' := Lib.hid hown'
          clear hown' hgrow hlt'
          go_wp2
          go_roundw
          case rel =>
            refine ⟨k + 1, by omega, by go_num, Lib.hid ?_, HB'⟩
            have := HO'.out
            rw [HT.out]
            exact this
          case measure => simp [intOf]; omega
    · obtain rfl : k = xs.length := by omega
      have hown := HO.out
      rw [List.take_of_length_le (by simp)] at hown
      obtain ⟨p, c, rfl, hrd⟩ := rd_of_own (xs := underF xs f) (by rw [underF_length]; exact hown)
      have HRD := Lib.hid hrd
      clear hown hrd HO
      go_wp2
      go_ret
      exact ⟨⟨p, c, by simp, HRD.out⟩, HB.out⟩
end Go.Proofs.YtncfgkhbenmpoaaGreatDoor
end

section
namespace Go.Proofs.YtncfgkhbenmpoaaGreatDoor
open Go Go.RowKit Go.Proofs
set_option linter.unusedVariables false

def sumsF (xs ys : List Int) (k : Nat) : List Int := (List.range xs.length).map fun (i : Nat) => gi xs i + gi ys ((i + k) % ys.length)
@[simp] theorem sumsF_length (xs ys : List Int) (k : Nat) : (sumsF xs ys k).length = xs.length := by simp [sumsF]
theorem gi_sumsF (xs ys : List Int) (k i : Nat) (h : i < xs.length) : gi (sumsF xs ys k) i = gi xs i + gi ys ((i + k) % ys.length) := by
  unfold sumsF gi; simp [h]
theorem sh_sums (xs ys : List Int) (k : Nat) (h1 : camB xs = true) (h2 : camB ys = true) (hl : xs.length = ys.length) : shTo xs ys k xs.length = maxTo (sumsF xs ys k) xs.length := by
  have hx := camB_parts h1
  have key : ∀ n, 1 ≤ n → n ≤ xs.length → shTo xs ys k n = maxTo (sumsF xs ys k) n := by
    intro n
    induction n with
    | zero => intro h; omega
    | succ n ih =>
      intro _ hn
      simp only [shTo, maxTo]
      rw [gi_sumsF xs ys k n (by omega)]
      have b1 := camB_at h1 (j := n) (by omega)
      have b2 := camB_at h2 (j := (n + k) % ys.length) (Nat.mod_lt _ (by omega))
      rcases Nat.eq_zero_or_pos n with rfl | hp
      · simp only [shTo, maxTo]
        rw [gi_sumsF xs ys k 0 (by omega)]
        omega
      · rw [ih hp (by omega)]
  exact key _ (by omega) (Nat.le_refl _)
/-- the best is the first of the least -/
theorem bestTo_spec (ss : List (Int × Int)) : ∀ n, 1 ≤ n → ∃ b, b < n ∧ bestTo ss n = gs ss b ∧ (∀ j, j < n → (gs ss b).2 ≤ (gs ss j).2) ∧ ∀ j, j < b → (gs ss b).2 < (gs ss j).2 := by
  intro n
  induction n with
  | zero => intro h; omega
  | succ n ih =>
    intro _
    simp only [bestTo]
    rcases Nat.eq_zero_or_pos n with rfl | hp
    · refine ⟨0, by omega, ?_, fun j hj => ?_, fun j hj => by omega⟩
      · simp [bestTo]
      · obtain rfl : j = 0 := by omega
        exact Int.le_refl _
    · obtain ⟨b, hb, e, h1, h2⟩ := ih hp
      rw [e]
      split
      · rename_i hlt
        refine ⟨n, by omega, rfl, fun j hj => ?_, fun j hj => ?_⟩
        · rcases Nat.lt_or_ge j n with h | h
          · have := h1 j h; omega
          · obtain rfl : j = n := by omega
            exact Int.le_refl _
        · have := h1 j hj; omega
      · rename_i hlt
        refine ⟨b, by omega, rfl, fun j hj => ?_, h2⟩
        rcases Nat.lt_or_ge j n with h | h
        · exact h1 j h
        · obtain rfl : j = n := by omega
          omega
theorem gs_shiftF (xs ys : List Int) (k : Nat) (h : k < xs.length) : gs (shiftF xs ys) k = ((k : Int), shTo xs ys k xs.length) := by
  unfold gs shiftF; simp [h]
/-- how two cams are turned against each other -/
theorem shift_law (xs ys : List Int) (h1 : camB xs = true) (h2 : camB ys = true) (hl : xs.length = ys.length) : ∃ b : Nat, b < xs.length ∧ bestTo (shiftF xs ys) xs.length = ((b : Int), maxTo (sumsF xs ys b) xs.length) ∧
    (∀ j, j < xs.length → maxTo (sumsF xs ys b) xs.length ≤ maxTo (sumsF xs ys j) xs.length) ∧ (∀ j, j < b → maxTo (sumsF xs ys b) xs.length < maxTo (sumsF xs ys j) xs.length) ∧
    maxTo xs xs.length ≤ maxTo (sumsF xs ys b) xs.length ∧ maxTo ys ys.length ≤ maxTo (sumsF xs ys b) xs.length ∧ maxTo (sumsF xs ys b) xs.length ≤ maxTo xs xs.length + maxTo ys ys.length := by
  have hx := camB_parts h1
  obtain ⟨b, hb, e, h3, h4⟩ := bestTo_spec (shiftF xs ys) xs.length (by omega)
  refine ⟨b, hb, ?_, ?_, ?_, ?_, ?_, ?_⟩
  · rw [e, gs_shiftF xs ys b hb, sh_sums xs ys b h1 h2 hl]
  · intro j hj
    have := h3 j hj
    rw [gs_shiftF xs ys b hb, gs_shiftF xs ys j hj, sh_sums xs ys b h1 h2 hl, sh_sums xs ys j h1 h2 hl] at this
    exact this
  · intro j hj
    have := h4 j hj
    rw [gs_shiftF xs ys b hb, gs_shiftF xs ys j (by omega), sh_sums xs ys b h1 h2 hl, sh_sums xs ys j h1 h2 hl] at this
    exact this
  · refine maxTo_le _ _ _ (by omega) (fun j hj => ?_)
    have h5 := maxTo_ge (sumsF xs ys b) xs.length j hj
    rw [gi_sumsF xs ys b j hj] at h5
    have := camB_at h2 (j := (j + b) % ys.length) (Nat.mod_lt _ (by omega))
    omega
  · refine maxTo_le _ _ _ (by omega) (fun j hj => ?_)
    -- the step at which this height meets
    obtain ⟨i, hi, hij⟩ : ∃ i, i < xs.length ∧ (i + b) % ys.length = j := by
      refine ⟨(j + (ys.length - b)) % ys.length, by rw [hl]; exact Nat.mod_lt _ (by omega), ?_⟩
      rw [Nat.mod_add_mod, show j + (ys.length - b) + b = j + ys.length by omega, Nat.add_mod_right, Nat.mod_eq_of_lt hj]
    have h5 := maxTo_ge (sumsF xs ys b) xs.length i hi
    rw [gi_sumsF xs ys b i hi, hij] at h5
    have := camB_at h1 hi
    omega
  · refine maxTo_le _ _ _ (by omega) (fun j hj => ?_)
    rw [gi_sumsF xs ys b j hj]
    have h5 := maxTo_ge xs xs.length j hj
    have h6 := maxTo_ge ys ys.length ((j + b) % ys.length) (Nat.mod_lt _ (by omega))
    omega
/-- a cam that is turned by these steps -/
theorem turn_gi (xs : List Int) (k i : Nat) (h : i < xs.length) : gi (turnF xs k) i = gi xs ((i + k) % xs.length) := by
  rw [gi_turnF xs k i h]
  unfold cg
  congr 1
theorem turnTo_iff (xs ys : List Int) (k : Nat) (hl : xs.length = ys.length) : turnTo xs ys k xs.length ↔ xs = turnF ys k := by
  constructor
  · intro h
    refine gi_ext' (by simp [hl]) (fun j hj => ?_)
    rw [turn_gi ys k j (by omega)]
    exact h j hj
  · intro h i hi
    have : gi xs i = gi (turnF ys k) i := by rw [← h]
    rw [this, turn_gi ys k i (by omega)]
end Go.Proofs.YtncfgkhbenmpoaaGreatDoor
end

section
namespace Go.Proofs.YtncfgkhbenmpoaaGreatDoor
open Go Go.RowKit Go.Proofs
set_option linter.unusedVariables false
attribute [local go_sem] imax2 imin2

theorem take_inV (xs : List Int) (k : Nat) (h : k < xs.length) : inV (xs.take (k + 1)) = inV (xs.take k) ++ [.int .i64 (gi xs k)] := by
  rw [List.take_succ_eq_append_getElem h, inV_append]
  simp [inV, gi, h]

set_option maxRecDepth 100000 in
set_option maxHeartbeats 400000 in
theorem c43 (q : Option Addr) (cap : Nat) (xs : List Int) (s : Nat) (w : World) (hx : RdI w q xs) (hl : xs.length ≤ 1000) (hs : s ≤ 1000) :
    Calls Tryz.prog 43 #[.slice q xs.length cap, .int .i64 (s : Int)] w fun e w' => (∃ p c, e = .returned (.slice p xs.length c) ∧ RdI w' p (turnF xs s)) ∧ Below w.heap.size w w' := by
  have HX := Lib.hid hx
  obtain ⟨i0, hi0, hz0, hz1, hz2⟩ := info_parts info3
  clear hx
  go_enter Tryz.func43, Tryz.ntmps43
  go_wp2
  go_loopw [5, 6] (fun v i wr => ∃ k : Nat, k ≤ xs.length ∧ i = .int .i64 k ∧ wr.ownsRow w.heap.size 3 1 v k (inV ((turnF xs s).take k)) ∧ Below w.heap.size w wr) (fun _ i _ => xs.length - (intOf i).toNat)
  case atStart => exact ⟨0, by omega, rfl, World.ownsRow_nil _ _ _ _, Below.refl _ _⟩
  case round =>
    obtain ⟨k, hk, rfl, hown, hnx⟩ := hrel
    have HO := Lib.hid hown
    have HN := Lib.hid hnx
    by_cases hlt : k < xs.length
    · have hltI : decide ((k : Int) < (xs.length : Int)) = true := by simp; omega
      have hmd := Nat.mod_lt (k + s) (show 0 < xs.length by omega)
      obtain ⟨m, hm⟩ : ∃ m, (k + s) % xs.length = m := ⟨_, rfl⟩
      have hmt : ((k : Int) + (s : Int)).tmod (xs.length : Int) = (m : Int) := by rw [Int.tmod_eq_emod_of_nonneg (by omega), ← hm, Int.natCast_emod]; rfl
      have hme : ((k : Int) + (s : Int)) % (xs.length : Int) = (m : Int) := by rw [← hm, Int.natCast_emod]; rfl
      have HT := Lib.hid (show inV ((turnF xs s).take (k + 1)) = inV ((turnF xs s).take k) ++ [.int .i64 (gi xs m)] by rw [take_inV _ _ (by simpa using hlt), turn_gi xs s k hlt, hm])
      rw [hm] at hmd
      obtain ⟨b, o, rfl, hc⟩ := (HX.out.below hnx).at hmd
      have e1 := hc m hmd
      clear hc hown hnx hm
      go_wp2_with (at_builtin; refine wpList_append_own _ rfl _ _ 24 rfl w.heap.size 3 i0 _ 1 8 Tryz.underlying24 hi0 hz0 hz1 hz2 rfl (by decide) _ _ _ rfl (HO.out.alloc _) ⟨wr.heap.size, 0, none⟩ 1 1 [.int .i64 (gi xs m)] rfl rfl ?c1 ?c2 ?c3 ?c4 ?c5 ?_)
      case c1 => exact news_of _ _ _
      case c2 => intro x hx; simp at hx; subst hx; rfl
      case c3 => unfold maxLen; omega
      case c4 => omega
      case c5 => have := HN.out.size; simp; omega
      intro v' w5 hown' hgrow _
      have hlt' := HO.out.lt
      have HN' := Lib.hid (HN.out.trans (((Below.refl w.heap.size wr).alloc HN.out.size _).grown hgrow (by have := HN.out.size; simp; omega) (fun j hj => (hlt' j hj).1)))
      have HO' := Lib.hid hown'
      clear hown' hgrow hlt'
      go_wp2
      go_roundw
      case rel =>
        refine ⟨k + 1, by omega, by go_num, ?_, HN'.out⟩
        have := HO'.out
        rw [HT.out]
        exact this
      case measure => simp [intOf]; omega
    · obtain rfl : k = xs.length := by omega
      have hown2 := hown
      rw [List.take_of_length_le (by simp)] at hown2
      obtain ⟨p, c, rfl, hrd⟩ := rd_of_own (xs := turnF xs s) (by rw [turnF_length]; exact hown2)
      have HRD := Lib.hid hrd
      clear hown hrd hown2
      go_wp2
      go_ret
      exact ⟨⟨p, c, by simp, HRD.out⟩, hnx⟩

set_option maxRecDepth 100000 in
set_option maxHeartbeats 400000 in
theorem c63 (q : Option Addr) (cap : Nat) (xs : List Int) (q' : Option Addr) (cap' : Nat) (ys : List Int) (s : Nat) (w : World) (hx : RdI w q xs) (hy : RdI w q' ys) (h1 : camB xs = true) (h2 : camB ys = true) (hl : xs.length = ys.length) (hs : s ≤ 1000) :
    Calls Tryz.prog 63 #[.slice q xs.length cap, .slice q' ys.length cap', .int .i64 (s : Int)] w fun e w' => (∃ p c, e = .returned (.slice p xs.length c) ∧ RdI w' p (sumsF xs ys s)) ∧ Below w.heap.size w w' := by
  have HX := Lib.hid hx
  have HY := Lib.hid hy
  have H1 := Lib.hid h1
  have H2 := Lib.hid h2
  have HL := Lib.hid hl
  have hl24 := (camB_parts h1).2.1
  have hl3 := (camB_parts h2).1
  obtain ⟨i0, hi0, hz0, hz1, hz2⟩ := info_parts info3
  clear hx hy h1 h2 hl
  go_enter Tryz.func63, Tryz.ntmps63
  go_wp2
  go_loopw [7, 8] (fun v i wr => ∃ k : Nat, k ≤ xs.length ∧ i = .int .i64 k ∧ wr.ownsRow w.heap.size 3 1 v k (inV ((sumsF xs ys s).take k)) ∧ Below w.heap.size w wr) (fun _ i _ => xs.length - (intOf i).toNat)
  case atStart => exact ⟨0, by omega, rfl, World.ownsRow_nil _ _ _ _, Below.refl _ _⟩
  case round =>
    obtain ⟨k, hk, rfl, hown, hnx⟩ := hrel
    have HO := Lib.hid hown
    have HN := Lib.hid hnx
    by_cases hlt : k < xs.length
    · have hltI : decide ((k : Int) < (xs.length : Int)) = true := by simp; omega
      have hmd := Nat.mod_lt (k + s) (show 0 < ys.length by omega)
      obtain ⟨m, hm⟩ : ∃ m, (k + s) % ys.length = m := ⟨_, rfl⟩
      have hmt : ((k : Int) + (s : Int)).tmod (ys.length : Int) = (m : Int) := by rw [Int.tmod_eq_emod_of_nonneg (by omega), ← hm, Int.natCast_emod]; rfl
      have hme : ((k : Int) + (s : Int)) % (ys.length : Int) = (m : Int) := by rw [← hm, Int.natCast_emod]; rfl
      have HT := Lib.hid (show inV ((sumsF xs ys s).take (k + 1)) = inV ((sumsF xs ys s).take k) ++ [.int .i64 (gi xs k + gi ys m)] by rw [take_inV _ _ (by simpa using hlt), gi_sumsF xs ys s k hlt, hm])
      rw [hm] at hmd
      have r1 := camB_at H1.out hlt
      have r2 := camB_at H2.out hmd
      obtain ⟨b, o, rfl, hc⟩ := (HX.out.below hnx).at hlt
      have e1 := hc k hlt
      obtain ⟨b', o', rfl, hc'⟩ := (HY.out.below hnx).at hmd
      have e2 := hc' m hmd
      have hw1 : IntKind.i64.wrap (gi xs k + gi ys m) = gi xs k + gi ys m := w64 _ (by omega) (by omega)
      have hw0 : IntKind.i64.wrap ((k : Int) + (s : Int)) = (k : Int) + (s : Int) := w64 _ (by omega) (by omega)
      have hys : ¬ ys = [] := by rintro rfl; simp at hl3
      clear hc hc' hown hnx hm
      go_wp2
      go_region_law (refine step_append_lies _ rfl _ _ 24 rfl w.heap.size 3 i0 _ 1 8 Tryz.underlying24 hi0 hz0 hz1 hz2 rfl (by decide) _ _ _ rfl (HO.out.alloc _) ⟨wr.heap.size, 0, none⟩ 1 1 [.int .i64 (gi xs k + gi ys m)] rfl rfl (fun j u hj => by exact news_of wr _ 3 j u hj) (by intro u hu; simp at hu; subst hu; rfl) (by decide) (by unfold maxLen; omega) (by omega) (by have := HN.out.size; simp; omega) _ rfl ?_; intro g cap3 w1 hown' hgrow _ _)
      all_goals
        have hlt' := HO.out.lt
        have HN' := Lib.hid (HN.out.trans (((Below.refl w.heap.size wr).alloc HN.out.size _).drew.grown hgrow (by have := HN.out.size; simp; omega) (fun j hj => (hlt' j hj).1)))
        have HO' := Lib.hid hown'
        clear hown' hgrow hlt'
        go_wp2
        go_roundw
        case rel =>
          refine ⟨k + 1, by omega, by go_num, ?_, HN'.out⟩
          have := HO'.out
          rw [HT.out]
          exact this
        case measure => simp [intOf]; omega
    · obtain rfl : k = xs.length := by omega
      have hown2 := hown
      rw [List.take_of_length_le (by simp)] at hown2
      obtain ⟨p, c, rfl, hrd⟩ := rd_of_own (xs := sumsF xs ys s) (by rw [sumsF_length]; exact hown2)
      have HRD := Lib.hid hrd
      clear hown hrd hown2
      go_wp2
      go_ret
      exact ⟨⟨p, c, by simp, HRD.out⟩, hnx⟩

set_option maxRecDepth 100000 in
set_option maxHeartbeats 400000 in
theorem c45 (p : Option Addr) (cap : Nat) (xs : List Int) (w : World) (hx : RdI w p xs) (h1 : 1 ≤ xs.length) (hl : xs.length ≤ 1000000) :
    Calls Tryz.prog 45 #[.slice p xs.length cap] w fun e w' => e = .returned (.int .i64 (maxTo xs xs.length)) ∧ w = w' := by
  obtain ⟨b, off, rfl, hc⟩ := hx.at (i := 0) (by omega)
  have e0 := hc 0 (by omega)
  have HC := Lib.hid hc
  rw [Nat.add_zero] at e0
  have h0 : gi xs 0 = maxTo xs 0 := rfl
  rw [h0] at e0
  clear hc hx h0
  go_enter Tryz.func45, Tryz.ntmps45
  go_wp2
  clear e0
  go_loop [3, 4] (fun n i => ∃ k : Nat, k ≤ xs.length ∧ i = .int .i64 k ∧ n = .int .i64 (maxTo xs k)) (fun _ i => xs.length - (intOf i).toNat)
  case atStart => exact ⟨0, by omega, rfl, rfl⟩
  case round =>
    obtain ⟨k, hk, rfl, rfl⟩ := hrel
    by_cases hlt : k < xs.length
    · have e1 := HC.out k hlt
      have HE := Lib.hid (show maxTo xs (k + 1) = max (maxTo xs k) (gi xs k) from rfl)
      go_wp2
      go_round
      case rel => exact ⟨k + 1, by omega, by go_num, by rw [HE.out]⟩
      case measure => simp [intOf]; omega
    · obtain rfl : k = xs.length := by omega
      go_wp2
      go_ret
      exact ⟨rfl, rfl⟩

def belB (xs ys : List Int) : Bool := (List.range xs.length).all fun i => decide (gi xs i ≤ gi ys i)
theorem belB_iff {xs ys : List Int} : belB xs ys = true ↔ ∀ j, j < xs.length → gi xs j ≤ gi ys j := by
  unfold belB; simp [List.all_eq_true]
set_option maxRecDepth 100000 in
set_option maxHeartbeats 400000 in
theorem c44 (p : Option Addr) (cap : Nat) (xs : List Int) (q : Option Addr) (cap' : Nat) (ys : List Int) (w : World) (hx : RdI w p xs) (hy : RdI w q ys) (hl : xs.length ≤ 1000000) (h3 : xs.length = ys.length) :
    Calls Tryz.prog 44 #[.slice p xs.length cap, .slice q ys.length cap'] w fun e w' => e = .returned (.bool (belB xs ys)) ∧ ∃ n, w' = w.drewN n := by
  have HL := Lib.hid h3
  have h3' : ((xs.length : Int) == (ys.length : Int)) = true := by simp [h3]
  clear h3
  go_enter Tryz.func44, Tryz.ntmps44
  go_wp2
  go_loopw [5] (fun i wr => ∃ k : Nat, k ≤ xs.length ∧ i = .int .i64 k ∧ Hid (∀ j, j < k → gi xs j ≤ gi ys j) ∧ ∃ m, wr = w.drewN m) (fun i _ => xs.length - (intOf i).toNat)
  case atStart => exact ⟨0, by omega, rfl, Lib.hid (by intro j hj; omega), 0, by rfl⟩
  case round =>
    obtain ⟨k, hk, rfl, HK, m, rfl⟩ := hrel
    by_cases hlt : k < xs.length
    · obtain ⟨b, off, rfl, hc⟩ := hx.at hlt
      have hlt2 : k < ys.length := by have := HL.out; omega
      obtain ⟨b', off', rfl, hc'⟩ := hy.at hlt2
      have h1 := hc k hlt
      have h2 := hc' k hlt2
      clear hc hx hc' hy
      by_cases he : gi xs k > gi ys k
      · have HR := Lib.hid (show belB xs ys = false by
          cases hb : belB xs ys with
          | false => rfl
          | true => have := belB_iff.1 hb k hlt; omega)
        go_wp2
        refine wp_region_quiet_lit (by kernel_rfl) (by kernel_rfl) ?_; (repeat (first | ((with_reducible apply wq_ix Tryz.underlying24 sz3); (focus rfl); (focus rfl); (focus rfl); (focus omega); (try simp only [Nat.mul_one]); go_frame) | ((with_reducible apply wq_ix Tryz.underlying37 sz50); (focus rfl); (focus rfl); (focus rfl); (focus omega); (try simp only [Nat.mul_one]); go_frame) | ((with_reducible apply wq_ix Tryz.underlying35 sz47); (focus rfl); (focus rfl); (focus rfl); (focus omega); (try simp only [Nat.mul_one]); go_frame) | ((with_reducible apply wq_ix Tryz.underlying90 sz24); (focus rfl); (focus rfl); (focus rfl); (focus omega); (try simp only [Nat.mul_one]); go_frame) | ((with_reducible apply wq_ld ag3); (focus rfl); (focus rfl); (focus (rintro _ ⟨_, rfl⟩; first | exact h1 | exact h2)); go_frame) | ((with_reducible apply wq_ld ag24); (focus rfl); (focus rfl); (focus (rintro _ ⟨_, rfl⟩; first | exact h1 | exact h2)); go_frame) | ((with_reducible apply wq_ld ag37); (focus rfl); (focus rfl); (focus (rintro _ ⟨_, rfl⟩; first | exact h1 | exact h2)); go_frame) | ((with_reducible apply wq_ld ag90); (focus rfl); (focus rfl); (focus (rintro _ ⟨_, rfl⟩; first | exact h1 | exact h2)); go_frame) | ((with_reducible apply wq_ld ag35); (focus rfl); (focus rfl); (focus (rintro _ ⟨_, rfl⟩; first | exact h1 | exact h2)); go_frame) | ((with_reducible apply wq_add); (focus rfl); (focus rfl); (focus rfl); (focus omega); (focus omega); go_frame) | ((with_reducible apply wq_sub); (focus rfl); (focus rfl); (focus rfl); (focus omega); (focus omega); go_frame) | ((with_reducible apply wq_mul); (focus rfl); (focus rfl); (focus rfl); (focus omega); (focus omega); go_frame) | ((with_reducible apply wq_rem); (focus rfl); (focus rfl); (focus rfl); (focus omega); (focus omega); go_frame) | ((with_reducible apply wq_eql); (focus rfl); (focus rfl); (focus rfl); go_frame) | ((with_reducible apply wq_neq); (focus rfl); (focus rfl); (focus rfl); go_frame) | ((with_reducible apply wq_lss); (focus rfl); (focus rfl); (focus rfl); go_frame) | ((with_reducible apply wq_leq); (focus rfl); (focus rfl); (focus rfl); go_frame) | ((with_reducible apply wq_gtr); (focus rfl); (focus rfl); (focus rfl); go_frame) | ((with_reducible apply wq_geq); (focus rfl); (focus rfl); (focus rfl); go_frame) | ((with_reducible apply wq_max2); (focus rfl); (focus rfl); (focus rfl); go_frame) | ((with_reducible apply wq_min2); (focus rfl); (focus rfl); (focus rfl); go_frame) | ((with_reducible apply wq_max3); (focus rfl); (focus rfl); (focus rfl); (focus rfl); go_frame) | ((with_reducible apply wq_min3); (focus rfl); (focus rfl); (focus rfl); (focus rfl); go_frame) | go_big_quiet_step (fail))); refine wpQuiet_nil ?_; rintro _ ⟨nq, rfl⟩
        go_wp2
        go_ret
        exact ⟨by rw [HR.out]; rfl, m + nq, drew_add _ _ _⟩
      · have HE := Lib.hid (show gi xs k ≤ gi ys k by omega)
        go_wp2
        refine wp_region_quiet_lit (by kernel_rfl) (by kernel_rfl) ?_; (repeat (first | ((with_reducible apply wq_ix Tryz.underlying24 sz3); (focus rfl); (focus rfl); (focus rfl); (focus omega); (try simp only [Nat.mul_one]); go_frame) | ((with_reducible apply wq_ix Tryz.underlying37 sz50); (focus rfl); (focus rfl); (focus rfl); (focus omega); (try simp only [Nat.mul_one]); go_frame) | ((with_reducible apply wq_ix Tryz.underlying35 sz47); (focus rfl); (focus rfl); (focus rfl); (focus omega); (try simp only [Nat.mul_one]); go_frame) | ((with_reducible apply wq_ix Tryz.underlying90 sz24); (focus rfl); (focus rfl); (focus rfl); (focus omega); (try simp only [Nat.mul_one]); go_frame) | ((with_reducible apply wq_ld ag3); (focus rfl); (focus rfl); (focus (rintro _ ⟨_, rfl⟩; first | exact h1 | exact h2)); go_frame) | ((with_reducible apply wq_ld ag24); (focus rfl); (focus rfl); (focus (rintro _ ⟨_, rfl⟩; first | exact h1 | exact h2)); go_frame) | ((with_reducible apply wq_ld ag37); (focus rfl); (focus rfl); (focus (rintro _ ⟨_, rfl⟩; first | exact h1 | exact h2)); go_frame) | ((with_reducible apply wq_ld ag90); (focus rfl); (focus rfl); (focus (rintro _ ⟨_, rfl⟩; first | exact h1 | exact h2)); go_frame) | ((with_reducible apply wq_ld ag35); (focus rfl); (focus rfl); (focus (rintro _ ⟨_, rfl⟩; first | exact h1 | exact h2)); go_frame) | ((with_reducible apply wq_add); (focus rfl); (focus rfl); (focus rfl); (focus omega); (focus omega); go_frame) | ((with_reducible apply wq_sub); (focus rfl); (focus rfl); (focus rfl); (focus omega); (focus omega); go_frame) | ((with_reducible apply wq_mul); (focus rfl); (focus rfl); (focus rfl); (focus omega); (focus omega); go_frame) | ((with_reducible apply wq_rem); (focus rfl); (focus rfl); (focus rfl); (focus omega); (focus omega); go_frame) | ((with_reducible apply wq_eql); (focus rfl); (focus rfl); (focus rfl); go_frame) | ((with_reducible apply wq_neq); (focus rfl); (focus rfl); (focus rfl); go_frame) | ((with_reducible apply wq_lss); (focus rfl); (focus rfl); (focus rfl); go_frame) | ((with_reducible apply wq_leq); (focus rfl); (focus rfl); (focus rfl); go_frame) | ((with_reducible apply wq_gtr); (focus rfl); (focus rfl); (focus rfl); go_frame) | ((with_reducible apply wq_geq); (focus rfl); (focus rfl); (focus rfl); go_frame) | ((with_reducible apply wq_max2); (focus rfl); (focus rfl); (focus rfl); go_frame) | ((with_reducible apply wq_min2); (focus rfl); (focus rfl); (focus rfl); go_frame) | ((with_reducible apply wq_max3); (focus rfl); (focus rfl); (focus rfl); (focus rfl); go_frame) | ((with_reducible apply wq_min3); (focus rfl); (focus rfl); (focus rfl); (focus rfl); go_frame) | go_big_quiet_step (fail))); refine wpQuiet_nil ?_; rintro _ ⟨nq, rfl⟩
        go_wp2
        go_roundw
        case rel =>
          refine ⟨k + 1, by omega, by go_num, Lib.hid fun j hj => ?_, _, rfl⟩
          rcases Nat.lt_or_ge j k with h | h
          · exact HK.out j h
          · obtain rfl : j = k := by omega
            exact HE.out
        case measure => simp [intOf]; omega
    · obtain rfl : k = xs.length := by omega
      have HR := Lib.hid (belB_iff.2 HK.out)
      go_wp2
      go_ret
      exact ⟨by rw [HR.out]; rfl, m, rfl⟩

theorem befB_drop : ∀ (k : Nat) (xs ys : List Int), k ≤ xs.length → xs.length = ys.length → (∀ j, j < k → gi xs j = gi ys j) → befB xs ys = befB (xs.drop k) (ys.drop k) := by
  intro k
  induction k with
  | zero => intro xs ys _ _ _; rfl
  | succ k ih =>
    intro xs ys hk hl h
    match xs, ys, hk, hl with
    | x :: xs, y :: ys, hk, hl =>
      have h0 : x = y := h 0 (by omega)
      subst h0
      simp only [befB, if_true, List.drop_succ_cons]
      exact ih xs ys (by simpa using hk) (by simpa using hl) fun j hj => h (j + 1) (by omega)
theorem drop_gi (xs : List Int) (k : Nat) (h : k < xs.length) : xs.drop k = gi xs k :: xs.drop (k + 1) := by
  rw [List.drop_eq_getElem_cons h]; simp [gi, h]
theorem befB_at {xs ys : List Int} {k : Nat} (hl : xs.length = ys.length) (hk : k < xs.length) (h : ∀ j, j < k → gi xs j = gi ys j) (hn : gi xs k ≠ gi ys k) : befB xs ys = decide (gi xs k < gi ys k) := by
  rw [befB_drop k xs ys (by omega) hl h, drop_gi xs k hk, drop_gi ys k (by omega)]
  simp only [befB]; rw [if_neg hn]
theorem befB_same {xs ys : List Int} (hl : xs.length = ys.length) (h : ∀ j, j < xs.length → gi xs j = gi ys j) : befB xs ys = false := by
  rw [befB_drop xs.length xs ys (Nat.le_refl _) hl h, List.drop_length, hl, List.drop_length]; rfl

set_option maxRecDepth 100000 in
set_option maxHeartbeats 400000 in
theorem c65 (p : Option Addr) (cap : Nat) (xs : List Int) (q : Option Addr) (cap' : Nat) (ys : List Int) (w : World) (hx : RdI w p xs) (hy : RdI w q ys) (hl : xs.length ≤ 1000000) (h3 : xs.length = ys.length) :
    Calls Tryz.prog 65 #[.slice p xs.length cap, .slice q ys.length cap'] w fun e w' => e = .returned (.bool (befB xs ys)) ∧ ∃ n, w' = w.drewN n := by
  have HL := Lib.hid h3
  have h3' : ((xs.length : Int) < (ys.length : Int)) = False := by simp [h3]
  clear h3
  go_enter Tryz.func65, Tryz.ntmps65
  go_wp2
  go_loopw [5] (fun i wr => ∃ k : Nat, k ≤ xs.length ∧ i = .int .i64 k ∧ Hid (∀ j, j < k → gi xs j = gi ys j) ∧ ∃ m, wr = w.drewN m) (fun i _ => xs.length - (intOf i).toNat)
  case atStart => exact ⟨0, by omega, rfl, Lib.hid (by intro j hj; omega), 0, by rfl⟩
  case round =>
    obtain ⟨k, hk, rfl, HK, m, rfl⟩ := hrel
    by_cases hlt : k < xs.length
    · obtain ⟨b, off, rfl, hc⟩ := hx.at hlt
      have hlt2 : k < ys.length := by have := HL.out; omega
      obtain ⟨b', off', rfl, hc'⟩ := hy.at hlt2
      have h1 := hc k hlt
      have h2 := hc' k hlt2
      clear hc hx hc' hy
      by_cases he : gi xs k = gi ys k
      · have HE := Lib.hid he
        have he' : (gi xs k != gi ys k) = false := by simp [he]
        clear he
        go_wp2
        refine wp_region_quiet_lit (by kernel_rfl) (by kernel_rfl) ?_; (repeat (first | ((with_reducible apply wq_ix Tryz.underlying24 sz3); (focus rfl); (focus rfl); (focus rfl); (focus omega); (try simp only [Nat.mul_one]); go_frame) | ((with_reducible apply wq_ix Tryz.underlying37 sz50); (focus rfl); (focus rfl); (focus rfl); (focus omega); (try simp only [Nat.mul_one]); go_frame) | ((with_reducible apply wq_ix Tryz.underlying35 sz47); (focus rfl); (focus rfl); (focus rfl); (focus omega); (try simp only [Nat.mul_one]); go_frame) | ((with_reducible apply wq_ix Tryz.underlying90 sz24); (focus rfl); (focus rfl); (focus rfl); (focus omega); (try simp only [Nat.mul_one]); go_frame) | ((with_reducible apply wq_ld ag3); (focus rfl); (focus rfl); (focus (rintro _ ⟨_, rfl⟩; first | exact h1 | exact h2)); go_frame) | ((with_reducible apply wq_ld ag24); (focus rfl); (focus rfl); (focus (rintro _ ⟨_, rfl⟩; first | exact h1 | exact h2)); go_frame) | ((with_reducible apply wq_ld ag37); (focus rfl); (focus rfl); (focus (rintro _ ⟨_, rfl⟩; first | exact h1 | exact h2)); go_frame) | ((with_reducible apply wq_ld ag90); (focus rfl); (focus rfl); (focus (rintro _ ⟨_, rfl⟩; first | exact h1 | exact h2)); go_frame) | ((with_reducible apply wq_ld ag35); (focus rfl); (focus rfl); (focus (rintro _ ⟨_, rfl⟩; first | exact h1 | exact h2)); go_frame) | ((with_reducible apply wq_add); (focus rfl); (focus rfl); (focus rfl); (focus omega); (focus omega); go_frame) | ((with_reducible apply wq_sub); (focus rfl); (focus rfl); (focus rfl); (focus omega); (focus omega); go_frame) | ((with_reducible apply wq_mul); (focus rfl); (focus rfl); (focus rfl); (focus omega); (focus omega); go_frame) | ((with_reducible apply wq_rem); (focus rfl); (focus rfl); (focus rfl); (focus omega); (focus omega); go_frame) | ((with_reducible apply wq_eql); (focus rfl); (focus rfl); (focus rfl); go_frame) | ((with_reducible apply wq_neq); (focus rfl); (focus rfl); (focus rfl); go_frame) | ((with_reducible apply wq_lss); (focus rfl); (focus rfl); (focus rfl); go_frame) | ((with_reducible apply wq_leq); (focus rfl); (focus rfl); (focus rfl); go_frame) | ((with_reducible apply wq_gtr); (focus rfl); (focus rfl); (focus rfl); go_frame) | ((with_reducible apply wq_geq); (focus rfl); (focus rfl); (focus rfl); go_frame) | ((with_reducible apply wq_max2); (focus rfl); (focus rfl); (focus rfl); go_frame) | ((with_reducible apply wq_min2); (focus rfl); (focus rfl); (focus rfl); go_frame) | ((with_reducible apply wq_max3); (focus rfl); (focus rfl); (focus rfl); (focus rfl); go_frame) | ((with_reducible apply wq_min3); (focus rfl); (focus rfl); (focus rfl); (focus rfl); go_frame) | go_big_quiet_step (fail))); refine wpQuiet_nil ?_; rintro _ ⟨nq, rfl⟩
        go_wp2
        go_roundw
        case rel =>
          refine ⟨k + 1, by omega, by go_num, Lib.hid fun j hj => ?_, _, rfl⟩
          rcases Nat.lt_or_ge j k with h | h
          · exact HK.out j h
          · obtain rfl : j = k := by omega
            exact HE.out
        case measure => simp [intOf]; omega
      · have HR := Lib.hid (befB_at HL.out hlt HK.out he)
        have he' : (gi xs k != gi ys k) = true := by simp [he]
        clear he
        go_wp2
        refine wp_region_quiet_lit (by kernel_rfl) (by kernel_rfl) ?_; (repeat (first | ((with_reducible apply wq_ix Tryz.underlying24 sz3); (focus rfl); (focus rfl); (focus rfl); (focus omega); (try simp only [Nat.mul_one]); go_frame) | ((with_reducible apply wq_ix Tryz.underlying37 sz50); (focus rfl); (focus rfl); (focus rfl); (focus omega); (try simp only [Nat.mul_one]); go_frame) | ((with_reducible apply wq_ix Tryz.underlying35 sz47); (focus rfl); (focus rfl); (focus rfl); (focus omega); (try simp only [Nat.mul_one]); go_frame) | ((with_reducible apply wq_ix Tryz.underlying90 sz24); (focus rfl); (focus rfl); (focus rfl); (focus omega); (try simp only [Nat.mul_one]); go_frame) | ((with_reducible apply wq_ld ag3); (focus rfl); (focus rfl); (focus (rintro _ ⟨_, rfl⟩; first | exact h1 | exact h2)); go_frame) | ((with_reducible apply wq_ld ag24); (focus rfl); (focus rfl); (focus (rintro _ ⟨_, rfl⟩; first | exact h1 | exact h2)); go_frame) | ((with_reducible apply wq_ld ag37); (focus rfl); (focus rfl); (focus (rintro _ ⟨_, rfl⟩; first | exact h1 | exact h2)); go_frame) | ((with_reducible apply wq_ld ag90); (focus rfl); (focus rfl); (focus (rintro _ ⟨_, rfl⟩; first | exact h1 | exact h2)); go_frame) | ((with_reducible apply wq_ld ag35); (focus rfl); (focus rfl); (focus (rintro _ ⟨_, rfl⟩; first | exact h1 | exact h2)); go_frame) | ((with_reducible apply wq_add); (focus rfl); (focus rfl); (focus rfl); (focus omega); (focus omega); go_frame) | ((with_reducible apply wq_sub); (focus rfl); (focus rfl); (focus rfl); (focus omega); (focus omega); go_frame) | ((with_reducible apply wq_mul); (focus rfl); (focus rfl); (focus rfl); (focus omega); (focus omega); go_frame) | ((with_reducible apply wq_rem); (focus rfl); (focus rfl); (focus rfl); (focus omega); (focus omega); go_frame) | ((with_reducible apply wq_eql); (focus rfl); (focus rfl); (focus rfl); go_frame) | ((with_reducible apply wq_neq); (focus rfl); (focus rfl); (focus rfl); go_frame) | ((with_reducible apply wq_lss); (focus rfl); (focus rfl); (focus rfl); go_frame) | ((with_reducible apply wq_leq); (focus rfl); (focus rfl); (focus rfl); go_frame) | ((with_reducible apply wq_gtr); (focus rfl); (focus rfl); (focus rfl); go_frame) | ((with_reducible apply wq_geq); (focus rfl); (focus rfl); (focus rfl); go_frame) | ((with_reducible apply wq_max2); (focus rfl); (focus rfl); (focus rfl); go_frame) | ((with_reducible apply wq_min2); (focus rfl); (focus rfl); (focus rfl); go_frame) | ((with_reducible apply wq_max3); (focus rfl); (focus rfl); (focus rfl); (focus rfl); go_frame) | ((with_reducible apply wq_min3); (focus rfl); (focus rfl); (focus rfl); (focus rfl); go_frame) | go_big_quiet_step (fail))); refine wpQuiet_nil ?_; rintro _ ⟨nq, rfl⟩
        go_wp2
        refine wp_region_quiet_lit (by kernel_rfl) (by kernel_rfl) ?_; (repeat (first | ((with_reducible apply wq_ix Tryz.underlying24 sz3); (focus rfl); (focus rfl); (focus rfl); (focus omega); (try simp only [Nat.mul_one]); go_frame) | ((with_reducible apply wq_ix Tryz.underlying37 sz50); (focus rfl); (focus rfl); (focus rfl); (focus omega); (try simp only [Nat.mul_one]); go_frame) | ((with_reducible apply wq_ix Tryz.underlying35 sz47); (focus rfl); (focus rfl); (focus rfl); (focus omega); (try simp only [Nat.mul_one]); go_frame) | ((with_reducible apply wq_ix Tryz.underlying90 sz24); (focus rfl); (focus rfl); (focus rfl); (focus omega); (try simp only [Nat.mul_one]); go_frame) | ((with_reducible apply wq_ld ag3); (focus rfl); (focus rfl); (focus (rintro _ ⟨_, rfl⟩; first | exact h1 | exact h2)); go_frame) | ((with_reducible apply wq_ld ag24); (focus rfl); (focus rfl); (focus (rintro _ ⟨_, rfl⟩; first | exact h1 | exact h2)); go_frame) | ((with_reducible apply wq_ld ag37); (focus rfl); (focus rfl); (focus (rintro _ ⟨_, rfl⟩; first | exact h1 | exact h2)); go_frame) | ((with_reducible apply wq_ld ag90); (focus rfl); (focus rfl); (focus (rintro _ ⟨_, rfl⟩; first | exact h1 | exact h2)); go_frame) | ((with_reducible apply wq_ld ag35); (focus rfl); (focus rfl); (focus (rintro _ ⟨_, rfl⟩; first | exact h1 | exact h2)); go_frame) | ((with_reducible apply wq_add); (focus rfl); (focus rfl); (focus rfl); (focus omega); (focus omega); go_frame) | ((with_reducible apply wq_sub); (focus rfl); (focus rfl); (focus rfl); (focus omega); (focus omega); go_frame) | ((with_reducible apply wq_mul); (focus rfl); (focus rfl); (focus rfl); (focus omega); (focus omega); go_frame) | ((with_reducible apply wq_rem); (focus rfl); (focus rfl); (focus rfl); (focus omega); (focus omega); go_frame) | ((with_reducible apply wq_eql); (focus rfl); (focus rfl); (focus rfl); go_frame) | ((with_reducible apply wq_neq); (focus rfl); (focus rfl); (focus rfl); go_frame) | ((with_reducible apply wq_lss); (focus rfl); (focus rfl); (focus rfl); go_frame) | ((with_reducible apply wq_leq); (focus rfl); (focus rfl); (focus rfl); go_frame) | ((with_reducible apply wq_gtr); (focus rfl); (focus rfl); (focus rfl); go_frame) | ((with_reducible apply wq_geq); (focus rfl); (focus rfl); (focus rfl); go_frame) | ((with_reducible apply wq_max2); (focus rfl); (focus rfl); (focus rfl); go_frame) | ((with_reducible apply wq_min2); (focus rfl); (focus rfl); (focus rfl); go_frame) | ((with_reducible apply wq_max3); (focus rfl); (focus rfl); (focus rfl); (focus rfl); go_frame) | ((with_reducible apply wq_min3); (focus rfl); (focus rfl); (focus rfl); (focus rfl); go_frame) | go_big_quiet_step (fail))); refine wpQuiet_nil ?_; rintro _ ⟨nq, rfl⟩
        go_wp2
        go_ret
        exact ⟨by rw [HR.out]; rfl, _, by rw [drew_add, drew_add]⟩
    · obtain rfl : k = xs.length := by omega
      have HR := Lib.hid (befB_same HL.out HK.out)
      go_wp2
      go_ret
      exact ⟨by rw [HR.out]; simp [HL.out], m, rfl⟩

set_option maxRecDepth 100000 in
set_option maxHeartbeats 400000 in
theorem c68 (p : Option Addr) (cap : Nat) (xs : List Int) (w : World) (hx : RdI w p xs) (hl : xs.length ≤ 1000000) :
    Calls Tryz.prog 68 #[.slice p xs.length cap] w fun e w' => e = .returned (.int .i64 (chg xs xs.length)) ∧ ∃ n, w' = w.drewN n := by
  go_enter Tryz.func68, Tryz.ntmps68
  go_wp2
  go_loopw [3, 4] (fun n i wr => ∃ k : Nat, k ≤ xs.length ∧ i = .int .i64 k ∧ n = .int .i64 (chg xs k) ∧ ∃ m, wr = w.drewN m) (fun _ i _ => xs.length - (intOf i).toNat)
  case atStart => exact ⟨0, by omega, rfl, rfl, 0, by rfl⟩
  case round =>
    obtain ⟨k, hk, rfl, rfl, m, rfl⟩ := hrel
    have hle := chg_le xs k
    by_cases hlt : k < xs.length
    · obtain ⟨b, off, rfl, hc⟩ := hx.at hlt
      have h1 := hc k hlt
      have h2 := hc ((k + 1) % xs.length) (Nat.mod_lt _ (by omega))
      have hmd := Nat.mod_lt (k + 1) (show 0 < xs.length by omega)
      have HM := nat_emod k xs.length
      clear hc hx
      by_cases he : gi xs k = gi xs ((k + 1) % xs.length)
      · have HC := Lib.hid (show chg xs (k + 1) = chg xs k by simp only [chg]; rw [if_pos he]; omega)
        have he' : (gi xs k != gi xs ((k + 1) % xs.length)) = false := by simp [he]
        clear he
        go_wp2
        refine wp_region_quiet_lit (by kernel_rfl) (by kernel_rfl) ?_; (repeat (first | (rw [HM]) | ((with_reducible apply wq_ix Tryz.underlying24 sz3); (focus rfl); (focus rfl); (focus rfl); (focus omega); (try simp only [Nat.mul_one]); go_frame) | ((with_reducible apply wq_ix Tryz.underlying37 sz50); (focus rfl); (focus rfl); (focus rfl); (focus omega); (try simp only [Nat.mul_one]); go_frame) | ((with_reducible apply wq_ix Tryz.underlying35 sz47); (focus rfl); (focus rfl); (focus rfl); (focus omega); (try simp only [Nat.mul_one]); go_frame) | ((with_reducible apply wq_ix Tryz.underlying90 sz24); (focus rfl); (focus rfl); (focus rfl); (focus omega); (try simp only [Nat.mul_one]); go_frame) | ((with_reducible apply wq_ld ag3); (focus rfl); (focus rfl); (focus (rintro _ ⟨_, rfl⟩; first | exact h1 | exact h2)); go_frame) | ((with_reducible apply wq_ld ag24); (focus rfl); (focus rfl); (focus (rintro _ ⟨_, rfl⟩; first | exact h1 | exact h2)); go_frame) | ((with_reducible apply wq_ld ag37); (focus rfl); (focus rfl); (focus (rintro _ ⟨_, rfl⟩; first | exact h1 | exact h2)); go_frame) | ((with_reducible apply wq_ld ag90); (focus rfl); (focus rfl); (focus (rintro _ ⟨_, rfl⟩; first | exact h1 | exact h2)); go_frame) | ((with_reducible apply wq_ld ag35); (focus rfl); (focus rfl); (focus (rintro _ ⟨_, rfl⟩; first | exact h1 | exact h2)); go_frame) | ((with_reducible apply wq_add); (focus rfl); (focus rfl); (focus rfl); (focus omega); (focus omega); go_frame) | ((with_reducible apply wq_sub); (focus rfl); (focus rfl); (focus rfl); (focus omega); (focus omega); go_frame) | ((with_reducible apply wq_mul); (focus rfl); (focus rfl); (focus rfl); (focus omega); (focus omega); go_frame) | ((with_reducible apply wq_rem); (focus rfl); (focus rfl); (focus rfl); (focus omega); (focus omega); go_frame) | ((with_reducible apply wq_eql); (focus rfl); (focus rfl); (focus rfl); go_frame) | ((with_reducible apply wq_neq); (focus rfl); (focus rfl); (focus rfl); go_frame) | ((with_reducible apply wq_lss); (focus rfl); (focus rfl); (focus rfl); go_frame) | ((with_reducible apply wq_leq); (focus rfl); (focus rfl); (focus rfl); go_frame) | ((with_reducible apply wq_gtr); (focus rfl); (focus rfl); (focus rfl); go_frame) | ((with_reducible apply wq_geq); (focus rfl); (focus rfl); (focus rfl); go_frame) | ((with_reducible apply wq_max2); (focus rfl); (focus rfl); (focus rfl); go_frame) | ((with_reducible apply wq_min2); (focus rfl); (focus rfl); (focus rfl); go_frame) | ((with_reducible apply wq_max3); (focus rfl); (focus rfl); (focus rfl); (focus rfl); go_frame) | ((with_reducible apply wq_min3); (focus rfl); (focus rfl); (focus rfl); (focus rfl); go_frame) | go_big_quiet_step (fail))); refine wpQuiet_nil ?_; rintro _ ⟨nq, rfl⟩
        go_wp2
        go_roundw
        case rel => exact ⟨k + 1, by omega, by go_num, by rw [HC.out], _, rfl⟩
        case measure => simp [intOf]; omega
      · have HC := Lib.hid (show chg xs (k + 1) = chg xs k + 1 by simp only [chg]; rw [if_neg he])
        have he' : (gi xs k != gi xs ((k + 1) % xs.length)) = true := by simp [he]
        clear he
        go_wp2
        refine wp_region_quiet_lit (by kernel_rfl) (by kernel_rfl) ?_; (repeat (first | (rw [HM]) | ((with_reducible apply wq_ix Tryz.underlying24 sz3); (focus rfl); (focus rfl); (focus rfl); (focus omega); (try simp only [Nat.mul_one]); go_frame) | ((with_reducible apply wq_ix Tryz.underlying37 sz50); (focus rfl); (focus rfl); (focus rfl); (focus omega); (try simp only [Nat.mul_one]); go_frame) | ((with_reducible apply wq_ix Tryz.underlying35 sz47); (focus rfl); (focus rfl); (focus rfl); (focus omega); (try simp only [Nat.mul_one]); go_frame) | ((with_reducible apply wq_ix Tryz.underlying90 sz24); (focus rfl); (focus rfl); (focus rfl); (focus omega); (try simp only [Nat.mul_one]); go_frame) | ((with_reducible apply wq_ld ag3); (focus rfl); (focus rfl); (focus (rintro _ ⟨_, rfl⟩; first | exact h1 | exact h2)); go_frame) | ((with_reducible apply wq_ld ag24); (focus rfl); (focus rfl); (focus (rintro _ ⟨_, rfl⟩; first | exact h1 | exact h2)); go_frame) | ((with_reducible apply wq_ld ag37); (focus rfl); (focus rfl); (focus (rintro _ ⟨_, rfl⟩; first | exact h1 | exact h2)); go_frame) | ((with_reducible apply wq_ld ag90); (focus rfl); (focus rfl); (focus (rintro _ ⟨_, rfl⟩; first | exact h1 | exact h2)); go_frame) | ((with_reducible apply wq_ld ag35); (focus rfl); (focus rfl); (focus (rintro _ ⟨_, rfl⟩; first | exact h1 | exact h2)); go_frame) | ((with_reducible apply wq_add); (focus rfl); (focus rfl); (focus rfl); (focus omega); (focus omega); go_frame) | ((with_reducible apply wq_sub); (focus rfl); (focus rfl); (focus rfl); (focus omega); (focus omega); go_frame) | ((with_reducible apply wq_mul); (focus rfl); (focus rfl); (focus rfl); (focus omega); (focus omega); go_frame) | ((with_reducible apply wq_rem); (focus rfl); (focus rfl); (focus rfl); (focus omega); (focus omega); go_frame) | ((with_reducible apply wq_eql); (focus rfl); (focus rfl); (focus rfl); go_frame) | ((with_reducible apply wq_neq); (focus rfl); (focus rfl); (focus rfl); go_frame) | ((with_reducible apply wq_lss); (focus rfl); (focus rfl); (focus rfl); go_frame) | ((with_reducible apply wq_leq); (focus rfl); (focus rfl); (focus rfl); go_frame) | ((with_reducible apply wq_gtr); (focus rfl); (focus rfl); (focus rfl); go_frame) | ((with_reducible apply wq_geq); (focus rfl); (focus rfl); (focus rfl); go_frame) | ((with_reducible apply wq_max2); (focus rfl); (focus rfl); (focus rfl); go_frame) | ((with_reducible apply wq_min2); (focus rfl); (focus rfl); (focus rfl); go_frame) | ((with_reducible apply wq_max3); (focus rfl); (focus rfl); (focus rfl); (focus rfl); go_frame) | ((with_reducible apply wq_min3); (focus rfl); (focus rfl); (focus rfl); (focus rfl); go_frame) | go_big_quiet_step (fail))); refine wpQuiet_nil ?_; rintro _ ⟨nq, rfl⟩
        go_wp2
        go_roundw
        case rel => exact ⟨k + 1, by omega, by go_num, by rw [HC.out], _, rfl⟩
        case measure => simp [intOf]; omega
    · go_wp2
      go_ret
      obtain rfl : k = xs.length := by omega
      exact ⟨rfl, m, rfl⟩

set_option maxRecDepth 100000 in
set_option maxHeartbeats 400000 in
theorem c70 (p : Option Addr) (cap : Nat) (xs : List Int) (q : Option Addr) (cap' : Nat) (ys : List Int) (w : World) (hx : RdI w p xs) (hy : RdI w q ys) (hl : xs.length ≤ 1000000) (h3 : xs.length = ys.length)
    (hb : ∀ j, j < xs.length → (-1000 ≤ gi xs j ∧ gi xs j ≤ 1000) ∧ (-1000 ≤ gi ys j ∧ gi ys j ≤ 1000)) :
    Calls Tryz.prog 70 #[.slice p xs.length cap, .slice q ys.length cap'] w fun e w' => e = .returned (.int .i64 (errTo xs ys xs.length)) ∧ ∃ n, w' = w.drewN n := by
  have HL := Lib.hid h3
  have HBD := Lib.hid hb
  clear h3 hb
  go_enter Tryz.func70, Tryz.ntmps70
  go_wp2
  go_loopw [5, 6] (fun n i wr => ∃ k : Nat, k ≤ xs.length ∧ i = .int .i64 k ∧ n = .int .i64 (errTo xs ys k) ∧ ∃ m, wr = w.drewN m) (fun _ i _ => xs.length - (intOf i).toNat)
  case atStart => exact ⟨0, by omega, rfl, rfl, 0, by rfl⟩
  case round =>
    obtain ⟨k, hk, rfl, rfl, m, rfl⟩ := hrel
    by_cases hlt : k < xs.length
    · obtain ⟨b, off, rfl, hc⟩ := hx.at hlt
      have hlt2 : k < ys.length := by have := HL.out; omega
      obtain ⟨b', off', rfl, hc'⟩ := hy.at hlt2
      have h1 := hc k hlt
      have h2 := hc' k hlt2
      have hr := HBD.out k hlt
      have HC := Lib.hid (show errTo xs ys (k + 1) = max (max (errTo xs ys k) (gi xs k - gi ys k)) (gi ys k - gi xs k) by simp only [errTo, sizeF]; omega)
      clear hc hx hc' hy
      go_wp2
      refine wp_region_quiet_lit (by kernel_rfl) (by kernel_rfl) ?_; (repeat (first | ((with_reducible apply wq_ix Tryz.underlying24 sz3); (focus rfl); (focus rfl); (focus rfl); (focus omega); (try simp only [Nat.mul_one]); go_frame) | ((with_reducible apply wq_ix Tryz.underlying37 sz50); (focus rfl); (focus rfl); (focus rfl); (focus omega); (try simp only [Nat.mul_one]); go_frame) | ((with_reducible apply wq_ix Tryz.underlying35 sz47); (focus rfl); (focus rfl); (focus rfl); (focus omega); (try simp only [Nat.mul_one]); go_frame) | ((with_reducible apply wq_ix Tryz.underlying90 sz24); (focus rfl); (focus rfl); (focus rfl); (focus omega); (try simp only [Nat.mul_one]); go_frame) | ((with_reducible apply wq_ld ag3); (focus rfl); (focus rfl); (focus (rintro _ ⟨_, rfl⟩; first | exact h1 | exact h2)); go_frame) | ((with_reducible apply wq_ld ag24); (focus rfl); (focus rfl); (focus (rintro _ ⟨_, rfl⟩; first | exact h1 | exact h2)); go_frame) | ((with_reducible apply wq_ld ag37); (focus rfl); (focus rfl); (focus (rintro _ ⟨_, rfl⟩; first | exact h1 | exact h2)); go_frame) | ((with_reducible apply wq_ld ag90); (focus rfl); (focus rfl); (focus (rintro _ ⟨_, rfl⟩; first | exact h1 | exact h2)); go_frame) | ((with_reducible apply wq_ld ag35); (focus rfl); (focus rfl); (focus (rintro _ ⟨_, rfl⟩; first | exact h1 | exact h2)); go_frame) | ((with_reducible apply wq_add); (focus rfl); (focus rfl); (focus rfl); (focus omega); (focus omega); go_frame) | ((with_reducible apply wq_sub); (focus rfl); (focus rfl); (focus rfl); (focus omega); (focus omega); go_frame) | ((with_reducible apply wq_mul); (focus rfl); (focus rfl); (focus rfl); (focus omega); (focus omega); go_frame) | ((with_reducible apply wq_rem); (focus rfl); (focus rfl); (focus rfl); (focus omega); (focus omega); go_frame) | ((with_reducible apply wq_eql); (focus rfl); (focus rfl); (focus rfl); go_frame) | ((with_reducible apply wq_neq); (focus rfl); (focus rfl); (focus rfl); go_frame) | ((with_reducible apply wq_lss); (focus rfl); (focus rfl); (focus rfl); go_frame) | ((with_reducible apply wq_leq); (focus rfl); (focus rfl); (focus rfl); go_frame) | ((with_reducible apply wq_gtr); (focus rfl); (focus rfl); (focus rfl); go_frame) | ((with_reducible apply wq_geq); (focus rfl); (focus rfl); (focus rfl); go_frame) | ((with_reducible apply wq_max2); (focus rfl); (focus rfl); (focus rfl); go_frame) | ((with_reducible apply wq_min2); (focus rfl); (focus rfl); (focus rfl); go_frame) | ((with_reducible apply wq_max3); (focus rfl); (focus rfl); (focus rfl); (focus rfl); go_frame) | ((with_reducible apply wq_min3); (focus rfl); (focus rfl); (focus rfl); (focus rfl); go_frame) | go_big_quiet_step (fail))); refine wpQuiet_nil ?_; rintro _ ⟨nq, rfl⟩
      go_wp2
      go_roundw
      case rel => exact ⟨k + 1, by omega, by go_num, by rw [HC.out], _, rfl⟩
      case measure => simp [intOf]; omega
    · go_wp2
      go_ret
      obtain rfl : k = xs.length := by omega
      exact ⟨rfl, m, rfl⟩
end Go.Proofs.YtncfgkhbenmpoaaGreatDoor
end

section
namespace Go.Proofs.YtncfgkhbenmpoaaGreatDoor
open Go Go.RowKit Go.Proofs
set_option linter.unusedVariables false
attribute [local go_sem] imax2 imin2

/-- by which steps, up to some number of them, the greatest sum is least, by the references -/
def rbF (xs ys : List Int) : Nat → Nat
  | 0 => 0
  | k + 1 => if maxTo (sumsF xs ys k) xs.length < maxTo (sumsF xs ys (rbF xs ys k)) xs.length then k else rbF xs ys k
theorem rbF_le (xs ys : List Int) : ∀ k, rbF xs ys k ≤ k := by
  intro k
  induction k with
  | zero => exact Nat.le_refl _
  | succ k ih => simp only [rbF]; split <;> omega
theorem rbF_best (xs ys : List Int) (h1 : camB xs = true) (h2 : camB ys = true) (hl : xs.length = ys.length) : ∀ k, k ≤ xs.length →
    rbF xs ys k < xs.length ∧ bestTo (shiftF xs ys) k = (((rbF xs ys k : Nat) : Int), maxTo (sumsF xs ys (rbF xs ys k)) xs.length) := by
  intro k
  have h3 := (camB_parts h1).1
  induction k with
  | zero =>
    intro _
    refine ⟨by show 0 < _; omega, ?_⟩
    show gs (shiftF xs ys) 0 = _
    rw [gs_shiftF xs ys 0 (by omega), sh_sums xs ys 0 h1 h2 hl]; rfl
  | succ k ih =>
    intro hk
    obtain ⟨i1, i2⟩ := ih (by omega)
    simp only [bestTo, rbF]
    rw [i2, gs_shiftF xs ys k (by omega), sh_sums xs ys k h1 h2 hl]
    split
    · rename_i h
      exact ⟨by omega, rfl⟩
    · rename_i h
      exact ⟨i1, rfl⟩

theorem c45s (p : Option Addr) (cap : Nat) (xs ys : List Int) (s : Nat) (w : World) (hx : RdI w p (sumsF xs ys s)) (h1 : 1 ≤ xs.length) (hl : xs.length ≤ 1000000) :
    Calls Tryz.prog 45 #[.slice p xs.length cap] w fun e w' => e = .returned (.int .i64 (maxTo (sumsF xs ys s) xs.length)) ∧ w = w' := by
  have h := c45 p cap (sumsF xs ys s) w hx (by simpa using h1) (by simpa using hl)
  rw [sumsF_length] at h
  exact h

set_option maxRecDepth 100000 in
set_option maxHeartbeats 400000 in
theorem c61 (p : Option Addr) (cap : Nat) (xs : List Int) (q : Option Addr) (cap' : Nat) (ys : List Int) (w : World) (hx : RdI w p xs) (hy : RdI w q ys) (h1 : camB xs = true) (h2 : camB ys = true) (h3 : xs.length = ys.length) :
    Calls Tryz.prog 61 #[.slice p xs.length cap, .slice q ys.length cap'] w fun e w' => e = .returned (.tuple #[.int .i64 (bestTo (shiftF xs ys) xs.length).1, .int .i64 (bestTo (shiftF xs ys) xs.length).2]) ∧ Below w.heap.size w w' := by
  have HX := Lib.hid hx
  have HY := Lib.hid hy
  have H1 := Lib.hid h1
  have H2 := Lib.hid h2
  have H3 := Lib.hid h3
  have HB := Lib.hid (Below.refl w.heap.size w)
  have hl24 := (camB_parts h1).2.1
  have hl3 := (camB_parts h1).1
  have HBEST := Lib.hid (rbF_best xs ys h1 h2 h3 xs.length (Nat.le_refl _))
  clear hx hy h1 h2 h3
  go_enter Tryz.func61, Tryz.ntmps61
  go_wp2
  go_loopw [6, 7] (fun b i wr => ∃ k : Nat, k ≤ xs.length ∧ i = .int .i64 k ∧ b = .int .i64 (rbF xs ys k : Nat) ∧ Hid (Below w.heap.size w wr)) (fun _ i _ => xs.length - (intOf i).toNat)
  case atStart => exact ⟨0, by omega, rfl, rfl, HB⟩
  case round =>
    obtain ⟨k, hk, rfl, rfl, HLo⟩ := hrel
    have hle := rbF_le xs ys k
    by_cases hlt : k < xs.length
    · (have bq := HLo.out); replace HB := Lib.hid (HB.out.trans (bq.mono HB.out.size)); replace HX := Lib.hid (HX.out.below bq); replace HY := Lib.hid (HY.out.below bq); clear bq
      have HRB := Lib.hid (show rbF xs ys (k + 1) = if maxTo (sumsF xs ys k) xs.length < maxTo (sumsF xs ys (rbF xs ys k)) xs.length then k else rbF xs ys k from rfl)
      generalize rbF xs ys k = rb at *
      (go_wp2_with fail); refine (c63 p cap xs q cap' ys k _ HX.out HY.out H1.out H2.out H3.out (by omega)).mono ?_; rintro e wn ⟨⟨s1, d1, rfl, hs⟩, bq⟩; replace HB := Lib.hid (HB.out.trans (bq.mono HB.out.size)); replace HX := Lib.hid (HX.out.below bq); replace HY := Lib.hid (HY.out.below bq); clear bq
      obtain ⟨v1, hv1⟩ : ∃ v1, maxTo (sumsF xs ys k) xs.length = v1 := ⟨_, rfl⟩
      have h45 := c45s s1 d1 xs ys k _ hs (by omega) (by omega)
      rw [hv1] at h45
      have HV1 := Lib.hid hv1
      clear hv1 hs
      (go_wp2_with fail); refine (h45).mono ?_; rintro e wn ⟨rfl, rfl⟩
      clear h45
      (go_wp2_with fail); refine (c63 p cap xs q cap' ys rb _ HX.out HY.out H1.out H2.out H3.out (by omega)).mono ?_; rintro e wn ⟨⟨s2, d2, rfl, hs⟩, bq⟩; replace HB := Lib.hid (HB.out.trans (bq.mono HB.out.size)); replace HX := Lib.hid (HX.out.below bq); replace HY := Lib.hid (HY.out.below bq); clear bq
      obtain ⟨v2, hv2⟩ : ∃ v2, maxTo (sumsF xs ys rb) xs.length = v2 := ⟨_, rfl⟩
      have h45 := c45s s2 d2 xs ys rb _ hs (by omega) (by omega)
      rw [hv2] at h45
      have HV2 := Lib.hid hv2
      clear hv2 hs
      (go_wp2_with fail); refine (h45).mono ?_; rintro e wn ⟨rfl, rfl⟩
      clear h45
      by_cases hv : v1 < v2
      · have HE := Lib.hid (show rbF xs ys (k + 1) = k by rw [HRB.out, HV1.out, HV2.out, if_pos hv])
        go_wp2
        go_roundw
        case rel => exact ⟨k + 1, by omega, by go_num, by rw [HE.out], HB⟩
        case measure => simp [intOf]; omega
      · have HE := Lib.hid (show rbF xs ys (k + 1) = rb by rw [HRB.out, HV1.out, HV2.out, if_neg hv])
        go_wp2
        go_roundw
        case rel => exact ⟨k + 1, by omega, by go_num, by rw [HE.out], HB⟩
        case measure => simp [intOf]; omega
    · obtain rfl : k = xs.length := by omega
      (have bq := HLo.out); replace HB := Lib.hid (HB.out.trans (bq.mono HB.out.size)); replace HX := Lib.hid (HX.out.below bq); replace HY := Lib.hid (HY.out.below bq); clear bq
      have hrl := HBEST.out.1
      have HBE := Lib.hid HBEST.out.2
      generalize rbF xs ys xs.length = rb at *
      (go_wp2_with fail); refine (c63 p cap xs q cap' ys rb _ HX.out HY.out H1.out H2.out H3.out (by omega)).mono ?_; rintro e wn ⟨⟨s2, d2, rfl, hs⟩, bq⟩; replace HB := Lib.hid (HB.out.trans (bq.mono HB.out.size)); clear bq
      (go_wp2_with fail); refine (c45s s2 d2 xs ys rb _ hs (by omega) (by omega)).mono ?_; rintro e wn ⟨rfl, rfl⟩
      go_wp2
      go_ret2
      exact ⟨by rw [HBE.out]; rfl, HB.out⟩

/-- the first number of steps, below some number, by which one list is another one that is turned; -1, if there is none -/
def tnTo (xs ys : List Int) : Nat → Int
  | 0 => -1
  | k + 1 => if tnTo xs ys k ≥ 0 then tnTo xs ys k else if xs = turnF ys k then k else -1
theorem tn_none (xs ys : List Int) : ∀ n : Nat, (∀ j : Nat, j < n → ¬ xs = turnF ys j) → tnTo xs ys n = -1 := by
  intro n
  induction n with
  | zero => intro _; rfl
  | succ n ih =>
    intro h
    simp only [tnTo]
    rw [ih fun j hj => h j (by omega), if_neg (by omega), if_neg (h n (by omega))]
theorem tn_some (xs ys : List Int) (k : Nat) (hk : xs = turnF ys k) (h : ∀ j : Nat, j < k → ¬ xs = turnF ys j) : ∀ n : Nat, k < n → tnTo xs ys n = k := by
  intro n
  induction n with
  | zero => intro h; omega
  | succ n ih =>
    intro hn
    simp only [tnTo]
    rcases Nat.lt_or_ge k n with h1 | h1
    · rw [ih h1, if_pos (by omega)]
    · obtain rfl : k = n := by omega
      rw [tn_none xs ys k h, if_neg (by omega), if_pos hk]

theorem c60_tn (p : Option Addr) (cap : Nat) (xs : List Int) (q : Option Addr) (cap' : Nat) (ys : List Int) (w : World) (hx : RdI w p xs) (hy : RdI w q ys) (h1 : camB xs = true) (h2 : camB ys = true) (h3 : xs.length = ys.length) :
    Calls Tryz.prog 60 #[.slice p xs.length cap, .slice q ys.length cap'] w fun e w' => e = .returned (.tuple #[.int .i64 (if tnTo xs ys xs.length ≥ 0 then tnTo xs ys xs.length else 0), .int .i64 (if tnTo xs ys xs.length ≥ 0 then 0 else 5)]) ∧ w = w' := by
  refine (c60_ok p cap xs q cap' ys w hx hy h1 h2 h3).mono ?_
  rintro e w' ⟨rfl, ⟨k, hk, ht, hn, rfl⟩ | ⟨hn, rfl⟩⟩
  · rw [tn_some xs ys k ((turnTo_iff xs ys k h3).1 ht) (fun j hj h => hn j hj ((turnTo_iff xs ys j h3).2 h)) xs.length hk, if_pos (by omega), if_pos (by omega)]
    exact ⟨rfl, rfl⟩
  · rw [tn_none xs ys xs.length (fun j hj h => hn j hj ((turnTo_iff xs ys j h3).2 h)), if_neg (by omega), if_neg (by omega)]
    exact ⟨rfl, rfl⟩

set_option maxRecDepth 100000 in
set_option maxHeartbeats 400000 in
theorem c62 (p : Option Addr) (cap : Nat) (xs : List Int) (q : Option Addr) (cap' : Nat) (ys : List Int) (w : World) (hx : RdI w p xs) (hy : RdI w q ys) (hl : xs.length ≤ 1000) (h3 : xs.length = ys.length) :
    Calls Tryz.prog 62 #[.slice p xs.length cap, .slice q ys.length cap'] w fun e w' => e = .returned (.int .i64 (tnTo xs ys xs.length)) ∧ Below w.heap.size w w' := by
  have HX := Lib.hid hx
  have HY := Lib.hid hy
  have H3 := Lib.hid h3
  have HB := Lib.hid (Below.refl w.heap.size w)
  clear hx hy h3
  go_enter Tryz.func62, Tryz.ntmps62
  go_wp2
  go_loopw [5] (fun i wr => ∃ k : Nat, k ≤ xs.length ∧ i = .int .i64 k ∧ Hid (∀ j : Nat, j < k → ¬ xs = turnF ys j) ∧ Hid (Below w.heap.size w wr)) (fun i _ => xs.length - (intOf i).toNat)
  case atStart => exact ⟨0, by omega, rfl, Lib.hid (by intro j hj; omega), HB⟩
  case round =>
    obtain ⟨k, hk, rfl, HN, HLo⟩ := hrel
    by_cases hlt : k < xs.length
    · (have bq := HLo.out); replace HB := Lib.hid (HB.out.trans (bq.mono HB.out.size)); replace HX := Lib.hid (HX.out.below bq); replace HY := Lib.hid (HY.out.below bq); clear bq
      (go_wp2_with fail); refine (c43 q cap' ys k _ HY.out (by have := H3.out; omega) (by omega)).mono ?_; rintro e wn ⟨⟨s1, d1, rfl, hs⟩, bq⟩; replace HB := Lib.hid (HB.out.trans (bq.mono HB.out.size)); replace HX := Lib.hid (HX.out.below bq); replace HY := Lib.hid (HY.out.below bq); clear bq
      have h30 := c30 p cap xs s1 d1 (turnF ys k) _ HX.out hs (by omega)
      rw [turnF_length] at h30
      clear hs
      by_cases he : xs = turnF ys k
      · have HR := Lib.hid (tn_some xs ys k he HN.out xs.length hlt)
        rw [decide_eq_true he] at h30
        clear he
        (go_wp2_with fail); refine (h30).mono ?_; rintro e wn ⟨rfl, nq, hq⟩; (have bq := below_dr hq); clear hq; replace HB := Lib.hid (HB.out.trans (bq.mono HB.out.size)); clear bq
        go_wp2
        go_ret
        exact ⟨by rw [HR.out]; rfl, HB.out⟩
      · rw [decide_eq_false he] at h30
        have HE := Lib.hid he
        clear he
        (go_wp2_with fail); refine (h30).mono ?_; rintro e wn ⟨rfl, nq, hq⟩; (have bq := below_dr hq); clear hq; replace HB := Lib.hid (HB.out.trans (bq.mono HB.out.size)); clear bq
        clear h30
        go_wp2
        go_roundw
        case rel =>
          refine ⟨k + 1, by omega, by go_num, Lib.hid fun j hj => ?_, HB⟩
          rcases Nat.lt_or_ge j k with h | h
          · exact HN.out j h
          · obtain rfl : j = k := by omega
            exact HE.out
        case measure => simp [intOf]; omega
    · obtain rfl : k = xs.length := by omega
      have HR := Lib.hid (tn_none xs ys xs.length HN.out)
      go_wp2
      go_ret
      exact ⟨by rw [HR.out]; rfl, HLo.out⟩

set_option maxRecDepth 100000 in
theorem c60_no (p : Option Addr) (cap : Nat) (xs : List Int) (q : Option Addr) (cap' : Nat) (ys : List Int) (w : World) (hx : RdI w p xs) (hl : xs.length ≤ 17592186044416) (hy : RdI w q ys) (hl' : ys.length ≤ 17592186044416)
    (h : (camB xs && camB ys && decide (xs.length = ys.length)) = false) :
    Calls Tryz.prog 60 #[.slice p xs.length cap, .slice q ys.length cap'] w fun e w' => e = .returned (.tuple #[.int .i64 0, .int .i64 2]) ∧ w = w' := by
  have h113 := c113 p cap xs q cap' ys w hx hl hy hl'
  rw [h] at h113
  clear h
  go_enter Tryz.func60, Tryz.ntmps60
  go_wp2_with fail
  go_step3
  go_wp2_with fail
  refine h113.mono ?_
  rintro e w' ⟨rfl, rfl⟩
  clear h113
  go_wp2
  simp only [Exit.noGoto]
  go_ret2
  exact ⟨rfl, rfl⟩
end Go.Proofs.YtncfgkhbenmpoaaGreatDoor
end

section
namespace Go.Proofs.YtncfgkhbenmpoaaGreatDoor
open Go Go.RowKit Go.Proofs
set_option linter.unusedVariables false
attribute [local go_sem] imax2 imin2

/-- the greatest heights for a want and an error -/
def mostF (xs : List Int) (e : Int) : List Int := xs.map fun n => min 30 (n + e)
@[simp] theorem mostF_length (xs : List Int) (e : Int) : (mostF xs e).length = xs.length := by simp [mostF]
theorem gi_mostF (xs : List Int) (e : Int) (i : Nat) (h : i < xs.length) : gi (mostF xs e) i = min 30 (gi xs i + e) := by
  unfold gi mostF; simp [h]
theorem cg_mostF (xs : List Int) (e : Int) (h : 0 < xs.length) (z : Int) : cg (mostF xs e) z = min 30 (cg xs z + e) := by
  unfold cg; rw [mostF_length]; exact gi_mostF _ _ _ (cg_lt xs h z)
theorem mn_mostF (xs : List Int) (e : Int) (h : 0 < xs.length) (z : Int) : ∀ f : Nat, mn (mostF xs e) z f = min 30 (mn xs z f + e) := by
  intro f
  induction f with
  | zero => exact cg_mostF xs e h z
  | succ f ih => simp only [mn]; rw [ih, cg_mostF xs e h, cg_mostF xs e h]; omega
theorem under_most (xs : List Int) (f : Nat) (e : Int) (h : 0 < xs.length) : underF (mostF xs e) f = carveAt xs f e := by
  refine gi_ext (by simp) fun j hj => ?_
  have hj' : j < xs.length := by simpa using hj
  rw [gi_underF _ _ _ (by simpa using hj'), mn_mostF xs e h, gi_carveAt xs f e j hj']
theorem camB_most (xs : List Int) (e : Int) (h : camB xs = true) (he : 0 ≤ e) : camB (mostF xs e) = true := by
  obtain ⟨h1, h2, h3⟩ := (camB_iff xs).1 h
  rw [camB_iff]
  refine ⟨by simp; omega, by simp; omega, fun x hx => ?_⟩
  unfold mostF at hx
  rw [List.mem_map] at hx
  obtain ⟨y, hy, rfl⟩ := hx
  have := h3 y hy
  omega
theorem err_ok (xs : List Int) (f : Nat) (e : Nat) (h : camB xs = true) : errTo (followF (carveAt xs f e) f) xs xs.length ≤ e ↔ carveOk xs f e = true := by
  have h0 : 0 < xs.length := by have := (camB_parts h).1; omega
  rw [err_around (carveAt xs f e) xs f h0 (by simp) e (by omega), carveOk_iff xs f e h0]
  constructor
  · intro hz z; have := (hz z).2; omega
  · intro hz z; exact ⟨carve_above xs f e h0 z, by have := hz z; omega⟩

set_option maxRecDepth 100000 in
set_option maxHeartbeats 1000000 in
theorem c41 (q : Option Addr) (cap : Nat) (xs : List Int) (f : Nat) (w : World) (hx : RdI w q xs) (h1 : camB xs = true) (hf : f ≤ 5) :
    Calls Tryz.prog 41 #[.slice q xs.length cap, .int .i64 (f : Int)] w fun e w' => (∃ p c, ∃ er : Nat, er ≤ 30 ∧ carveOk xs f er = true ∧ (∀ k : Nat, k < er → carveOk xs f k = false) ∧
      e = .returned (.tuple #[.slice p xs.length c, .int .i64 er]) ∧ RdI w' p (carveAt xs f er)) ∧ Below w.heap.size w w' := by
  have HX := Lib.hid hx
  have H1 := Lib.hid h1
  have HB := Lib.hid (Below.refl w.heap.size w)
  have hl24 := (camB_parts h1).2.1
  have hl3 := (camB_parts h1).1
  obtain ⟨i0, hi0, hz0, hz1, hz2⟩ := info_parts info3
  clear hx h1
  go_enter Tryz.func41, Tryz.ntmps41
  go_wp2
  go_loopw [6] (fun i wr => ∃ er : Nat, er ≤ 30 ∧ i = .int .i64 er ∧ Hid (∀ k : Nat, k < er → carveOk xs f k = false) ∧ Hid (Below w.heap.size w wr)) (fun i _ => 31 - (intOf i).toNat)
  case atStart => exact ⟨0, by omega, rfl, Lib.hid (by intro k hk; omega), HB⟩
  case round =>
    obtain ⟨er, her, rfl, HN, HLo⟩ := hrel
    (have bq := HLo.out); replace HB := Lib.hid (HB.out.trans (bq.mono HB.out.size)); replace HX := Lib.hid (HX.out.below bq); clear bq
    have hle : (er : Int) ≤ 30 := by omega
    go_wp2
    obtain ⟨wo, rfl⟩ : ∃ wo : World, wo = wr := ⟨_, rfl⟩
    go_loopw [7, 8] (fun v z w2 => ∃ k : Nat, k ≤ xs.length ∧ z = .int .i64 k ∧ Hid (w2.ownsRow wo.heap.size 3 1 v k (inV ((mostF xs er).take k))) ∧ Hid (Below wo.heap.size wo w2)) (fun _ z _ => xs.length - (intOf z).toNat)
    case atStart => exact ⟨0, by omega, rfl, Lib.hid (World.ownsRow_nil _ _ _ _), Lib.hid (Below.refl _ _)⟩
    case round =>
      obtain ⟨k, hk, rfl, HO, HNX⟩ := hrel
      by_cases hlt : k < xs.length
      · have hltI : decide ((k : Int) < (xs.length : Int)) = true := by simp; omega
        obtain ⟨b, off, rfl, hc⟩ := (HX.out.below HNX.out).at hlt
        have e1 := hc k hlt
        have hrg := camB_at H1.out hlt
        have hwr : IntKind.i64.wrap (gi xs k + (er : Int)) = gi xs k + (er : Int) := w64 _ (by omega) (by omega)
        have HT := Lib.hid (show inV ((mostF xs er).take (k + 1)) = inV ((mostF xs er).take k) ++ [.int .i64 (min 30 (gi xs k + er))] by rw [take_inV _ _ (by simpa using hlt), gi_mostF xs er k hlt])
        clear hc
        go_wp2_with (at_builtin; refine wpList_append_own _ rfl _ _ 24 rfl wo.heap.size 3 i0 _ 1 8 Tryz.underlying24 hi0 hz0 hz1 hz2 rfl (by decide) _ _ _ rfl (HO.out.alloc _) ⟨wr.heap.size, 0, none⟩ 1 1 [.int .i64 (min 30 (gi xs k + er))] rfl rfl ?c1 ?c2 ?c3 ?c4 ?c5 ?_)
        case c1 => exact news_of _ _ _
        case c2 => intro u hu; simp at hu; subst hu; rfl
        case c3 => unfold maxLen; omega
        case c4 => omega
        case c5 => have := HNX.out.size; simp; omega
        intro v' w1 hown' hgrow _
        have hlt' := HO.out.lt
        have HN' := Lib.hid (HNX.out.trans (((Below.refl wo.heap.size wr).alloc HNX.out.size _).grown hgrow (by have := HNX.out.size; simp; omega) (fun j hj => (hlt' j hj).1)))
        have HO' := Lib.hid hown'
        clear hown' hgrow hlt'
        go_wp2
        go_roundw
        case rel =>
          refine ⟨k + 1, by omega, by go_num, Lib.hid ?_, HN'⟩
          have := HO'.out
          rw [HT.out]
          exact this
        case measure => simp [intOf]; omega
      · obtain rfl : k = xs.length := by omega
        have hltI : decide ((xs.length : Int) < (xs.length : Int)) = false := by simp
        have hown := HO.out
        rw [List.take_of_length_le (by simp)] at hown
        obtain ⟨pc, cc, rfl, hrd⟩ := rd_of_own (xs := mostF xs er) (by rw [mostF_length]; exact hown)
        have h102 := c102 pc cc (mostF xs er) f wr hrd (camB_most xs er H1.out (by omega)) hf
        rw [under_most xs f er (by omega), mostF_length, carveAt_length] at h102
        clear hown hrd HO
        simp only [mostF_length]
        (have bq := HNX.out); replace HB := Lib.hid (HB.out.trans (bq.mono HB.out.size)); replace HX := Lib.hid (HX.out.below bq); clear bq
        (go_wp2_with fail); refine (h102).mono ?_; rintro e wn ⟨⟨p2, c2, rfl, hrc⟩, bq⟩; replace HB := Lib.hid (HB.out.trans (bq.mono HB.out.size)); replace HX := Lib.hid (HX.out.below bq); clear bq
        clear h102
        have HRC := Lib.hid hrc
        have h42 := c42 p2 c2 (carveAt xs f er) f _ hrc (camB_carve xs f er H1.out (by omega)) hf
        rw [followF_length, carveAt_length] at h42
        clear hrc
        (go_wp2_with fail); refine (h42).mono ?_; rintro e wn ⟨⟨p3, c3, rfl, hrf⟩, bq⟩; replace HB := Lib.hid (HB.out.trans (bq.mono HB.out.size)); replace HX := Lib.hid (HX.out.below bq); replace HRC := Lib.hid (HRC.out.below bq); clear bq
        clear h42
        have hcf := camB_follow _ f (camB_carve xs f er H1.out (by omega))
        have h70 := c70 p3 c3 (followF (carveAt xs f er) f) q cap xs _ hrf HX.out (by simp; omega) (by simp) (fun j hj => by
          have a1 := camB_at hcf hj
          have a2 := camB_at H1.out (j := j) (by simpa using hj)
          omega)
        rw [followF_length, carveAt_length] at h70
        have HOE := Lib.hid (err_ok xs f er H1.out)
        obtain ⟨E, hE⟩ : ∃ E, errTo (followF (carveAt xs f er) f) xs xs.length = E := ⟨_, rfl⟩
        rw [hE] at h70 HOE
        clear hE hcf hrf
        by_cases hEe : E ≤ (er : Int)
        · have HOK := Lib.hid (HOE.out.1 hEe)
          (go_wp2_with fail); refine (h70).mono ?_; rintro e wn ⟨rfl, nq, hq⟩; (have bq := below_dr hq); clear hq; replace HB := Lib.hid (HB.out.trans (bq.mono HB.out.size)); replace HRC := Lib.hid (HRC.out.below bq); clear bq
          clear h70
          go_wp2
          go_ret2
          exact ⟨⟨p2, c2, er, her, HOK.out, HN.out, rfl, HRC.out⟩, HB.out⟩
        · have HOK := Lib.hid (show carveOk xs f er = false by
            cases h : carveOk xs f er with
            | false => rfl
            | true => exact absurd (HOE.out.2 h) hEe)
          have hlt30 : er < 30 := by
            rcases Nat.lt_or_ge er 30 with h | h
            · exact h
            · obtain rfl : er = 30 := by omega
              have h30 := carveOk_30 xs f H1.out
              have := HOK.out
              rw [show (((30 : Nat) : Int)) = 30 from rfl, h30] at this
              simp at this
          (go_wp2_with fail); refine (h70).mono ?_; rintro e wn ⟨rfl, nq, hq⟩; (have bq := below_dr hq); clear hq; replace HB := Lib.hid (HB.out.trans (bq.mono HB.out.size)); replace HRC := Lib.hid (HRC.out.below bq); clear bq
          clear h70
          go_wp2
          go_roundw
          case rel =>
            refine ⟨er + 1, by omega, by go_num, Lib.hid fun j hj => ?_, HB⟩
            rcases Nat.lt_or_ge j er with h | h
            · exact HN.out j h
            · obtain rfl : j = er := by omega
              exact HOK.out
          case measure => simp [intOf]; omega
end Go.Proofs.YtncfgkhbenmpoaaGreatDoor
end

section
namespace Go.Proofs.YtncfgkhbenmpoaaGreatDoor
open Go Go.RowKit Go.Proofs
set_option linter.unusedVariables false

section
variable {p q : Option Addr} {c d n m : Nat} {xs ys : List Int} {w : World}
theorem c28n (hn : xs.length = n) (hx : RdI w p xs) (hl : n ≤ 1000000) : Calls Tryz.prog 28 #[.slice p n c] w fun e w' => e = .returned (.bool (camB xs)) ∧ w = w' := by
  subst hn; exact c28 p c xs w hx (by omega)
theorem c30n (hn : xs.length = n) (hm : ys.length = m) (hx : RdI w p xs) (hy : RdI w q ys) (hl : n ≤ 1000000) :
    Calls Tryz.prog 30 #[.slice p n c, .slice q m d] w fun e w' => e = .returned (.bool (decide (xs = ys))) ∧ ∃ n, w' = w.drewN n := by
  subst hn; subst hm; exact c30 p c xs q d ys w hx hy hl
/-- two lists that are known to be equal -/
theorem c30t (hn : xs.length = n) (hm : ys.length = m) (he : xs = ys) (hx : RdI w p xs) (hy : RdI w q ys) (hl : n ≤ 1000000) :
    Calls Tryz.prog 30 #[.slice p n c, .slice q m d] w fun e w' => e = .returned (.bool true) ∧ ∃ n, w' = w.drewN n := by
  have h := c30n (c := c) (d := d) hn hm hx hy hl
  rw [decide_eq_true he] at h; exact h
theorem c43n {s : Nat} (hn : xs.length = n) (hx : RdI w p xs) (hl : n ≤ 1000) (hs : s ≤ 1000) :
    Calls Tryz.prog 43 #[.slice p n c, .int .i64 (s : Int)] w fun e w' => (∃ p c, e = .returned (.slice p n c) ∧ RdI w' p (turnF xs s)) ∧ Below w.heap.size w w' := by
  subst hn; exact c43 p c xs s w hx hl hs
theorem c44n (hn : xs.length = n) (hm : ys.length = m) (hx : RdI w p xs) (hy : RdI w q ys) (hl : n ≤ 1000000) (hnm : n = m) :
    Calls Tryz.prog 44 #[.slice p n c, .slice q m d] w fun e w' => e = .returned (.bool (belB xs ys)) ∧ ∃ n, w' = w.drewN n := by
  subst hn; subst hm; exact c44 p c xs q d ys w hx hy hl hnm
theorem c45n (hn : xs.length = n) (hx : RdI w p xs) (h1 : 1 ≤ n) (hl : n ≤ 1000000) : Calls Tryz.prog 45 #[.slice p n c] w fun e w' => e = .returned (.int .i64 (maxTo xs n)) ∧ w = w' := by
  subst hn; exact c45 p c xs w hx h1 hl
theorem c58n (hn : xs.length = n) (hm : ys.length = m) (hx : RdI w p xs) (hy : RdI w q ys) (h1 : camB xs = true) (h2 : camB ys = true) (hnm : n = m) :
    Calls Tryz.prog 58 #[.slice p n c, .slice q m d] w fun e w' => e = .returned (.tuple #[.int .i64 (errTo xs ys n), .int .i64 0]) ∧ w = w' := by
  subst hn; subst hm; exact c58_ok p c xs q d ys w hx hy h1 h2 hnm
theorem c38n {f : Nat} (hn : xs.length = n) (hx : RdI w p xs) (h : camB xs = true) (hf : f ≤ 5) :
    Calls Tryz.prog 38 #[.slice p n c, .int .i64 (f : Int)] w fun e w' => (∃ p c, e = .returned (.tuple #[.slice p n c, .int .i64 0]) ∧ RdI w' p (followF xs f)) ∧ Below w.heap.size w w' := by
  subst hn
  refine (c38 p c xs f w hx (by have := (camB_parts h).2.1; omega)).mono fun e w' ⟨b, hp⟩ => ?_
  rw [if_pos (by rw [h, inB_true (by omega) (by omega)]; rfl)] at hp
  exact ⟨hp, b⟩
theorem c38_no {f : Int} (hn : xs.length = n) (hx : RdI w p xs) (hl : n ≤ 1000000) (h : (camB xs && inB f 0 5) = false) :
    Calls Tryz.prog 38 #[.slice p n c, .int .i64 f] w fun e w' => e = .returned (.tuple #[.slice none 0 0, .int .i64 2]) ∧ Below w.heap.size w w' := by
  subst hn
  refine (c38 p c xs f w hx (by omega)).mono fun e w' ⟨b, hp⟩ => ?_
  rw [if_neg (by rw [h]; simp)] at hp
  exact ⟨hp, b⟩
theorem c39n {f : Nat} (hn : xs.length = n) (hx : RdI w p xs) (h : camB xs = true) (hf : f ≤ 5) :
    Calls Tryz.prog 39 #[.slice p n c, .int .i64 (f : Int)] w fun e w' => (∃ p c, ∃ er : Nat, er ≤ 30 ∧ carveOk xs f er = true ∧ (∀ k : Nat, k < er → carveOk xs f k = false) ∧
      e = .returned (.tuple #[.slice p n c, .int .i64 er, .int .i64 0]) ∧ RdI w' p (carveAt xs f er)) ∧ Below w.heap.size w w' := by
  subst hn
  refine (c39 p c xs f w hx (by have := (camB_parts h).2.1; omega)).mono fun e w' ⟨b, hp⟩ => ?_
  rw [if_pos (by rw [h, inB_true (by omega) (by omega)]; rfl)] at hp
  exact ⟨hp, b⟩
theorem c39_no {f : Int} (hn : xs.length = n) (hx : RdI w p xs) (hl : n ≤ 1000000) (h : (camB xs && inB f 0 5) = false) :
    Calls Tryz.prog 39 #[.slice p n c, .int .i64 f] w fun e w' => e = .returned (.tuple #[.slice none 0 0, .int .i64 0, .int .i64 2]) ∧ Below w.heap.size w w' := by
  subst hn
  refine (c39 p c xs f w hx (by omega)).mono fun e w' ⟨b, hp⟩ => ?_
  rw [if_neg (by rw [h]; simp)] at hp
  exact ⟨hp, b⟩
theorem c42n {f : Nat} (hn : xs.length = n) (hx : RdI w p xs) (h : camB xs = true) (hf : f ≤ 5) :
    Calls Tryz.prog 42 #[.slice p n c, .int .i64 (f : Int)] w fun e w' => (∃ p c, e = .returned (.slice p n c) ∧ RdI w' p (followF xs f)) ∧ Below w.heap.size w w' := by
  subst hn
  have := c42 p c xs f w hx h hf
  rw [followF_length] at this; exact this
end

theorem least_er {want : List Int} {f a b : Nat} (h1 : carveOk want f a = true) (h2 : ∀ k : Nat, k < a → carveOk want f k = false) (h3 : carveOk want f b = true) (h4 : ∀ k : Nat, k < b → carveOk want f k = false) : a = b := by
  rcases Nat.lt_trichotomy a b with h | h | h
  · have := h4 a h; rw [h1] at this; exact absurd this (by simp)
  · exact h
  · have := h2 b h; rw [h3] at this; exact absurd this (by simp)
end Go.Proofs.YtncfgkhbenmpoaaGreatDoor
end
