/-
  A text read as the log of a piece by the program (the walk).
  Read: what is behind the door of the panics, and the door; contract.
-/
import Derived.Test.YtbknfddaoolagaaGreatDoorGH
import Derived.Test.YtbknfddaoolagaaGreatDoorGJ
import Derived.Deep.RegionHeld3
import Derived.Deep.AppendLies
import Derived.Test.YtbknfddaoolagaaGreatDoorGE
section
namespace Go.Proofs.YtbknfddaoolagaaGreatDoor
open Go Go.RowKit Go.Proofs Go.Shelf
set_option linter.unusedVariables false
set_option linter.unusedSimpArgs false

theorem own_two {w : World} {B g cap : Nat} {a b : Int} (h : w.ownsRow B 3 1 (.slice (some ⟨g, 0, none⟩) 2 cap) 2 (inV [a, b])) : w.cell? ⟨g, 0, none⟩ = some (.int .i64 a) ∧ w.cell? ⟨g, 1, none⟩ = some (.int .i64 b) := by
  have h0 := h.cells (g := g) rfl 0 _ (show (inV [a, b])[0]? = some (.int .i64 a) from rfl); have h1 := h.cells (g := g) rfl 1 _ (show (inV [a, b])[1]? = some (.int .i64 b) from rfl); rw [add_new] at h0 h1; exact ⟨h0, h1⟩
theorem own_four {w : World} {B g cap : Nat} {a b c d : Int} (h : w.ownsRow B 3 1 (.slice (some ⟨g, 0, none⟩) 4 cap) 4 (inV [a, b, c, d])) : w.cell? ⟨g, 0, none⟩ = some (.int .i64 a) ∧ w.cell? ⟨g, 1, none⟩ = some (.int .i64 b) ∧ w.cell? ⟨g, 2, none⟩ = some (.int .i64 c) ∧ w.cell? ⟨g, 3, none⟩ = some (.int .i64 d) := by
  have h0 := h.cells (g := g) rfl 0 _ (show (inV [a, b, c, d])[0]? = some (.int .i64 a) from rfl); have h1 := h.cells (g := g) rfl 1 _ (show (inV [a, b, c, d])[1]? = some (.int .i64 b) from rfl); have h2 := h.cells (g := g) rfl 2 _ (show (inV [a, b, c, d])[2]? = some (.int .i64 c) from rfl); have h3 := h.cells (g := g) rfl 3 _ (show (inV [a, b, c, d])[3]? = some (.int .i64 d) from rfl); rw [add_new] at h0 h1 h2 h3; exact ⟨h0, h1, h2, h3⟩
theorem own_notE {w : World} {b : Nat} {cur : Array Value} {ty e : TypeId} {fr : Nat × Nat} {base size n : Nat} {v : Value} {xs : List Value} (hb : w.heap[b]? = some (.cells cur ty fr)) (hne : ty ≠ e) (ho : w.ownsRow base e size v n xs) : some b ≠ v.ownBlock := by
  rcases ho.2 with ⟨rfl, _⟩ | ⟨g, cap, cur', rfl, _, hg, _⟩
  · simp [Value.ownBlock]
  · simp [Value.ownBlock]
    rintro rfl; rw [hb] at hg; have := Option.some.inj hg; simp at this; exact hne this.2.1

def ParsedPost (s : ByteArray) (w : World) (e : Ending) (w' : World) : Prop :=
  ((∃ q pm cm pv cv pr cr, BkP s q ∧ e = .returned (.agg #[.slice pm q.ms.length cm, .slice pv q.mv.length cv, .slice pr q.rs.length cr]) ∧ (∀ W : World, (∀ k, w.heap.size ≤ k → k < w'.heap.size → W.heap[k]? = w'.heap[k]?) → RdP W pm pv pr q) ∧ TextOk q) ∨
   ((∀ q, ¬ BkP s q) ∧ ∃ x, e = noneE x)) ∧ Below w.heap.size w w'

set_option maxRecDepth 100000 in
set_option maxHeartbeats 4000000 in
theorem c_parsed (s : ByteArray) (m : Int) (w : World) (hs : s.size ≤ 400) (hm : MaxL m w) (hI : ItoaG w) :
    Calls Tryz.prog 40 #[.string s] w (ParsedPost s w) := by
  obtain ⟨i0, hi0, hy0, hy1, hy2⟩ := info_parts infM; obtain ⟨i1, hi1, hz0, hz1, hz2⟩ := info_parts infR; have kz := alloc_new w (.cells #[.slice none 0 0, .slice none 0 0, .slice none 0 0] 27); obtain ⟨w1, e1, HS1, _, _, _, b1⟩ := box3 w (.slice none 0 0) (.slice none 0 0) (.slice none 0 0) 27; rw [e1] at kz; have hsp := c_split s 10 m w1 (by omega) (hm.below b1); have HI := Lib.hid hI; have HM := Lib.hid hm; have hpl := parts_count 10 s; have HPS := Lib.hid (fun p hp => part_size (c := 10) (s := s) (p := p) hp); have HSS := Lib.hid hs; obtain ⟨ps, hpe⟩ : ∃ ps, partsF 10 s = ps := ⟨_, rfl⟩; obtain ⟨L, hL⟩ : ∃ L, ps.length = L := ⟨_, rfl⟩; have hL1 : 1 ≤ L := by have := partsF_len 10 s; rw [hpe, hL] at this; omega
  rw [hpe] at hsp hpl HPS; rw [hL] at hsp hpl; have HL := Lib.hid hL; have HPE := Lib.hid hpe; have HB0 := Lib.hid b1; have HKZ := Lib.hid kz; have hL4 : L ≤ 401 := by omega
  clear hm hI hpe hL b1 kz hs hpl
  go_enter Tryz.func40, Tryz.ntmps40
  go_wp2_with fail; refine hsp.mono ?_; clear hsp; rintro e w2 ⟨⟨g, hg, rfl, hrd⟩, b2⟩; have HB2 := Lib.hid (HB0.out.trans (b2.mono HB0.out.size)); have HKZ2 := Lib.hid ((b2.block _ (block_lt HKZ.out)).trans HKZ.out)
  have hcell : ∀ i, i < L → w2.cell? ⟨g, i, none⟩ = some (.string (ps.getD i ByteArray.empty)) := fun i hi => by
    obtain ⟨b, hb, hc⟩ := hrd
    cases hb
    exact hc i (by rw [HL.out]; exact hi)
  have HCE := Lib.hid hcell
  have HRS := Lib.hid (show ∀ i, i < L → (ps.getD i ByteArray.empty).size ≤ 400 from fun i hi => by
    have := HPS.out _ (getD_mem (l := ps) (i := i) (by rw [HL.out]; exact hi)); have := HSS.out; omega)
  have e0 := hcell 0 (by omega); have hnb := c_numbers pieceW (ps.getD 0 ByteArray.empty) 1 m w2 (by have := HRS.out 0 (by omega); omega) (by omega) (HM.out.below HB2.out) (HI.out.below HB2.out); have HHP := Lib.hid (show headP (partsF 10 s) = ps.getD 0 ByteArray.empty by rw [HPE.out]; rfl); obtain ⟨r0, hr0⟩ : ∃ r0, ps.getD 0 ByteArray.empty = r0 := ⟨_, rfl⟩; rw [hr0] at e0 hnb HHP; clear b2 hrd hcell hr0 e1 HS1 hg; go_wp2_with fail; refine hnb.mono ?_; clear hnb; rintro e w3 ⟨⟨xs, hv, hxs, rfl, hown⟩ | ⟨hno, x, he⟩, b3⟩
  · rw [← HHP.out] at hxs
    obtain ⟨n0, rfl, hnr⟩ := head_one hxs; have HHD := Lib.hid hxs; obtain ⟨px, cx, rfl, hrx⟩ := rd_of_own hown; have HB3 := Lib.hid (HB2.out.trans (b3.mono HB2.out.size)); have HCE3 := Lib.hid (show ∀ i, i < L → w3.cell? ⟨g, i, none⟩ = some (.string (ps.getD i ByteArray.empty)) from fun i hi => (b3.cell (lt_of_cellq (HCE.out i hi))).trans (HCE.out i hi)); have HKZ3 := Lib.hid ((b3.block _ (block_lt HKZ2.out)).trans HKZ2.out); obtain ⟨b, off, rfl, hc⟩ := hrx.at (i := 0) (by simp); have f0 : w3.cell? ⟨b, off, none⟩ = some (.int .i64 n0) := hc 0 (by simp); clear b3 hxs hown hrx hc e0; have hw4 : IntKind.i64.wrap (n0 + 4) = n0 + 4 := w64 _ (by omega) (by omega)
    by_cases hok : 0 ≤ n0 ∧ n0 + 4 ≤ (L : Int)
    · obtain ⟨n, rfl⟩ : ∃ n : Nat, n0 = n := ⟨n0.toNat, by omega⟩
      have d1 : decide ((n : Int) ≥ 0) = true := decide_eq_true hok.1; have d2 : decide ((L : Int) ≥ (n : Int) + 4) = true := decide_eq_true hok.2; have hnL : n + 4 ≤ L := by omega
      clear hok; go_wp2_with fail; refine (c_sure_t s _).mono ?_; rintro e w' ⟨rfl, rfl⟩; have kp := alloc_new w3 (.cells #[.slice none 0 0, .slice none 0 0, .slice none 0 0] 27); obtain ⟨w4, e4, HS4, _, _, _, b4⟩ := box3 w3 (.slice none 0 0) (.slice none 0 0) (.slice none 0 0) 27; rw [e4] at kp; have HKP := Lib.hid kp; have HB4 := Lib.hid b4; have hwn1 : IntKind.i64.wrap ((n : Int) + 1) = (n : Int) + 1 := w64 _ (by omega) (by omega); have HSZ4 := Lib.hid (show w3.heap.size + 1 ≤ w4.heap.size by have := HS4.out; omega); clear kp b4 d1 d2 hw4 f0 HS4; go_wp2; clear e4
      go_loopw [36] (fun i wr => ∃ (k : Nat) (v : Value) (ms : List (Int × Int)), k ≤ n ∧ i = .int .i64 k ∧ Hid (ms.length = k) ∧ Hid (wr.heap[w3.heap.size]? = some (.cells #[v, .slice none 0 0, .slice none 0 0] 27 (0, 0))) ∧ Hid (wr.ownsRow w4.heap.size 78 2 v k (spV ms)) ∧ Hid (∀ i, i < k → numsF meshW (ps.getD (i + 1) ByteArray.empty) 2 = some (meL (gm ms i))) ∧ Hid (w4.heap.size ≤ wr.heap.size) ∧ Hid (Below w3.heap.size w3 wr)) (fun i _ => n - (intOf i).toNat)
      case atStart => exact ⟨0, _, [], Nat.zero_le _, rfl, Lib.hid rfl, HKP, Lib.hid (World.ownsRow_nil _ _ _ _), Lib.hid (fun i h => absurd h (Nat.not_lt_zero _)), Lib.hid (Nat.le_refl _), HB4⟩
      case round =>
      obtain ⟨k, v, ms, hk, rfl, HML, HX, HV, HMS, HSZ, HB⟩ := hrel; have HBW := Lib.hid (HB3.out.trans (HB.out.mono HB3.out.size))
      by_cases hlt : k < n
      · have hki : (k : Int) < (n : Int) := by omega
        have c1 : wr.cell? ⟨g, 1 + k, none⟩ = some (.string (ps.getD (k + 1) ByteArray.empty)) := by
          have h := HCE3.out (k + 1) (by omega); rw [Nat.add_comm 1 k]; exact (HB.out.cell (lt_of_cellq h)).trans h
        have hnb := c_numbers meshW (ps.getD (k + 1) ByteArray.empty) 2 m wr (by have := HRS.out (k + 1) (by omega); omega) (by omega) (HM.out.below HBW.out) (HI.out.below HBW.out); have HNB := Lib.hid (fun (h : numsF meshW (ps.getD (k + 1) ByteArray.empty) 2 = none) => noBk_mesh HHD.out hlt (by rw [HPE.out]; exact h))
        have HSN := Lib.hid (show ∀ a b, numsF meshW (ps.getD (k + 1) ByteArray.empty) 2 = some [a, b] → ∀ i, i < k + 1 → numsF meshW (ps.getD (i + 1) ByteArray.empty) 2 = some (meL (gm (ms ++ [(a, b)]) i)) from fun a b h i hi => by
          by_cases h1 : i < k
          · have e : gm (ms ++ [(a, b)]) i = gm ms i := by
              unfold gm; rw [List.getD_eq_getElem?_getD, List.getD_eq_getElem?_getD, List.getElem?_append_left (by rw [HML.out]; exact h1)]
            rw [e]; exact HMS.out i h1
          · obtain rfl : i = k := by omega
            have e : gm (ms ++ [(a, b)]) i = (a, b) := by
              unfold gm; rw [← HML.out]; simp
            rw [e]; exact h)
        obtain ⟨r, hr⟩ : ∃ r, ps.getD (k + 1) ByteArray.empty = r := ⟨_, rfl⟩; rw [hr] at c1 hnb HNB HSN; clear hr; go_wp2_with fail; refine hnb.mono ?_; clear hnb; rintro e w5 ⟨⟨xs, hv, hxs, rfl, hown⟩ | ⟨hno, x, he⟩, b5⟩
        · obtain ⟨lo, hi, rfl⟩ := mesh_two hxs
          have HSN2 := Lib.hid (HSN.out lo hi hxs); obtain ⟨gx, cx, rfl⟩ := own_form hown; have hx5 := (b5.block _ (block_lt HX.out)).trans HX.out; have HX5 := Lib.hid hx5; have HOX := Lib.hid hown; have HV5 := Lib.hid (own_kept HV.out b5); have HB5 := Lib.hid (HB.out.trans (b5.mono HB.out.size)); have HSZ5 := Lib.hid (Nat.le_trans HSZ.out b5.size); have HSW := Lib.hid (show w3.heap.size < wr.heap.size from by have := HSZ.out; have := HSZ4.out; omega); clear hxs hown hx5 b5 c1; go_wp2_with fail; refine wp_region_held_drew (S := (fun w' => w'.cell? ⟨gx, 0, none⟩ = some (.int .i64 lo) ∧ w'.cell? ⟨gx, 1, none⟩ = some (.int .i64 hi))) (by kernel_rfl) (by (try dsimp only); exact own_two (own_kept HOX.out (Below.refl _ _).drew)) (fun hHeld => ?_); refine wpAnyH_gen (fun W0 hW0 => ?_); have bd : Below w5.heap.size w5 W0 := by rw [hW0]; exact (Below.refl _ _).drew
          have HOX0 := Lib.hid (own_kept HOX.out bd); have hS0 := own_two HOX0.out; have hX0 := (bd.block _ (block_lt HX5.out)).trans HX5.out; have HV0 := Lib.hid (own_kept HV5.out bd); have HB6 := Lib.hid (HB5.out.trans (bd.mono HB5.out.size)); have HSZ6 := Lib.hid (Nat.le_trans HSZ5.out bd.size); obtain ⟨w7, hw7⟩ : ∃ w7, W0.alloc (.cells #[.int .i64 lo, .int .i64 hi] 78) = w7 := ⟨_, rfl⟩; have h_HX7 := alloc_old W0 (.cells #[.int .i64 lo, .int .i64 hi] 78) hX0; rw [hw7] at h_HX7; have HX7 := Lib.hid h_HX7; clear h_HX7; have h_HV7 := HV0.out.alloc (.cells #[.int .i64 lo, .int .i64 hi] 78); rw [hw7] at h_HV7; have HV7 := Lib.hid h_HV7; clear h_HV7; have h_HOX7 := HOX0.out.alloc (.cells #[.int .i64 lo, .int .i64 hi] 78); rw [hw7] at h_HOX7; have HOX7 := Lib.hid h_HOX7; clear h_HOX7; have h_HB7 := HB6.out.alloc HB6.out.size (.cells #[.int .i64 lo, .int .i64 hi] 78); rw [hw7] at h_HB7; have HB7 := Lib.hid h_HB7
          clear h_HB7; have HSZ7 := Lib.hid (show w4.heap.size ≤ w7.heap.size by rw [← hw7]; exact Nat.le_trans HSZ6.out (below_alloc1 W0 _).size); have HNW := Lib.hid (show ∀ j u, ([.int .i64 lo, .int .i64 hi] : List Value)[j]? = some u → w7.cell? ((⟨W0.heap.size, 0, none⟩ : Addr).add j) = some u by rw [← hw7]; exact news_of W0 _ _); have hS7 := own_two HOX7.out; obtain ⟨oa, ob, oc⟩ := cells3 hX0; obtain ⟨pa, pb, pc⟩ := cells3 HX7.out; clear hW0 hHeld bd hX0; refine wpAnyH_take (i := 0) (v := ?v1) rfl (by kernel_rfl) (by kernel_rfl) (by kernel_rfl) (fun _ _ _ h => by exact h) (Or.inl ⟨by rfl, ?hy1⟩) (by (try dsimp only); exact hS0) ?rest1
          case hy1 => (intro w hSw; (try dsimp only at hSw); go_simp <;> (try with_reducible rfl))
          simp only [Act.put, ptL]; refine wpAnyH_take (i := 2) (v := ?v2) rfl (by kernel_rfl) (by kernel_rfl) (by kernel_rfl) (fun _ _ _ h => by exact h) (Or.inl ⟨by rfl, ?hy2⟩) (by (try dsimp only); exact hS0) ?rest2
          case hy2 => (intro w hSw; (try dsimp only at hSw); go_simp <;> (try with_reducible rfl))
          simp only [Act.put, ptL]; refine wpAnyH_take (i := 3) (v := ?v3) rfl (by kernel_rfl) (by kernel_rfl) (by kernel_rfl) (fun _ _ _ h => by exact h) (Or.inl ⟨by rfl, ?hy3⟩) (by (try dsimp only); exact hS0) ?rest3
          case hy3 => (intro w hSw; (try dsimp only at hSw); go_simp <;> (try with_reducible rfl))
          simp only [Act.put, ptL]; refine wpAnyH_take (i := 4) (v := ?v4) rfl (by kernel_rfl) (by kernel_rfl) (by kernel_rfl) (fun _ _ _ h => by exact h) (Or.inl ⟨by rfl, ?hy4⟩) (by (try dsimp only); exact hS0) ?rest4
          case hy4 => (intro w hSw; (try dsimp only at hSw); go_simp <;> (try with_reducible rfl))
          simp only [Act.put, ptL]; refine wpAnyH_take (i := 5) (v := ?v5) rfl (by kernel_rfl) (by kernel_rfl) (by kernel_rfl) (fun _ _ _ h => by exact h) (Or.inl ⟨by rfl, ?hy5⟩) (by (try dsimp only); exact hS0) ?rest5
          case hy5 => (intro w hSw; (try dsimp only at hSw); go_simp <;> (try with_reducible rfl))
          simp only [Act.put, ptL]; refine wpAnyH_take (i := 6) (v := ?v6) rfl (by kernel_rfl) (by kernel_rfl) (by kernel_rfl) (fun _ _ _ h => by exact h) (Or.inl ⟨by rfl, ?hy6⟩) (by (try dsimp only); exact hS0) ?rest6
          case hy6 => (intro w hSw; (try dsimp only at hSw); go_simp <;> (try with_reducible rfl))
          simp only [Act.put, ptL]; refine wpAnyH_take (i := 7) (v := ?v7) rfl (by kernel_rfl) (by kernel_rfl) (by kernel_rfl) (fun _ _ _ h => by exact h) (Or.inl ⟨by rfl, ?hy7⟩) (by (try dsimp only); exact hS0) ?rest7
          case hy7 => (intro w hSw; (try dsimp only at hSw); go_simp <;> (try with_reducible rfl))
          simp only [Act.put, ptL]; refine wpAnyH_take (i := 8) (v := ?v8) rfl (by kernel_rfl) (by kernel_rfl) (by kernel_rfl) (fun _ _ _ h => by exact h) (Or.inl ⟨by rfl, ?hy8⟩) (by (try dsimp only); exact hS0) ?rest8
          case hy8 => (intro w hSw; (try dsimp only at hSw); go_simp <;> (try with_reducible rfl))
          simp only [Act.put, ptL]; refine wpAnyH_take (i := 9) (v := ?v9) rfl (by kernel_rfl) (by kernel_rfl) (by kernel_rfl) (fun _ _ _ h => by exact h) (Or.inl ⟨by rfl, ?hy9⟩) (by (try dsimp only); exact hS0) ?rest9
          case hy9 => (intro w hSw; (try dsimp only at hSw); go_simp <;> (try with_reducible rfl))
          simp only [Act.put, ptL]; refine wpAnyH_ready (rs := [1, 10]) (by kernel_rfl) (by simp) ?_; refine AllReadyH.cons rfl ?ordAM (AllReadyH.cons rfl ?ordBM AllReadyH.nil)
          case' ordAM =>
            intro K hK; go_simp; refine kz hK (by exact hS0) ?_; clear hK K; (try simp only [Act.put, ptL]); refine rz1 10 rfl ?_; intro K hK; go_simp; refine kz hK (by exact hS7) ?_; clear hK K; (try simp only [Act.put, ptL])
          case' ordBM =>
            intro K hK; go_simp; refine kz hK (by exact hS7) ?_; clear hK K; (try simp only [Act.put, ptL]); refine rz1 1 rfl ?_; intro K hK; go_simp; refine kz hK (by exact hS7) ?_; clear hK K; (try simp only [Act.put, ptL])
          all_goals
            clear oa ob oc pa pb pc hw7; refine rz1 11 rfl ?_; intro K hK; refine step_append_lies _ rfl _ _ 23 rfl w4.heap.size 78 i0 _ 2 16 Tryz.underlying23 hi0 hy0 hy1 hy2 rfl (by decide) _ _ _ rfl HV7.out ⟨W0.heap.size, 0, none⟩ 1 1 [.int .i64 lo, .int .i64 hi] rfl rfl HNW.out (by intro u hu; simp at hu; rcases hu with rfl | rfl <;> rfl) (by decide) (by unfold maxLen; omega) (by omega) (by have := HSZ7.out; omega) _ rfl ?_; intro g' cap' w11 hown' hgrow _ _; have hd1 := (hgrow.block _ (block_lt HX7.out) (own_notE HX7.out (by decide) HV7.out)).trans HX7.out; have HOX11 := Lib.hid (HOX7.out.kept hgrow (own_apart HOX7.out HV7.out (by decide))); have hS11 := own_two HOX11.out; obtain ⟨w12, s1, c0', f0', hx4, hxk, HZ12, hxb⟩ := put3_0 w11 w3.heap.size 27 _ _ _ (.slice (some ⟨g', 0, none⟩) (k + 1) cap') hd1; have HXn := Lib.hid hx4; have HVn := Lib.hid (own_same hown' (fun g'' hg'' => hxk g'' (by have := (hown'.lt g'' hg'').1; have := HSZ4.out; omega)))
            have hS12 := own_two (own_same HOX11.out (w' := w12) (fun g'' hg'' => hxk g'' (by have := (HOX11.out.lt g'' hg'').1; have := HSW.out; omega))); have HBn := Lib.hid (hxb w3 w3.heap.size (Nat.le_refl _) (HB7.out.grown hgrow (by have := HB7.out.size; omega) (fun j hj => by have := (HV7.out.lt j hj).1; have := HSZ4.out; omega))); have HSZn := Lib.hid (show w4.heap.size ≤ w12.heap.size from by have := HZ12.out; have := hgrow.size; have := HSZ7.out; omega); clear hd1 hx4 hxk hxb hown' hgrow; refine kz hK (by exact hS11) ?_; clear hK K; (try simp only [Act.put, ptL]); refine rz1 12 rfl ?_; intro K hK; go_simp; refine kz hK (by exact hS11) ?_; clear hK K; (try simp only [Act.put, ptL]); refine rz1 13 rfl ?_; intro K hK; go_simp; refine kz hK (by exact hS12) ?_; clear hK K; (try simp only [Act.put, ptL]); (try go_simp); refine wpAnyH_done (by kernel_rfl) ?_ _; go_wp2; go_roundw
            case rel => exact ⟨k + 1, _, ms ++ [(lo, hi)], by omega, by go_num, Lib.hid (by rw [List.length_append, HML.out]; rfl), HXn, by rw [spV_append]; exact HVn, HSN2, HSZn, HBn⟩
            case measure => simp [intOf]; omega
        · unfold noneE at he
          subst he; have HT := Lib.hid (HNB.out hno); have HBZ := Lib.hid (HBW.out.trans (b5.mono HBW.out.size)); clear b5 hno; go_wp2; exact ⟨rfl, .inr ⟨HT.out, _, rfl⟩, HBZ.out⟩
      · obtain rfl : k = n := by omega
        have hki : ¬ (k : Int) < (k : Int) := by omega
        obtain ⟨pm, cm, hv⟩ := own_anyE HV.out; subst hv
        have c1 : wr.cell? ⟨g, k + 1, none⟩ = some (.string (ps.getD (k + 1) ByteArray.empty)) := by
          have h := HCE3.out (k + 1) (by omega); exact (HB.out.cell (lt_of_cellq h)).trans h
        have hnb := c_numbers movesW (ps.getD (k + 1) ByteArray.empty) (-1) m wr (by have := HRS.out (k + 1) (by omega); omega) (by omega) (HM.out.below HBW.out) (HI.out.below HBW.out); have HNB := Lib.hid (fun (h : numsF movesW (ps.getD (k + 1) ByteArray.empty) (-1) = none) => noBk_moves HHD.out (by rw [HPE.out]; exact h)); have HME := Lib.hid (show ∀ xs, numsF movesW (ps.getD (k + 1) ByteArray.empty) (-1) = some xs → numsF movesW ((partsF 10 s).getD (ms.length + 1) ByteArray.empty) (-1) = some xs from fun xs h => by rw [HPE.out, HML.out]; exact h); obtain ⟨r, hr⟩ : ∃ r, ps.getD (k + 1) ByteArray.empty = r := ⟨_, rfl⟩; rw [hr] at c1 hnb HNB HME; clear hr; go_wp2_with fail; refine hnb.mono ?_; clear hnb; rintro e w5 ⟨⟨xs, hv, hxs, rfl, hown⟩ | ⟨hno, x, he⟩, b5⟩
        · obtain ⟨pv, cv, hv⟩ := own_anyE hown
          subst hv; have HMV := Lib.hid (HME.out xs hxs); have hx5 := (b5.block _ (block_lt HX.out)).trans HX.out; obtain ⟨w6, s1, c0', f0', hx4, hxk, HZ6, hxb⟩ := put3_1 w5 w3.heap.size 27 _ _ _ (.slice pv xs.length cv) hx5; have HX6 := Lib.hid hx4; have HMR := Lib.hid (own_same (own_kept HV.out b5) (fun g'' hg'' => hxk g'' (by have := (HV.out.lt g'' hg'').1; have := HSZ4.out; omega))); have HVR := Lib.hid (own_mono (own_same hown (fun g'' hg'' => hxk g'' (by have := (hown.lt g'' hg'').1; have := HSZ.out; have := HSZ4.out; omega))) HSZ.out); have HB6 := Lib.hid (hxb w3 w3.heap.size (Nat.le_refl _) (HB.out.trans (b5.mono HB.out.size))); have HSZ6 := Lib.hid (show w4.heap.size ≤ w6.heap.size from by have := HZ6.out; have := b5.size; have := HSZ.out; omega); obtain ⟨R, hR⟩ : ∃ R, L = k + 4 + R := ⟨L - (k + 4), by omega⟩; have HLR := Lib.hid (show (partsF 10 s).length = k + R + 4 by rw [HPE.out, HL.out]; omega)
          have hw2 : IntKind.i64.wrap ((k : Int) + 2) = (k : Int) + 2 := w64 _ (by omega) (by omega); have hwL : IntKind.i64.wrap ((L : Int) - 2) = (L : Int) - 2 := w64 _ (by omega) (by omega); clear hxs hown hx5 b5 c1 hx4 hxk hxb; go_wp2; rw [show k + 4 + R - 2 - (k + 2) = R by omega]; clear hwL hw2 hwn1; have HCL := Lib.hid (show ∀ j, j < R → w3.cell? ⟨g, k + 2 + j, none⟩ = some (.string (ps.getD (k + 2 + j) ByteArray.empty)) from fun j hj => HCE3.out (k + 2 + j) (by omega)); have HRL := Lib.hid (show ∀ j, j < R → (ps.getD (k + 2 + j) ByteArray.empty).size ≤ 400 from fun j hj => HRS.out (k + 2 + j) (by omega)); have hR4 : R ≤ 401 := by omega
          obtain ⟨n2, hn2⟩ : ∃ n2, xs.length = n2 := ⟨_, rfl⟩; have HXL := Lib.hid hn2; rw [hn2] at HX6 HVR ⊢; clear hn2
          go_loopw [71] (fun i wr => ∃ (j : Nat) (u : Value) (rs : List Rd), j ≤ R ∧ i = .int .i64 j ∧ Hid (rs.length = j) ∧ Hid (wr.heap[w3.heap.size]? = some (.cells #[.slice pm k cm, .slice pv n2 cv, u] 27 (0, 0))) ∧ Hid (wr.ownsRow w4.heap.size 87 4 u j (rdV rs)) ∧ Hid (wr.ownsRow w4.heap.size 78 2 (.slice pm k cm) k (spV ms)) ∧ Hid (wr.ownsRow w4.heap.size 3 1 (.slice pv n2 cv) n2 (inV xs)) ∧ Hid (∀ i, i < j → numsF readW (ps.getD (k + 2 + i) ByteArray.empty) 4 = some (rdL (gr rs i))) ∧ Hid (w4.heap.size ≤ wr.heap.size) ∧ Hid (Below w3.heap.size w3 wr)) (fun i _ => R - (intOf i).toNat)
          case atStart => exact ⟨0, _, [], Nat.zero_le _, rfl, Lib.hid rfl, HX6, Lib.hid (World.ownsRow_nil _ _ _ _), HMR, HVR, Lib.hid (fun i h => absurd h (Nat.not_lt_zero _)), HSZ6, HB6⟩
          case round =>
          obtain ⟨j, u, rs, hj, rfl, HRSL, HX, HV, HMR, HVR, HRR, HSZ, HB⟩ := hrel; have HBW := Lib.hid (HB3.out.trans (HB.out.mono HB3.out.size)); have HSZ3 := Lib.hid (show w3.heap.size < w4.heap.size from by have := HSZ4.out; omega)
          by_cases hlt : j < R
          · have hji : (j : Int) < (R : Int) := by omega
            have c1 : wr.cell? ⟨g, k + 2 + j, none⟩ = some (.string (ps.getD (k + 2 + j) ByteArray.empty)) := (HB.out.cell (lt_of_cellq (HCL.out j hlt))).trans (HCL.out j hlt); have hnb := c_numbers readW (ps.getD (k + 2 + j) ByteArray.empty) 4 m wr (by have := HRL.out j hlt; omega) (by omega) (HM.out.below HBW.out) (HI.out.below HBW.out); have HNB := Lib.hid (fun (h : numsF readW (ps.getD (k + 2 + j) ByteArray.empty) 4 = none) => noBk_read HHD.out HLR.out hlt (by rw [HPE.out]; exact h))
            have HSN := Lib.hid (show ∀ a b c d, numsF readW (ps.getD (k + 2 + j) ByteArray.empty) 4 = some [a, b, c, d] → ∀ i, i < j + 1 → numsF readW (ps.getD (k + 2 + i) ByteArray.empty) 4 = some (rdL (gr (rs ++ [⟨a, b, c, d⟩]) i)) from fun a b c d h i hi => by
              by_cases h1 : i < j
              · have e : gr (rs ++ [⟨a, b, c, d⟩]) i = gr rs i := by
                  unfold gr; rw [List.getD_eq_getElem?_getD, List.getD_eq_getElem?_getD, List.getElem?_append_left (by rw [HRSL.out]; exact h1)]
                rw [e]; exact HRR.out i h1
              · obtain rfl : i = j := by omega
                have e : gr (rs ++ [⟨a, b, c, d⟩]) i = ⟨a, b, c, d⟩ := by
                  unfold gr; rw [← HRSL.out]; simp
                rw [e]; exact h)
            obtain ⟨r, hr⟩ : ∃ r, ps.getD (k + 2 + j) ByteArray.empty = r := ⟨_, rfl⟩; rw [hr] at c1 hnb HNB HSN; clear hr; go_wp2_with fail; refine hnb.mono ?_; clear hnb; rintro e w5 ⟨⟨xs', hv, hxs, rfl, hown⟩ | ⟨hno, x, he⟩, b5⟩
            · obtain ⟨ra, rb, rc, rd, rfl⟩ := read_four hxs
              have HSN2 := Lib.hid (HSN.out ra rb rc rd hxs); obtain ⟨gx, cx, rfl⟩ := own_form hown; have hx5 := (b5.block _ (block_lt HX.out)).trans HX.out; have HX5 := Lib.hid hx5; have HOX := Lib.hid hown; have HV5 := Lib.hid (own_kept HV.out b5); have HMR5 := Lib.hid (own_kept HMR.out b5); have HVR5 := Lib.hid (own_kept HVR.out b5); have HB5 := Lib.hid (HB.out.trans (b5.mono HB.out.size)); have HSZ5 := Lib.hid (Nat.le_trans HSZ.out b5.size); have HSW := Lib.hid (show w3.heap.size < wr.heap.size from by have := HSZ.out; have := HSZ4.out; omega); clear hxs hown hx5 b5 c1; go_wp2_with fail; refine wp_region_held_drew (S := (fun w' => w'.cell? ⟨gx, 0, none⟩ = some (.int .i64 ra) ∧ w'.cell? ⟨gx, 1, none⟩ = some (.int .i64 rb) ∧ w'.cell? ⟨gx, 2, none⟩ = some (.int .i64 rc) ∧ w'.cell? ⟨gx, 3, none⟩ = some (.int .i64 rd))) (by kernel_rfl) (by (try dsimp only); exact own_four (own_kept HOX.out (Below.refl _ _).drew)) (fun hHeld => ?_)
              refine wpAnyH_gen (fun W0 hW0 => ?_); have bd : Below w5.heap.size w5 W0 := by rw [hW0]; exact (Below.refl _ _).drew
              have HOX0 := Lib.hid (own_kept HOX.out bd); have hS0 := own_four HOX0.out; have hX0 := (bd.block _ (block_lt HX5.out)).trans HX5.out; have HV0 := Lib.hid (own_kept HV5.out bd); have HB6 := Lib.hid (HB5.out.trans (bd.mono HB5.out.size)); have HSZ6 := Lib.hid (Nat.le_trans HSZ5.out bd.size); obtain ⟨w7, hw7⟩ : ∃ w7, W0.alloc (.cells #[.int .i64 ra, .int .i64 rb, .int .i64 rc, .int .i64 rd] 87) = w7 := ⟨_, rfl⟩; have h_HX7 := alloc_old W0 (.cells #[.int .i64 ra, .int .i64 rb, .int .i64 rc, .int .i64 rd] 87) hX0; rw [hw7] at h_HX7; have HX7 := Lib.hid h_HX7; clear h_HX7; have h_HV7 := HV0.out.alloc (.cells #[.int .i64 ra, .int .i64 rb, .int .i64 rc, .int .i64 rd] 87); rw [hw7] at h_HV7; have HV7 := Lib.hid h_HV7; clear h_HV7; have h_HOX7 := HOX0.out.alloc (.cells #[.int .i64 ra, .int .i64 rb, .int .i64 rc, .int .i64 rd] 87); rw [hw7] at h_HOX7; have HOX7 := Lib.hid h_HOX7; clear h_HOX7
              have h_HB7 := HB6.out.alloc HB6.out.size (.cells #[.int .i64 ra, .int .i64 rb, .int .i64 rc, .int .i64 rd] 87); rw [hw7] at h_HB7; have HB7 := Lib.hid h_HB7; clear h_HB7; have HSZ7 := Lib.hid (show w4.heap.size ≤ w7.heap.size by rw [← hw7]; exact Nat.le_trans HSZ6.out (below_alloc1 W0 _).size); have HNW := Lib.hid (show ∀ j u, ([.int .i64 ra, .int .i64 rb, .int .i64 rc, .int .i64 rd] : List Value)[j]? = some u → w7.cell? ((⟨W0.heap.size, 0, none⟩ : Addr).add j) = some u by rw [← hw7]; exact news_of W0 _ _); have h_x := (own_kept HMR5.out bd).alloc (.cells #[.int .i64 ra, .int .i64 rb, .int .i64 rc, .int .i64 rd] 87); rw [hw7] at h_x; have HMR7 := Lib.hid h_x; clear h_x; have h_x := (own_kept HVR5.out bd).alloc (.cells #[.int .i64 ra, .int .i64 rb, .int .i64 rc, .int .i64 rd] 87); rw [hw7] at h_x; have HVR7 := Lib.hid h_x; clear h_x; have hS7 := own_four HOX7.out; obtain ⟨oa, ob, oc⟩ := cells3 hX0
              obtain ⟨pa, pb, pc⟩ := cells3 HX7.out; clear hW0 hHeld bd hX0; refine wpAnyH_take (i := 0) (v := ?v10) rfl (by kernel_rfl) (by kernel_rfl) (by kernel_rfl) (fun _ _ _ h => by exact h) (Or.inl ⟨by rfl, ?hy10⟩) (by (try dsimp only); exact hS0) ?rest10
              case hy10 => (intro w hSw; (try dsimp only at hSw); go_simp <;> (try with_reducible rfl))
              simp only [Act.put, ptL]; refine wpAnyH_take (i := 2) (v := ?v11) rfl (by kernel_rfl) (by kernel_rfl) (by kernel_rfl) (fun _ _ _ h => by exact h) (Or.inl ⟨by rfl, ?hy11⟩) (by (try dsimp only); exact hS0) ?rest11
              case hy11 => (intro w hSw; (try dsimp only at hSw); go_simp <;> (try with_reducible rfl))
              simp only [Act.put, ptL]; refine wpAnyH_take (i := 3) (v := ?v12) rfl (by kernel_rfl) (by kernel_rfl) (by kernel_rfl) (fun _ _ _ h => by exact h) (Or.inl ⟨by rfl, ?hy12⟩) (by (try dsimp only); exact hS0) ?rest12
              case hy12 => (intro w hSw; (try dsimp only at hSw); go_simp <;> (try with_reducible rfl))
              simp only [Act.put, ptL]; refine wpAnyH_take (i := 4) (v := ?v13) rfl (by kernel_rfl) (by kernel_rfl) (by kernel_rfl) (fun _ _ _ h => by exact h) (Or.inl ⟨by rfl, ?hy13⟩) (by (try dsimp only); exact hS0) ?rest13
              case hy13 => (intro w hSw; (try dsimp only at hSw); go_simp <;> (try with_reducible rfl))
              simp only [Act.put, ptL]; refine wpAnyH_take (i := 5) (v := ?v14) rfl (by kernel_rfl) (by kernel_rfl) (by kernel_rfl) (fun _ _ _ h => by exact h) (Or.inl ⟨by rfl, ?hy14⟩) (by (try dsimp only); exact hS0) ?rest14
              case hy14 => (intro w hSw; (try dsimp only at hSw); go_simp <;> (try with_reducible rfl))
              simp only [Act.put, ptL]; refine wpAnyH_take (i := 6) (v := ?v15) rfl (by kernel_rfl) (by kernel_rfl) (by kernel_rfl) (fun _ _ _ h => by exact h) (Or.inl ⟨by rfl, ?hy15⟩) (by (try dsimp only); exact hS0) ?rest15
              case hy15 => (intro w hSw; (try dsimp only at hSw); go_simp <;> (try with_reducible rfl))
              simp only [Act.put, ptL]; refine wpAnyH_take (i := 7) (v := ?v16) rfl (by kernel_rfl) (by kernel_rfl) (by kernel_rfl) (fun _ _ _ h => by exact h) (Or.inl ⟨by rfl, ?hy16⟩) (by (try dsimp only); exact hS0) ?rest16
              case hy16 => (intro w hSw; (try dsimp only at hSw); go_simp <;> (try with_reducible rfl))
              simp only [Act.put, ptL]; refine wpAnyH_take (i := 8) (v := ?v17) rfl (by kernel_rfl) (by kernel_rfl) (by kernel_rfl) (fun _ _ _ h => by exact h) (Or.inl ⟨by rfl, ?hy17⟩) (by (try dsimp only); exact hS0) ?rest17
              case hy17 => (intro w hSw; (try dsimp only at hSw); go_simp <;> (try with_reducible rfl))
              simp only [Act.put, ptL]; refine wpAnyH_take (i := 9) (v := ?v18) rfl (by kernel_rfl) (by kernel_rfl) (by kernel_rfl) (fun _ _ _ h => by exact h) (Or.inl ⟨by rfl, ?hy18⟩) (by (try dsimp only); exact hS0) ?rest18
              case hy18 => (intro w hSw; (try dsimp only at hSw); go_simp <;> (try with_reducible rfl))
              simp only [Act.put, ptL]; refine wpAnyH_take (i := 10) (v := ?v19) rfl (by kernel_rfl) (by kernel_rfl) (by kernel_rfl) (fun _ _ _ h => by exact h) (Or.inl ⟨by rfl, ?hy19⟩) (by (try dsimp only); exact hS0) ?rest19
              case hy19 => (intro w hSw; (try dsimp only at hSw); go_simp <;> (try with_reducible rfl))
              simp only [Act.put, ptL]; refine wpAnyH_take (i := 11) (v := ?v20) rfl (by kernel_rfl) (by kernel_rfl) (by kernel_rfl) (fun _ _ _ h => by exact h) (Or.inl ⟨by rfl, ?hy20⟩) (by (try dsimp only); exact hS0) ?rest20
              case hy20 => (intro w hSw; (try dsimp only at hSw); go_simp <;> (try with_reducible rfl))
              simp only [Act.put, ptL]; refine wpAnyH_take (i := 12) (v := ?v21) rfl (by kernel_rfl) (by kernel_rfl) (by kernel_rfl) (fun _ _ _ h => by exact h) (Or.inl ⟨by rfl, ?hy21⟩) (by (try dsimp only); exact hS0) ?rest21
              case hy21 => (intro w hSw; (try dsimp only at hSw); go_simp <;> (try with_reducible rfl))
              simp only [Act.put, ptL]; refine wpAnyH_take (i := 13) (v := ?v22) rfl (by kernel_rfl) (by kernel_rfl) (by kernel_rfl) (fun _ _ _ h => by exact h) (Or.inl ⟨by rfl, ?hy22⟩) (by (try dsimp only); exact hS0) ?rest22
              case hy22 => (intro w hSw; (try dsimp only at hSw); go_simp <;> (try with_reducible rfl))
              simp only [Act.put, ptL]; refine wpAnyH_take (i := 14) (v := ?v23) rfl (by kernel_rfl) (by kernel_rfl) (by kernel_rfl) (fun _ _ _ h => by exact h) (Or.inl ⟨by rfl, ?hy23⟩) (by (try dsimp only); exact hS0) ?rest23
              case hy23 => (intro w hSw; (try dsimp only at hSw); go_simp <;> (try with_reducible rfl))
              simp only [Act.put, ptL]; refine wpAnyH_ready (rs := [1, 15]) (by kernel_rfl) (by simp) ?_; refine AllReadyH.cons rfl ?ordAR (AllReadyH.cons rfl ?ordBR AllReadyH.nil)
              case' ordAR =>
                intro K hK; go_simp; refine kz hK (by exact hS0) ?_; clear hK K; (try simp only [Act.put, ptL]); refine rz1 15 rfl ?_; intro K hK; go_simp; refine kz hK (by exact hS7) ?_; clear hK K; (try simp only [Act.put, ptL])
              case' ordBR =>
                intro K hK; go_simp; refine kz hK (by exact hS7) ?_; clear hK K; (try simp only [Act.put, ptL]); refine rz1 1 rfl ?_; intro K hK; go_simp; refine kz hK (by exact hS7) ?_; clear hK K; (try simp only [Act.put, ptL])
              all_goals
                clear oa ob oc pa pb pc hw7; refine rz1 16 rfl ?_; intro K hK; refine step_append_lies _ rfl _ _ 25 rfl w4.heap.size 87 i1 _ 4 32 Tryz.underlying25 hi1 hz0 hz1 hz2 rfl (by decide) _ _ _ rfl HV7.out ⟨W0.heap.size, 0, none⟩ 1 1 [.int .i64 ra, .int .i64 rb, .int .i64 rc, .int .i64 rd] rfl rfl HNW.out (by intro u hu; simp at hu; rcases hu with rfl | rfl | rfl | rfl <;> rfl) (by decide) (by unfold maxLen; omega) (by omega) (by have := HSZ7.out; omega) _ rfl ?_; intro g' cap' w11 hown' hgrow _ _; have hd1 := (hgrow.block _ (block_lt HX7.out) (own_notE HX7.out (by decide) HV7.out)).trans HX7.out; have HOX11 := Lib.hid (HOX7.out.kept hgrow (own_apart HOX7.out HV7.out (by decide))); have hS11 := own_four HOX11.out; obtain ⟨w12, s1, c0', f0', hx4, hxk, HZ12, hxb⟩ := put3_2 w11 w3.heap.size 27 _ _ _ (.slice (some ⟨g', 0, none⟩) (j + 1) cap') hd1; have HXn := Lib.hid hx4; have HVn := Lib.hid (own_same hown' (fun g'' hg'' => hxk g'' (by have := (hown'.lt g'' hg'').1; have := HSZ4.out; omega)))
                have hS12 := own_four (own_same HOX11.out (w' := w12) (fun g'' hg'' => hxk g'' (by have := (HOX11.out.lt g'' hg'').1; have := HSW.out; omega))); have HBn := Lib.hid (hxb w3 w3.heap.size (Nat.le_refl _) (HB7.out.grown hgrow (by have := HB7.out.size; omega) (fun j hj => by have := (HV7.out.lt j hj).1; have := HSZ4.out; omega))); have HSZn := Lib.hid (show w4.heap.size ≤ w12.heap.size from by have := HZ12.out; have := hgrow.size; have := HSZ7.out; omega); have HMRn := Lib.hid (own_same (HMR7.out.kept hgrow (own_apart HMR7.out HV7.out (by decide))) (w' := w12) (fun g'' hg'' => hxk g'' (by have := (HMR7.out.lt g'' hg'').1; have := HSZ4.out; omega))); have HVRn := Lib.hid (own_same (HVR7.out.kept hgrow (own_apart HVR7.out HV7.out (by decide))) (w' := w12) (fun g'' hg'' => hxk g'' (by have := (HVR7.out.lt g'' hg'').1; have := HSZ4.out; omega))); clear hd1 hx4 hxk hxb hown' hgrow
                refine kz hK (by exact hS11) ?_; clear hK K; (try simp only [Act.put, ptL]); refine rz1 17 rfl ?_; intro K hK; go_simp; refine kz hK (by exact hS11) ?_; clear hK K; (try simp only [Act.put, ptL]); refine rz1 18 rfl ?_; intro K hK; go_simp; refine kz hK (by exact hS12) ?_; clear hK K; (try simp only [Act.put, ptL]); (try go_simp); refine wpAnyH_done (by kernel_rfl) ?_ _; go_wp2; go_roundw
                case rel => exact ⟨j + 1, _, rs ++ [⟨ra, rb, rc, rd⟩], by omega, by go_num, Lib.hid (by rw [List.length_append, HRSL.out]; rfl), HXn, by rw [rdV_append]; exact HVn, HMRn, HVRn, HSN2, HSZn, HBn⟩
                case measure => simp [intOf]; omega
            · unfold noneE at he
              subst he; have HT := Lib.hid (HNB.out hno); have HBZ := Lib.hid (HBW.out.trans (b5.mono HBW.out.size)); clear b5 hno c1; go_wp2; exact ⟨rfl, .inr ⟨HT.out, _, rfl⟩, HBZ.out⟩
          · obtain rfl : j = R := by omega
            have hji : ¬ (j : Int) < (j : Int) := by omega
            obtain ⟨pr, cr, hv⟩ := own_anyE HV.out; subst hv
            have HPP := Lib.hid (show PreP s ⟨ms, xs, rs⟩ from ⟨by show numsF _ _ 1 = some [((ms.length : Nat) : Int)]; rw [HML.out]; exact HHD.out, by show _ = ms.length + rs.length + 4; rw [HLR.out, HML.out, HRSL.out], fun i hi => by
              have := HMS.out i (by rw [← HML.out]; exact hi); rw [HPE.out]; exact this, HMV.out, fun i hi => by
              have := HRR.out i (by rw [← HRSL.out]; exact hi); show numsF readW ((partsF 10 s).getD (ms.length + 2 + i) ByteArray.empty) 4 = _; rw [HPE.out, HML.out]; exact this⟩)
            have HTO := Lib.hid (pre_textOk HPP.out HSS.out (by rw [HLR.out]; omega)); have hrp : RdP wr pm pv pr ⟨ms, xs, rs⟩ := ⟨rdS_at HMR.out HML.out, rdI_at HVR.out HXL.out, rdR_at HV.out HRSL.out⟩; have htx := c_text pm pv pr cm cv cr ⟨ms, xs, rs⟩ wr hrp HTO.out (HI.out.below HBW.out); have HRP := Lib.hid hrp
            have htx2 : Calls Tryz.prog 47 #[.agg #[.slice pm k cm, .slice pv n2 cv, .slice pr j cr]] wr fun e w' => e = .returned (.string (textP ⟨ms, xs, rs⟩)) ∧ Below wr.heap.size wr w' := by
              have h := htx; simp only [HML.out, HXL.out, HRSL.out] at h; exact h
            obtain ⟨T, hT⟩ : ∃ T, textP ⟨ms, xs, rs⟩ = T := ⟨_, rfl⟩; rw [hT] at htx2; obtain ⟨o0, o1, o2⟩ := cells3 HX.out; have HKZR := Lib.hid ((HB.out.block _ (block_lt HKZ3.out)).trans HKZ3.out); clear htx hrp
            by_cases he : T = s
            · have HBK := Lib.hid (show BkP s ⟨ms, xs, rs⟩ from pre_bk HPP.out (by rw [hT]; exact he))
              have hbe := beq_yes he; clear he hT; go_wp2_with fail; refine htx2.mono ?_; clear htx2; rintro e w6 ⟨rfl, b6⟩; have o0 := (b6.cell (lt_of_cellq o0)).trans o0; have o1 := (b6.cell (lt_of_cellq o1)).trans o1; have o2 := (b6.cell (lt_of_cellq o2)).trans o2; obtain ⟨w7, w8, w9, s1, s2, s3, ⟨c0', f0'⟩, ⟨c1', f1'⟩, ⟨c2', f2'⟩, hx4, hxk, HZ9, hxb⟩ := set3 w6 w.heap.size 27 _ _ _ (.slice pm k cm) (.slice pv n2 cv) (.slice pr j cr) ((b6.block _ (block_lt HKZR.out)).trans HKZR.out); obtain ⟨r0', r1', r2'⟩ := cells3 hx4; have HBB := Lib.hid (hxb w w.heap.size (Nat.le_refl _) (HBW.out.trans (b6.mono HBW.out.size))); have hlow : w.heap.size < w4.heap.size := by have := HB3.out.size; have := HSZ4.out; omega
              have hm9 : w9.ownsRow w4.heap.size 78 2 (.slice pm k cm) k (spV ms) := own_same (own_kept HMR.out b6) (fun g'' hg'' => hxk g'' (by have := (HMR.out.lt g'' hg'').1; omega)); have hv9 : w9.ownsRow w4.heap.size 3 1 (.slice pv n2 cv) n2 (inV xs) := own_same (own_kept HVR.out b6) (fun g'' hg'' => hxk g'' (by have := (HVR.out.lt g'' hg'').1; omega)); have hr9 : w9.ownsRow w4.heap.size 87 4 (.slice pr j cr) j (rdV rs) := own_same (own_kept HV.out b6) (fun g'' hg'' => hxk g'' (by have := (HV.out.lt g'' hg'').1; omega))
              have HR9 := Lib.hid (show ∀ W : World, (∀ k, w.heap.size ≤ k → k < w9.heap.size → W.heap[k]? = w9.heap[k]?) → RdP W pm pv pr ⟨ms, xs, rs⟩ from fun W hW =>
                ⟨rdS_at (own_same hm9 (fun g'' hg'' => hW g'' (by have := (hm9.lt g'' hg'').1; omega) (hm9.lt g'' hg'').2)) HML.out, rdI_at (own_same hv9 (fun g'' hg'' => hW g'' (by have := (hv9.lt g'' hg'').1; omega) (hv9.lt g'' hg'').2)) HXL.out, rdR_at (own_same hr9 (fun g'' hg'' => hW g'' (by have := (hr9.lt g'' hg'').1; omega) (hr9.lt g'' hg'').2)) HRSL.out⟩)
              clear hlow hm9 hv9 hr9; clear hx4 hxk hxb b6; go_wp2_with fail; refine (c_sure_t s _).mono ?_; rintro e w' ⟨rfl, rfl⟩; go_wp2; refine bodyPost_ret (v := .agg #[.slice pm k cm, .slice pv n2 cv, .slice pr j cr]) ?_ rfl ⟨.inl ⟨⟨ms, xs, rs⟩, pm, cm, pv, cv, pr, cr, HBK.out, by simp only [HML.out, HXL.out, HRSL.out], HR9.out, HTO.out⟩, HBB.out⟩; simp [results, Tryz.results40, go_sem, r0', r1', r2']
            · have HT := Lib.hid (noBk_text HPP.out (by rw [hT]; exact he))
              have hbe := beq_no he; clear he hT; go_wp2_with fail; refine htx2.mono ?_; clear htx2; rintro e w6 ⟨rfl, b6⟩; have HB6 := Lib.hid (HBW.out.trans (b6.mono HBW.out.size)); clear b6; go_wp2_with fail; refine (c_sure_f s _).mono ?_; rintro e w' ⟨he, b2⟩; unfold noneE at he; subst he; have HBZ := Lib.hid (HB6.out.trans (b2.mono HB6.out.size)); clear b2; go_wp2; exact ⟨rfl, .inr ⟨HT.out, _, rfl⟩, HBZ.out⟩
        · unfold noneE at he
          subst he; have HT := Lib.hid (HNB.out hno); have HBZ := Lib.hid (HBW.out.trans (b5.mono HBW.out.size)); clear b5 hno c1; go_wp2; exact ⟨rfl, .inr ⟨HT.out, _, rfl⟩, HBZ.out⟩
    · have HT := Lib.hid (noBk_count HHD.out (by rw [HPE.out, HL.out]; exact hok))
      by_cases h0 : 0 ≤ n0
      · have d1 : decide (n0 ≥ 0) = true := decide_eq_true h0
        have d2 : decide ((L : Int) ≥ n0 + 4) = false := decide_eq_false (fun h => hok ⟨h0, h⟩); clear hok h0; go_wp2_with fail; refine (c_sure_f s _).mono ?_; rintro e w' ⟨he, b4⟩; unfold noneE at he; subst he; have HBZ := Lib.hid (HB3.out.trans (b4.mono HB3.out.size)); clear b4; go_wp2; exact ⟨rfl, .inr ⟨HT.out, _, rfl⟩, HBZ.out⟩
      · have d1 : decide (n0 ≥ 0) = false := decide_eq_false h0
        clear hok h0; go_wp2_with fail; refine (c_sure_f s _).mono ?_; rintro e w' ⟨he, b4⟩; unfold noneE at he; subst he; have HBZ := Lib.hid (HB3.out.trans (b4.mono HB3.out.size)); clear b4; go_wp2; exact ⟨rfl, .inr ⟨HT.out, _, rfl⟩, HBZ.out⟩
  · unfold noneE at he
    subst he; have HT := Lib.hid (noBk_head (s := s) (by rw [HHP.out]; exact hno)); have HBZ := Lib.hid (HB2.out.trans (b3.mono HB2.out.size)); clear b3 hno e0; go_wp2; exact ⟨rfl, .inr ⟨HT.out, _, rfl⟩, HBZ.out⟩
end Go.Proofs.YtbknfddaoolagaaGreatDoor
end

section
namespace Go.Proofs.YtbknfddaoolagaaGreatDoor
open Go Go.RowKit Go.Proofs Go.Shelf
set_option linter.unusedVariables false
set_option linter.unusedSimpArgs false
attribute [local go_sem] imax2 imin2

theorem asNone (v : Value) (w : World) : (Instr.typeAssert (.iface 80 v) 20 80 true).run Tryz.prog w = .ok (.tuple #[v, .bool true]) w := by kernel_rfl
theorem put1 (w : World) (B : Nat) (t : TypeId) (a x : Value) (h : w.heap[B]? = some (.cells #[a] t)) : ∃ w1, w.setCell ⟨B, 0, none⟩ x = w1 ∧ w.cell? ⟨B, 0, none⟩ = some a ∧ w.frozen? ⟨B, 0, none⟩ = false ∧
    w1.heap[B]? = some (.cells #[x] t) ∧ (∀ k, k ≠ B → w1.heap[k]? = w.heap[k]?) ∧ Hid (w1.heap.size = w.heap.size) ∧ ∀ W n0, n0 ≤ B → Below n0 W w → Below n0 W w1 :=
  ⟨_, rfl, by rw [cell_of_row _ _ _ _ _ _ h]; rfl, frozen_of_row _ _ _ _ _ h, by rw [heap_setCell_same w B 0 _ t x h]; rfl, fun k hk => Below.heap_setCell _ _ _ k hk, Lib.hid (by simp), fun W n0 hn hb => hb.setCell hn _⟩
set_option maxRecDepth 100000 in
set_option maxHeartbeats 1000000 in
theorem catch_none (pt pi : Nat) (a b c v0 : Value) (x : ByteArray) (older : List PanicEntry) (w : World) (ht : w.heap[pt]? = some (.cells #[a, b, c] 27 (0, 0))) (hi : w.heap[pi]? = some (.cells #[v0] 28 (0, 0))) (hne : pt ≠ pi) :
    CallsD Tryz.prog 39 #[.pointer (some ⟨pt, 0, none⟩), .pointer (some ⟨pi, 0, none⟩)] (.panicking ({ v := .iface 80 (.agg #[.string x]), recovered := false } :: older)) w fun e u' w' =>
      e = .returned (.tuple #[]) ∧ u' = .panicking ({ v := .iface 80 (.agg #[.string x]), recovered := true } :: older) ∧ w'.heap[pt]? = some (.cells #[.slice none 0 0, .slice none 0 0, .slice none 0 0] 27 (0, 0)) ∧ w'.heap[pi]? = some (.cells #[.int .i64 4] 28 (0, 0)) ∧ (∀ B, B ≤ pt → B ≤ pi → Below B w w') := by
  have hlt := block_lt ht; have hlt2 := block_lt hi; have ha := asNone (.agg #[.string x]) w; obtain ⟨w1, e1, HS1, y0, _, b1⟩ := box1 w (.string x) 80; have ht1 := (b1.block pt hlt).trans ht; have hi1 := (b1.block pi hlt2).trans hi; obtain ⟨w2, w3, w4, s2, s3, s4, ⟨c0, f0⟩, ⟨c1, f1⟩, ⟨c2, f2⟩, hx4, hxk, HZ, hxb⟩ := set3 w1 pt 27 _ _ _ (.slice none 0 0) (.slice none 0 0) (.slice none 0 0) ht1; have hi3 := (hxk pi (Ne.symm hne)).trans hi1; obtain ⟨w5, s5, d0, df, hi5, hk5, HZ5, hb5⟩ := put1 w4 pi 28 v0 (.int .i64 4) hi3; have ht5 := (hk5 pt hne).trans hx4; have hB5 : ∀ B, B ≤ pt → B ≤ pi → Below B w w5 := fun B h1 h2 => hb5 w B h2 (hxb w B h1 (b1.mono (by omega)))
  have HOUT := Lib.hid (And.intro ht5 (And.intro hi5 hB5)); clear hx4 hxk hxb hi3 ht1 hi1 b1 ht hi hi5 ht5 hB5 y0 hk5 hb5; refine callsD_of_wpS Tryz.func39 rfl fun c₀ cs hu => ?_
  apply wpS_seq; apply wpS_region; simp [wpOpsS, go_sem, recoverD, hu, Tryz.ntmps39, Exit.thenS, rep10]; refine wpS_of_wp ?_; go_wp2; simp [bodyPostS, results, Tryz.results39]; exact HOUT.out
set_option maxRecDepth 100000 in
theorem catch_none_idle (pt pi : Nat) (w : World) :
    CallsD Tryz.prog 39 #[.pointer (some ⟨pt, 0, none⟩), .pointer (some ⟨pi, 0, none⟩)] .returning w fun e u' w' => e = .returned (.tuple #[]) ∧ u' = .returning ∧ w' = w := by
  refine callsD_of_wpS Tryz.func39 rfl fun c₀ cs hu => ?_
  apply wpS_seq; apply wpS_region; simp [wpOpsS, go_sem, recoverD, hu, Tryz.ntmps39, Exit.thenS, rep10]; refine wpS_of_wp ?_; go_wp2
  cases c₀
  simp_all [bodyPostS, results, Tryz.results39]

def ReadPost (s : ByteArray) (w : World) (e : Ending) (w' : World) : Prop :=
  (∃ q pm cm pv cv pr cr er, e = .returned (.tuple #[.agg #[.slice pm q.ms.length cm, .slice pv q.mv.length cv, .slice pr q.rs.length cr], .int .i64 er]) ∧ RdP w' pm pv pr q ∧ ReadR s q er) ∧ Below w.heap.size w w'
theorem rdP_no (w : World) : RdP w none none none noP := ⟨.inl rfl, .inl rfl, .inl rfl⟩
theorem lenOk_text {p : Pc} (h : TextOk p) : LenOk p := ⟨by have := h.ms; omega, by have := h.mv; omega, by have := h.rs; omega⟩
set_option maxRecDepth 100000 in
set_option maxHeartbeats 2000000 in
theorem c_Read (s : ByteArray) (m : Int) (w : World) (hs : s.size ≤ 1000000) (hm : MaxL m w) (hI : ItoaG w) :
    Calls Tryz.prog 6 #[.string s] w (ReadPost s w) := by
  have hmf : ∀ (fn : Fn) (first cap : Array Value) (w : World), (Instr.makeFunc fn first cap).run Tryz.prog w = .ok (.func fn first cap) w := fun _ _ _ _ => rfl
  have kp := alloc_new w (.cells #[.slice none 0 0, .slice none 0 0, .slice none 0 0] 27); obtain ⟨w1, e1, HS1, _, _, _, b1⟩ := box3 w (.slice none 0 0) (.slice none 0 0) (.slice none 0 0) 27; rw [e1] at kp; have ke := alloc_new w1 (.cells #[.int .i64 0] 28); obtain ⟨w2, e2, HS2, _, _, b2⟩ := box1 w1 (.int .i64 0) 28; rw [e2] at ke; have kp := (b2.block _ (block_lt kp)).trans kp; have HB2 := Lib.hid (b1.trans (b2.mono b1.size)); have hz1 := HS1.out; have hz2 := HS2.out; have HNE := Lib.hid (show w.heap.size ≠ w1.heap.size ∧ w.heap.size ≤ w1.heap.size ∧ w1.heap.size < w2.heap.size from ⟨by omega, by omega, by omega⟩); have HI := Lib.hid (hI.below HB2.out); have HM := Lib.hid (hm.below HB2.out); clear b1 b2 hz1 hz2 hm hI
  by_cases h4 : s.size ≤ 400
  · have h4I : decide ((s.size : Int) > 400) = false := by simp; omega
    have HKP := Lib.hid kp; have HKE := Lib.hid ke; have H4 := Lib.hid h4; have hps := c_parsed s m w2 h4 HM.out HI.out; clear kp ke h4
    go_enter_defers Tryz.func6, Tryz.ntmps6
    go_wp2_with fail; refine hps.mono ?_; clear hps; rintro e w3 ⟨⟨q, pm, cm, pv, cv, pr, cr, hbk, rfl, hrp, hto⟩ | ⟨hno, x, he⟩, b3⟩
    · have hkp := (b3.block _ (block_lt HKP.out)).trans HKP.out
      have hke := (b3.block _ (block_lt HKE.out)).trans HKE.out; obtain ⟨hne1, hne2, hne3⟩ := HNE.out; obtain ⟨w4, w5, w6, s4, s5, s6, ⟨c0, f0⟩, ⟨c1, f1⟩, ⟨c2, f2⟩, hx4, hxk, HZ6, hxb⟩ := set3 w3 w.heap.size 27 _ _ _ (.slice pm q.ms.length cm) (.slice pv q.mv.length cv) (.slice pr q.rs.length cr) hkp; have hrp6 : RdP w6 pm pv pr q := hrp w6 (fun k hk _ => hxk k (by omega)); have HRW := Lib.hid hrp; have HXK := Lib.hid (show ∀ k, k ≠ w.heap.size → w6.heap[k]? = w3.heap[k]? from hxk); have hE6 := (hxk w1.heap.size (Ne.symm hne1)).trans hke; have hB6 := hxb w w.heap.size (Nat.le_refl _) (HB2.out.trans (b3.mono HB2.out.size)); obtain ⟨o0, o1, o2⟩ := cells3 hx4; have hip := c_isPiece pm pv pr cm cv cr q w6 hrp6 (lenOk_text hto); have HX6 := Lib.hid hx4; have HE6 := Lib.hid hE6; have HB6 := Lib.hid hB6; have HR6 := Lib.hid hrp6; have HBK := Lib.hid hbk; clear hkp hke hne1 hne2 hne3 hx4 hxk hxb hrp hrp6 hE6 hB6 hto hbk b3
      rcases hpc : pieceB q with _ | _
      · rw [hpc] at hip
        have HPC := Lib.hid hpc; clear hpc; go_wp2_with fail; refine hip.mono ?_; clear hip; rintro e w7 ⟨rfl, b7⟩; obtain ⟨hne1, hne2, hne3⟩ := HNE.out; obtain ⟨x1, x2, x3, s7, s8, s9, ⟨c3, f3⟩, ⟨c4, f4⟩, ⟨c5, f5⟩, hx4, hxk, HZ9, hxb⟩ := set3 w7 w.heap.size 27 _ _ _ (.slice none 0 0) (.slice none 0 0) (.slice none 0 0) ((b7.block _ (block_lt HX6.out)).trans HX6.out); obtain ⟨x4, s10, d0, df, hi6, hk6, HZ10, hb6⟩ := put1 x3 w1.heap.size 28 _ (.int .i64 2) ((hxk w1.heap.size (Ne.symm hne1)).trans ((b7.block _ (block_lt HE6.out)).trans HE6.out)); obtain ⟨r0, r1, r2⟩ := cells3 ((hk6 w.heap.size hne1).trans hx4); have r3 : x4.cell? ⟨w1.heap.size, 0, none⟩ = some (.int .i64 2) := by rw [cell_of_row _ _ _ _ _ _ hi6]; rfl
        have HBB := Lib.hid (hb6 w w.heap.size hne2 (hxb w w.heap.size (Nat.le_refl _) (HB6.out.trans (b7.mono HB6.out.size)))); clear hx4 hxk hxb hi6 hk6 hb6 hne1 hne2 hne3 b7; go_wp2; refine leaves_cons (f := 39) (args := #[.pointer (some ⟨w.heap.size, 0, none⟩), .pointer (some ⟨w1.heap.size, 0, none⟩)]) (by simp) (by simp [go_sem]) ?_; refine (catch_none_idle w.heap.size w1.heap.size _).mono ?_; rintro e u' w'' ⟨rfl, rfl, rfl⟩; simp [Leaves, settle, results, Tryz.results6, go_sem, r0, r1, r2, r3]; exact ⟨⟨noP, none, 0, none, 0, none, 0, 2, rfl, rdP_no _, .inl ⟨.inr (.inr ⟨H4.out, ⟨q, HBK.out, HPC.out⟩, rfl⟩), rfl⟩⟩, HBB.out⟩
      · rw [hpc] at hip
        have HPC := Lib.hid hpc; clear hpc; go_wp2_with fail; refine hip.mono ?_; clear hip; rintro e w7 ⟨rfl, b7⟩; obtain ⟨hne1, hne2, hne3⟩ := HNE.out; have o0 := (b7.cell (lt_of_cellq o0)).trans o0; have o1 := (b7.cell (lt_of_cellq o1)).trans o1; have o2 := (b7.cell (lt_of_cellq o2)).trans o2; obtain ⟨x1, x2, x3, s7, s8, s9, ⟨c3, f3⟩, ⟨c4, f4⟩, ⟨c5, f5⟩, hx4, hxk, HZ9, hxb⟩ := set3 w7 w.heap.size 27 _ _ _ (.slice pm q.ms.length cm) (.slice pv q.mv.length cv) (.slice pr q.rs.length cr) ((b7.block _ (block_lt HX6.out)).trans HX6.out); obtain ⟨x4, s10, d0, df, hi6, hk6, HZ10, hb6⟩ := put1 x3 w1.heap.size 28 _ (.int .i64 0) ((hxk w1.heap.size (Ne.symm hne1)).trans ((b7.block _ (block_lt HE6.out)).trans HE6.out)); obtain ⟨r0, r1, r2⟩ := cells3 ((hk6 w.heap.size hne1).trans hx4); have r3 : x4.cell? ⟨w1.heap.size, 0, none⟩ = some (.int .i64 0) := by rw [cell_of_row _ _ _ _ _ _ hi6]; rfl
        have HBB := Lib.hid (hb6 w w.heap.size hne2 (hxb w w.heap.size (Nat.le_refl _) (HB6.out.trans (b7.mono HB6.out.size))))
        have HR7 := Lib.hid (HRW.out x4 (fun k hk hk2 => by
          rw [hk6 k (by have := HNE.out; omega), hxk k (by have := HNE.out; omega), b7.block k (by have := HZ6.out; omega)]; exact HXK.out k (by have := HNE.out; omega)))
        clear hx4 hxk hxb hi6 hk6 hb6 hne1 hne2 hne3 b7; go_wp2; refine leaves_cons (f := 39) (args := #[.pointer (some ⟨w.heap.size, 0, none⟩), .pointer (some ⟨w1.heap.size, 0, none⟩)]) (by simp) (by simp [go_sem]) ?_; refine (catch_none_idle w.heap.size w1.heap.size _).mono ?_; rintro e u' w'' ⟨rfl, rfl, rfl⟩; simp [Leaves, settle, results, Tryz.results6, go_sem, r0, r1, r2, r3]; exact ⟨⟨q, pm, cm, pv, cv, pr, cr, 0, rfl, HR7.out, .inr ⟨H4.out, HBK.out, HPC.out, rfl⟩⟩, HBB.out⟩
    · unfold noneE at he
      subst he; have HNO := Lib.hid hno; have hkp := (b3.block _ (block_lt HKP.out)).trans HKP.out; have hke := (b3.block _ (block_lt HKE.out)).trans HKE.out; have HB3 := Lib.hid (HB2.out.trans (b3.mono HB2.out.size)); have hcn := catch_none w.heap.size w1.heap.size _ _ _ _ x [] w3 hkp hke HNE.out.1; clear hno hkp hke b3; go_wp2; refine leaves_cons (f := 39) (args := #[.pointer (some ⟨w.heap.size, 0, none⟩), .pointer (some ⟨w1.heap.size, 0, none⟩)]) (by simp) (by simp [go_sem]) ?_; refine hcn.mono ?_; rintro e u' w'' ⟨rfl, rfl, ht'', hi'', hb''⟩; obtain ⟨r0, r1, r2⟩ := cells3 ht''; have r3 : w''.cell? ⟨w1.heap.size, 0, none⟩ = some (.int .i64 4) := by rw [cell_of_row _ _ _ _ _ _ hi'']; rfl
      simp [Leaves, settle, results, Tryz.results6, go_sem, r0, r1, r2, r3]; exact ⟨⟨noP, none, 0, none, 0, none, 0, 4, rfl, rdP_no _, .inl ⟨.inr (.inl ⟨H4.out, HNO.out, rfl⟩), rfl⟩⟩, HB3.out.trans (hb'' _ (Nat.le_refl _) HNE.out.2.1)⟩
  · have h4I : decide ((s.size : Int) > 400) = true := by simp; omega
    obtain ⟨hne1, hne2, hne3⟩ := HNE.out; obtain ⟨w3, w4, w5, s3, s4, s5, ⟨c0, f0⟩, ⟨c1, f1⟩, ⟨c2, f2⟩, hx4, hxk, HZ5, hxb⟩ := set3 w2 w.heap.size 27 _ _ _ (.slice none 0 0) (.slice none 0 0) (.slice none 0 0) kp; obtain ⟨w6, s6, d0, df, hi6, hk6, HZ6, hb6⟩ := put1 w5 w1.heap.size 28 _ (.int .i64 3) ((hxk w1.heap.size (Ne.symm hne1)).trans ke); obtain ⟨r0, r1, r2⟩ := cells3 ((hk6 w.heap.size hne1).trans hx4); have r3 : w6.cell? ⟨w1.heap.size, 0, none⟩ = some (.int .i64 3) := by rw [cell_of_row _ _ _ _ _ _ hi6]; rfl
    have HBB := Lib.hid (hb6 w w.heap.size hne2 (hxb w w.heap.size (Nat.le_refl _) HB2.out)); have H4 := Lib.hid h4; clear hx4 hxk hxb hi6 hk6 hb6 hne1 hne2 hne3 h4 kp ke
    go_enter_defers Tryz.func6, Tryz.ntmps6
    go_wp2_with fail; simp [bodyPostD, Leaves, settle, results, Tryz.results6, go_sem, r0, r1, r2, r3]; exact ⟨⟨noP, none, 0, none, 0, none, 0, 3, rfl, rdP_no _, .inl ⟨.inl ⟨by have := H4.out; omega, rfl⟩, rfl⟩⟩, HBB.out⟩
end Go.Proofs.YtbknfddaoolagaaGreatDoor
end
