/-
  The first of some looks than which none is better: contract.
  A map of how often each number is met, and ranging over it in whatever order: the ghosts.
  How many truths are left at most after an arbor was read: contract.
-/
import Derived.Test.YtbknfddaoolagaaGreatDoorGS
import Derived.Test.YtbknfddaoolagaaGreatDoorGC
import Derived.Maps.RangeWalk
import Derived.Maps.OwnOps
import Derived.Maps.Views
section
namespace Go.Proofs.YtbknfddaoolagaaGreatDoor
open Go Go.RowKit Go.Proofs
set_option linter.unusedVariables false
set_option linter.unusedSimpArgs false
attribute [local go_sem] imax2 imin2

theorem c1_look (a l c d : Int) (w : World) : Calls Tryz.prog 83 #[.agg #[.int .i64 a, .int .i64 l], .agg #[.int .i64 c, .int .i64 d]] w fun e w' => e = .returned (.bool (decide (l < d))) ∧ Below w.heap.size w w' := by
  obtain ⟨w1, e1, HS1, k0, k1, b1⟩ := box2 w (.int .i64 a) (.int .i64 l) 126; obtain ⟨w2, e2, HS2, q0, q1, b2⟩ := box2 w1 (.int .i64 c) (.int .i64 d) 126; have k0 := (b2.cell (lt_of_cellq k0)).trans k0; have k1 := (b2.cell (lt_of_cellq k1)).trans k1; have HB := Lib.hid (b1.trans (b2.mono b1.size)); clear b1 b2
  go_enter Tryz.func83, Tryz.ntmps83
  go_wp2; go_ret; exact ⟨rfl, HB.out⟩

def bstTo (ls : List (Int × Int)) : Nat → Int × Int
  | 0 => (0, 0)
  | k + 1 => if k = 0 ∨ (gm ls k).2 < (bstTo ls k).2 then gm ls k else bstTo ls k

set_option maxHeartbeats 1600000 in
set_option maxRecDepth 100000 in
theorem c_bestLook (q : Option Addr) (cq : Nat) (ls : List (Int × Int)) (w : World) (hq : RdS w q ls) (hl : ls.length ≤ 1000000) :
    Calls Tryz.prog 82 #[.slice q ls.length cq, .func (.func 83) #[] #[]] w fun e w' =>
      e = .returned (.agg #[.int .i64 (bstTo ls ls.length).1, .int .i64 (bstTo ls ls.length).2]) ∧ Below w.heap.size w w' := by
  have kr := alloc_new w (.cells #[.int .i64 0, .int .i64 0] 126); obtain ⟨w1, e1, HS1, _, _, b1⟩ := box2 w (.int .i64 0) (.int .i64 0) 126; rw [e1] at kr; have ko := alloc_new w1 (.cells #[.int .i64 0, .int .i64 0] 126); obtain ⟨w2, e2, HS2, _, _, b2⟩ := box2 w1 (.int .i64 0) (.int .i64 0) 126; rw [e2] at ko; have HQ := Lib.hid hq; have HKO := Lib.hid ko; have HKR := Lib.hid ((b2.block _ (block_lt kr)).trans kr); have HB := Lib.hid (b1.trans (b2.mono b1.size)); have HZ := Lib.hid (show w.heap.size < w1.heap.size ∧ w1.heap.size < w2.heap.size from ⟨by have := HS1.out; omega, by have := HS2.out; omega⟩); clear hq ko kr b1 b2
  go_enter Tryz.func82, Tryz.ntmps82
  go_wp2; clear e1 e2
  go_loopw [10] (fun i wr => ∃ k : Nat, k ≤ ls.length ∧ i = .int .i64 k ∧ Hid (wr.heap[w1.heap.size]? = some (.cells #[.int .i64 (bstTo ls k).1, .int .i64 (bstTo ls k).2] 126 (0, 0))) ∧ Hid (BelX (fun x => x = w1.heap.size) w2.heap.size w2 wr)) (fun i _ => ls.length - (intOf i).toNat)
  case atStart => exact ⟨0, by omega, rfl, HKO, Lib.hid (BelX.refl _ _ _)⟩
  case round =>
    obtain ⟨k, hk, rfl, HO, HX⟩ := hrel; obtain ⟨hz01, hz12⟩ := HZ.out; have hBr : Below w.heap.size w wr := ((belX_of (X := fun x => x = w1.heap.size) HB.out).trans (HX.out.mono (by omega))).below (B' := w.heap.size) (Nat.le_refl _) (fun x hx => by subst hx; omega)
    by_cases hlt : k < ls.length
    · obtain ⟨b, off, rfl, hall⟩ := (HQ.out.below hBr).at hlt
      obtain ⟨d0, d1⟩ := hall k hlt; obtain ⟨w4, e4, HS4, y0, y1, b4⟩ := box2 wr (.int .i64 (gm ls k).1) (.int .i64 (gm ls k).2) 126; have HO4 := Lib.hid ((b4.block _ (block_lt HO.out)).trans HO.out); have HX4 := Lib.hid (HX.out.trans ((belX_of b4).mono HX.out.size)); obtain ⟨o0, o1⟩ := cells2 HO4.out; have h0k : (0 : Int) ≤ (k : Int) := by omega
      have hki : (k : Int) < (ls.length : Int) := by omega
      clear hBr hall b4
      by_cases hk0 : k = 0
      · have hkb : ((k : Int) == 0) = true := by subst hk0; rfl
        have HE := Lib.hid (show bstTo ls (k + 1) = gm ls k by rw [bstTo, if_pos (Or.inl hk0)]); obtain ⟨w5, w6, s1, s2, ⟨x0, f0⟩, ⟨x1, f1⟩, hx4, hxk, HZ6, hxb⟩ := set2 w4 w1.heap.size 126 _ _ (.int .i64 (gm ls k).1) (.int .i64 (gm ls k).2) HO4.out; have HO6 := Lib.hid hx4
        have HX6 := Lib.hid (show BelX (fun x => x = w1.heap.size) w2.heap.size w2 w6 by
          have g3 := (HX4.out.setCell (p := ⟨w1.heap.size, 0, none⟩) (.inl rfl) (.int .i64 (gm ls k).1)).setCell (p := ⟨w1.heap.size, 1, none⟩) (.inl rfl) (.int .i64 (gm ls k).2); rw [s1, s2] at g3; exact g3)
        clear hx4 hxk hxb hk0; go_wp2; go_roundw
        case rel => exact ⟨k + 1, by omega, by go_num, by rw [HE.out]; exact HO6, HX6⟩
        case measure => simp [intOf]; omega
      · have hkb : ((k : Int) == 0) = false := by rw [beq_eq_false_iff_ne]; omega
        have hcall := c1_look (gm ls k).1 (gm ls k).2 (bstTo ls k).1 (bstTo ls k).2 w4; have HN := Lib.hid hk0; clear hk0
        by_cases hd : (gm ls k).2 < (bstTo ls k).2
        · have HE := Lib.hid (show bstTo ls (k + 1) = gm ls k by rw [bstTo, if_pos (Or.inr hd)])
          rw [decide_eq_true hd] at hcall; clear hd; go_wp2_with fail; refine hcall.mono ?_; clear hcall; rintro e w5 ⟨rfl, b5⟩; have y0 := (b5.cell (lt_of_cellq y0)).trans y0; have y1 := (b5.cell (lt_of_cellq y1)).trans y1; obtain ⟨w6, w7, s1, s2, ⟨x0, f0⟩, ⟨x1, f1⟩, hx4, hxk, HZ6, hxb⟩ := set2 w5 w1.heap.size 126 _ _ (.int .i64 (gm ls k).1) (.int .i64 (gm ls k).2) ((b5.block _ (block_lt HO4.out)).trans HO4.out); have HO6 := Lib.hid hx4
          have HX6 := Lib.hid (show BelX (fun x => x = w1.heap.size) w2.heap.size w2 w7 by
            have g3 := ((HX4.out.trans ((belX_of b5).mono HX4.out.size)).setCell (p := ⟨w1.heap.size, 0, none⟩) (.inl rfl) (.int .i64 (gm ls k).1)).setCell (p := ⟨w1.heap.size, 1, none⟩) (.inl rfl) (.int .i64 (gm ls k).2); rw [s1, s2] at g3; exact g3)
          clear hx4 hxk hxb b5 o0 o1; go_wp2; go_roundw
          case rel => exact ⟨k + 1, by omega, by go_num, by rw [HE.out]; exact HO6, HX6⟩
          case measure => simp [intOf]; omega
        · have HE := Lib.hid (show bstTo ls (k + 1) = bstTo ls k by rw [bstTo, if_neg (by rintro (h | h); exact HN.out h; exact hd h)])
          rw [decide_eq_false hd] at hcall; clear hd; go_wp2_with fail; refine hcall.mono ?_; clear hcall; rintro e w5 ⟨rfl, b5⟩; have HO6 := Lib.hid ((b5.block _ (block_lt HO4.out)).trans HO4.out); have HX6 := Lib.hid (HX4.out.trans ((belX_of b5).mono HX4.out.size)); clear b5 o0 o1; go_wp2; go_roundw
          case rel => exact ⟨k + 1, by omega, by go_num, by rw [HE.out]; exact HO6, HX6⟩
          case measure => simp [intOf]; omega
    · obtain rfl : k = ls.length := by omega
      obtain ⟨o0, o1⟩ := cells2 HO.out; have hkr := (HX.out.block w.heap.size (by omega) (by omega)).trans HKR.out; obtain ⟨w5, w6, s1, s2, ⟨c0, f0⟩, ⟨c1, f1⟩, hx4, hxk, HZ6, hxb⟩ := set2 wr w.heap.size 126 _ _ (.int .i64 (bstTo ls ls.length).1) (.int .i64 (bstTo ls ls.length).2) hkr; obtain ⟨r0, r1⟩ := cells2 hx4; have HBB := Lib.hid (show Below w.heap.size w w6 from hxb w w.heap.size (by omega) hBr); clear hx4 hxk hxb hkr hBr; go_wp2; refine bodyPost_ret (v := .agg #[.int .i64 (bstTo ls ls.length).1, .int .i64 (bstTo ls ls.length).2]) ?_ rfl ⟨rfl, HBB.out⟩; simp [results, Tryz.results82, go_sem, r0, r1]
end Go.Proofs.YtbknfddaoolagaaGreatDoor
end

section
namespace Go.Proofs.YtbknfddaoolagaaGreatDoor
open Go Go.RowKit Go.Proofs Go.Maps
set_option linter.unusedVariables false
set_option linter.unusedSimpArgs false

def HistOf (D : DataW Unit) (xs : List Int) : Prop := Maps.IsMap D ∧ (∀ x : Int, D.atKey (.int .i64 x) (.lit (.int .i64 0)) = .lit (.int .i64 (xs.count x : Nat))) ∧ ∀ x : Int, Maps.has D (.int .i64 x) = decide (x ∈ xs)
theorem hist_nil : HistOf (.map []) [] := ⟨Maps.isMap_empty, fun x => rfl, fun x => by simp [Maps.has]⟩
theorem lit_ne {x y : Int} (h : x ≠ y) : Lit.int .i64 x ≠ Lit.int .i64 y := fun e => h (by injection e)
theorem same_self (x : Int) : (Lit.int .i64 x).sameKey (.int .i64 x) = true := by simp [Lit.sameKey]
theorem hist_step {D : DataW Unit} {xs : List Int} (h : HistOf D xs) (y : Int) : HistOf (D.put (.int .i64 y) (.lit (.int .i64 ((xs.count y : Nat) + 1)))) (xs ++ [y]) := by
  obtain ⟨h1, h2, h3⟩ := h; refine ⟨h1.put _ _, fun x => ?_, fun x => ?_⟩
  · by_cases hx : x = y
    · subst hx
      rw [Maps.atKey_put_same (k := .int .i64 x) h1 trivial, List.count_append]
      simp
    · rw [Maps.atKey_put_other (lit_ne hx), h2 x, List.count_append]
      simp [List.count_cons, Ne.symm hx]
  · by_cases hx : x = y
    · subst hx
      rw [Maps.has_put_same (k := .int .i64 x) h1 trivial]
      simp
    · rw [Maps.has_put_other (lit_ne hx), h3 x]
      simp [hx]
def ToCome (left : Lit → Bool) (xs ks : List Int) : Prop := ks.Nodup ∧ (∀ x ∈ ks, x ∈ xs) ∧ ∀ x : Int, left (.int .i64 x) = decide (x ∈ xs ∧ x ∉ ks)
theorem come_start {D : DataW Unit} {xs : List Int} (h : HistOf D xs) : ToCome (Maps.has D) xs [] := ⟨List.nodup_nil, (fun x hx => absurd hx (by simp)), fun x => by rw [h.2.2 x]; simp⟩
theorem come_step {left : Lit → Bool} {xs ks : List Int} (h : ToCome left xs ks) {x : Int} (hx : left (.int .i64 x) = true) : ToCome (fun z => left z && !z.sameKey (.int .i64 x)) xs (ks ++ [x]) ∧ x ∈ xs := by
  obtain ⟨h1, h2, h3⟩ := h; rw [h3 x, decide_eq_true_eq] at hx; refine ⟨⟨?_, fun y hy => ?_, fun y => ?_⟩, hx.1⟩
  · rw [List.nodup_append]
    refine ⟨h1, by simp, fun a ha b hb => ?_⟩; rw [List.mem_singleton] at hb; subst hb; exact fun e => hx.2 (e ▸ ha)
  · rcases List.mem_append.1 hy with hy | hy
    · exact h2 y hy
    · rw [List.mem_singleton] at hy; exact hy ▸ hx.1
  · by_cases hxy : y = x
    · subst hxy
      show (left (.int .i64 y) && !(Lit.int .i64 y).sameKey (.int .i64 y)) = _; rw [same_self, h3 y]
      simp
    · show (left (.int .i64 y) && !(Lit.int .i64 y).sameKey (.int .i64 x)) = _
      rw [Maps.sameKey_ne (lit_ne hxy), h3 y]; simp [hxy]
theorem come_end {left : Lit → Bool} {xs ks : List Int} (h : ToCome left xs ks) (he : ∀ z, left z = false) : ∀ x, x ∈ ks ↔ x ∈ xs := fun x => by
  refine ⟨h.2.1 x, fun hx => ?_⟩; have := (h.2.2 x).symm.trans (he _); rw [decide_eq_false_iff_not] at this; exact Classical.byContradiction fun hn => this ⟨hx, hn⟩
def sumKs (xs : List Int) (lo hi : Int) (ks : List Int) : Nat := ((ks.filter fun x => inB x lo hi).map fun k => xs.count k).sum
theorem sumKs_snoc (xs : List Int) (lo hi : Int) (ks : List Int) (x : Int) : sumKs xs lo hi (ks ++ [x]) = if inB x lo hi = true then sumKs xs lo hi ks + xs.count x else sumKs xs lo hi ks := by
  unfold sumKs; rw [List.filter_append, List.map_append, List.sum_append]
  by_cases h : inB x lo hi = true
  · rw [if_pos h]; simp [h]
  · rw [if_neg h]; simp [h]
theorem sumKs_end {left : Lit → Bool} {xs ks : List Int} (h : ToCome left xs ks) (he : ∀ z, left z = false) (lo hi : Int) : sumKs xs lo hi ks = (xs.filter fun x => inB x lo hi).length :=
  hist_sum _ h.1 xs fun x hx => (come_end h he x).2 hx

theorem maxN_snoc (l : List Nat) (x : Nat) : maxN (l ++ [x]) = max (maxN l) x := by
  induction l with
  | nil => simp [maxN]
  | cons y l ih => rw [List.cons_append, maxN, maxN, ih, Nat.max_assoc]
def mostKs (p : Pc) (a : Nat) (o : Int) (ks : List Int) : Nat := maxN (ks.map fun x => cntF p a x (x + 2 * o))
theorem mostKs_snoc (p : Pc) (a : Nat) (o : Int) (ks : List Int) (x : Int) : mostKs p a o (ks ++ [x]) = max (mostKs p a o ks) (cntF p a x (x + 2 * o)) := by
  unfold mostKs; rw [List.map_append, List.map_singleton, maxN_snoc]
theorem placesF_len (p : Pc) (a : Nat) : (placesF p a).length = (truthsF p).length := by unfold placesF; rw [List.length_map]
theorem mostKs_le (p : Pc) (a : Nat) (o : Int) (ks : List Int) : mostKs p a o ks ≤ (truthsF p).length := maxN_le fun x hx => by
  obtain ⟨y, _, rfl⟩ := List.mem_map.1 hx; exact cnt_le _ _ _ _
theorem places_take {p : Pc} {a k : Nat} (hk : k < (truthsF p).length) : (placesF p a).take (k + 1) = (placesF p a).take k ++ [gi (endF p (gl (truthsF p) k)) a] := by
  have h1 : k < (placesF p a).length := by rw [placesF_len]; exact hk
  rw [List.take_succ_eq_append_getElem h1]; have e : gl (truthsF p) k = (truthsF p)[k] := by unfold gl; simp [hk]
  rw [e]
  congr 1
  simp [placesF]
theorem sub_sum {ks xs : List Int} (hn : ks.Nodup) (hs : ∀ x ∈ ks, x ∈ xs) (lo hi : Int) : sumKs xs lo hi ks ≤ xs.length := by
  have key : ∀ ks : List Int, ks.Nodup → (∀ x ∈ ks, x ∈ xs) → sumKs xs lo hi ks ≤ (xs.filter fun x => decide (x ∈ ks)).length := by
    intro ks; intro hn hs; have e1 := hist_sum (fun x => inB x lo hi) hn (xs.filter fun x => decide (x ∈ ks)) (fun x hx => by simpa using (List.mem_filter.1 hx).2)
    have e2 : sumKs xs lo hi ks = ((ks.filter fun x => inB x lo hi).map fun k => (xs.filter fun x => decide (x ∈ ks)).count k).sum := by
      unfold sumKs
      congr 1
      refine List.map_congr_left fun y hy => ?_
      rw [List.count_filter]
      simpa using (List.mem_filter.1 hy).1
    rw [e2, e1]; exact List.length_filter_le _ _
  exact Nat.le_trans (key ks hn hs) (List.length_filter_le _ _)
end Go.Proofs.YtbknfddaoolagaaGreatDoor
end

section
namespace Go.Proofs.YtbknfddaoolagaaGreatDoor
open Go Go.RowKit Go.Proofs Go.Maps
set_option linter.unusedVariables false
set_option linter.unusedSimpArgs false
attribute [local go_sem] imax2 imin2

theorem underInt : Tryz.prog.underlying 3 = some (.int .i64) := by kernel_rfl
theorem underMII : Tryz.prog.underlying 166 = some (.map 3 3) := by kernel_rfl
theorem lawInt : Maps.Keyed Tryz.prog 3 := int_keyed underInt
theorem zeroInt (w : World) : (zeroValue 3).run Tryz.prog w = .ok (.int .i64 0) w := by kernel_rfl

theorem lit_int_inj {a b : Int} (h : (DataW.lit (.int .i64 a) : DataW Unit) = .lit (.int .i64 b)) : a = b := by
  have h2 := DataW.lit.inj h; exact (Lit.int.inj h2).2
set_option maxHeartbeats 3200000 in
set_option maxRecDepth 100000 in
theorem c_left (pm pv pr : Option Addr) (cm cv cr : Nat) (p : Pc) (aq : Option Addr) (ca a : Nat) (o : Int) (w : World) (hq : RdQ w aq p (truthsF p)) (hpo : PieceOk p) (ha : a ≤ p.ms.length) (ho : 0 ≤ o ∧ o ≤ 50) :
    Calls Tryz.prog 81 #[.agg #[.slice pm p.ms.length cm, .slice pv p.mv.length cv, .slice pr p.rs.length cr, .slice aq (truthsF p).length ca], .int .i64 a, .int .i64 o] w fun e w' => e = .returned (.int .i64 (leftF p a o : Nat)) ∧ Below w.heap.size w w' := by
  have hmm := @run_makeMap Tryz.prog; obtain ⟨w1, e1, HS1, k0, k1, k2, k3, b1⟩ := box4 w (.slice pm p.ms.length cm) (.slice pv p.mv.length cv) (.slice pr p.rs.length cr) (.slice aq (truthsF p).length ca) 93; obtain ⟨w2, e2⟩ : ∃ w2, w1.alloc (.map #[] 0) = w2 := ⟨_, rfl⟩; have hown0 : w2.ownsMap Tryz.prog 3 (plainElem (H := Unit) Tryz.prog 3) w1.heap.size 0 (.map []) := e2 ▸ World.ownsMap_made _ _ _ _; have b2 : Below w1.heap.size w1 w2 := e2 ▸ (Below.refl _ _).alloc (Nat.le_refl _) _; have HS2 := Lib.hid (show w2.heap.size = w1.heap.size + 1 by rw [← e2]; simp); have k1' := (b2.cell (lt_of_cellq k3)).trans k3; have HT := Lib.hid (truths_le hpo); have HB := Lib.hid (b1.trans (b2.mono b1.size)); have HQ := Lib.hid hq; have HPO := Lib.hid hpo
  have HR := Lib.hid (show ∀ x ∈ placesF p a, -2800 ≤ x ∧ x ≤ 2400 from fun x hx => by
    obtain ⟨pl, hpl, rfl⟩ := List.mem_map.1 hx; have hpy := truth_plays hpo hpl; exact place_range hpo hpy p.mv.length a (Nat.le_refl _) (by rw [hpy.len]; exact ha))
  have HO0 := Lib.hid hown0; have HM := Lib.hid (show w.heap.size < w1.heap.size by have := HS1.out; omega); clear hq hpo b1 b2 hown0 k0 k1 k2
  go_enter Tryz.func81, Tryz.ntmps81
  go_wp2; clear e1 e2; have HK3 := Lib.hid (show w2.cell? ⟨w.heap.size, 3, none⟩ = some (.slice aq (truthsF p).length ca) from k1'); clear k1' k3
  go_loopw [19] (fun i wr => ∃ (k : Nat) (D : DataW Unit), k ≤ (truthsF p).length ∧ i = .int .i64 k ∧ Hid (wr.ownsMap Tryz.prog 3 (plainElem (H := Unit) Tryz.prog 3) w1.heap.size k D) ∧ Hid (HistOf D ((placesF p a).take k)) ∧ Hid (Below w.heap.size w wr)) (fun i _ => (truthsF p).length - (intOf i).toNat)
  case atStart => exact ⟨0, .map [], by omega, rfl, HO0, Lib.hid hist_nil, HB⟩
  case round =>
    obtain ⟨k, D, hk, rfl, HO, HH, HBR⟩ := hrel; have hT := HT.out
    by_cases hlt : k < (truthsF p).length
    · obtain ⟨b, rfl, hall⟩ := HQ.out.below HBR.out
      obtain ⟨hl1, p1, c1, p2, c2, d0, d1, h1, h2, hl2, hcc, hpp⟩ := hall k hlt; obtain ⟨bb, off, rfl, hce⟩ := h2.at (i := a) (by rw [hl2]; omega); have hc := hce a (by rw [hl2]; omega); obtain ⟨w4, e4, HS4, y0, y1, b4⟩ := box2 wr (.slice p1 p.ms.length c1) (.slice (some ⟨bb, off, none⟩) (p.ms.length + 1) c2) 98; have hc := (b4.cell (lt_of_cellq hc)).trans hc; have hown4 : w4.ownsMap Tryz.prog 3 (plainElem (H := Unit) Tryz.prog 3) w1.heap.size k D := e4 ▸ HO.out.alloc _; have hB4 : Below w.heap.size w w4 := HBR.out.trans (b4.mono HBR.out.size); have HPT := Lib.hid (places_take (p := p) (a := a) hlt); have hxr := HR.out (gi (endF p (gl (truthsF p) k)) a) (List.mem_of_mem_take (i := k + 1) (by rw [HPT.out]; simp)); obtain ⟨x, hx⟩ : ∃ x, gi (endF p (gl (truthsF p) k)) a = x := ⟨_, rfl⟩; have HX := Lib.hid hx; rw [hx] at hc hxr; clear hx; obtain ⟨n0, hn0⟩ : ∃ n0, ((placesF p a).take k).count x = n0 := ⟨_, rfl⟩
      have hn0l : n0 ≤ 625 := by rw [← hn0]; exact Nat.le_trans List.count_le_length (by rw [List.length_take]; omega)
      have hat0 : D.atKey (.int .i64 x) (.lit (.int .i64 0)) = .lit (.int .i64 (n0 : Nat)) := by rw [HH.out.2.1 x, hn0]
      have HN0 := Lib.hid hn0; clear hn0; have hwx : (Lit.int .i64 x).wf = true := WalkArith.wf_i64 (by omega); have hwn : (Lit.int .i64 ((n0 : Int) + 1)).wf = true := WalkArith.wf_i64 (by omega); have hwr : IntKind.i64.wrap ((n0 : Int) + 1) = (n0 : Int) + 1 := w64 _ (by omega) (by omega); have h0k : (0 : Int) ≤ (k : Int) := by omega
      have hki : (k : Int) < ((truthsF p).length : Int) := by omega
      have h0a : (0 : Int) ≤ (a : Int) := by omega
      have hai : (a : Int) < (p.ms.length : Int) + 1 := by omega
      clear hall h1 h2 hcc hpp hl1 hl2 hce b4; obtain ⟨c, hrun, hat, _⟩ := hown4.lookup_int lawInt underMII underInt (zeroInt _) (keyOf_int_mk underInt hwx); obtain rfl : c = (n0 : Int) := lit_int_inj (hat.symm.trans hat0); clear hat hat0
      go_wp2_with (first
        | (at_mapUpdate; refine wpList_mapUpdate_own _ rfl _ _ _ 166 rfl 3 3 lawInt underMII _ w1.heap.size k _ rfl hown4 (by unfold maxLen; omega) _ _ _ rfl rfl (keyOf_int_mk underInt hwx) _ [] (plainElem_int underInt hwn) ?_; intro w5 hown5 hg5; go_frame)
        | go_in)
      go_roundw
      case rel => exact ⟨k + 1, _, by omega, by go_num, Lib.hid hown5, Lib.hid (by rw [HPT.out, HX.out]; have h := hist_step HH.out x; rw [HN0.out] at h; exact h), Lib.hid (hB4.grown hg5 hB4.size (fun j hj => by cases hj; exact Nat.le_of_lt HM.out))⟩
      case measure => simp [intOf]; omega
    · obtain rfl : k = (truthsF p).length := by omega
      obtain ⟨wk, hwk⟩ : ∃ wk, wk = wr := ⟨_, rfl⟩; subst hwk; have HH1 := Lib.hid (show HistOf D (placesF p a) by have h := HH.out; rwa [List.take_of_length_le (by rw [placesF_len]; exact Nat.le_refl _)] at h); clear HH HK3 HQ HPO; have hownk := HO.out; clear HO HO0; obtain ⟨n, hn⟩ : ∃ n, (truthsF p).length = n := ⟨_, rfl⟩; have HN := Lib.hid hn; rw [hn] at hownk hT; clear hn
      go_wp2_with (first
        | (at_range; refine wpList_range_own _ rfl _ 166 rfl 3 3 lawInt underMII _ w1.heap.size n _ rfl hownk ?_; intro wa hra hga hsa)
        | go_in)
      go_frame
      have HRA := Lib.hid hra; have HBA := Lib.hid (HBR.out.grown hga HBR.out.size (fun j hj => by cases hj)); have HSA := Lib.hid (show wk.heap.size < wa.heap.size by omega); clear hra hga hsa hownk
      go_loopw [10, 11] (fun mo _ wr => ∃ (left : Lit → Bool) (cnt : Nat) (ks : List Int), mo = .int .i64 (mostKs p a o ks : Nat) ∧ Hid (wr.ranges Tryz.prog 3 (plainElem (H := Unit) Tryz.prog 3) w1.heap.size wk.heap.size n D left cnt) ∧ Hid (ToCome left (placesF p a) ks) ∧ Hid (Below w.heap.size w wr)) (fun _ _ wr => wr.rangeLeft w1.heap.size wk.heap.size)
      case atStart => exact ⟨_, _, [], rfl, HRA, Lib.hid (come_start HH1.out), HBA⟩
      case round =>
        obtain ⟨left, cnt, ks, rfl, HRG, HTC, HBW⟩ := hrel; have hrg := HRG.out
        go_wp2_with (first
          | (at_next; refine wpList_next_ranges_ii _ rfl _ rfl 3 3 .i64 .i64 lawInt underInt underInt w1.heap.size wk.heap.size n _ _ _ rfl hrg ?_ ?_)
          | go_in)
        · intro hc0 hl0
          have HE := Lib.hid (show mostKs p a o ks = leftF p a o from left_keys p a o (come_end HTC.out hl0)); clear hrg hl0; go_wp2; go_ret; exact ⟨by rw [HE.out]; rfl, HBW.out⟩
        · intro x c wb cnt1 hwx hwc hlx hat hrg1 hlt1 hg1 hs1 hen
          clear hs1; have HTC1 := Lib.hid (come_step HTC.out hlx).1; have hxr := HR.out x (come_step HTC.out hlx).2; have HEN := Lib.hid hen; have HB1 := Lib.hid (HBW.out.grown hg1 HBW.out.size (fun j hj => by cases hj; have := HBR.out.size; exact this)); have hrle := hrg.left_eq; have hown1 := hrg1.owns; have HLT := Lib.hid (And.intro hrg1.lt hown1.lt); have hlen : (placesF p a).length = n := by rw [placesF_len]; exact HN.out
          have hw2 : IntKind.i64.wrap (2 * o) = 2 * o := w64 _ (by omega) (by omega); have hwp : IntKind.i64.wrap (x + 2 * o) = x + 2 * o := w64 _ (by omega) (by omega)
          go_wp2_with (first
            | (at_range; refine wpList_range_own _ rfl _ 166 rfl 3 3 lawInt underMII _ w1.heap.size n _ rfl hown1 ?_; intro wc hrc hgc hsc)
            | go_in)
          go_frame
          have HRC := Lib.hid hrc; have HRB := Lib.hid (hrg1.kept hgc (by simp) (by simp)); have HBC := Lib.hid (HB1.out.grown hgc HB1.out.size (fun j hj => by cases hj)); clear hrc hrg1 hgc hown1 hen hrg hlx hat hwc
          go_loopw [12, 13] (fun nn _ wr => ∃ (left2 : Lit → Bool) (cnt2 : Nat) (ks2 : List Int), nn = .int .i64 (sumKs (placesF p a) x (x + 2 * o) ks2 : Nat) ∧ Hid (wr.ranges Tryz.prog 3 (plainElem (H := Unit) Tryz.prog 3) w1.heap.size wb.heap.size n D left2 cnt2) ∧ Hid (wr.ranges Tryz.prog 3 (plainElem (H := Unit) Tryz.prog 3) w1.heap.size wk.heap.size n D (fun z => left z && !z.sameKey (.int .i64 x)) cnt1) ∧ Hid (ToCome left2 (placesF p a) ks2) ∧ Hid (Below w.heap.size w wr)) (fun _ _ wr => wr.rangeLeft w1.heap.size wb.heap.size)
          case atStart => exact ⟨_, _, [], rfl, HRC, HRB, Lib.hid (come_start HH1.out), HBC⟩
          case round =>
            obtain ⟨left2, cnt2, ks2, rfl, HR2, HR1, HTC2, HBW2⟩ := hrel; have hrg2 := HR2.out
            go_wp2_with (first
              | (at_next; refine wpList_next_ranges_ii _ rfl _ rfl 3 3 .i64 .i64 lawInt underInt underInt w1.heap.size wb.heap.size n _ _ _ rfl hrg2 ?_ ?_)
              | go_in)
            · intro hc0 hl0
              have hse : sumKs (placesF p a) x (x + 2 * o) ks2 = cntF p a x (x + 2 * o) := (sumKs_end HTC2.out hl0 _ _).trans (cntF_places p a _ _).symm; rw [hse]; obtain ⟨A, hA⟩ : ∃ A, mostKs p a o ks = A := ⟨_, rfl⟩; obtain ⟨C, hC⟩ : ∃ C, cntF p a x (x + 2 * o) = C := ⟨_, rfl⟩; have HAC := Lib.hid (show mostKs p a o (ks ++ [x]) = max A C by rw [mostKs_snoc, hA, hC]); rw [hA, hC]; clear hse hrg2 hl0 hA hC; have HMS := Lib.hid (show wr.rangeLeft w1.heap.size wk.heap.size < cnt by rw [HR1.out.left_eq]; exact hlt1); obtain ⟨X, hX⟩ : ∃ X : Int, X = (A : Int) := ⟨_, rfl⟩; obtain ⟨Y, hY⟩ : ∃ Y : Int, Y = (C : Int) := ⟨_, rfl⟩; have HMX := Lib.hid (show max X Y = ((mostKs p a o (ks ++ [x]) : Nat) : Int) by rw [HAC.out, hX, hY]; omega); have HLE := Lib.hid hrle; rw [← hX, ← hY]; clear hX hY hrle; go_wp2; go_roundw
              case rel => exact ⟨_, cnt1, ks ++ [x], by rw [← HMX.out], HR1, HTC1, HBW2⟩
              case measure => rw [HLE.out]; exact HMS.out
            · intro y c2 wd cnt3 hwy hwc2 hly hat2 hrg3 hlt3 hg3 hs3 hen2
              have HTC3 := Lib.hid (come_step HTC2.out hly).1; obtain rfl : c2 = ((placesF p a).count y : Nat) := lit_int_inj ((hat2 _).symm.trans (HH1.out.2.1 y)); have hyr := HR.out y (come_step HTC2.out hly).2; obtain ⟨S, hS⟩ : ∃ S, sumKs (placesF p a) x (x + 2 * o) ks2 = S := ⟨_, rfl⟩; obtain ⟨n1, hn1⟩ : ∃ n1, (placesF p a).count y = n1 := ⟨_, rfl⟩; have hSl : S ≤ 625 := by rw [← hS]; exact Nat.le_trans (sub_sum HTC2.out.1 HTC2.out.2.1 _ _) (by omega)
              have hnl : n1 ≤ 625 := by rw [← hn1]; exact Nat.le_trans List.count_le_length (by omega)
              have HSN := Lib.hid (sumKs_snoc (placesF p a) x (x + 2 * o) ks2 y); rw [hS, hn1] at HSN; rw [hS]; rw [hn1] at hen2 ⊢; have hws : IntKind.i64.wrap ((S : Int) + n1) = (S : Int) + n1 := w64 _ (by omega) (by omega); have HRX := Lib.hid (HR1.out.kept hg3 (fun e => by have := Option.some.inj e; have := HLT.out.2; omega) (fun e => by have := Option.some.inj e; have := HLT.out.1; omega)); have HBD := Lib.hid (HBW2.out.grown hg3 HBW2.out.size (fun j hj => by cases hj; exact HB1.out.size)); have HMS := Lib.hid (show wd.rangeLeft w1.heap.size wb.heap.size < wr.rangeLeft w1.heap.size wb.heap.size by rw [hrg3.left_eq, hrg2.left_eq]; exact hlt3); have HR3 := Lib.hid hrg3; clear hS hn1 hat2 hwc2 hly hrg2 hrg3 hg3
              by_cases hin : inB y x (x + 2 * o) = true
              · go_wp2_with fail
                refine (c_in y x (x + 2 * o) _).mono ?_; rw [hin]; have HIN := Lib.hid hin; clear hin; rintro e w' ⟨rfl, rfl⟩; go_wp2; go_roundw
                case rel => exact ⟨_, cnt3, ks2 ++ [y], by rw [HSN.out, if_pos HIN.out]; simp, HR3, HRX, HTC3, HBD⟩
                case measure => exact HMS.out
              · rw [Bool.not_eq_true] at hin
                go_wp2_with fail; refine (c_in y x (x + 2 * o) _).mono ?_; rw [hin]; have HIN := Lib.hid hin; clear hin; rintro e w' ⟨rfl, rfl⟩; go_wp2; go_roundw
                case rel => exact ⟨_, cnt3, ks2 ++ [y], by rw [HSN.out, if_neg (by rw [HIN.out]; decide)], HR3, HRX, HTC3, HBD⟩
                case measure => exact HMS.out
end Go.Proofs.YtbknfddaoolagaaGreatDoor
end
