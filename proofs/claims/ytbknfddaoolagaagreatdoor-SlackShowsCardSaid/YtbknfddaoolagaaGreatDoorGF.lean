/-
  over, for the places of an arbor: contract (the text to turn for the other closures).
  over, for the plays of a mesh: contract (printed by slkover2.py).
  By how much an arbor is behind the crank: contract.
  A quotient, rounded down, and what is left: contract.
-/
import Derived.Test.YtbknfddaoolagaaGreatDoorGE
section
namespace Go.Proofs.YtbknfddaoolagaaGreatDoor
open Go Go.RowKit Go.Proofs
set_option linter.unusedVariables false
attribute [local go_sem] imax2 imin2

def wdLo (f : Bool) (a c : Int) : Int := if f = true then c else min a c
def wdHi (f : Bool) (b d : Int) : Int := if f = true then d else max b d
theorem c_wider' (a b c d : Int) (f : Bool) (w : World) : Calls Tryz.prog 101 #[.agg #[.int .i64 a, .int .i64 b], .agg #[.int .i64 c, .int .i64 d], .bool f] w fun e w' => e = .returned (.agg #[.int .i64 (wdLo f a c), .int .i64 (wdHi f b d)]) ∧ Below w.heap.size w w' := c_wider a b c d f w
set_option maxHeartbeats 1600000 in
set_option maxRecDepth 100000 in
theorem over_known (pm pv pr : Option Addr) (cm cv cr : Nat) (p : Pc) (aq : Option Addr) (ca : Nat) (ts : List (List Int)) (pa a : Nat) (w : World) (hq : RdQ w aq p ts) (hl : ts.length ≤ 1000000) (ka : w.cell? ⟨pa, 0, none⟩ = some (.int .i64 (a : Int))) (ha : a ≤ p.ms.length) :
    Calls Tryz.prog 50 #[.agg #[.slice pm p.ms.length cm, .slice pv p.mv.length cv, .slice pr p.rs.length cr, .slice aq ts.length ca], .func (.func 63) #[] #[.pointer (some ⟨pa, 0, none⟩)]] w fun e w' =>
      e = .returned (.agg #[.int .i64 (ovTo (fun pl => just (gi (endF p pl) a)) ts ts.length).1, .int .i64 (ovTo (fun pl => just (gi (endF p pl) a)) ts ts.length).2]) ∧ Below w.heap.size w w' := by
  obtain ⟨w1, e1, HS1, k0, k1, k2, k3, b1⟩ := box4 w (.slice pm p.ms.length cm) (.slice pv p.mv.length cv) (.slice pr p.rs.length cr) (.slice aq ts.length ca) 93; have kr := alloc_new w1 (.cells #[.int .i64 0, .int .i64 0] 44); obtain ⟨w2, e2, HS2, _, _, b2⟩ := box2 w1 (.int .i64 0) (.int .i64 0) 44; rw [e2] at kr; have ko := alloc_new w2 (.cells #[.int .i64 0, .int .i64 0] 44); obtain ⟨w3, e3, HS3, _, _, b3⟩ := box2 w2 (.int .i64 0) (.int .i64 0) 44; rw [e3] at ko; have b23 := b2.trans (b3.mono b2.size); have b13 := b1.trans (b23.mono b1.size); have k3 := (b23.cell (lt_of_cellq k3)).trans k3; have HQ0 := Lib.hid hq; have HKA0 := Lib.hid ka; have HKA := Lib.hid ((b13.cell (lt_of_cellq ka)).trans ka); have HKO := Lib.hid ko; have HKR := Lib.hid ((b3.block _ (block_lt kr)).trans kr); have HB := Lib.hid b13; have HZ := Lib.hid (show w.heap.size < w1.heap.size ∧ w1.heap.size < w2.heap.size ∧ w2.heap.size < w3.heap.size ∧ pa < w.heap.size from ⟨by have := HS1.out; omega, by have := HS2.out; omega, by have := HS3.out; omega, lt_of_cellq ka⟩)
  have hov0 : overF [] = (0, 0) := rfl; clear hq ka ko kr b1 b2 b3 b23 b13; obtain ⟨of, hof⟩ : ∃ of : List Int → Int × Int, (fun pl => just (gi (endF p pl) a)) = of := ⟨_, rfl⟩; rw [hof]; have HOF := Lib.hid (show ∀ pl, of pl = (gi (endF p pl) a, gi (endF p pl) a) from fun pl => by rw [← hof]; rfl); clear hof
  go_enter Tryz.func50, Tryz.ntmps50
  go_wp2; clear e1 e2 e3
  go_loopw [11] (fun i wr => ∃ k : Nat, k ≤ ts.length ∧ i = .int .i64 k ∧ Hid (wr.heap[w2.heap.size]? = some (.cells #[.int .i64 (ovTo of ts k).1, .int .i64 (ovTo of ts k).2] 44 (0, 0))) ∧ Hid (BelX (fun x => x = w2.heap.size) w3.heap.size w3 wr)) (fun i _ => ts.length - (intOf i).toNat)
  case atStart => exact ⟨0, by omega, rfl, by rw [ovTo_zero, hov0]; exact HKO, Lib.hid (BelX.refl _ _ _)⟩
  case round =>
    obtain ⟨k, hk, rfl, HO, HX⟩ := hrel; obtain ⟨hz01, hz12, hz23, hzp⟩ := HZ.out
    by_cases hlt : k < ts.length
    · have hBr : Below w.heap.size w wr := ((belX_of (X := fun x => x = w2.heap.size) HB.out).trans (HX.out.mono (by omega))).below (B' := w.heap.size) (Nat.le_refl _) (fun x hx => by subst hx; omega)
      obtain ⟨b, rfl, hall⟩ := HQ0.out.below hBr; obtain ⟨hl1, p1, c1, p2, c2, d0, d1, h1, h2, hl2, _, _⟩ := hall k hlt; obtain ⟨w4, e4, HS4, y0, y1, b4⟩ := box2 wr (.slice p1 p.ms.length c1) (.slice p2 (p.ms.length + 1) c2) 98; obtain ⟨o0, o1⟩ := cells2 HO.out; have o0 := (b4.cell (lt_of_cellq o0)).trans o0; have o1 := (b4.cell (lt_of_cellq o1)).trans o1; have hB4 : Below w.heap.size w w4 := hBr.trans (b4.mono hBr.size); have H1 := Lib.hid (h1.below b4); have H2 := Lib.hid (h2.below b4); have HKA4 := Lib.hid ((hB4.cell (lt_of_cellq HKA0.out)).trans HKA0.out); have HKD := Lib.hid (show w4.drew.cell? ⟨pa, 0, none⟩ = some (.int .i64 (a : Int)) from HKA4.out); have HL1 := Lib.hid hl1; have HL2 := Lib.hid hl2; have HX4 := Lib.hid (HX.out.trans ((belX_of b4).mono HX.out.size)); have HO4 := Lib.hid ((b4.block _ (block_lt HO.out)).trans HO.out); have HAA := Lib.hid ha; have h0k : (0 : Int) ≤ (k : Int) := by omega
      have hki : (k : Int) < (ts.length : Int) := by omega
      have KS : (w4.cell? ⟨w2.heap.size, 0, none⟩ = some (.int .i64 (ovTo of ts k).1) ∧ w4.cell? ⟨w2.heap.size, 1, none⟩ = some (.int .i64 (ovTo of ts k).2)) ∧ (w4.cell? ⟨wr.heap.size, 0, none⟩ = some (.slice p1 p.ms.length c1) ∧ w4.cell? ⟨wr.heap.size, 1, none⟩ = some (.slice p2 (p.ms.length + 1) c2)) := ⟨⟨o0, o1⟩, ⟨y0, y1⟩⟩; clear hBr hall hl1 hl2 h1 h2 b4 hB4; go_upto_region 5 with (fail); clear e4 d0 d1 y0 y1; refine wp_region_below_tail 7 (by kernel_rfl) (by kernel_rfl) ?_; simp only [List.take_succ_cons, List.take_zero, List.drop_succ_cons, List.drop_zero]; (repeat (first | ((with_reducible first | apply wq_fg faP0 | apply wq_fg faP1 | apply wq_fg faP2 | apply wq_fg faM0 | apply wq_fg faS0 | apply wq_fg faS1 | apply wq_fg faR0 | apply wq_fg faR1 | apply wq_fg faR2 | apply wq_fg faR3 | apply wq_fg faT0 | apply wq_fg faT1 | apply wq_fg faQ0 | apply wq_fg faQ1 | apply wq_fg faH0 | apply wq_fg faH1 | apply wq_fg faH2 | apply wq_fg faH3); (focus rfl); (focus rfl); go_frame) | ((with_reducible refine wq_lda agSp szSp ?_ ?_ ?_ (fun _ hbq => bcells2 o0 o1 hbq) ?_); (focus rfl); (focus rfl); (focus rfl); go_frame) | ((with_reducible refine wq_lda agT szT ?_ ?_ ?_ (fun _ hbq => bcells2 KS.2.1 KS.2.2 hbq) ?_); (focus rfl); (focus rfl); (focus rfl); go_frame) | ((with_reducible first | apply wq_ix Tryz.underlying24 szI | apply wq_ix Tryz.underlying38 szSp | apply wq_ix Tryz.underlying23 szM | apply wq_ix Tryz.underlying25 szR | apply wq_ix Tryz.underlying51 szL | apply wq_ix Tryz.underlying91 szT); (focus rfl); (focus rfl); (focus rfl); (focus omega); (try simp only [Nat.mul_one]); go_frame) | ((with_reducible first | apply wq_ld agI | apply wq_ld agB | apply wq_ld agLI | apply wq_ld agLS | apply wq_ld agLM | apply wq_ld agLR | apply wq_ld agLL | apply wq_ld agLT); (focus rfl); (focus rfl); (focus (intro _ hbq; first | fail)); go_frame) | ((with_reducible first | apply wq_add | apply wq_sub | apply wq_mul | apply wq_rem); (focus rfl); (focus rfl); (focus rfl); (focus omega); (focus omega); go_frame) | ((with_reducible first | apply wq_eql | apply wq_neq | apply wq_lss | apply wq_leq | apply wq_gtr | apply wq_geq | apply wq_max2 | apply wq_min2); (focus rfl); (focus rfl); (focus rfl); go_frame) | ((with_reducible first | apply wq_max3 | apply wq_min3); (focus rfl); (focus rfl); (focus rfl); (focus rfl); go_frame) | go_big_quiet_step ((first | (intro hbq; exact calls_below hbq (c1_known p (gl ts k) p1 p2 c1 c2 pa a _ (H1.out.below hbq) (H2.out.below hbq) HL1.out HL2.out ((hbq.cell (lt_of_cellq HKA4.out)).trans HKA4.out) HAA.out)) | (intro hbq; exact calls_below hbq (c_wider' (ovTo of ts k).1 (ovTo of ts k).2 (gi (endF p (gl ts k)) a) (gi (endF p (gl ts k)) a) ((k : Int) == 0) _)))))); refine wpQuiet_nil ?_; intro wq hbq
      have hox := (hbq.block _ (block_lt HO4.out)).trans HO4.out; obtain ⟨w5, w6, s1, s2, ⟨x0, f0⟩, ⟨x1, f1⟩, hx4, hxk, HZ6, hxb⟩ := set2 wq w2.heap.size 44 _ _ (.int .i64 (wdLo ((k : Int) == 0) (ovTo of ts k).1 (gi (endF p (gl ts k)) a))) (.int .i64 (wdHi ((k : Int) == 0) (ovTo of ts k).2 (gi (endF p (gl ts k)) a))) hox; have HO6 := Lib.hid hx4
      have HX6 := Lib.hid (show BelX (fun x => x = w2.heap.size) w3.heap.size w3 w6 by
        have g2 := HX4.out.trans ((belX_of hbq).mono HX4.out.size); have g3 := (g2.setCell (p := ⟨w2.heap.size, 0, none⟩) (.inl rfl) (.int .i64 (wdLo ((k : Int) == 0) (ovTo of ts k).1 (gi (endF p (gl ts k)) a)))).setCell (p := ⟨w2.heap.size, 1, none⟩) (.inl rfl) (.int .i64 (wdHi ((k : Int) == 0) (ovTo of ts k).2 (gi (endF p (gl ts k)) a))); rw [s1, s2] at g3; exact g3)
      have HE1 := Lib.hid (show (ovTo of ts (k + 1)).1 = wdLo ((k : Int) == 0) (ovTo of ts k).1 (gi (endF p (gl ts k)) a) by
        rw [ovTo_succ of ts k hlt, HOF.out]; unfold wdLo
        by_cases h : k = 0
        · subst h; simp
        · rw [if_neg h]; simp [h])
      have HE2 := Lib.hid (show (ovTo of ts (k + 1)).2 = wdHi ((k : Int) == 0) (ovTo of ts k).2 (gi (endF p (gl ts k)) a) by
        rw [ovTo_succ of ts k hlt, HOF.out]; unfold wdHi
        by_cases h : k = 0
        · subst h; simp
        · rw [if_neg h]; simp [h])
      clear hx4 hxk hxb hox hbq KS o0 o1; go_wp2; go_roundw
      case rel => exact ⟨k + 1, by omega, by go_num, by rw [HE1.out, HE2.out]; exact HO6, HX6⟩
      case measure => simp [intOf]; omega
    · obtain rfl : k = ts.length := by omega
      obtain ⟨o0, o1⟩ := cells2 HO.out; have hkr := (HX.out.block w1.heap.size (by omega) (by omega)).trans HKR.out; obtain ⟨w5, w6, s1, s2, ⟨c0, f0⟩, ⟨c1, f1⟩, hx4, hxk, HZ6, hxb⟩ := set2 wr w1.heap.size 44 _ _ (.int .i64 (ovTo of ts ts.length).1) (.int .i64 (ovTo of ts ts.length).2) hkr; obtain ⟨r0, r1⟩ := cells2 hx4; have HBB := Lib.hid (show Below w.heap.size w w6 from hxb w w.heap.size (by omega) (((belX_of (X := fun x => x = w2.heap.size) HB.out).trans (HX.out.mono (by omega))).below (B' := w.heap.size) (Nat.le_refl _) (fun x hx => by subst hx; omega))); clear hx4 hxk hxb hkr; go_wp2; refine bodyPost_ret (v := .agg #[.int .i64 (ovTo of ts ts.length).1, .int .i64 (ovTo of ts ts.length).2]) ?_ rfl ⟨rfl, HBB.out⟩; simp [results, Tryz.results50, go_sem, r0, r1]
end Go.Proofs.YtbknfddaoolagaaGreatDoor
end

section
namespace Go.Proofs.YtbknfddaoolagaaGreatDoor
open Go Go.RowKit Go.Proofs
set_option linter.unusedVariables false
attribute [local go_sem] imax2 imin2

set_option maxHeartbeats 1600000 in
set_option maxRecDepth 100000 in
theorem over_plays (pm pv pr : Option Addr) (cm cv cr : Nat) (p : Pc) (aq : Option Addr) (ca : Nat) (ts : List (List Int)) (pa a : Nat) (w : World) (hq : RdQ w aq p ts) (hl : ts.length ≤ 1000000) (ka : w.cell? ⟨pa, 0, none⟩ = some (.int .i64 (a : Int))) (ha : a < p.ms.length) :
    Calls Tryz.prog 50 #[.agg #[.slice pm p.ms.length cm, .slice pv p.mv.length cv, .slice pr p.rs.length cr, .slice aq ts.length ca], .func (.func 65) #[] #[.pointer (some ⟨pa, 0, none⟩)]] w fun e w' =>
      e = .returned (.agg #[.int .i64 (ovTo (fun pl => just (gi pl a)) ts ts.length).1, .int .i64 (ovTo (fun pl => just (gi pl a)) ts ts.length).2]) ∧ Below w.heap.size w w' := by
  obtain ⟨w1, e1, HS1, k0, k1, k2, k3, b1⟩ := box4 w (.slice pm p.ms.length cm) (.slice pv p.mv.length cv) (.slice pr p.rs.length cr) (.slice aq ts.length ca) 93; have kr := alloc_new w1 (.cells #[.int .i64 0, .int .i64 0] 44); obtain ⟨w2, e2, HS2, _, _, b2⟩ := box2 w1 (.int .i64 0) (.int .i64 0) 44; rw [e2] at kr; have ko := alloc_new w2 (.cells #[.int .i64 0, .int .i64 0] 44); obtain ⟨w3, e3, HS3, _, _, b3⟩ := box2 w2 (.int .i64 0) (.int .i64 0) 44; rw [e3] at ko; have b23 := b2.trans (b3.mono b2.size); have b13 := b1.trans (b23.mono b1.size); have k3 := (b23.cell (lt_of_cellq k3)).trans k3; have HQ0 := Lib.hid hq; have HKA0 := Lib.hid ka; have HKA := Lib.hid ((b13.cell (lt_of_cellq ka)).trans ka); have HKO := Lib.hid ko; have HKR := Lib.hid ((b3.block _ (block_lt kr)).trans kr); have HB := Lib.hid b13; have HZ := Lib.hid (show w.heap.size < w1.heap.size ∧ w1.heap.size < w2.heap.size ∧ w2.heap.size < w3.heap.size ∧ pa < w.heap.size from ⟨by have := HS1.out; omega, by have := HS2.out; omega, by have := HS3.out; omega, lt_of_cellq ka⟩)
  have hov0 : overF [] = (0, 0) := rfl; clear hq ka ko kr b1 b2 b3 b23 b13; obtain ⟨of, hof⟩ : ∃ of : List Int → Int × Int, (fun pl => just (gi pl a)) = of := ⟨_, rfl⟩; rw [hof]; have HOF := Lib.hid (show ∀ pl, of pl = (gi pl a, gi pl a) from fun pl => by rw [← hof]; rfl); clear hof
  go_enter Tryz.func50, Tryz.ntmps50
  go_wp2; clear e1 e2 e3
  go_loopw [11] (fun i wr => ∃ k : Nat, k ≤ ts.length ∧ i = .int .i64 k ∧ Hid (wr.heap[w2.heap.size]? = some (.cells #[.int .i64 (ovTo of ts k).1, .int .i64 (ovTo of ts k).2] 44 (0, 0))) ∧ Hid (BelX (fun x => x = w2.heap.size) w3.heap.size w3 wr)) (fun i _ => ts.length - (intOf i).toNat)
  case atStart => exact ⟨0, by omega, rfl, by rw [ovTo_zero, hov0]; exact HKO, Lib.hid (BelX.refl _ _ _)⟩
  case round =>
    obtain ⟨k, hk, rfl, HO, HX⟩ := hrel; obtain ⟨hz01, hz12, hz23, hzp⟩ := HZ.out
    by_cases hlt : k < ts.length
    · have hBr : Below w.heap.size w wr := ((belX_of (X := fun x => x = w2.heap.size) HB.out).trans (HX.out.mono (by omega))).below (B' := w.heap.size) (Nat.le_refl _) (fun x hx => by subst hx; omega)
      obtain ⟨b, rfl, hall⟩ := HQ0.out.below hBr; obtain ⟨hl1, p1, c1, p2, c2, d0, d1, h1, h2, hl2, _, _⟩ := hall k hlt; obtain ⟨w4, e4, HS4, y0, y1, b4⟩ := box2 wr (.slice p1 p.ms.length c1) (.slice p2 (p.ms.length + 1) c2) 98; obtain ⟨o0, o1⟩ := cells2 HO.out; have o0 := (b4.cell (lt_of_cellq o0)).trans o0; have o1 := (b4.cell (lt_of_cellq o1)).trans o1; have hB4 : Below w.heap.size w w4 := hBr.trans (b4.mono hBr.size); have H1 := Lib.hid (h1.below b4); have H2 := Lib.hid (h2.below b4); have HKA4 := Lib.hid ((hB4.cell (lt_of_cellq HKA0.out)).trans HKA0.out); have HKD := Lib.hid (show w4.drew.cell? ⟨pa, 0, none⟩ = some (.int .i64 (a : Int)) from HKA4.out); have HL1 := Lib.hid hl1; have HL2 := Lib.hid hl2; have HX4 := Lib.hid (HX.out.trans ((belX_of b4).mono HX.out.size)); have HO4 := Lib.hid ((b4.block _ (block_lt HO.out)).trans HO.out); have HAA := Lib.hid ha; have h0k : (0 : Int) ≤ (k : Int) := by omega
      have hki : (k : Int) < (ts.length : Int) := by omega
      have KS : (w4.cell? ⟨w2.heap.size, 0, none⟩ = some (.int .i64 (ovTo of ts k).1) ∧ w4.cell? ⟨w2.heap.size, 1, none⟩ = some (.int .i64 (ovTo of ts k).2)) ∧ (w4.cell? ⟨wr.heap.size, 0, none⟩ = some (.slice p1 p.ms.length c1) ∧ w4.cell? ⟨wr.heap.size, 1, none⟩ = some (.slice p2 (p.ms.length + 1) c2)) := ⟨⟨o0, o1⟩, ⟨y0, y1⟩⟩; clear hBr hall hl1 hl2 h1 h2 b4 hB4; go_upto_region 5 with (fail); clear e4 d0 d1 y0 y1; refine wp_region_below_tail 7 (by kernel_rfl) (by kernel_rfl) ?_; simp only [List.take_succ_cons, List.take_zero, List.drop_succ_cons, List.drop_zero]; (repeat (first | ((with_reducible first | apply wq_fg faP0 | apply wq_fg faP1 | apply wq_fg faP2 | apply wq_fg faM0 | apply wq_fg faS0 | apply wq_fg faS1 | apply wq_fg faR0 | apply wq_fg faR1 | apply wq_fg faR2 | apply wq_fg faR3 | apply wq_fg faT0 | apply wq_fg faT1 | apply wq_fg faQ0 | apply wq_fg faQ1 | apply wq_fg faH0 | apply wq_fg faH1 | apply wq_fg faH2 | apply wq_fg faH3); (focus rfl); (focus rfl); go_frame) | ((with_reducible refine wq_lda agSp szSp ?_ ?_ ?_ (fun _ hbq => bcells2 o0 o1 hbq) ?_); (focus rfl); (focus rfl); (focus rfl); go_frame) | ((with_reducible refine wq_lda agT szT ?_ ?_ ?_ (fun _ hbq => bcells2 KS.2.1 KS.2.2 hbq) ?_); (focus rfl); (focus rfl); (focus rfl); go_frame) | ((with_reducible first | apply wq_ix Tryz.underlying24 szI | apply wq_ix Tryz.underlying38 szSp | apply wq_ix Tryz.underlying23 szM | apply wq_ix Tryz.underlying25 szR | apply wq_ix Tryz.underlying51 szL | apply wq_ix Tryz.underlying91 szT); (focus rfl); (focus rfl); (focus rfl); (focus omega); (try simp only [Nat.mul_one]); go_frame) | ((with_reducible first | apply wq_ld agI | apply wq_ld agB | apply wq_ld agLI | apply wq_ld agLS | apply wq_ld agLM | apply wq_ld agLR | apply wq_ld agLL | apply wq_ld agLT); (focus rfl); (focus rfl); (focus (intro _ hbq; first | fail)); go_frame) | ((with_reducible first | apply wq_add | apply wq_sub | apply wq_mul | apply wq_rem); (focus rfl); (focus rfl); (focus rfl); (focus omega); (focus omega); go_frame) | ((with_reducible first | apply wq_eql | apply wq_neq | apply wq_lss | apply wq_leq | apply wq_gtr | apply wq_geq | apply wq_max2 | apply wq_min2); (focus rfl); (focus rfl); (focus rfl); go_frame) | ((with_reducible first | apply wq_max3 | apply wq_min3); (focus rfl); (focus rfl); (focus rfl); (focus rfl); go_frame) | go_big_quiet_step ((first | (intro hbq; exact calls_below hbq (c1_plays p (gl ts k) p1 p2 c1 c2 pa a _ (H1.out.below hbq) (H2.out.below hbq) HL1.out HL2.out ((hbq.cell (lt_of_cellq HKA4.out)).trans HKA4.out) HAA.out)) | (intro hbq; exact calls_below hbq (c_wider' (ovTo of ts k).1 (ovTo of ts k).2 (gi (gl ts k) a) (gi (gl ts k) a) ((k : Int) == 0) _)))))); refine wpQuiet_nil ?_; intro wq hbq
      have hox := (hbq.block _ (block_lt HO4.out)).trans HO4.out; obtain ⟨w5, w6, s1, s2, ⟨x0, f0⟩, ⟨x1, f1⟩, hx4, hxk, HZ6, hxb⟩ := set2 wq w2.heap.size 44 _ _ (.int .i64 (wdLo ((k : Int) == 0) (ovTo of ts k).1 (gi (gl ts k) a))) (.int .i64 (wdHi ((k : Int) == 0) (ovTo of ts k).2 (gi (gl ts k) a))) hox; have HO6 := Lib.hid hx4
      have HX6 := Lib.hid (show BelX (fun x => x = w2.heap.size) w3.heap.size w3 w6 by
        have g2 := HX4.out.trans ((belX_of hbq).mono HX4.out.size); have g3 := (g2.setCell (p := ⟨w2.heap.size, 0, none⟩) (.inl rfl) (.int .i64 (wdLo ((k : Int) == 0) (ovTo of ts k).1 (gi (gl ts k) a)))).setCell (p := ⟨w2.heap.size, 1, none⟩) (.inl rfl) (.int .i64 (wdHi ((k : Int) == 0) (ovTo of ts k).2 (gi (gl ts k) a))); rw [s1, s2] at g3; exact g3)
      have HE1 := Lib.hid (show (ovTo of ts (k + 1)).1 = wdLo ((k : Int) == 0) (ovTo of ts k).1 (gi (gl ts k) a) by
        rw [ovTo_succ of ts k hlt, HOF.out]; unfold wdLo
        by_cases h : k = 0
        · subst h; simp
        · rw [if_neg h]; simp [h])
      have HE2 := Lib.hid (show (ovTo of ts (k + 1)).2 = wdHi ((k : Int) == 0) (ovTo of ts k).2 (gi (gl ts k) a) by
        rw [ovTo_succ of ts k hlt, HOF.out]; unfold wdHi
        by_cases h : k = 0
        · subst h; simp
        · rw [if_neg h]; simp [h])
      clear hx4 hxk hxb hox hbq KS o0 o1; go_wp2; go_roundw
      case rel => exact ⟨k + 1, by omega, by go_num, by rw [HE1.out, HE2.out]; exact HO6, HX6⟩
      case measure => simp [intOf]; omega
    · obtain rfl : k = ts.length := by omega
      obtain ⟨o0, o1⟩ := cells2 HO.out; have hkr := (HX.out.block w1.heap.size (by omega) (by omega)).trans HKR.out; obtain ⟨w5, w6, s1, s2, ⟨c0, f0⟩, ⟨c1, f1⟩, hx4, hxk, HZ6, hxb⟩ := set2 wr w1.heap.size 44 _ _ (.int .i64 (ovTo of ts ts.length).1) (.int .i64 (ovTo of ts ts.length).2) hkr; obtain ⟨r0, r1⟩ := cells2 hx4; have HBB := Lib.hid (show Below w.heap.size w w6 from hxb w w.heap.size (by omega) (((belX_of (X := fun x => x = w2.heap.size) HB.out).trans (HX.out.mono (by omega))).below (B' := w.heap.size) (Nat.le_refl _) (fun x hx => by subst hx; omega))); clear hx4 hxk hxb hkr; go_wp2; refine bodyPost_ret (v := .agg #[.int .i64 (ovTo of ts ts.length).1, .int .i64 (ovTo of ts ts.length).2]) ?_ rfl ⟨rfl, HBB.out⟩; simp [results, Tryz.results50, go_sem, r0, r1]
end Go.Proofs.YtbknfddaoolagaaGreatDoor
end

section
namespace Go.Proofs.YtbknfddaoolagaaGreatDoor
open Go Go.RowKit Go.Proofs
set_option linter.unusedVariables false
attribute [local go_sem] imax2 imin2

set_option maxRecDepth 100000 in
theorem c_behind (q : Option Addr) (nq cq : Nat) (p2 : Option Addr) (n c2 : Nat) (e : List Int) (a : Nat) (w : World) (h2 : RdI w p2 e) (hn : e.length = n) (ha : a < n) (hr : ∀ i, i < e.length → -100000 ≤ gi e i ∧ gi e i ≤ 100000) :
    Calls Tryz.prog 118 #[.agg #[.slice q nq cq, .slice p2 n c2], .int .i64 a] w fun e' w' => e' = .returned (.int .i64 (behF e a)) ∧ Below w.heap.size w w' := by
  obtain ⟨w1, e1, HS1, t0, t1, b1⟩ := box2 w (.slice q nq cq) (.slice p2 n c2) 98; obtain ⟨b, off, rfl, hc⟩ := (h2.below b1).at (i := a) (by omega); have x0 := hc 0 (by omega); have xa := hc a (by omega); obtain ⟨r1, r2⟩ := hr 0 (by omega); obtain ⟨r3, r4⟩ := hr a (by omega); have h0n : 0 < n := by omega
  have HB := Lib.hid b1; have HE := Lib.hid (show behF e a = gi e 0 - gi e a from rfl); clear hc h2 b1 hn hr
  go_enter Tryz.func118, Tryz.ntmps118
  go_upto_region 1 with (fail); clear e1; refine wp_region_quiet_below (by kernel_rfl) (by kernel_rfl) ?_; (repeat (first | ((with_reducible first | apply wq_fg faP0 | apply wq_fg faP1 | apply wq_fg faP2 | apply wq_fg faM0 | apply wq_fg faS0 | apply wq_fg faS1 | apply wq_fg faR0 | apply wq_fg faR1 | apply wq_fg faR2 | apply wq_fg faR3 | apply wq_fg faT0 | apply wq_fg faT1 | apply wq_fg faQ0 | apply wq_fg faQ1 | apply wq_fg faH0 | apply wq_fg faH1 | apply wq_fg faH2 | apply wq_fg faH3); (focus rfl); (focus rfl); go_frame) | ((with_reducible first | apply wq_ix Tryz.underlying24 szI | apply wq_ix Tryz.underlying38 szSp | apply wq_ix Tryz.underlying23 szM | apply wq_ix Tryz.underlying25 szR | apply wq_ix Tryz.underlying51 szL | apply wq_ix Tryz.underlying91 szT); (focus rfl); (focus rfl); (focus rfl); (focus omega); (try simp only [Nat.mul_one]); go_frame) | ((with_reducible first | apply wq_ld agI | apply wq_ld agB | apply wq_ld agLI | apply wq_ld agLS | apply wq_ld agLM | apply wq_ld agLR | apply wq_ld agLL | apply wq_ld agLT); (focus rfl); (focus rfl); (focus (intro _ hbq; first | exact (hbq.cell (lt_of_cellq t1)).trans t1 | exact (hbq.cell (lt_of_cellq x0)).trans x0 | exact (hbq.cell (lt_of_cellq xa)).trans xa)); go_frame) | ((with_reducible first | apply wq_add | apply wq_sub | apply wq_mul | apply wq_rem); (focus rfl); (focus rfl); (focus rfl); (focus omega); (focus omega); go_frame) | ((with_reducible first | apply wq_eql | apply wq_neq | apply wq_lss | apply wq_leq | apply wq_gtr | apply wq_geq | apply wq_max2 | apply wq_min2); (focus rfl); (focus rfl); (focus rfl); go_frame) | ((with_reducible first | apply wq_max3 | apply wq_min3); (focus rfl); (focus rfl); (focus rfl); (focus rfl); go_frame) | go_big_quiet_step (fail))); refine wpQuiet_nil ?_; intro wq hbq
  go_wp2; go_ret; exact ⟨by rw [HE.out]; rfl, HB.out.trans (hbq.mono HB.out.size)⟩
end Go.Proofs.YtbknfddaoolagaaGreatDoor
end

section
namespace Go.Proofs.YtbknfddaoolagaaGreatDoor
open Go Go.RowKit Go.Proofs
set_option linter.unusedVariables false
attribute [local go_sem] imax2 imin2

theorem tdiv_down {a b : Int} (hb : 0 < b) : a / b = (if a.tmod b < 0 then a.tdiv b - 1 else a.tdiv b) ∧ a % b = (if a.tmod b < 0 then a.tmod b + b else a.tmod b) := by
  have h1 := Int.mul_tdiv_add_tmod a b; have h2 := Int.tmod_lt_of_pos a hb; have h3 := Int.mul_ediv_add_emod a b; have h4 := Int.emod_nonneg a (show b ≠ 0 by omega); have h5 := Int.emod_lt_of_pos a hb
  have h6 : -b < a.tmod b := by
    have := Int.lt_tmod_of_pos a hb; omega
  split
  · have e : b * (a / b - (a.tdiv b - 1)) = a.tmod b + b - a % b := by rw [Int.mul_sub, Int.mul_sub]; omega
    have hz : a / b - (a.tdiv b - 1) = 0 := by
      rcases Int.lt_trichotomy (a / b - (a.tdiv b - 1)) 0 with h | h | h
      · have : b * (a / b - (a.tdiv b - 1)) ≤ b * (-1) := Int.mul_le_mul_of_nonneg_left (by omega) (by omega)
        omega
      · exact h
      · have : b * 1 ≤ b * (a / b - (a.tdiv b - 1)) := Int.mul_le_mul_of_nonneg_left (by omega) (by omega)
        omega
    rw [hz] at e; omega
  · have e : b * (a / b - a.tdiv b) = a.tmod b - a % b := by rw [Int.mul_sub]; omega
    have hz : a / b - a.tdiv b = 0 := by
      rcases Int.lt_trichotomy (a / b - a.tdiv b) 0 with h | h | h
      · have : b * (a / b - a.tdiv b) ≤ b * (-1) := Int.mul_le_mul_of_nonneg_left (by omega) (by omega)
        omega
      · exact h
      · have : b * 1 ≤ b * (a / b - a.tdiv b) := Int.mul_le_mul_of_nonneg_left (by omega) (by omega)
        omega
    rw [hz] at e; omega
set_option maxRecDepth 100000 in
theorem c_floor (a b : Int) (w : World) (hb : 0 < b) (hb2 : b ≤ 100000) (ha : -1000000000 ≤ a ∧ a ≤ 1000000000) :
    Calls Tryz.prog 102 #[.int .i64 a, .int .i64 b] w fun e w' => e = .returned (.tuple #[.int .i64 (a / b), .int .i64 (a % b)]) ∧ Below w.heap.size w w' := by
  obtain ⟨ha1, ha2⟩ := ha; have hb0 : ¬ b = 0 := by omega
  have hd := tdiv_down (a := a) hb; have h2 := Int.tmod_lt_of_pos a hb
  have h3 : -1000000000 ≤ a / b ∧ a / b ≤ 1000000000 := by
    have e1 := Int.mul_ediv_add_emod a b; have e2 := Int.emod_nonneg a hb0; have e3 := Int.emod_lt_of_pos a hb; refine ⟨?_, ?_⟩
    · exact Int.le_ediv_of_mul_le hb (by have : (-1000000000 : Int) * b ≤ -1000000000 * 1 := Int.mul_le_mul_of_nonpos_left (by omega) (by omega); omega)
    · exact Int.ediv_le_of_le_mul hb (by have : (1000000000 : Int) * 1 ≤ 1000000000 * b := Int.mul_le_mul_of_nonneg_left (by omega) (by omega); omega)
  have h4 := Int.emod_nonneg a hb0; have h5 := Int.emod_lt_of_pos a hb; obtain ⟨h31, h32⟩ := h3
  by_cases h : a.tmod b < 0
  · rw [if_pos h, if_pos h] at hd
    obtain ⟨hd1, hd2⟩ := hd; have HD := Lib.hid (And.intro hd1 hd2); have w1 : IntKind.i64.wrap (a.tdiv b) = a.tdiv b := w64 _ (by omega) (by omega); have w2 : IntKind.i64.wrap (a.tmod b) = a.tmod b := w64 _ (by omega) (by omega); have w3 : IntKind.i64.wrap (a.tdiv b - 1) = a.tdiv b - 1 := w64 _ (by omega) (by omega); have w4 : IntKind.i64.wrap (a.tmod b + b) = a.tmod b + b := w64 _ (by omega) (by omega); clear hd1 hd2 h31 h32 h4 h5 h2; rw [HD.out.1, HD.out.2]
    go_enter Tryz.func102, Tryz.ntmps102
    go_wp2
    go_quiet (fail)
    go_wp2; refine bodyPost_ret (v := .tuple #[.int .i64 (a.tdiv b - 1), .int .i64 (a.tmod b + b)]) (by simp [results, Tryz.results102, go_sem]) rfl ?_; exact ⟨rfl, below_drewN (Below.refl _ _) _⟩
  · rw [if_neg h, if_neg h] at hd
    obtain ⟨hd1, hd2⟩ := hd; have HD := Lib.hid (And.intro hd1 hd2); have w1 : IntKind.i64.wrap (a.tdiv b) = a.tdiv b := w64 _ (by omega) (by omega); have w2 : IntKind.i64.wrap (a.tmod b) = a.tmod b := w64 _ (by omega) (by omega); clear hd1 hd2 h31 h32 h4 h5 h2; rw [HD.out.1, HD.out.2]
    go_enter Tryz.func102, Tryz.ntmps102
    go_wp2
    go_quiet (fail)
    go_wp2; refine bodyPost_ret (v := .tuple #[.int .i64 (a.tdiv b), .int .i64 (a.tmod b)]) (by simp [results, Tryz.results102, go_sem]) rfl ?_; exact ⟨rfl, below_drewN (Below.refl _ _) _⟩
end Go.Proofs.YtbknfddaoolagaaGreatDoor
end
