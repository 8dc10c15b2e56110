/-
  By how much the crank can be turned on, and back, before an arbor moves: contract of the method.
  over, for whatever function of a truth: contract.
  What each truth has of lost motion, of the crank turned on and back, of a move: contracts of the closures.
  What each truth has of a move more: contract of the closure (printed by slkclos.py).
  What is a hand: contracts (printed by slkhand.py).
  Between which bounds lies what a hand shows: contracts.
-/
import Derived.Test.YtbknfddaoolagaaGreatDoorGN
import Derived.Test.YtbknfddaoolagaaGreatDoorGH
section
namespace Go.Proofs.YtbknfddaoolagaaGreatDoor
open Go Go.RowKit Go.Proofs
set_option linter.unusedVariables false
attribute [local go_sem] imax2 imin2

theorem ixF0 (f g : Value) (w : World) : (Instr.index 164 (.agg #[f, g]) (.int .i64 0)).run Tryz.prog w = .ok f w := by kernel_rfl
theorem ixF1 (f g : Value) (w : World) : (Instr.index 164 (.agg #[f, g]) (.int .i64 1)).run Tryz.prog w = .ok g w := by kernel_rfl
set_option maxHeartbeats 800000 in
set_option maxRecDepth 100000 in
theorem c_lost (q : Option Addr) (nq cq : Nat) (p2 : Option Addr) (n c2 : Nat) (pl e : List Int) (a : Nat) (w : World) (h1 : RdI w q pl) (hq : pl.length = nq) (h2 : RdI w p2 e) (hn : e.length = n) (hc : nq ≤ cq) (ha1 : 1 ≤ a) (haq : a ≤ nq) (ha : a < n) (hp : PlOk pl) (hr : ∀ i, i < e.length → -100000 ≤ gi e i ∧ gi e i ≤ 100000) :
    Calls Tryz.prog 68 #[.agg #[.slice q nq cq, .slice p2 n c2], .int .i64 a] w fun e' w' => e' = .returned (.agg #[.int .i64 (ahdF pl e a), .int .i64 (behF e a)]) ∧ Below w.heap.size w w' := by
  have hi0 := ixF0; have hi1 := ixF1; have hmf : ∀ (fn : Fn) (first cap : Array Value) (w : World), (Instr.makeFunc fn first cap).run Tryz.prog w = .ok (.func fn first cap) w := fun _ _ _ _ => rfl
  obtain ⟨w1, e1, HS1, t0, t1, b1⟩ := box2 w (.slice q nq cq) (.slice p2 n c2) 98; have kr := alloc_new w1 (.cells #[.int .i64 0, .int .i64 0] 112); obtain ⟨w2, e2, HS2, _, _, b2⟩ := box2 w1 (.int .i64 0) (.int .i64 0) 112; rw [e2] at kr; have ko := alloc_new w2 (.cells #[.int .i64 0, .int .i64 0] 112); obtain ⟨w3, e3, HS3, _, _, b3⟩ := box2 w2 (.int .i64 0) (.int .i64 0) 112; rw [e3] at ko; have b23 := b2.trans (b3.mono b2.size); have t0 := (b23.cell (lt_of_cellq t0)).trans t0; have t1 := (b23.cell (lt_of_cellq t1)).trans t1; have HB := Lib.hid (b1.trans (b23.mono b1.size)); have H1 := Lib.hid h1; have H2 := Lib.hid h2; have HQ := Lib.hid hq; have HN := Lib.hid hn; have HP := Lib.hid hp; have HR := Lib.hid hr; have HO := Lib.hid ko; have HRR := Lib.hid ((b3.block _ (block_lt kr)).trans kr); have HZ := Lib.hid (show w.heap.size < w1.heap.size ∧ w1.heap.size < w2.heap.size ∧ w2.heap.size < w3.heap.size from ⟨by have := HS1.out; omega, by have := HS2.out; omega, by have := HS3.out; omega⟩)
  clear h1 h2 hq hn hp hr ko kr b1 b2 b3 b23
  go_enter Tryz.func68, Tryz.ntmps68
  go_wp2; clear e1 e2 e3
  go_loopw [6, 7, 13] (fun _ _ i wr => ∃ (k : Nat) (x y : Int), k ≤ 2 ∧ i = .int .i64 k ∧ Hid (wr.heap[w2.heap.size]? = some (.cells #[.int .i64 x, .int .i64 y] 112 (0, 0))) ∧ Hid ((1 ≤ k → x = ahdF pl e a) ∧ (2 ≤ k → y = behF e a)) ∧ Hid (BelX (fun x => x = w2.heap.size) w3.heap.size w3 wr)) (fun _ _ i _ => 2 - (intOf i).toNat)
  case atStart => exact ⟨0, 0, 0, by omega, rfl, HO, Lib.hid ⟨fun h => by omega, fun h => by omega⟩, Lib.hid (BelX.refl _ _ _)⟩
  case round =>
    obtain ⟨k, x, y, hk, rfl, HX, HXY, HY⟩ := hrel; have hz := HZ.out; have hBr : Below w.heap.size w wr := ((belX_of (X := fun x => x = w2.heap.size) HB.out).trans (HY.out.mono (by omega))).below (B' := w.heap.size) (Nat.le_refl _) (fun x hx => by subst hx; omega)
    rcases (show k = 0 ∨ k = 1 ∨ k = 2 by omega) with hk0 | hk0 | hk0
    · have hca := c_ahead q nq cq p2 n c2 pl e a wr (H1.out.below hBr) HQ.out (H2.out.below hBr) HN.out hc ha1 haq ha HP.out HR.out
      subst hk0; have x0 := (cells2 HX.out).1; have x1 := (cells2 HX.out).2; clear hBr hz; go_wp2_with fail; refine hca.mono ?_; clear hca; rintro e' w4 ⟨rfl, b4⟩; have HX4 := Lib.hid ((b4.block _ (block_lt HX.out)).trans HX.out); have y0 : w4.cell? ⟨w2.heap.size, 0, none⟩ = some (.int .i64 x) := by rw [cell_of_row _ _ _ _ _ _ HX4.out]; rfl
      have yf : w4.frozen? ⟨w2.heap.size, 0, none⟩ = false := frozen_of_row _ _ _ _ _ HX4.out; obtain ⟨w5, s5⟩ : ∃ w5, w4.setCell ⟨w2.heap.size, 0, none⟩ (.int .i64 (ahdF pl e a)) = w5 := ⟨_, rfl⟩; have HX5 := Lib.hid (show w5.heap[w2.heap.size]? = some (.cells #[.int .i64 (ahdF pl e a), .int .i64 (y)] 112 (0, 0)) by rw [← s5, heap_setCell_same w4 w2.heap.size 0 _ _ _ HX4.out]; rfl)
      have HY5 := Lib.hid (show BelX (fun x => x = w2.heap.size) w3.heap.size w3 w5 by
        have g := (HY.out.trans ((belX_of b4).mono HY.out.size)).setCell (p := ⟨w2.heap.size, 0, none⟩) (.inl rfl) (.int .i64 (ahdF pl e a)); rw [s5] at g; exact g)
      clear b4 HX4 x0 x1; go_wp2; go_roundw
      case rel => exact ⟨1, ahdF pl e a, y, by omega, rfl, HX5, Lib.hid ⟨fun _ => rfl, fun h => by omega⟩, HY5⟩
      case measure => simp [intOf]
    · have hca := c_behind q nq cq p2 n c2 e a wr (H2.out.below hBr) HN.out ha HR.out
      subst hk0; have x0 := (cells2 HX.out).1; have x1 := (cells2 HX.out).2; clear hBr hz; go_wp2_with fail; refine hca.mono ?_; clear hca; rintro e' w4 ⟨rfl, b4⟩; have HX4 := Lib.hid ((b4.block _ (block_lt HX.out)).trans HX.out); have y0 : w4.cell? ⟨w2.heap.size, 1, none⟩ = some (.int .i64 y) := by rw [cell_of_row _ _ _ _ _ _ HX4.out]; rfl
      have yf : w4.frozen? ⟨w2.heap.size, 1, none⟩ = false := frozen_of_row _ _ _ _ _ HX4.out; obtain ⟨w5, s5⟩ : ∃ w5, w4.setCell ⟨w2.heap.size, 1, none⟩ (.int .i64 (behF e a)) = w5 := ⟨_, rfl⟩; have HX5 := Lib.hid (show w5.heap[w2.heap.size]? = some (.cells #[.int .i64 (x), .int .i64 (behF e a)] 112 (0, 0)) by rw [← s5, heap_setCell_same w4 w2.heap.size 1 _ _ _ HX4.out]; rfl)
      have HY5 := Lib.hid (show BelX (fun x => x = w2.heap.size) w3.heap.size w3 w5 by
        have g := (HY.out.trans ((belX_of b4).mono HY.out.size)).setCell (p := ⟨w2.heap.size, 1, none⟩) (.inl rfl) (.int .i64 (behF e a)); rw [s5] at g; exact g)
      clear b4 HX4 x0 x1; go_wp2; go_roundw
      case rel => exact ⟨2, x, behF e a, by omega, rfl, HX5, Lib.hid ⟨fun _ => HXY.out.1 (by omega), fun _ => rfl⟩, HY5⟩
      case measure => simp [intOf]
    · subst hk0
      obtain rfl := HXY.out.1 (by omega); obtain rfl := HXY.out.2 (by omega); obtain ⟨x0, x1⟩ := cells2 HX.out; have hkr := (HY.out.block w1.heap.size (by omega) (by omega)).trans HRR.out; obtain ⟨w5, w6, s1, s2, ⟨c0, f0⟩, ⟨c1, f1⟩, hx4, hxk, HZ6, hxb⟩ := set2 wr w1.heap.size 112 _ _ (.int .i64 (ahdF pl e a)) (.int .i64 (behF e a)) hkr; obtain ⟨r0, r1⟩ := cells2 hx4; have HBB := Lib.hid (hxb w w.heap.size (by omega) hBr); clear hx4 hxk hxb hkr hBr hz; go_wp2; refine bodyPost_ret (v := .agg #[.int .i64 (ahdF pl e a), .int .i64 (behF e a)]) ?_ rfl ⟨rfl, HBB.out⟩; simp [results, Tryz.results68, go_sem, r0, r1]
end Go.Proofs.YtbknfddaoolagaaGreatDoor
end

section
namespace Go.Proofs.YtbknfddaoolagaaGreatDoor
open Go Go.RowKit Go.Proofs
set_option linter.unusedVariables false
attribute [local go_sem] imax2 imin2

set_option maxHeartbeats 1600000 in
set_option maxRecDepth 100000 in
theorem over_gen (f : FuncId) (caps : Array Value) (hent : ∀ (args : Array Value) (w : World), (callFunc f args).run Tryz.prog w = .ok (.enter f args) w) (pm pv pr : Option Addr) (cm cv cr : Nat) (p : Pc) (aq : Option Addr) (ca : Nat) (ts : List (List Int)) (w : World) (of : List Int → Int × Int) (hq : RdQ w aq p ts) (hl : ts.length ≤ 1000000)
    (hcall : ∀ (W : World) (k : Nat) (p1 p2 : Option Addr) (c1 c2 : Nat), Below w.heap.size w W → k < ts.length → (gl ts k).length = p.ms.length → RdI W p1 (gl ts k) → RdI W p2 (endF p (gl ts k)) → (endF p (gl ts k)).length = p.ms.length + 1 → p.ms.length ≤ c1 → (∃ g, p2 = some ⟨g, 0, none⟩) →
      Calls Tryz.prog f (#[.agg #[.slice p1 p.ms.length c1, .slice p2 (p.ms.length + 1) c2]] ++ caps) W fun e w' => e = .returned (.agg #[.int .i64 (of (gl ts k)).1, .int .i64 (of (gl ts k)).2]) ∧ Below W.heap.size W w') :
    Calls Tryz.prog 50 #[.agg #[.slice pm p.ms.length cm, .slice pv p.mv.length cv, .slice pr p.rs.length cr, .slice aq ts.length ca], .func (.func f) #[] caps] w fun e w' =>
      e = .returned (.agg #[.int .i64 (ovTo of ts ts.length).1, .int .i64 (ovTo of ts ts.length).2]) ∧ Below w.heap.size w w' := by
  obtain ⟨w1, e1, HS1, k0, k1, k2, k3, b1⟩ := box4 w (.slice pm p.ms.length cm) (.slice pv p.mv.length cv) (.slice pr p.rs.length cr) (.slice aq ts.length ca) 93; have kr := alloc_new w1 (.cells #[.int .i64 0, .int .i64 0] 44); obtain ⟨w2, e2, HS2, _, _, b2⟩ := box2 w1 (.int .i64 0) (.int .i64 0) 44; rw [e2] at kr; have ko := alloc_new w2 (.cells #[.int .i64 0, .int .i64 0] 44); obtain ⟨w3, e3, HS3, _, _, b3⟩ := box2 w2 (.int .i64 0) (.int .i64 0) 44; rw [e3] at ko; have b23 := b2.trans (b3.mono b2.size); have b13 := b1.trans (b23.mono b1.size); have k3 := (b23.cell (lt_of_cellq k3)).trans k3; have HQ0 := Lib.hid hq; have HCALL := Lib.hid hcall; have HKO := Lib.hid ko; have HKR := Lib.hid ((b3.block _ (block_lt kr)).trans kr); have HB := Lib.hid b13; have HZ := Lib.hid (show w.heap.size < w1.heap.size ∧ w1.heap.size < w2.heap.size ∧ w2.heap.size < w3.heap.size from ⟨by have := HS1.out; omega, by have := HS2.out; omega, by have := HS3.out; omega⟩)
  have hov0 : overF [] = (0, 0) := rfl; clear hq hcall ko kr b1 b2 b3 b23 b13
  go_enter Tryz.func50, Tryz.ntmps50
  go_wp2; clear e1 e2 e3
  go_loopw [11] (fun i wr => ∃ k : Nat, k ≤ ts.length ∧ i = .int .i64 k ∧ Hid (wr.heap[w2.heap.size]? = some (.cells #[.int .i64 (ovTo of ts k).1, .int .i64 (ovTo of ts k).2] 44 (0, 0))) ∧ Hid (BelX (fun x => x = w2.heap.size) w3.heap.size w3 wr)) (fun i _ => ts.length - (intOf i).toNat)
  case atStart => exact ⟨0, by omega, rfl, by rw [ovTo_zero, hov0]; exact HKO, Lib.hid (BelX.refl _ _ _)⟩
  case round =>
    obtain ⟨k, hk, rfl, HO, HX⟩ := hrel; obtain ⟨hz01, hz12, hz23⟩ := HZ.out
    by_cases hlt : k < ts.length
    · have hBr : Below w.heap.size w wr := ((belX_of (X := fun x => x = w2.heap.size) HB.out).trans (HX.out.mono (by omega))).below (B' := w.heap.size) (Nat.le_refl _) (fun x hx => by subst hx; omega)
      obtain ⟨b, rfl, hall⟩ := HQ0.out.below hBr; obtain ⟨hl1, p1, c1, p2, c2, d0, d1, h1, h2, hl2, hcc, hpp⟩ := hall k hlt; obtain ⟨w4, e4, HS4, y0, y1, b4⟩ := box2 wr (.slice p1 p.ms.length c1) (.slice p2 (p.ms.length + 1) c2) 98; obtain ⟨o0, o1⟩ := cells2 HO.out; have o0 := (b4.cell (lt_of_cellq o0)).trans o0; have o1 := (b4.cell (lt_of_cellq o1)).trans o1; have hB4 : Below w.heap.size w w4 := hBr.trans (b4.mono hBr.size); have H1 := Lib.hid (h1.below b4); have H2 := Lib.hid (h2.below b4); have HCK := Lib.hid (fun (W : World) (hb : Below w4.heap.size w4 W) => HCALL.out W k p1 p2 c1 c2 (hB4.trans (hb.mono hB4.size)) hlt hl1 ((h1.below b4).below hb) ((h2.below b4).below hb) hl2 hcc hpp); have HL1 := Lib.hid hl1; have HL2 := Lib.hid hl2; have HX4 := Lib.hid (HX.out.trans ((belX_of b4).mono HX.out.size)); have HO4 := Lib.hid ((b4.block _ (block_lt HO.out)).trans HO.out); have h0k : (0 : Int) ≤ (k : Int) := by omega
      have hki : (k : Int) < (ts.length : Int) := by omega
      have KS : (w4.cell? ⟨w2.heap.size, 0, none⟩ = some (.int .i64 (ovTo of ts k).1) ∧ w4.cell? ⟨w2.heap.size, 1, none⟩ = some (.int .i64 (ovTo of ts k).2)) ∧ (w4.cell? ⟨wr.heap.size, 0, none⟩ = some (.slice p1 p.ms.length c1) ∧ w4.cell? ⟨wr.heap.size, 1, none⟩ = some (.slice p2 (p.ms.length + 1) c2)) := ⟨⟨o0, o1⟩, ⟨y0, y1⟩⟩; clear hBr hall hl1 hl2 h1 h2 b4 hB4; go_upto_region 5 with (fail); clear e4 d0 d1 y0 y1; refine wp_region_below_tail 7 (by kernel_rfl) (by kernel_rfl) ?_; simp only [List.take_succ_cons, List.take_zero, List.drop_succ_cons, List.drop_zero]; (repeat (first | ((with_reducible first | apply wq_fg faP0 | apply wq_fg faP1 | apply wq_fg faP2 | apply wq_fg faM0 | apply wq_fg faS0 | apply wq_fg faS1 | apply wq_fg faR0 | apply wq_fg faR1 | apply wq_fg faR2 | apply wq_fg faR3 | apply wq_fg faT0 | apply wq_fg faT1 | apply wq_fg faQ0 | apply wq_fg faQ1 | apply wq_fg faH0 | apply wq_fg faH1 | apply wq_fg faH2 | apply wq_fg faH3); (focus rfl); (focus rfl); go_frame) | ((with_reducible refine wq_lda agSp szSp ?_ ?_ ?_ (fun _ hbq => bcells2 o0 o1 hbq) ?_); (focus rfl); (focus rfl); (focus rfl); go_frame) | ((with_reducible refine wq_lda agT szT ?_ ?_ ?_ (fun _ hbq => bcells2 KS.2.1 KS.2.2 hbq) ?_); (focus rfl); (focus rfl); (focus rfl); go_frame) | ((with_reducible first | apply wq_ix Tryz.underlying24 szI | apply wq_ix Tryz.underlying38 szSp | apply wq_ix Tryz.underlying23 szM | apply wq_ix Tryz.underlying25 szR | apply wq_ix Tryz.underlying51 szL | apply wq_ix Tryz.underlying91 szT); (focus rfl); (focus rfl); (focus rfl); (focus omega); (try simp only [Nat.mul_one]); go_frame) | ((with_reducible first | apply wq_ld agI | apply wq_ld agB | apply wq_ld agLI | apply wq_ld agLS | apply wq_ld agLM | apply wq_ld agLR | apply wq_ld agLL | apply wq_ld agLT); (focus rfl); (focus rfl); (focus (intro _ hbq; first | fail)); go_frame) | ((with_reducible first | apply wq_add | apply wq_sub | apply wq_mul | apply wq_rem); (focus rfl); (focus rfl); (focus rfl); (focus omega); (focus omega); go_frame) | ((with_reducible first | apply wq_eql | apply wq_neq | apply wq_lss | apply wq_leq | apply wq_gtr | apply wq_geq | apply wq_max2 | apply wq_min2); (focus rfl); (focus rfl); (focus rfl); go_frame) | ((with_reducible first | apply wq_max3 | apply wq_min3); (focus rfl); (focus rfl); (focus rfl); (focus rfl); go_frame) | go_big_quiet_step ((first | (intro hbq; exact calls_below hbq (HCK.out _ hbq)) | (intro hbq; exact calls_below hbq (c_wider' (ovTo of ts k).1 (ovTo of ts k).2 (of (gl ts k)).1 (of (gl ts k)).2 ((k : Int) == 0) _)))))); refine wpQuiet_nil ?_; intro wq hbq
      have hox := (hbq.block _ (block_lt HO4.out)).trans HO4.out; obtain ⟨w5, w6, s1, s2, ⟨x0, f0⟩, ⟨x1, f1⟩, hx4, hxk, HZ6, hxb⟩ := set2 wq w2.heap.size 44 _ _ (.int .i64 (wdLo ((k : Int) == 0) (ovTo of ts k).1 (of (gl ts k)).1)) (.int .i64 (wdHi ((k : Int) == 0) (ovTo of ts k).2 (of (gl ts k)).2)) hox; have HO6 := Lib.hid hx4
      have HX6 := Lib.hid (show BelX (fun x => x = w2.heap.size) w3.heap.size w3 w6 by
        have g2 := HX4.out.trans ((belX_of hbq).mono HX4.out.size); have g3 := (g2.setCell (p := ⟨w2.heap.size, 0, none⟩) (.inl rfl) (.int .i64 (wdLo ((k : Int) == 0) (ovTo of ts k).1 (of (gl ts k)).1))).setCell (p := ⟨w2.heap.size, 1, none⟩) (.inl rfl) (.int .i64 (wdHi ((k : Int) == 0) (ovTo of ts k).2 (of (gl ts k)).2)); rw [s1, s2] at g3; exact g3)
      have HE1 := Lib.hid (show (ovTo of ts (k + 1)).1 = wdLo ((k : Int) == 0) (ovTo of ts k).1 (of (gl ts k)).1 by
        rw [ovTo_succ of ts k hlt]; unfold wdLo
        by_cases h : k = 0
        · subst h; simp
        · rw [if_neg h]; simp [h])
      have HE2 := Lib.hid (show (ovTo of ts (k + 1)).2 = wdHi ((k : Int) == 0) (ovTo of ts k).2 (of (gl ts k)).2 by
        rw [ovTo_succ of ts k hlt]; unfold wdHi
        by_cases h : k = 0
        · subst h; simp
        · rw [if_neg h]; simp [h])
      clear hx4 hxk hxb hox hbq KS o0 o1; go_wp2; go_roundw
      case rel => exact ⟨k + 1, by omega, by go_num, by rw [HE1.out, HE2.out]; exact HO6, HX6⟩
      case measure => simp [intOf]; omega
    · obtain rfl : k = ts.length := by omega
      obtain ⟨o0, o1⟩ := cells2 HO.out; have hkr := (HX.out.block w1.heap.size (by omega) (by omega)).trans HKR.out; obtain ⟨w5, w6, s1, s2, ⟨c0, f0⟩, ⟨c1, f1⟩, hx4, hxk, HZ6, hxb⟩ := set2 wr w1.heap.size 44 _ _ (.int .i64 (ovTo of ts ts.length).1) (.int .i64 (ovTo of ts ts.length).2) hkr; obtain ⟨r0, r1⟩ := cells2 hx4; have HBB := Lib.hid (show Below w.heap.size w w6 from hxb w w.heap.size (by omega) (((belX_of (X := fun x => x = w2.heap.size) HB.out).trans (HX.out.mono (by omega))).below (B' := w.heap.size) (Nat.le_refl _) (fun x hx => by subst hx; omega))); clear hx4 hxk hxb hkr; go_wp2; refine bodyPost_ret (v := .agg #[.int .i64 (ovTo of ts ts.length).1, .int .i64 (ovTo of ts ts.length).2]) ?_ rfl ⟨rfl, HBB.out⟩; simp [results, Tryz.results50, go_sem, r0, r1]
end Go.Proofs.YtbknfddaoolagaaGreatDoor
end

section
namespace Go.Proofs.YtbknfddaoolagaaGreatDoor
open Go Go.RowKit Go.Proofs
set_option linter.unusedVariables false
attribute [local go_sem] imax2 imin2

theorem ends_ok {p : Pc} (hp : PieceOk p) {pl : List Int} (h : PlaysOk p pl) : PlOk pl ∧ Chain pl (endF p pl) ∧ ∀ i, i < (endF p pl).length → -100000 ≤ gi (endF p pl) i ∧ gi (endF p pl) i ≤ 100000 := by
  refine ⟨h.plok hp, runF_chain h.pos _ _, fun i hi => ?_⟩; rw [end_len h.pos] at hi; have := place_range hp h p.mv.length i (Nat.le_refl _) (by omega); show -100000 ≤ gi (runF pl p.mv p.mv.length) i ∧ gi (runF pl p.mv p.mv.length) i ≤ 100000; omega
def lostF (p : Pc) (a i : Nat) (pl : List Int) : Int × Int := just (if i = 0 then ahdF pl (endF p pl) a else behF (endF p pl) a)
theorem ixL0 (x y : Value) (w : World) : (Instr.index 112 (.agg #[x, y]) (.int .i64 0)).run Tryz.prog w = .ok x w := by kernel_rfl
theorem ixL1 (x y : Value) (w : World) : (Instr.index 112 (.agg #[x, y]) (.int .i64 1)).run Tryz.prog w = .ok y w := by kernel_rfl
set_option maxRecDepth 100000 in
theorem c1_lost (p : Pc) (pl : List Int) (p1 p2 : Option Addr) (c1 c2 : Nat) (pa pi a i : Nat) (w : World) (hp : PieceOk p) (ht : PlaysOk p pl) (h1 : RdI w p1 pl) (h2 : RdI w p2 (endF p pl)) (hl2 : (endF p pl).length = p.ms.length + 1) (hcc : p.ms.length ≤ c1)
    (ka : w.cell? ⟨pa, 0, none⟩ = some (.int .i64 (a : Int))) (ki : w.cell? ⟨pi, 0, none⟩ = some (.int .i64 (i : Int))) (ha1 : 1 ≤ a) (ha : a ≤ p.ms.length) (hi : i < 2) :
    Calls Tryz.prog 67 #[.agg #[.slice p1 p.ms.length c1, .slice p2 (p.ms.length + 1) c2], .pointer (some ⟨pa, 0, none⟩), .pointer (some ⟨pi, 0, none⟩)] w fun e w' => e = .returned (.agg #[.int .i64 (lostF p a i pl).1, .int .i64 (lostF p a i pl).2]) ∧ Below w.heap.size w w' := by
  obtain ⟨hpo, hch, hr⟩ := ends_ok hp ht; obtain ⟨w1, e1, HS1, t0, t1, b1⟩ := box2 w (.slice p1 p.ms.length c1) (.slice p2 (p.ms.length + 1) c2) 98; have kb := alloc_new w1 (.cells #[.int .i64 0, .int .i64 0] 44); obtain ⟨w2, e2, HS2, _, _, b2⟩ := box2 w1 (.int .i64 0) (.int .i64 0) 44; rw [e2] at kb; have t0 := (b2.cell (lt_of_cellq t0)).trans t0; have t1 := (b2.cell (lt_of_cellq t1)).trans t1; have b12 := b1.trans (b2.mono b1.size); have ka := (b12.cell (lt_of_cellq ka)).trans ka; have ki := (b12.cell (lt_of_cellq ki)).trans ki; have H1 := Lib.hid (h1.below b12); have H2 := Lib.hid (h2.below b12); have HL1 := Lib.hid ht.len; have HL2 := Lib.hid hl2; have HPO := Lib.hid hpo; have HR := Lib.hid hr; have HB := Lib.hid b12; have HKB := Lib.hid kb; have HZ := Lib.hid (show w.heap.size ≤ w1.heap.size from b1.size); have haL : a < p.ms.length + 1 := by omega
  obtain ⟨v, hv⟩ : ∃ v : Int, (if i = 0 then ahdF pl (endF p pl) a else behF (endF p pl) a) = v := ⟨_, rfl⟩
  have hix : ∀ w, (Instr.index 112 (.agg #[.int .i64 (ahdF pl (endF p pl) a), .int .i64 (behF (endF p pl) a)]) (.int .i64 (i : Int))).run Tryz.prog w = .ok (.int .i64 v) w := by
    intro w
    rcases (show i = 0 ∨ i = 1 by omega) with h | h
    · subst h; rw [if_pos rfl] at hv; rw [← hv]; exact ixL0 _ _ w
    · subst h; rw [if_neg (by omega)] at hv; rw [← hv]; exact ixL1 _ _ w
  have HV := Lib.hid (show lostF p a i pl = (v, v) by unfold lostF just; rw [hv]); clear hv h1 h2 hl2 hpo hch hr b1 b2 b12 kb hp ht; rw [HV.out]
  go_enter Tryz.func67, Tryz.ntmps67
  go_upto_region 1 with (fail); clear e1 e2; refine wp_region_below_tail 6 (by kernel_rfl) (by kernel_rfl) ?_; simp only [List.take_succ_cons, List.take_zero, List.drop_succ_cons, List.drop_zero]; (repeat (first | ((with_reducible first | apply wq_fg faP0 | apply wq_fg faP1 | apply wq_fg faP2 | apply wq_fg faM0 | apply wq_fg faS0 | apply wq_fg faS1 | apply wq_fg faR0 | apply wq_fg faR1 | apply wq_fg faR2 | apply wq_fg faR3 | apply wq_fg faT0 | apply wq_fg faT1 | apply wq_fg faQ0 | apply wq_fg faQ1 | apply wq_fg faH0 | apply wq_fg faH1 | apply wq_fg faH2 | apply wq_fg faH3); (focus rfl); (focus rfl); go_frame) | ((with_reducible refine wq_lda agT szT ?_ ?_ ?_ (fun _ hbq => bcells2 t0 t1 hbq) ?_); (focus rfl); (focus rfl); (focus rfl); go_frame) | ((with_reducible apply wq_ixa hix); (focus rfl); (focus rfl); (focus rfl); go_frame) | ((with_reducible first | apply wq_ix Tryz.underlying24 szI | apply wq_ix Tryz.underlying38 szSp | apply wq_ix Tryz.underlying23 szM | apply wq_ix Tryz.underlying25 szR | apply wq_ix Tryz.underlying51 szL | apply wq_ix Tryz.underlying91 szT); (focus rfl); (focus rfl); (focus rfl); (focus omega); (try simp only [Nat.mul_one]); go_frame) | ((with_reducible first | apply wq_ld agI | apply wq_ld agB | apply wq_ld agLI | apply wq_ld agLS | apply wq_ld agLM | apply wq_ld agLR | apply wq_ld agLL | apply wq_ld agLT); (focus rfl); (focus rfl); (focus (intro _ hbq; first | exact (hbq.cell (lt_of_cellq ka)).trans ka | exact (hbq.cell (lt_of_cellq ki)).trans ki)); go_frame) | ((with_reducible first | apply wq_add | apply wq_sub | apply wq_mul | apply wq_rem); (focus rfl); (focus rfl); (focus rfl); (focus omega); (focus omega); go_frame) | ((with_reducible first | apply wq_eql | apply wq_neq | apply wq_lss | apply wq_leq | apply wq_gtr | apply wq_geq | apply wq_max2 | apply wq_min2); (focus rfl); (focus rfl); (focus rfl); go_frame) | ((with_reducible first | apply wq_max3 | apply wq_min3); (focus rfl); (focus rfl); (focus rfl); (focus rfl); go_frame) | go_big_quiet_step ((first | (intro hbq; exact calls_below hbq (c_lost p1 p.ms.length c1 p2 (p.ms.length + 1) c2 pl (endF p pl) a _ (H1.out.below hbq) HL1.out (H2.out.below hbq) HL2.out (by assumption) (by assumption) (by assumption) (by assumption) HPO.out HR.out)) | (intro hbq; exact calls_below hbq (c_just v _)))))); refine wpQuiet_nil ?_; intro wq hbq
  obtain ⟨w4, w5, s1, s2, ⟨c0', f0⟩, ⟨c1', f1⟩, hx4, hxk, HZ5, hxb⟩ := set2 wq w1.heap.size 44 _ _ (.int .i64 v) (.int .i64 v) ((hbq.block _ (block_lt HKB.out)).trans HKB.out); obtain ⟨r0, r1⟩ := cells2 hx4; have HBB := Lib.hid (hxb w w.heap.size HZ.out (HB.out.trans (hbq.mono HB.out.size))); clear hx4 hxk hxb hbq; go_wp2; refine bodyPost_ret (v := .agg #[.int .i64 v, .int .i64 v]) ?_ rfl ⟨rfl, HBB.out⟩; simp [results, Tryz.results67, go_sem, r0, r1]
end Go.Proofs.YtbknfddaoolagaaGreatDoor
end

section
namespace Go.Proofs.YtbknfddaoolagaaGreatDoor
set_option linter.unusedSimpArgs false
open Go Go.RowKit Go.Proofs
set_option linter.unusedVariables false
attribute [local go_sem] imax2 imin2

theorem fldT1 (x y : Value) (w : World) : (Instr.field 98 (.agg #[x, y]) 1).run Tryz.prog w = .ok y w := by kernel_rfl
def aimV (p : Pc) (a : Nat) (m : Int) (pl : List Int) : Int × Int := just (gi (mvF pl (endF p pl) m) a)
set_option maxHeartbeats 1600000 in
set_option maxRecDepth 100000 in
theorem c1_aimed (p : Pc) (pl : List Int) (p1 p2 : Option Addr) (c1 c2 : Nat) (pmv pa a : Nat) (m : Int) (w : World) (hp : PieceOk p) (ht : PlaysOk p pl) (h1 : RdI w p1 pl) (h2 : RdI w p2 (endF p pl)) (hg : ∃ g, p2 = some ⟨g, 0, none⟩)
    (km : w.cell? ⟨pmv, 0, none⟩ = some (.int .i64 m)) (ka : w.cell? ⟨pa, 0, none⟩ = some (.int .i64 (a : Int))) (ha : a ≤ p.ms.length) (hm : -300 ≤ m ∧ m ≤ 300) :
    Calls Tryz.prog 119 #[.agg #[.slice p1 p.ms.length c1, .slice p2 (p.ms.length + 1) c2], .pointer (some ⟨pmv, 0, none⟩), .pointer (some ⟨pa, 0, none⟩)] w fun e w' => e = .returned (.agg #[.int .i64 (aimV p a m pl).1, .int .i64 (aimV p a m pl).2]) ∧ Below w.heap.size w w' := by
  have HZL := Lib.hid (show pmv < w.heap.size ∧ pa < w.heap.size from ⟨lt_of_cellq km, lt_of_cellq ka⟩); obtain ⟨g, rfl⟩ := hg; obtain ⟨hpo, hch, hr⟩ := ends_ok hp ht; have hln := ht.len; rw [← hln] at ha ⊢; obtain ⟨w1, e1, HS1, t0, t1, b1⟩ := box2 w (.slice p1 pl.length c1) (.slice (some ⟨g, 0, none⟩) (pl.length + 1) c2) 98; have kb := alloc_new w1 (.cells #[.int .i64 0, .int .i64 0] 44); obtain ⟨w2, e2, HS2, _, _, b2⟩ := box2 w1 (.int .i64 0) (.int .i64 0) 44; rw [e2] at kb; have t0 := (b2.cell (lt_of_cellq t0)).trans t0; have t1 := (b2.cell (lt_of_cellq t1)).trans t1; have b12 := b1.trans (b2.mono b1.size); have km := (b12.cell (lt_of_cellq km)).trans km; have ka := (b12.cell (lt_of_cellq ka)).trans ka; have H1 := Lib.hid (h1.below b12); have H2 := Lib.hid (h2.below b12); have HPO := Lib.hid hpo; have HCH := Lib.hid hch; have HR := Lib.hid hr; have HN := Lib.hid (hch.len); have HB := Lib.hid b12
  have HKB := Lib.hid kb; have HZL := Lib.hid (show pmv < w1.heap.size ∧ pa < w1.heap.size ∧ w.heap.size < w1.heap.size from ⟨by have := HZL.out.1; have := b1.size; omega, by have := HZL.out.2; have := b1.size; omega, by have := HS1.out; omega⟩); have HZ := Lib.hid (show w.heap.size ≤ w1.heap.size from b1.size); have haL : a < pl.length + 1 := by omega
  have hfl := fldT1; have h0a : (0 : Int) ≤ (a : Int) := by omega
  have haI : (a : Int) < (pl.length : Int) + 1 := by omega
  have HM := Lib.hid (show -100000 ≤ m ∧ m ≤ 100000 by omega); obtain ⟨v, hv⟩ : ∃ v : Int, gi (mvF pl (endF p pl) m) a = v := ⟨_, rfl⟩; have HV := Lib.hid (show aimV p a m pl = (v, v) by unfold aimV just; rw [hv]); have HVV := Lib.hid hv
  have HKE := Lib.hid (show ∀ wx wy : World, (∀ k, k < w1.heap.size → wy.heap[k]? = wx.heap[k]?) → (wx.cell? ⟨pmv, 0, none⟩ = some (.int .i64 m) ∧ wx.cell? ⟨pa, 0, none⟩ = some (.int .i64 (a : Int))) → (wy.cell? ⟨pmv, 0, none⟩ = some (.int .i64 m) ∧ wy.cell? ⟨pa, 0, none⟩ = some (.int .i64 (a : Int))) from
    fun wx wy h hh => ⟨(World.cell?_of_block (h _ HZL.out.1)).trans hh.1, (World.cell?_of_block (h _ HZL.out.2.1)).trans hh.2⟩)
  clear hv h1 h2 hpo hch hr b1 b2 b12 kb hp ht hln hm; rw [HV.out]
  go_enter Tryz.func119, Tryz.ntmps119
  go_upto_region 1 with (fail); clear e1 e2; refine wp_region_held_drew (S := fun w' => (w'.cell? ⟨w.heap.size, 0, none⟩ = some (.slice p1 pl.length c1) ∧ w'.cell? ⟨w.heap.size, 1, none⟩ = some (.slice (some ⟨g, 0, none⟩) (pl.length + 1) c2)) ∧ w'.cell? ⟨pmv, 0, none⟩ = some (.int .i64 m) ∧ w'.cell? ⟨pa, 0, none⟩ = some (.int .i64 (a : Int))) (by kernel_rfl) (by (try dsimp only); exact ⟨⟨t0, t1⟩, km, ka⟩) (fun hHeld => ?_); refine wpAnyH_take (i := 0) (v := ?v0) rfl (by kernel_rfl) (by kernel_rfl) (by kernel_rfl) (fun _ _ _ h => h) (Or.inl ⟨by rfl, ?hy0⟩) (by assumption) ?rest0
  case hy0 => (intro w hSw; (try dsimp only at hSw); go_simp <;> (try with_reducible rfl))
  simp only [Act.put, ptL]; refine wpAnyH_take (i := 1) (v := ?v1) rfl (by kernel_rfl) (by kernel_rfl) (by kernel_rfl) (fun _ _ _ h => h) (Or.inl ⟨by rfl, ?hy1⟩) (by assumption) ?rest1
  case hy1 => (intro w hSw; (try dsimp only at hSw); go_simp <;> (try with_reducible rfl))
  simp only [Act.put, ptL]; refine wpAnyH_take (i := 5) (v := ?v2) rfl (by kernel_rfl) (by kernel_rfl) (by kernel_rfl) (fun _ _ _ h => h) (Or.inl ⟨by rfl, ?hy2⟩) (by assumption) ?rest2
  case hy2 => (intro w hSw; (try dsimp only at hSw); go_simp <;> (try with_reducible rfl))
  simp only [Act.put, ptL]; refine rz1 2 rfl (fun K hK => ?_); go_simp
  (with_reducible refine (c_turned m _ HM.out).mono ?_)
  rintro e wa ⟨rfl, rfl⟩; go_simp; refine hK.out _ _ (by (try dsimp only); exact ⟨⟨t0, t1⟩, km, ka⟩) (fun hHeld => ?_); clear hK K; (try simp only [Act.put, ptL]); refine rz1 3 rfl (fun K hK => ?_); go_simp
  (with_reducible refine (c_after p1 c1 pl g c2 (pl.length + 1) (endF p pl) m _ (H1.out.below (Below.refl _ _).drew) (H2.out.below (Below.refl _ _).drew) HN.out HPO.out HCH.out HR.out HM.out).mono ?_)
  rintro e wb ⟨hv, rfl, hov, hbv⟩; obtain ⟨ga, ca, rfl⟩ := own_form hov; have hb2 : Below w2.heap.size w2 wb := ⟨hbv.os, hbv.tape, hbv.output, hbv.size, hbv.block⟩; have kC : (fun w' => (w'.cell? ⟨w.heap.size, 0, none⟩ = some (.slice p1 pl.length c1) ∧ w'.cell? ⟨w.heap.size, 1, none⟩ = some (.slice (some ⟨g, 0, none⟩) (pl.length + 1) c2)) ∧ w'.cell? ⟨pmv, 0, none⟩ = some (.int .i64 m) ∧ w'.cell? ⟨pa, 0, none⟩ = some (.int .i64 (a : Int))) wb := ⟨⟨(hb2.cell (lt_of_cellq t0)).trans t0, (hb2.cell (lt_of_cellq t1)).trans t1⟩, ((hb2.cell (lt_of_cellq km)).trans km), ((hb2.cell (lt_of_cellq ka)).trans ka)⟩; have hcv : wb.cell? ⟨ga, a, none⟩ = some (.int .i64 v) := by rw [own_cell hov (by rw [mvF_len]; exact haL), HVV.out]
  go_simp; refine hK.out _ _ (by (try dsimp only); exact kC) (fun hHeld => ?_); clear hK K; (try simp only [Act.put, ptL]); refine wpAnyH_take (i := 4) (v := ?v5) rfl (by kernel_rfl) (by kernel_rfl) (by kernel_rfl) (fun _ _ _ h => h) (Or.inl ⟨by rfl, ?hy5⟩) (by assumption) ?rest5
  case hy5 => (intro w hSw; (try dsimp only at hSw); go_simp <;> (try with_reducible rfl))
  simp only [Act.put, ptL]; refine wpAnyH_take (i := 6) (v := ?v6) rfl (by kernel_rfl) (by kernel_rfl) (by kernel_rfl) (fun _ _ _ h => h) (Or.inl ⟨by rfl, ?hy6⟩) (by assumption) ?rest6
  case hy6 => (intro w hSw; (try dsimp only at hSw); go_simp <;> (try with_reducible rfl))
  simp only [Act.put, ptL]; refine rz1 7 rfl (fun K hK => ?_); go_simp; refine hK.out _ _ (by (try dsimp only); exact kC) (fun hHeld => ?_); clear hK K; (try simp only [Act.put, ptL]); refine rz1 8 rfl (fun K hK => ?_); go_simp
  (with_reducible refine (c_just v _).mono ?_)
  rintro e wd ⟨rfl, hbd⟩; have hb3 : Below w2.heap.size w2 wd := hb2.trans (Below.mono ⟨hbd.os, hbd.tape, hbd.output, hbd.size, hbd.block⟩ hb2.size); have kD : (fun w' => (w'.cell? ⟨w.heap.size, 0, none⟩ = some (.slice p1 pl.length c1) ∧ w'.cell? ⟨w.heap.size, 1, none⟩ = some (.slice (some ⟨g, 0, none⟩) (pl.length + 1) c2)) ∧ w'.cell? ⟨pmv, 0, none⟩ = some (.int .i64 m) ∧ w'.cell? ⟨pa, 0, none⟩ = some (.int .i64 (a : Int))) wd := ⟨⟨(hb3.cell (lt_of_cellq t0)).trans t0, (hb3.cell (lt_of_cellq t1)).trans t1⟩, ((hb3.cell (lt_of_cellq km)).trans km), ((hb3.cell (lt_of_cellq ka)).trans ka)⟩; obtain ⟨w4, w5, s1, s2, ⟨c0', f0⟩, ⟨c1', f1⟩, hx4, hxk, HZ5, hxb⟩ := set2 wd w1.heap.size 44 _ _ (.int .i64 v) (.int .i64 v) ((hb3.block _ (block_lt HKB.out)).trans HKB.out); obtain ⟨r0, r1⟩ := cells2 hx4; have HBB := Lib.hid (hxb w w.heap.size HZ.out (HB.out.trans (hb3.mono HB.out.size))); have hne : ∀ k, k < w1.heap.size → w5.heap[k]? = wd.heap[k]? := fun k hk => hxk k (by omega)
  have kE : (fun w' => (w'.cell? ⟨w.heap.size, 0, none⟩ = some (.slice p1 pl.length c1) ∧ w'.cell? ⟨w.heap.size, 1, none⟩ = some (.slice (some ⟨g, 0, none⟩) (pl.length + 1) c2)) ∧ w'.cell? ⟨pmv, 0, none⟩ = some (.int .i64 m) ∧ w'.cell? ⟨pa, 0, none⟩ = some (.int .i64 (a : Int))) w5 := by
    obtain ⟨⟨q0, q1⟩, qq⟩ := kD; have hz := HZL.out; refine ⟨⟨(World.cell?_of_block (hne w.heap.size hz.2.2)).trans q0, (World.cell?_of_block (hne w.heap.size hz.2.2)).trans q1⟩, ?_⟩; exact HKE.out _ _ hne qq
  go_simp; refine hK.out _ _ (by (try dsimp only); exact kD) (fun hHeld => ?_); clear hK K; (try simp only [Act.put, ptL]); refine rz1 9 rfl (fun K hK => ?_); go_simp; refine hK.out _ _ (by (try dsimp only); exact kE) (fun hHeld => ?_); clear hK K; (try simp only [Act.put, ptL]); refine wpAnyH_done (by kernel_rfl) ?_ _; clear hHeld hx4 hxk hxb hb3 hbd hb2 hbv hov kC kD kE hne; go_wp2; refine bodyPost_ret (v := .agg #[.int .i64 v, .int .i64 v]) ?_ rfl ⟨rfl, HBB.out⟩; simp [results, Tryz.results119, go_sem, r0, r1]
end Go.Proofs.YtbknfddaoolagaaGreatDoor
end

section
namespace Go.Proofs.YtbknfddaoolagaaGreatDoor
open Go Go.RowKit Go.Proofs
set_option linter.unusedVariables false
attribute [local go_sem] imax2 imin2

def hdV (h : Hd) (pe : Option Addr) (ce : Nat) : Value := .agg #[.int .i64 h.arb, .int .i64 h.num, .int .i64 h.den, .slice pe h.er.length ce]
theorem handB_parts (n : Nat) (h : Hd) : handB n h = (inB h.arb 0 n && inB h.num 1 100 && inB h.den 1 100 && inB (h.er.length : Int) 1 8 && h.er.all errB) := by
  have e : inB (h.er.length : Int) 1 8 = (decide (1 ≤ h.er.length) && decide (h.er.length ≤ 8)) := by
    unfold inB; rw [Bool.eq_iff_iff]; simp only [Bool.and_eq_true, decide_eq_true_eq]; omega
  unfold handB; rw [e]; simp only [Bool.and_assoc]
set_option maxHeartbeats 1600000 in
set_option maxRecDepth 100000 in
theorem c_isHand (pm pv pr : Option Addr) (cm cv cr : Nat) (p : Pc) (h : Hd) (pe : Option Addr) (ce : Nat) (w : World) (hh : RdS w pe h.er) (hl : h.er.length ≤ 1000000) :
    Calls Tryz.prog 48 #[.agg #[.slice pm p.ms.length cm, .slice pv p.mv.length cv, .slice pr p.rs.length cr], hdV h pe ce] w fun e w' => e = .returned (.bool (handB p.ms.length h)) ∧ Below w.heap.size w w' := by
  unfold hdV; obtain ⟨w0, e0, HS0, k0, k1, k2, b0⟩ := box3 w (.slice pm p.ms.length cm) (.slice pv p.mv.length cv) (.slice pr p.rs.length cr) 27; obtain ⟨w1, e1, HS1, q0, q1, q2, q3, b1⟩ := box4 w0 (.int .i64 h.arb) (.int .i64 h.num) (.int .i64 h.den) (.slice pe h.er.length ce) 40; have HE := Lib.hid ((hh.below b0).below b1); have HB := Lib.hid (b0.trans (b1.mono b0.size)); have k0 := (b1.cell (lt_of_cellq k0)).trans k0; have k1 := (b1.cell (lt_of_cellq k1)).trans k1; have k2 := (b1.cell (lt_of_cellq k2)).trans k2; have HQ := Lib.hid (handB_parts p.ms.length h); have ha := c_isArbor pm pv pr cm cv cr p h.arb 0; have HAR := Lib.hid ha; clear b0 b1 hh ha
  rcases h1 : inB h.arb 0 p.ms.length with _ | _
  · have H := Lib.hid (show handB p.ms.length h = false by rw [HQ.out]; simp [h1])
    go_enter Tryz.func48, Tryz.ntmps48
    go_wp2_with fail; refine (HAR.out _).mono ?_; rw [h1]; rintro e wn ⟨rfl, bq⟩; replace HB := Lib.hid (HB.out.trans (bq.mono HB.out.size)); replace HE := Lib.hid (HE.out.below bq); have q0 := (bq.cell (lt_of_cellq q0)).trans q0; have q1 := (bq.cell (lt_of_cellq q1)).trans q1; have q2 := (bq.cell (lt_of_cellq q2)).trans q2; have q3 := (bq.cell (lt_of_cellq q3)).trans q3; clear bq e0 e1; go_wp2; go_ret; exact ⟨by rw [H.out]; rfl, HB.out⟩
  rcases h2 : inB h.num 1 100 with _ | _
  · have H := Lib.hid (show handB p.ms.length h = false by rw [HQ.out]; simp [h1, h2])
    go_enter Tryz.func48, Tryz.ntmps48
    go_wp2_with fail; refine (HAR.out _).mono ?_; rw [h1]; rintro e wn ⟨rfl, bq⟩; replace HB := Lib.hid (HB.out.trans (bq.mono HB.out.size)); replace HE := Lib.hid (HE.out.below bq); have q0 := (bq.cell (lt_of_cellq q0)).trans q0; have q1 := (bq.cell (lt_of_cellq q1)).trans q1; have q2 := (bq.cell (lt_of_cellq q2)).trans q2; have q3 := (bq.cell (lt_of_cellq q3)).trans q3; clear bq e0 e1; go_wp2_with fail; refine (c_in _ _ _ _).mono ?_; rw [h2]; rintro e wn ⟨rfl, rfl⟩; go_wp2; go_ret; exact ⟨by rw [H.out]; rfl, HB.out⟩
  rcases h3 : inB h.den 1 100 with _ | _
  · have H := Lib.hid (show handB p.ms.length h = false by rw [HQ.out]; simp [h1, h2, h3])
    go_enter Tryz.func48, Tryz.ntmps48
    go_wp2_with fail; refine (HAR.out _).mono ?_; rw [h1]; rintro e wn ⟨rfl, bq⟩; replace HB := Lib.hid (HB.out.trans (bq.mono HB.out.size)); replace HE := Lib.hid (HE.out.below bq); have q0 := (bq.cell (lt_of_cellq q0)).trans q0; have q1 := (bq.cell (lt_of_cellq q1)).trans q1; have q2 := (bq.cell (lt_of_cellq q2)).trans q2; have q3 := (bq.cell (lt_of_cellq q3)).trans q3; clear bq e0 e1; go_wp2_with fail; refine (c_in _ _ _ _).mono ?_; rw [h2]; rintro e wn ⟨rfl, rfl⟩; go_wp2_with fail; refine (c_in _ _ _ _).mono ?_; rw [h3]; rintro e wn ⟨rfl, rfl⟩; go_wp2; go_ret; exact ⟨by rw [H.out]; rfl, HB.out⟩
  rcases h4 : inB (h.er.length : Int) 1 8 with _ | _
  · have H := Lib.hid (show handB p.ms.length h = false by rw [HQ.out]; simp [h1, h2, h3, h4])
    go_enter Tryz.func48, Tryz.ntmps48
    go_wp2_with fail; refine (HAR.out _).mono ?_; rw [h1]; rintro e wn ⟨rfl, bq⟩; replace HB := Lib.hid (HB.out.trans (bq.mono HB.out.size)); replace HE := Lib.hid (HE.out.below bq); have q0 := (bq.cell (lt_of_cellq q0)).trans q0; have q1 := (bq.cell (lt_of_cellq q1)).trans q1; have q2 := (bq.cell (lt_of_cellq q2)).trans q2; have q3 := (bq.cell (lt_of_cellq q3)).trans q3; clear bq e0 e1; go_wp2_with fail; refine (c_in _ _ _ _).mono ?_; rw [h2]; rintro e wn ⟨rfl, rfl⟩; go_wp2_with fail; refine (c_in _ _ _ _).mono ?_; rw [h3]; rintro e wn ⟨rfl, rfl⟩; go_wp2_with fail; refine (c_in _ _ _ _).mono ?_; rw [h4]; rintro e wn ⟨rfl, rfl⟩; go_wp2; go_ret; exact ⟨by rw [H.out]; rfl, HB.out⟩
  · have H := Lib.hid (show handB p.ms.length h = h.er.all errB by rw [HQ.out]; simp [h1, h2, h3, h4])
    go_enter Tryz.func48, Tryz.ntmps48
    go_wp2_with fail; refine (HAR.out _).mono ?_; rw [h1]; rintro e wn ⟨rfl, bq⟩; replace HB := Lib.hid (HB.out.trans (bq.mono HB.out.size)); replace HE := Lib.hid (HE.out.below bq); have q0 := (bq.cell (lt_of_cellq q0)).trans q0; have q1 := (bq.cell (lt_of_cellq q1)).trans q1; have q2 := (bq.cell (lt_of_cellq q2)).trans q2; have q3 := (bq.cell (lt_of_cellq q3)).trans q3; clear bq e0 e1; go_wp2_with fail; refine (c_in _ _ _ _).mono ?_; rw [h2]; rintro e wn ⟨rfl, rfl⟩; go_wp2_with fail; refine (c_in _ _ _ _).mono ?_; rw [h3]; rintro e wn ⟨rfl, rfl⟩; go_wp2_with fail; refine (c_in _ _ _ _).mono ?_; rw [h4]; rintro e wn ⟨rfl, rfl⟩; go_wp2_with fail; refine (cf_err pe ce h.er _ HE.out hl).mono ?_; rintro e wn ⟨rfl, bq⟩; replace HB := Lib.hid (HB.out.trans (bq.mono HB.out.size)); clear bq; go_wp2; go_ret; exact ⟨by rw [H.out]; simp, HB.out⟩
end Go.Proofs.YtbknfddaoolagaaGreatDoor
end

section
namespace Go.Proofs.YtbknfddaoolagaaGreatDoor
open Go Go.RowKit Go.Proofs
set_option linter.unusedVariables false
attribute [local go_sem] imax2 imin2

theorem wq_ext {P : Program} {C : World → Prop} {ops : Array Oper} {Q : Act → Prop} {rest : List Oper} {a : Act} {d k : Nat} {x : Operand} {ty : TypeId} {pos : String} {af : Array Edge} {g : Option (Nat × Bool)} {xs : Array Value} {u : Value}
    (hw : Region.wanted ⟨some d, .extract x k, ty, pos, af, g⟩ (yielded ops a.tmps) = true) (hx : a.eval x = .tuple xs) (hu : xs[k]? = some u)
    (hk : wpQuiet P ops C Q rest (a.put (some d) u)) : wpQuiet P ops C Q (⟨some d, .extract x k, ty, pos, af, g⟩ :: rest) a :=
  wq hw (q_val (o := ⟨some d, .extract x k, ty, pos, af, g⟩) u (fun w _ => by unfold execOp; dsimp only; rw [hx]; simp [go_sem, hu]) hk)
set_option maxHeartbeats 1600000 in
set_option maxRecDepth 100000 in
theorem c_shows (q : Option Addr) (nq cq : Nat) (p2 : Option Addr) (n c2 nn : Nat) (h : Hd) (pe : Option Addr) (ce : Nat) (e : List Int) (w : World) (h2 : RdI w p2 e) (hn : e.length = n) (hE : RdS w pe h.er) (hh : HandOk nn h) (hnn : nn < n) (hr : -2800 ≤ gi e h.arb.toNat ∧ gi e h.arb.toNat ≤ 2400) :
    Calls Tryz.prog 52 #[.agg #[.slice q nq cq, .slice p2 n c2], hdV h pe ce] w fun e' w' => e' = .returned (.agg #[.int .i64 (shownF h (gi e h.arb.toNat)).1, .int .i64 (shownF h (gi e h.arb.toNat)).2]) ∧ Below w.heap.size w w' := by
  unfold hdV; obtain ⟨a, hab⟩ : ∃ a : Nat, h.arb = (a : Int) := ⟨h.arb.toNat, by have := hh.arb; omega⟩; have hat : h.arb.toNat = a := by rw [hab]; rfl
  rw [hat] at hr ⊢; have hlt : a < n := by have := hh.arb; omega
  obtain ⟨pc, hpc⟩ : ∃ pc : Int, gi e a = pc := ⟨_, rfl⟩; rw [hpc] at hr ⊢; obtain ⟨w1, e1, HS1, t0, t1, b1⟩ := box2 w (.slice q nq cq) (.slice p2 n c2) 98; obtain ⟨w2, e2, HS2, q0, q1, q2, q3, b2⟩ := box4 w1 (.int .i64 h.arb) (.int .i64 h.num) (.int .i64 h.den) (.slice pe h.er.length ce) 40; have kb := alloc_new w2 (.cells #[.int .i64 0, .int .i64 0] 44); obtain ⟨w3, e3, HS3, _, _, b3⟩ := box2 w2 (.int .i64 0) (.int .i64 0) 44; rw [e3] at kb; have b23 := b2.trans (b3.mono b2.size); have b13 := b1.trans (b23.mono b1.size); have t0 := (b23.cell (lt_of_cellq t0)).trans t0; have t1 := (b23.cell (lt_of_cellq t1)).trans t1; have q0 := (b3.cell (lt_of_cellq q0)).trans q0; have q1 := (b3.cell (lt_of_cellq q1)).trans q1; have q2 := (b3.cell (lt_of_cellq q2)).trans q2; have q3 := (b3.cell (lt_of_cellq q3)).trans q3; obtain ⟨b, off, rfl, hc⟩ := (h2.below b13).at (i := a) (by omega); have ra := hc a (by omega)
  rw [hpc] at ra; rw [hab] at q0; obtain ⟨hr1, hr2⟩ := hr; obtain ⟨num, hnum⟩ : ∃ x : Int, h.num = x := ⟨_, rfl⟩; obtain ⟨den, hden⟩ : ∃ x : Int, h.den = x := ⟨_, rfl⟩; have hnu := hh.num; have hde := hh.den; have hle := hh.len; have har := atF_range hh (pc := pc) ⟨hr1, hr2⟩; have hsl := stepF_lt hh pc; have her := hh.err _ hsl
  have hst : (stepF h pc : Int) = (atF h pc % 21600 * h.er.length) / 21600 := by
    unfold stepF; refine Int.toNat_of_nonneg (Int.ediv_nonneg (Int.mul_nonneg (Int.emod_nonneg _ (by omega)) (by omega)) (by omega))
  have hatd : atF h pc = pc * num / den := by unfold atF; rw [hnum, hden]
  rw [hnum] at hnu q1; rw [hden] at hde q2
  have hp1 : -280000 ≤ pc * num := by
    have := Int.mul_le_mul_of_nonneg_right (a := -2800) (b := pc) (c := num) hr1 (by omega); omega
  have hp2 : pc * num ≤ 240000 := by
    have := Int.mul_le_mul_of_nonneg_right (a := pc) (b := 2400) (c := num) hr2 (by omega); omega
  obtain ⟨at_, hA⟩ : ∃ x : Int, atF h pc = x := ⟨_, rfl⟩; obtain ⟨s, hs⟩ : ∃ x : Nat, stepF h pc = x := ⟨_, rfl⟩; have HS := Lib.hid (show shownF h pc = (at_ + (gm h.er s).1, at_ + (gm h.er s).2) by unfold shownF; rw [hA, hs]); rw [hA] at har hst hatd; rw [hs] at hsl her hst; obtain ⟨bE, oE, rfl, hcE⟩ := (hE.below b13).at (i := s) hsl; obtain ⟨x0, x1⟩ := hcE s hsl; obtain ⟨L, hL⟩ : ∃ L : Nat, h.er.length = L := ⟨_, rfl⟩; rw [hL] at hsl hle hst q3 ⊢; obtain ⟨R, hR⟩ : ∃ R : Int, at_ % 21600 = R := ⟨_, rfl⟩; have hR0 : 0 ≤ R := by rw [← hR]; exact Int.emod_nonneg _ (by omega)
  have hR1 : R < 21600 := by rw [← hR]; exact Int.emod_lt_of_pos _ (by omega)
  rw [hR] at hst; have hRL0 : 0 ≤ R * (L : Int) := Int.mul_nonneg hR0 (by omega); have hRL1 : R * (L : Int) ≤ 21600 * (L : Int) := Int.mul_le_mul_of_nonneg_right (by omega) (by omega); have hwm : IntKind.i64.wrap (R * (L : Int)) = R * (L : Int) := w64 _ (by omega) (by omega); have hqd : (R * (L : Int)).tdiv 21600 = (s : Int) := by rw [Int.tdiv_eq_ediv_of_nonneg hRL0, hst]
  obtain ⟨lo, hlo⟩ : ∃ x : Int, (gm h.er s).1 = x := ⟨_, rfl⟩; obtain ⟨hi, hhi⟩ : ∃ x : Int, (gm h.er s).2 = x := ⟨_, rfl⟩; rw [hlo, hhi] at HS; rw [hlo] at x0 her; rw [hhi] at x1 her; have hw1 : IntKind.i64.wrap (at_ + lo) = at_ + lo := w64 _ (by omega) (by omega); have hw2 : IntKind.i64.wrap (at_ + hi) = at_ + hi := w64 _ (by omega) (by omega); have hsI : (s : Int) < (L : Int) := by omega
  have hws : IntKind.i64.wrap (s : Int) = (s : Int) := w64 _ (by omega) (by omega); have hs0 : (0 : Int) ≤ (s : Int) := by omega
  have HAT := Lib.hid hatd; have HRR := Lib.hid hR; have HB := Lib.hid b13; have HKB := Lib.hid kb; have HZ := Lib.hid (show w.heap.size ≤ w2.heap.size from Nat.le_trans b1.size b2.size); have HAR := Lib.hid har; have HDE := Lib.hid hde; have hden1 : 0 < den := by omega
  have hden2 : den ≤ 100000 := by omega
  have hpn : -1000000000 ≤ pc * num ∧ pc * num ≤ 1000000000 := by omega
  have HPN := Lib.hid hpn; have HLT := Lib.hid hlt; rw [HS.out]; rw [hab]; rw [hab, hL] at e2; clear hatd hR kb b1 b2 b3 b23 b13 hc hcE h2 hE hh hat hab hnum hden hA hs hL hlo hhi her hst har hn hnn hle hde hpn HS hpc hr1 hr2 hR0 hR1 hRL0 hRL1 hnu
  go_enter Tryz.func52, Tryz.ntmps52
  go_upto_region 1 with (fail); clear e1 e2 e3; refine wp_region_quiet_below (by kernel_rfl) (by kernel_rfl) ?_; (repeat (first | ((with_reducible first | apply wq_fg faP0 | apply wq_fg faP1 | apply wq_fg faP2 | apply wq_fg faM0 | apply wq_fg faS0 | apply wq_fg faS1 | apply wq_fg faR0 | apply wq_fg faR1 | apply wq_fg faR2 | apply wq_fg faR3 | apply wq_fg faT0 | apply wq_fg faT1 | apply wq_fg faQ0 | apply wq_fg faQ1 | apply wq_fg faH0 | apply wq_fg faH1 | apply wq_fg faH2 | apply wq_fg faH3); (focus rfl); (focus rfl); go_frame) | ((with_reducible apply wq_ext); (focus rfl); (focus rfl); (focus rfl); go_frame) | ((with_reducible first | apply wq_ix Tryz.underlying24 szI | apply wq_ix Tryz.underlying38 szSp | apply wq_ix Tryz.underlying23 szM | apply wq_ix Tryz.underlying25 szR | apply wq_ix Tryz.underlying51 szL | apply wq_ix Tryz.underlying91 szT); (focus rfl); (focus rfl); (focus rfl); (focus omega); (try simp only [Nat.mul_one]); go_frame) | ((with_reducible first | apply wq_ld agI | apply wq_ld agB | apply wq_ld agLI | apply wq_ld agLS | apply wq_ld agLM | apply wq_ld agLR | apply wq_ld agLL | apply wq_ld agLT); (focus rfl); (focus rfl); (focus (intro _ hbq; first | exact (hbq.cell (lt_of_cellq t1)).trans t1 | exact (hbq.cell (lt_of_cellq q0)).trans q0 | exact (hbq.cell (lt_of_cellq q1)).trans q1 | exact (hbq.cell (lt_of_cellq q2)).trans q2 | exact (hbq.cell (lt_of_cellq ra)).trans ra)); go_frame) | ((with_reducible first | apply wq_add | apply wq_sub | apply wq_mul | apply wq_rem); (focus rfl); (focus rfl); (focus rfl); (focus omega); (focus omega); go_frame) | ((with_reducible first | apply wq_eql | apply wq_neq | apply wq_lss | apply wq_leq | apply wq_gtr | apply wq_geq | apply wq_max2 | apply wq_min2); (focus rfl); (focus rfl); (focus rfl); go_frame) | ((with_reducible first | apply wq_max3 | apply wq_min3); (focus rfl); (focus rfl); (focus rfl); (focus rfl); go_frame) | go_big_quiet_step ((intro hbq; exact calls_below hbq (c_floor (pc * num) den _ hden1 hden2 HPN.out))))); refine wpQuiet_nil ?_; intro wq hbq
  have q3 := (hbq.cell (lt_of_cellq q3)).trans q3; have x0 := (hbq.cell (lt_of_cellq x0)).trans x0; have x1 := (hbq.cell (lt_of_cellq x1)).trans x1; have HBQ := Lib.hid hbq; clear hbq t0 t1 q0 q1 q2 ra; rw [← HAT.out]; go_wp2_with fail; refine (c_floor at_ 21600 _ (by omega) (by omega) (by have := HAR.out; omega)).mono ?_; rintro e w4 ⟨rfl, b4⟩; rw [HRR.out]; have q3 := (b4.cell (lt_of_cellq q3)).trans q3; have x0 := (b4.cell (lt_of_cellq x0)).trans x0; have x1 := (b4.cell (lt_of_cellq x1)).trans x1; obtain ⟨w5, e5, HS5, y0, y1, b5⟩ := box2 w4 (.int .i64 lo) (.int .i64 hi) 44; have b35 : Below w3.heap.size w3 w5 := (HBQ.out.trans (b4.mono HBQ.out.size)).trans (b5.mono (Nat.le_trans HBQ.out.size b4.size)); obtain ⟨w6, w7, s1, s2, ⟨c0', f0⟩, ⟨c1', f1⟩, hx4, hxk, HZ5, hxb⟩ := set2 w5 w2.heap.size 44 _ _ (.int .i64 (at_ + lo)) (.int .i64 (at_ + hi)) ((b35.block _ (block_lt HKB.out)).trans HKB.out)
  obtain ⟨r0, r1⟩ := cells2 hx4; have HBB := Lib.hid (hxb w w.heap.size HZ.out (HB.out.trans (b35.mono HB.out.size))); clear hx4 hxk hxb b35 b4 b5; go_wp2; refine bodyPost_ret (v := .agg #[.int .i64 (at_ + lo), .int .i64 (at_ + hi)]) ?_ rfl ⟨rfl, HBB.out⟩; simp [results, Tryz.results52, go_sem, r0, r1]
end Go.Proofs.YtbknfddaoolagaaGreatDoor
end
