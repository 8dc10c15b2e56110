/-
  What each truth shows at a hand, and at two hands: contracts of the closures (printed by slkapart.py).
-/
import Derived.Test.YtlednchfifphgaaGreatDoorGH
import Derived.Test.YtlednchfifphgaaGreatDoorGO
import Derived.Test.YtlednchfifphgaaGreatDoorGJ
section
namespace Go.Proofs.YtlednchfifphgaaGreatDoor
set_option linter.unusedSimpArgs false
open Go Go.RowKit Go.Proofs
set_option linter.unusedVariables false
attribute [local go_sem] imax2 imin2

/-- a hand in a box -/
structure RdH (w : World) (pb : Nat) (h : Hd) (pe : Option Addr) (ce : Nat) : Prop where
  c0 : w.cell? ⟨pb, 0, none⟩ = some (.int .i64 h.arb)
  c1 : w.cell? ⟨pb, 1, none⟩ = some (.int .i64 h.num)
  c2 : w.cell? ⟨pb, 2, none⟩ = some (.int .i64 h.den)
  c3 : w.cell? ⟨pb, 3, none⟩ = some (.slice pe h.er.length ce)
  er : RdS w pe h.er
theorem RdH.below {w w' : World} {pb : Nat} {h : Hd} {pe : Option Addr} {ce : Nat} (hr : RdH w pb h pe ce) (hb : Below w.heap.size w w') : RdH w' pb h pe ce :=
  ⟨(hb.cell (lt_of_cellq hr.c0)).trans hr.c0, (hb.cell (lt_of_cellq hr.c1)).trans hr.c1, (hb.cell (lt_of_cellq hr.c2)).trans hr.c2, (hb.cell (lt_of_cellq hr.c3)).trans hr.c3, hr.er.below hb⟩
theorem shF_eq {p : Pc} {h : Hd} (pl : List Int) : shownF h (gi (endF p pl) h.arb.toNat) = shF p h pl := rfl
theorem hand_place {p : Pc} (hp : PieceOk p) {pl : List Int} (ht : PlaysOk p pl) {h : Hd} (hh : HandOk p.ms.length h) : -2800 ≤ gi (endF p pl) h.arb.toNat ∧ gi (endF p pl) h.arb.toNat ≤ 2400 :=
  place_range hp ht p.mv.length h.arb.toNat (Nat.le_refl _) (by have := hh.arb; have := ht.len; omega)
set_option maxRecDepth 100000 in
theorem c1_shows (p : Pc) (pl : List Int) (p1 p2 : Option Addr) (c1 c2 : Nat) (pb : Nat) (h : Hd) (pe : Option Addr) (ce : Nat) (w : World) (hp : PieceOk p) (ht : PlaysOk p pl) (h2 : RdI w p2 (endF p pl)) (hh : HandOk p.ms.length h) (hr : RdH w pb h pe ce) :
    Calls Tryz.prog 90 #[.agg #[.slice p1 p.ms.length c1, .slice p2 (p.ms.length + 1) c2], .pointer (some ⟨pb, 0, none⟩)] w fun e w' => e = .returned (.agg #[.int .i64 (shF p h pl).1, .int .i64 (shF p h pl).2]) ∧ Below w.heap.size w w' := by
  have hln : (endF p pl).length = p.ms.length + 1 := by rw [end_len ht.pos, ht.len]
  obtain ⟨w1, e1, HS1, t0, t1, b1⟩ := box2 w (.slice p1 p.ms.length c1) (.slice p2 (p.ms.length + 1) c2) 101
  have kb := alloc_new w1 (.cells #[.int .i64 0, .int .i64 0] 44)
  obtain ⟨w2, e2, HS2, _, _, b2⟩ := box2 w1 (.int .i64 0) (.int .i64 0) 44
  rw [e2] at kb
  have t0 := (b2.cell (lt_of_cellq t0)).trans t0
  have t1 := (b2.cell (lt_of_cellq t1)).trans t1
  have b12 := b1.trans (b2.mono b1.size)
  obtain ⟨k0, k1, k2, k3, kE⟩ := hr.below b12
  have hc := c_shows p1 p.ms.length c1 p2 (p.ms.length + 1) c2 p.ms.length h pe ce (endF p pl) w2 (h2.below b12) hln kE hh (by omega) (hand_place hp ht hh)
  rw [shF_eq] at hc
  unfold hdV at hc
  have HB := Lib.hid b12
  have HKB := Lib.hid kb
  have HZ := Lib.hid (show w.heap.size ≤ w1.heap.size from b1.size)
  clear h2 hr kE b1 b2 b12 kb hp ht hh hln
  go_enter Tryz.func90, Tryz.ntmps90
  go_wp2_with fail
  refine hc.mono ?_
  clear hc
  rintro e w3 ⟨rfl, b3⟩
  clear e1 e2
  obtain ⟨w4, w5, s1, s2, ⟨c0', f0⟩, ⟨c1', f1⟩, hx4, hxk, HZ5, hxb⟩ := set2 w3 w1.heap.size 44 _ _ (.int .i64 (shF p h pl).1) (.int .i64 (shF p h pl).2) ((b3.block _ (block_lt HKB.out)).trans HKB.out)
  obtain ⟨r0, r1⟩ := cells2 hx4
  have HBB := Lib.hid (hxb w w.heap.size HZ.out (HB.out.trans (b3.mono HB.out.size)))
  clear hx4 hxk hxb b3
  go_wp2
  refine bodyPost_ret (v := .agg #[.int .i64 (shF p h pl).1, .int .i64 (shF p h pl).2]) ?_ rfl ⟨rfl, HBB.out⟩
  simp [results, Tryz.results90, go_sem, r0, r1]

set_option maxHeartbeats 6400000 in
set_option maxRecDepth 100000 in
theorem c1_apart (p : Pc) (pl : List Int) (p1 p2 : Option Addr) (c1 c2 : Nat) (pb pc : Nat) (h k : Hd) (pe pf : Option Addr) (ce cf : Nat) (w : World) (hp : PieceOk p) (ht : PlaysOk p pl) (h2 : RdI w p2 (endF p pl)) (hh : HandOk p.ms.length h) (hk : HandOk p.ms.length k) (hr : RdH w pb h pe ce) (kr : RdH w pc k pf cf) :
    Calls Tryz.prog 92 #[.agg #[.slice p1 p.ms.length c1, .slice p2 (p.ms.length + 1) c2], .pointer (some ⟨pb, 0, none⟩), .pointer (some ⟨pc, 0, none⟩)] w fun e w' => e = .returned (.agg #[.int .i64 (apF p h k pl).1, .int .i64 (apF p h k pl).2]) ∧ Below w.heap.size w w' := by
  have hln : (endF p pl).length = p.ms.length + 1 := by rw [end_len ht.pos, ht.len]
  obtain ⟨w1, e1, HS1, t0, t1, b1⟩ := box2 w (.slice p1 p.ms.length c1) (.slice p2 (p.ms.length + 1) c2) 101
  have kb := alloc_new w1 (.cells #[.int .i64 0, .int .i64 0] 44)
  obtain ⟨w2, e2, HS2, _, _, b2⟩ := box2 w1 (.int .i64 0) (.int .i64 0) 44
  rw [e2] at kb
  have t0 := (b2.cell (lt_of_cellq t0)).trans t0
  have t1 := (b2.cell (lt_of_cellq t1)).trans t1
  have b12 := b1.trans (b2.mono b1.size)
  obtain ⟨x0, x1, x2, x3, xE⟩ := hr.below b12
  obtain ⟨y0, y1, y2, y3, yE⟩ := kr.below b12
  have hca : ∀ W, Below w2.heap.size w2 W → Calls Tryz.prog 91 #[.agg #[.slice p1 p.ms.length c1, .slice p2 (p.ms.length + 1) c2], .agg #[.int .i64 h.arb, .int .i64 h.num, .int .i64 h.den, .slice pe h.er.length ce]] W fun e' w' => e' = .returned (.agg #[.int .i64 (shF p h pl).1, .int .i64 (shF p h pl).2]) ∧ Below W.heap.size W w' :=
    fun W hb => c_shows p1 p.ms.length c1 p2 (p.ms.length + 1) c2 p.ms.length h pe ce (endF p pl) W ((h2.below b12).below hb) hln (xE.below hb) hh (by omega) (hand_place hp ht hh)
  have hcb : ∀ W, Below w2.heap.size w2 W → Calls Tryz.prog 91 #[.agg #[.slice p1 p.ms.length c1, .slice p2 (p.ms.length + 1) c2], .agg #[.int .i64 k.arb, .int .i64 k.num, .int .i64 k.den, .slice pf k.er.length cf]] W fun e' w' => e' = .returned (.agg #[.int .i64 (shF p k pl).1, .int .i64 (shF p k pl).2]) ∧ Below W.heap.size W w' :=
    fun W hb => c_shows p1 p.ms.length c1 p2 (p.ms.length + 1) c2 p.ms.length k pf cf (endF p pl) W ((h2.below b12).below hb) hln (yE.below hb) hk (by omega) (hand_place hp ht hk)
  have HCA := Lib.hid hca
  have HCB := Lib.hid hcb
  have s1 := shown_plain hh (hand_place hp ht hh)
  have s2 := shown_plain hk (hand_place hp ht hk)
  rw [shF_eq] at s1 s2
  have hap : apF p h k pl = ((shF p h pl).1 - (shF p k pl).2, (shF p h pl).2 - (shF p k pl).1) := rfl
  obtain ⟨a, ha⟩ : ∃ x, (shF p h pl).1 = x := ⟨_, rfl⟩
  obtain ⟨b, hb⟩ : ∃ x, (shF p h pl).2 = x := ⟨_, rfl⟩
  obtain ⟨c, hc⟩ : ∃ x, (shF p k pl).1 = x := ⟨_, rfl⟩
  obtain ⟨d, hd⟩ : ∃ x, (shF p k pl).2 = x := ⟨_, rfl⟩
  rw [ha, hb] at s1 HCA
  rw [hc, hd] at s2 HCB
  rw [ha, hb, hc, hd] at hap
  have g1 : IntKind.i64.wrap (a - d) = a - d := w64 _ (by omega) (by omega)
  have g2 : IntKind.i64.wrap (b - c) = b - c := w64 _ (by omega) (by omega)
  have HAP := Lib.hid hap
  have HB := Lib.hid b12
  have HKB := Lib.hid kb
  have HZ := Lib.hid (show w.heap.size ≤ w1.heap.size ∧ w1.heap.size < w2.heap.size from ⟨b1.size, by have := HS2.out; omega⟩)
  have HSB := Lib.hid (show ∀ W, Below w2.heap.size w2 W → (fun w' => (w'.cell? ⟨w.heap.size, 0, none⟩ = some (.slice p1 p.ms.length c1) ∧ w'.cell? ⟨w.heap.size, 1, none⟩ = some (.slice p2 (p.ms.length + 1) c2)) ∧ (w'.cell? ⟨pb, 0, none⟩ = some (.int .i64 h.arb) ∧ w'.cell? ⟨pb, 1, none⟩ = some (.int .i64 h.num) ∧ w'.cell? ⟨pb, 2, none⟩ = some (.int .i64 h.den) ∧ w'.cell? ⟨pb, 3, none⟩ = some (.slice pe h.er.length ce)) ∧ w'.cell? ⟨pc, 0, none⟩ = some (.int .i64 k.arb) ∧ w'.cell? ⟨pc, 1, none⟩ = some (.int .i64 k.num) ∧ w'.cell? ⟨pc, 2, none⟩ = some (.int .i64 k.den) ∧ w'.cell? ⟨pc, 3, none⟩ = some (.slice pf k.er.length cf)) W from fun W hb => ⟨⟨(hb.cell (lt_of_cellq t0)).trans t0, (hb.cell (lt_of_cellq t1)).trans t1⟩, ⟨(hb.cell (lt_of_cellq x0)).trans x0, (hb.cell (lt_of_cellq x1)).trans x1, (hb.cell (lt_of_cellq x2)).trans x2, (hb.cell (lt_of_cellq x3)).trans x3⟩, (hb.cell (lt_of_cellq y0)).trans y0, (hb.cell (lt_of_cellq y1)).trans y1, (hb.cell (lt_of_cellq y2)).trans y2, (hb.cell (lt_of_cellq y3)).trans y3⟩)
  clear h2 hr kr xE yE b1 b2 b12 kb hp ht hh hk hln hca hcb s1 s2 hap ha hb hc hd
  rw [HAP.out]
  go_enter Tryz.func92, Tryz.ntmps92
  go_upto_region 1 with (fail)
  clear e1 e2
  refine wp_region_held_drew (S := (fun w' => (w'.cell? ⟨w.heap.size, 0, none⟩ = some (.slice p1 p.ms.length c1) ∧ w'.cell? ⟨w.heap.size, 1, none⟩ = some (.slice p2 (p.ms.length + 1) c2)) ∧ (w'.cell? ⟨pb, 0, none⟩ = some (.int .i64 h.arb) ∧ w'.cell? ⟨pb, 1, none⟩ = some (.int .i64 h.num) ∧ w'.cell? ⟨pb, 2, none⟩ = some (.int .i64 h.den) ∧ w'.cell? ⟨pb, 3, none⟩ = some (.slice pe h.er.length ce)) ∧ w'.cell? ⟨pc, 0, none⟩ = some (.int .i64 k.arb) ∧ w'.cell? ⟨pc, 1, none⟩ = some (.int .i64 k.num) ∧ w'.cell? ⟨pc, 2, none⟩ = some (.int .i64 k.den) ∧ w'.cell? ⟨pc, 3, none⟩ = some (.slice pf k.er.length cf))) (by kernel_rfl) (by (try dsimp only); exact HSB.out _ (Below.refl _ _).drew) (fun hHeld => ?_)
  refine wpAnyH_gen (fun W0 hW0 => ?_)
  have HB0 : Below w2.heap.size w2 W0 := by rw [hW0]; exact (Below.refl _ _).drew
  clear hW0 hHeld
  refine tk 0 rfl (by exact HSB.out _ HB0) ?_
  simp only [Act.put, ptL]
  refine tk 1 rfl (by exact HSB.out _ HB0) ?_
  simp only [Act.put, ptL]
  refine tk 3 rfl (by exact HSB.out _ HB0) ?_
  simp only [Act.put, ptL]
  refine tk 4 rfl (by exact HSB.out _ HB0) ?_
  simp only [Act.put, ptL]
  refine wpAnyH_ready (rs := [2, 6, 7]) (by kernel_rfl) (by simp) ?_
  refine AllReadyH.cons rfl (fun K hK => ?_) (AllReadyH.cons rfl (fun K hK => ?_) (AllReadyH.cons rfl (fun K hK => ?_) AllReadyH.nil))
  · go_simp
    (with_reducible refine (HCA.out _ HB0).mono ?_)
    rintro e W5 ⟨rfl, hbn⟩
    have HB5 : Below w2.heap.size w2 W5 := HB0.trans (hbn.mono HB0.size)
    clear hbn
    go_simp
    refine hK.out _ _ (by (try dsimp only); exact HSB.out _ HB5) (fun hHeld => ?_)
    clear hK K hHeld
    try simp only [Act.put, ptL]
    clear HB0
    refine wpAnyH_ready (rs := [5, 6, 7]) (by kernel_rfl) (by simp) ?_
    refine AllReadyH.cons rfl (fun K hK => ?_) (AllReadyH.cons rfl (fun K hK => ?_) (AllReadyH.cons rfl (fun K hK => ?_) AllReadyH.nil))
    · go_simp
      (with_reducible refine (HCB.out _ HB5).mono ?_)
      rintro e W6 ⟨rfl, hbn⟩
      have HB6 : Below w2.heap.size w2 W6 := HB5.trans (hbn.mono HB5.size)
      clear hbn
      go_simp
      refine hK.out _ _ (by (try dsimp only); exact HSB.out _ HB6) (fun hHeld => ?_)
      clear hK K hHeld
      try simp only [Act.put, ptL]
      clear HB5
      refine wpAnyH_ready (rs := [6, 7]) (by kernel_rfl) (by simp) ?_
      refine AllReadyH.cons rfl (fun K hK => ?_) (AllReadyH.cons rfl (fun K hK => ?_) AllReadyH.nil)
      · go_simp
        refine hK.out _ _ (by (try dsimp only); exact HSB.out _ (HB6.alloc HB6.size _)) (fun hHeld => ?_)
        clear hK K hHeld
        try simp only [Act.put, ptL]
        refine wpAnyH_gen (fun W7 hWn => ?_)
        have HB7 : Below w2.heap.size w2 W7 := by rw [hWn]; exact HB6.alloc HB6.size _
        have hx_u : W7.heap[W6.heap.size]? = some (.cells #[.int .i64 0, .int .i64 0] 44) := by rw [hWn]; exact alloc_new _ _
        have hl_u : w2.heap.size ≤ W6.heap.size := HB6.size
        clear hWn
        obtain ⟨b_u, hb_u⟩ : ∃ b, W6.heap.size = b := ⟨_, rfl⟩
        rw [hb_u] at hx_u hl_u ⊢
        clear HB6 hb_u 
        refine wpAnyH_ready (rs := [7]) (by kernel_rfl) (by simp) ?_
        refine AllReadyH.cons rfl (fun K hK => ?_) AllReadyH.nil
        go_simp
        refine hK.out _ _ (by (try dsimp only); exact HSB.out _ (HB7.alloc HB7.size _)) (fun hHeld => ?_)
        clear hK K hHeld
        try simp only [Act.put, ptL]
        refine wpAnyH_gen (fun W8 hWn => ?_)
        have HB8 : Below w2.heap.size w2 W8 := by rw [hWn]; exact HB7.alloc HB7.size _
        have hlt_u := block_lt hx_u
        have hx_u : W8.heap[b_u]? = some (.cells #[.int .i64 0, .int .i64 0] 44) := by rw [hWn]; exact alloc_old _ _ hx_u
        have hx_v : W8.heap[W7.heap.size]? = some (.cells #[.int .i64 0, .int .i64 0] 44) := by rw [hWn]; exact alloc_new _ _
        have hl_v : w2.heap.size ≤ W7.heap.size := HB7.size
        clear hWn
        obtain ⟨b_v, hb_v⟩ : ∃ b, W7.heap.size = b := ⟨_, rfl⟩
        rw [hb_v] at hx_v hl_v ⊢
        have hn_u_v : b_u ≠ b_v := by have := hlt_u; omega
        clear HB7 hb_v hlt_u
        refine wpAnyH_ready (rs := [8]) (by kernel_rfl) (by simp) ?_
        refine AllReadyH.cons rfl (fun K hK => ?_) AllReadyH.nil
        refine set2K W8 b_u 44 _ _ (.int .i64 a) (.int .i64 b) hx_u (fun wa9 W9 sa sb ca0 fa0 ca1 fa1 hx4 hxk HZs hxb => ?_)
        have HB9 : Below w2.heap.size w2 W9 := hxb w2 w2.heap.size hl_u HB8
        have hx_v := (hxk b_v (by first | exact hn_v_u | exact Ne.symm hn_u_v)).trans hx_v
        have hx_u := hx4
        clear hx4 hxk hxb HZs
        go_simp
        refine hK.out _ _ (by (try dsimp only); exact HSB.out _ HB9) (fun hHeld => ?_)
        clear hK K hHeld
        try simp only [Act.put, ptL]
        clear ca0 fa0 ca1 fa1 sa sb HB8
        refine wpAnyH_ready (rs := [9]) (by kernel_rfl) (by simp) ?_
        refine AllReadyH.cons rfl (fun K hK => ?_) AllReadyH.nil
        refine set2K W9 b_v 44 _ _ (.int .i64 c) (.int .i64 d) hx_v (fun wa10 W10 sa sb ca0 fa0 ca1 fa1 hx4 hxk HZs hxb => ?_)
        have HB10 : Below w2.heap.size w2 W10 := hxb w2 w2.heap.size hl_v HB9
        have hx_u := (hxk b_u (by first | exact hn_u_v | exact Ne.symm hn_v_u)).trans hx_u
        have hx_v := hx4
        clear hx4 hxk hxb HZs
        go_simp
        refine hK.out _ _ (by (try dsimp only); exact HSB.out _ HB10) (fun hHeld => ?_)
        clear hK K hHeld
        try simp only [Act.put, ptL]
        clear ca0 fa0 ca1 fa1 sa sb HB9
        refine wpAnyH_done (by kernel_rfl) ?_ _
        obtain ⟨wz, hwz⟩ : ∃ wz, wz = W10 := ⟨_, rfl⟩
        subst hwz
        have HBZ := HB10
        clear HB10
        obtain ⟨u0, u1⟩ := cells2 hx_u
        obtain ⟨v0, v1⟩ := cells2 hx_v
        have hkz := (HBZ.block _ (block_lt HKB.out)).trans HKB.out
        obtain ⟨w4, w5, s1, s2, ⟨c0', f0⟩, ⟨c1', f1⟩, hx4, hxk, HZ5, hxb⟩ := set2 wz w1.heap.size 44 _ _ (.int .i64 (a - d)) (.int .i64 (b - c)) hkz
        obtain ⟨r0, r1⟩ := cells2 hx4
        have HBB := Lib.hid (hxb w w.heap.size HZ.out.1 (HB.out.trans (HBZ.mono HB.out.size)))
        clear hx4 hxk hxb hkz hx_u hx_v hl_u hl_v HBZ
        go_wp2
        refine bodyPost_ret (v := .agg #[.int .i64 (a - d), .int .i64 (b - c)]) ?_ rfl ⟨rfl, HBB.out⟩
        simp [results, Tryz.results92, go_sem, r0, r1]
      · go_simp
        refine hK.out _ _ (by (try dsimp only); exact HSB.out _ (HB6.alloc HB6.size _)) (fun hHeld => ?_)
        clear hK K hHeld
        try simp only [Act.put, ptL]
        refine wpAnyH_gen (fun W11 hWn => ?_)
        have HB11 : Below w2.heap.size w2 W11 := by rw [hWn]; exact HB6.alloc HB6.size _
        have hx_v : W11.heap[W6.heap.size]? = some (.cells #[.int .i64 0, .int .i64 0] 44) := by rw [hWn]; exact alloc_new _ _
        have hl_v : w2.heap.size ≤ W6.heap.size := HB6.size
        clear hWn
        obtain ⟨b_v, hb_v⟩ : ∃ b, W6.heap.size = b := ⟨_, rfl⟩
        rw [hb_v] at hx_v hl_v ⊢
        clear HB6 hb_v 
        refine wpAnyH_ready (rs := [6]) (by kernel_rfl) (by simp) ?_
        refine AllReadyH.cons rfl (fun K hK => ?_) AllReadyH.nil
        go_simp
        refine hK.out _ _ (by (try dsimp only); exact HSB.out _ (HB11.alloc HB11.size _)) (fun hHeld => ?_)
        clear hK K hHeld
        try simp only [Act.put, ptL]
        refine wpAnyH_gen (fun W12 hWn => ?_)
        have HB12 : Below w2.heap.size w2 W12 := by rw [hWn]; exact HB11.alloc HB11.size _
        have hlt_v := block_lt hx_v
        have hx_v : W12.heap[b_v]? = some (.cells #[.int .i64 0, .int .i64 0] 44) := by rw [hWn]; exact alloc_old _ _ hx_v
        have hx_u : W12.heap[W11.heap.size]? = some (.cells #[.int .i64 0, .int .i64 0] 44) := by rw [hWn]; exact alloc_new _ _
        have hl_u : w2.heap.size ≤ W11.heap.size := HB11.size
        clear hWn
        obtain ⟨b_u, hb_u⟩ : ∃ b, W11.heap.size = b := ⟨_, rfl⟩
        rw [hb_u] at hx_u hl_u ⊢
        have hn_v_u : b_v ≠ b_u := by have := hlt_v; omega
        clear HB11 hb_u hlt_v
        refine wpAnyH_ready (rs := [8]) (by kernel_rfl) (by simp) ?_
        refine AllReadyH.cons rfl (fun K hK => ?_) AllReadyH.nil
        refine set2K W12 b_u 44 _ _ (.int .i64 a) (.int .i64 b) hx_u (fun wa13 W13 sa sb ca0 fa0 ca1 fa1 hx4 hxk HZs hxb => ?_)
        have HB13 : Below w2.heap.size w2 W13 := hxb w2 w2.heap.size hl_u HB12
        have hx_v := (hxk b_v (by first | exact hn_v_u | exact Ne.symm hn_u_v)).trans hx_v
        have hx_u := hx4
        clear hx4 hxk hxb HZs
        go_simp
        refine hK.out _ _ (by (try dsimp only); exact HSB.out _ HB13) (fun hHeld => ?_)
        clear hK K hHeld
        try simp only [Act.put, ptL]
        clear ca0 fa0 ca1 fa1 sa sb HB12
        refine wpAnyH_ready (rs := [9]) (by kernel_rfl) (by simp) ?_
        refine AllReadyH.cons rfl (fun K hK => ?_) AllReadyH.nil
        refine set2K W13 b_v 44 _ _ (.int .i64 c) (.int .i64 d) hx_v (fun wa14 W14 sa sb ca0 fa0 ca1 fa1 hx4 hxk HZs hxb => ?_)
        have HB14 : Below w2.heap.size w2 W14 := hxb w2 w2.heap.size hl_v HB13
        have hx_u := (hxk b_u (by first | exact hn_u_v | exact Ne.symm hn_v_u)).trans hx_u
        have hx_v := hx4
        clear hx4 hxk hxb HZs
        go_simp
        refine hK.out _ _ (by (try dsimp only); exact HSB.out _ HB14) (fun hHeld => ?_)
        clear hK K hHeld
        try simp only [Act.put, ptL]
        clear ca0 fa0 ca1 fa1 sa sb HB13
        refine wpAnyH_done (by kernel_rfl) ?_ _
        obtain ⟨wz, hwz⟩ : ∃ wz, wz = W14 := ⟨_, rfl⟩
        subst hwz
        have HBZ := HB14
        clear HB14
        obtain ⟨u0, u1⟩ := cells2 hx_u
        obtain ⟨v0, v1⟩ := cells2 hx_v
        have hkz := (HBZ.block _ (block_lt HKB.out)).trans HKB.out
        obtain ⟨w4, w5, s1, s2, ⟨c0', f0⟩, ⟨c1', f1⟩, hx4, hxk, HZ5, hxb⟩ := set2 wz w1.heap.size 44 _ _ (.int .i64 (a - d)) (.int .i64 (b - c)) hkz
        obtain ⟨r0, r1⟩ := cells2 hx4
        have HBB := Lib.hid (hxb w w.heap.size HZ.out.1 (HB.out.trans (HBZ.mono HB.out.size)))
        clear hx4 hxk hxb hkz hx_u hx_v hl_u hl_v HBZ
        go_wp2
        refine bodyPost_ret (v := .agg #[.int .i64 (a - d), .int .i64 (b - c)]) ?_ rfl ⟨rfl, HBB.out⟩
        simp [results, Tryz.results92, go_sem, r0, r1]
    · go_simp
      refine hK.out _ _ (by (try dsimp only); exact HSB.out _ (HB5.alloc HB5.size _)) (fun hHeld => ?_)
      clear hK K hHeld
      try simp only [Act.put, ptL]
      refine wpAnyH_gen (fun W15 hWn => ?_)
      have HB15 : Below w2.heap.size w2 W15 := by rw [hWn]; exact HB5.alloc HB5.size _
      have hx_u : W15.heap[W5.heap.size]? = some (.cells #[.int .i64 0, .int .i64 0] 44) := by rw [hWn]; exact alloc_new _ _
      have hl_u : w2.heap.size ≤ W5.heap.size := HB5.size
      clear hWn
      obtain ⟨b_u, hb_u⟩ : ∃ b, W5.heap.size = b := ⟨_, rfl⟩
      rw [hb_u] at hx_u hl_u ⊢
      clear HB5 hb_u 
      refine wpAnyH_ready (rs := [5, 7]) (by kernel_rfl) (by simp) ?_
      refine AllReadyH.cons rfl (fun K hK => ?_) (AllReadyH.cons rfl (fun K hK => ?_) AllReadyH.nil)
      · go_simp
        (with_reducible refine (HCB.out _ HB15).mono ?_)
        rintro e W16 ⟨rfl, hbn⟩
        have HB16 : Below w2.heap.size w2 W16 := HB15.trans (hbn.mono HB15.size)
        have hx_u : W16.heap[b_u]? = some (.cells #[.int .i64 0, .int .i64 0] 44) := (hbn.block _ (block_lt hx_u)).trans hx_u
        clear hbn
        go_simp
        refine hK.out _ _ (by (try dsimp only); exact HSB.out _ HB16) (fun hHeld => ?_)
        clear hK K hHeld
        try simp only [Act.put, ptL]
        clear HB15
        refine wpAnyH_ready (rs := [7]) (by kernel_rfl) (by simp) ?_
        refine AllReadyH.cons rfl (fun K hK => ?_) AllReadyH.nil
        go_simp
        refine hK.out _ _ (by (try dsimp only); exact HSB.out _ (HB16.alloc HB16.size _)) (fun hHeld => ?_)
        clear hK K hHeld
        try simp only [Act.put, ptL]
        refine wpAnyH_gen (fun W17 hWn => ?_)
        have HB17 : Below w2.heap.size w2 W17 := by rw [hWn]; exact HB16.alloc HB16.size _
        have hlt_u := block_lt hx_u
        have hx_u : W17.heap[b_u]? = some (.cells #[.int .i64 0, .int .i64 0] 44) := by rw [hWn]; exact alloc_old _ _ hx_u
        have hx_v : W17.heap[W16.heap.size]? = some (.cells #[.int .i64 0, .int .i64 0] 44) := by rw [hWn]; exact alloc_new _ _
        have hl_v : w2.heap.size ≤ W16.heap.size := HB16.size
        clear hWn
        obtain ⟨b_v, hb_v⟩ : ∃ b, W16.heap.size = b := ⟨_, rfl⟩
        rw [hb_v] at hx_v hl_v ⊢
        have hn_u_v : b_u ≠ b_v := by have := hlt_u; omega
        clear HB16 hb_v hlt_u
        refine wpAnyH_ready (rs := [8]) (by kernel_rfl) (by simp) ?_
        refine AllReadyH.cons rfl (fun K hK => ?_) AllReadyH.nil
        refine set2K W17 b_u 44 _ _ (.int .i64 a) (.int .i64 b) hx_u (fun wa18 W18 sa sb ca0 fa0 ca1 fa1 hx4 hxk HZs hxb => ?_)
        have HB18 : Below w2.heap.size w2 W18 := hxb w2 w2.heap.size hl_u HB17
        have hx_v := (hxk b_v (by first | exact hn_v_u | exact Ne.symm hn_u_v)).trans hx_v
        have hx_u := hx4
        clear hx4 hxk hxb HZs
        go_simp
        refine hK.out _ _ (by (try dsimp only); exact HSB.out _ HB18) (fun hHeld => ?_)
        clear hK K hHeld
        try simp only [Act.put, ptL]
        clear ca0 fa0 ca1 fa1 sa sb HB17
        refine wpAnyH_ready (rs := [9]) (by kernel_rfl) (by simp) ?_
        refine AllReadyH.cons rfl (fun K hK => ?_) AllReadyH.nil
        refine set2K W18 b_v 44 _ _ (.int .i64 c) (.int .i64 d) hx_v (fun wa19 W19 sa sb ca0 fa0 ca1 fa1 hx4 hxk HZs hxb => ?_)
        have HB19 : Below w2.heap.size w2 W19 := hxb w2 w2.heap.size hl_v HB18
        have hx_u := (hxk b_u (by first | exact hn_u_v | exact Ne.symm hn_v_u)).trans hx_u
        have hx_v := hx4
        clear hx4 hxk hxb HZs
        go_simp
        refine hK.out _ _ (by (try dsimp only); exact HSB.out _ HB19) (fun hHeld => ?_)
        clear hK K hHeld
        try simp only [Act.put, ptL]
        clear ca0 fa0 ca1 fa1 sa sb HB18
        refine wpAnyH_done (by kernel_rfl) ?_ _
        obtain ⟨wz, hwz⟩ : ∃ wz, wz = W19 := ⟨_, rfl⟩
        subst hwz
        have HBZ := HB19
        clear HB19
        obtain ⟨u0, u1⟩ := cells2 hx_u
        obtain ⟨v0, v1⟩ := cells2 hx_v
        have hkz := (HBZ.block _ (block_lt HKB.out)).trans HKB.out
        obtain ⟨w4, w5, s1, s2, ⟨c0', f0⟩, ⟨c1', f1⟩, hx4, hxk, HZ5, hxb⟩ := set2 wz w1.heap.size 44 _ _ (.int .i64 (a - d)) (.int .i64 (b - c)) hkz
        obtain ⟨r0, r1⟩ := cells2 hx4
        have HBB := Lib.hid (hxb w w.heap.size HZ.out.1 (HB.out.trans (HBZ.mono HB.out.size)))
        clear hx4 hxk hxb hkz hx_u hx_v hl_u hl_v HBZ
        go_wp2
        refine bodyPost_ret (v := .agg #[.int .i64 (a - d), .int .i64 (b - c)]) ?_ rfl ⟨rfl, HBB.out⟩
        simp [results, Tryz.results92, go_sem, r0, r1]
      · go_simp
        refine hK.out _ _ (by (try dsimp only); exact HSB.out _ (HB15.alloc HB15.size _)) (fun hHeld => ?_)
        clear hK K hHeld
        try simp only [Act.put, ptL]
        refine wpAnyH_gen (fun W20 hWn => ?_)
        have HB20 : Below w2.heap.size w2 W20 := by rw [hWn]; exact HB15.alloc HB15.size _
        have hlt_u := block_lt hx_u
        have hx_u : W20.heap[b_u]? = some (.cells #[.int .i64 0, .int .i64 0] 44) := by rw [hWn]; exact alloc_old _ _ hx_u
        have hx_v : W20.heap[W15.heap.size]? = some (.cells #[.int .i64 0, .int .i64 0] 44) := by rw [hWn]; exact alloc_new _ _
        have hl_v : w2.heap.size ≤ W15.heap.size := HB15.size
        clear hWn
        obtain ⟨b_v, hb_v⟩ : ∃ b, W15.heap.size = b := ⟨_, rfl⟩
        rw [hb_v] at hx_v hl_v ⊢
        have hn_u_v : b_u ≠ b_v := by have := hlt_u; omega
        clear HB15 hb_v hlt_u
        refine wpAnyH_ready (rs := [5]) (by kernel_rfl) (by simp) ?_
        refine AllReadyH.cons rfl (fun K hK => ?_) AllReadyH.nil
        go_simp
        (with_reducible refine (HCB.out _ HB20).mono ?_)
        rintro e W21 ⟨rfl, hbn⟩
        have HB21 : Below w2.heap.size w2 W21 := HB20.trans (hbn.mono HB20.size)
        have hx_u : W21.heap[b_u]? = some (.cells #[.int .i64 0, .int .i64 0] 44) := (hbn.block _ (block_lt hx_u)).trans hx_u
        have hx_v : W21.heap[b_v]? = some (.cells #[.int .i64 0, .int .i64 0] 44) := (hbn.block _ (block_lt hx_v)).trans hx_v
        clear hbn
        go_simp
        refine hK.out _ _ (by (try dsimp only); exact HSB.out _ HB21) (fun hHeld => ?_)
        clear hK K hHeld
        try simp only [Act.put, ptL]
        clear HB20
        refine wpAnyH_ready (rs := [8]) (by kernel_rfl) (by simp) ?_
        refine AllReadyH.cons rfl (fun K hK => ?_) AllReadyH.nil
        refine set2K W21 b_u 44 _ _ (.int .i64 a) (.int .i64 b) hx_u (fun wa22 W22 sa sb ca0 fa0 ca1 fa1 hx4 hxk HZs hxb => ?_)
        have HB22 : Below w2.heap.size w2 W22 := hxb w2 w2.heap.size hl_u HB21
        have hx_v := (hxk b_v (by first | exact hn_v_u | exact Ne.symm hn_u_v)).trans hx_v
        have hx_u := hx4
        clear hx4 hxk hxb HZs
        go_simp
        refine hK.out _ _ (by (try dsimp only); exact HSB.out _ HB22) (fun hHeld => ?_)
        clear hK K hHeld
        try simp only [Act.put, ptL]
        clear ca0 fa0 ca1 fa1 sa sb HB21
        refine wpAnyH_ready (rs := [9]) (by kernel_rfl) (by simp) ?_
        refine AllReadyH.cons rfl (fun K hK => ?_) AllReadyH.nil
        refine set2K W22 b_v 44 _ _ (.int .i64 c) (.int .i64 d) hx_v (fun wa23 W23 sa sb ca0 fa0 ca1 fa1 hx4 hxk HZs hxb => ?_)
        have HB23 : Below w2.heap.size w2 W23 := hxb w2 w2.heap.size hl_v HB22
        have hx_u := (hxk b_u (by first | exact hn_u_v | exact Ne.symm hn_v_u)).trans hx_u
        have hx_v := hx4
        clear hx4 hxk hxb HZs
        go_simp
        refine hK.out _ _ (by (try dsimp only); exact HSB.out _ HB23) (fun hHeld => ?_)
        clear hK K hHeld
        try simp only [Act.put, ptL]
        clear ca0 fa0 ca1 fa1 sa sb HB22
        refine wpAnyH_done (by kernel_rfl) ?_ _
        obtain ⟨wz, hwz⟩ : ∃ wz, wz = W23 := ⟨_, rfl⟩
        subst hwz
        have HBZ := HB23
        clear HB23
        obtain ⟨u0, u1⟩ := cells2 hx_u
        obtain ⟨v0, v1⟩ := cells2 hx_v
        have hkz := (HBZ.block _ (block_lt HKB.out)).trans HKB.out
        obtain ⟨w4, w5, s1, s2, ⟨c0', f0⟩, ⟨c1', f1⟩, hx4, hxk, HZ5, hxb⟩ := set2 wz w1.heap.size 44 _ _ (.int .i64 (a - d)) (.int .i64 (b - c)) hkz
        obtain ⟨r0, r1⟩ := cells2 hx4
        have HBB := Lib.hid (hxb w w.heap.size HZ.out.1 (HB.out.trans (HBZ.mono HB.out.size)))
        clear hx4 hxk hxb hkz hx_u hx_v hl_u hl_v HBZ
        go_wp2
        refine bodyPost_ret (v := .agg #[.int .i64 (a - d), .int .i64 (b - c)]) ?_ rfl ⟨rfl, HBB.out⟩
        simp [results, Tryz.results92, go_sem, r0, r1]
    · go_simp
      refine hK.out _ _ (by (try dsimp only); exact HSB.out _ (HB5.alloc HB5.size _)) (fun hHeld => ?_)
      clear hK K hHeld
      try simp only [Act.put, ptL]
      refine wpAnyH_gen (fun W24 hWn => ?_)
      have HB24 : Below w2.heap.size w2 W24 := by rw [hWn]; exact HB5.alloc HB5.size _
      have hx_v : W24.heap[W5.heap.size]? = some (.cells #[.int .i64 0, .int .i64 0] 44) := by rw [hWn]; exact alloc_new _ _
      have hl_v : w2.heap.size ≤ W5.heap.size := HB5.size
      clear hWn
      obtain ⟨b_v, hb_v⟩ : ∃ b, W5.heap.size = b := ⟨_, rfl⟩
      rw [hb_v] at hx_v hl_v ⊢
      clear HB5 hb_v 
      refine wpAnyH_ready (rs := [5, 6]) (by kernel_rfl) (by simp) ?_
      refine AllReadyH.cons rfl (fun K hK => ?_) (AllReadyH.cons rfl (fun K hK => ?_) AllReadyH.nil)
      · go_simp
        (with_reducible refine (HCB.out _ HB24).mono ?_)
        rintro e W25 ⟨rfl, hbn⟩
        have HB25 : Below w2.heap.size w2 W25 := HB24.trans (hbn.mono HB24.size)
        have hx_v : W25.heap[b_v]? = some (.cells #[.int .i64 0, .int .i64 0] 44) := (hbn.block _ (block_lt hx_v)).trans hx_v
        clear hbn
        go_simp
        refine hK.out _ _ (by (try dsimp only); exact HSB.out _ HB25) (fun hHeld => ?_)
        clear hK K hHeld
        try simp only [Act.put, ptL]
        clear HB24
        refine wpAnyH_ready (rs := [6]) (by kernel_rfl) (by simp) ?_
        refine AllReadyH.cons rfl (fun K hK => ?_) AllReadyH.nil
        go_simp
        refine hK.out _ _ (by (try dsimp only); exact HSB.out _ (HB25.alloc HB25.size _)) (fun hHeld => ?_)
        clear hK K hHeld
        try simp only [Act.put, ptL]
        refine wpAnyH_gen (fun W26 hWn => ?_)
        have HB26 : Below w2.heap.size w2 W26 := by rw [hWn]; exact HB25.alloc HB25.size _
        have hlt_v := block_lt hx_v
        have hx_v : W26.heap[b_v]? = some (.cells #[.int .i64 0, .int .i64 0] 44) := by rw [hWn]; exact alloc_old _ _ hx_v
        have hx_u : W26.heap[W25.heap.size]? = some (.cells #[.int .i64 0, .int .i64 0] 44) := by rw [hWn]; exact alloc_new _ _
        have hl_u : w2.heap.size ≤ W25.heap.size := HB25.size
        clear hWn
        obtain ⟨b_u, hb_u⟩ : ∃ b, W25.heap.size = b := ⟨_, rfl⟩
        rw [hb_u] at hx_u hl_u ⊢
        have hn_v_u : b_v ≠ b_u := by have := hlt_v; omega
        clear HB25 hb_u hlt_v
        refine wpAnyH_ready (rs := [8]) (by kernel_rfl) (by simp) ?_
        refine AllReadyH.cons rfl (fun K hK => ?_) AllReadyH.nil
        refine set2K W26 b_u 44 _ _ (.int .i64 a) (.int .i64 b) hx_u (fun wa27 W27 sa sb ca0 fa0 ca1 fa1 hx4 hxk HZs hxb => ?_)
        have HB27 : Below w2.heap.size w2 W27 := hxb w2 w2.heap.size hl_u HB26
        have hx_v := (hxk b_v (by first | exact hn_v_u | exact Ne.symm hn_u_v)).trans hx_v
        have hx_u := hx4
        clear hx4 hxk hxb HZs
        go_simp
        refine hK.out _ _ (by (try dsimp only); exact HSB.out _ HB27) (fun hHeld => ?_)
        clear hK K hHeld
        try simp only [Act.put, ptL]
        clear ca0 fa0 ca1 fa1 sa sb HB26
        refine wpAnyH_ready (rs := [9]) (by kernel_rfl) (by simp) ?_
        refine AllReadyH.cons rfl (fun K hK => ?_) AllReadyH.nil
        refine set2K W27 b_v 44 _ _ (.int .i64 c) (.int .i64 d) hx_v (fun wa28 W28 sa sb ca0 fa0 ca1 fa1 hx4 hxk HZs hxb => ?_)
        have HB28 : Below w2.heap.size w2 W28 := hxb w2 w2.heap.size hl_v HB27
        have hx_u := (hxk b_u (by first | exact hn_u_v | exact Ne.symm hn_v_u)).trans hx_u
        have hx_v := hx4
        clear hx4 hxk hxb HZs
        go_simp
        refine hK.out _ _ (by (try dsimp only); exact HSB.out _ HB28) (fun hHeld => ?_)
        clear hK K hHeld
        try simp only [Act.put, ptL]
        clear ca0 fa0 ca1 fa1 sa sb HB27
        refine wpAnyH_done (by kernel_rfl) ?_ _
        obtain ⟨wz, hwz⟩ : ∃ wz, wz = W28 := ⟨_, rfl⟩
        subst hwz
        have HBZ := HB28
        clear HB28
        obtain ⟨u0, u1⟩ := cells2 hx_u
        obtain ⟨v0, v1⟩ := cells2 hx_v
        have hkz := (HBZ.block _ (block_lt HKB.out)).trans HKB.out
        obtain ⟨w4, w5, s1, s2, ⟨c0', f0⟩, ⟨c1', f1⟩, hx4, hxk, HZ5, hxb⟩ := set2 wz w1.heap.size 44 _ _ (.int .i64 (a - d)) (.int .i64 (b - c)) hkz
        obtain ⟨r0, r1⟩ := cells2 hx4
        have HBB := Lib.hid (hxb w w.heap.size HZ.out.1 (HB.out.trans (HBZ.mono HB.out.size)))
        clear hx4 hxk hxb hkz hx_u hx_v hl_u hl_v HBZ
        go_wp2
        refine bodyPost_ret (v := .agg #[.int .i64 (a - d), .int .i64 (b - c)]) ?_ rfl ⟨rfl, HBB.out⟩
        simp [results, Tryz.results92, go_sem, r0, r1]
      · go_simp
        refine hK.out _ _ (by (try dsimp only); exact HSB.out _ (HB24.alloc HB24.size _)) (fun hHeld => ?_)
        clear hK K hHeld
        try simp only [Act.put, ptL]
        refine wpAnyH_gen (fun W29 hWn => ?_)
        have HB29 : Below w2.heap.size w2 W29 := by rw [hWn]; exact HB24.alloc HB24.size _
        have hlt_v := block_lt hx_v
        have hx_v : W29.heap[b_v]? = some (.cells #[.int .i64 0, .int .i64 0] 44) := by rw [hWn]; exact alloc_old _ _ hx_v
        have hx_u : W29.heap[W24.heap.size]? = some (.cells #[.int .i64 0, .int .i64 0] 44) := by rw [hWn]; exact alloc_new _ _
        have hl_u : w2.heap.size ≤ W24.heap.size := HB24.size
        clear hWn
        obtain ⟨b_u, hb_u⟩ : ∃ b, W24.heap.size = b := ⟨_, rfl⟩
        rw [hb_u] at hx_u hl_u ⊢
        have hn_v_u : b_v ≠ b_u := by have := hlt_v; omega
        clear HB24 hb_u hlt_v
        refine wpAnyH_ready (rs := [5]) (by kernel_rfl) (by simp) ?_
        refine AllReadyH.cons rfl (fun K hK => ?_) AllReadyH.nil
        go_simp
        (with_reducible refine (HCB.out _ HB29).mono ?_)
        rintro e W30 ⟨rfl, hbn⟩
        have HB30 : Below w2.heap.size w2 W30 := HB29.trans (hbn.mono HB29.size)
        have hx_v : W30.heap[b_v]? = some (.cells #[.int .i64 0, .int .i64 0] 44) := (hbn.block _ (block_lt hx_v)).trans hx_v
        have hx_u : W30.heap[b_u]? = some (.cells #[.int .i64 0, .int .i64 0] 44) := (hbn.block _ (block_lt hx_u)).trans hx_u
        clear hbn
        go_simp
        refine hK.out _ _ (by (try dsimp only); exact HSB.out _ HB30) (fun hHeld => ?_)
        clear hK K hHeld
        try simp only [Act.put, ptL]
        clear HB29
        refine wpAnyH_ready (rs := [8]) (by kernel_rfl) (by simp) ?_
        refine AllReadyH.cons rfl (fun K hK => ?_) AllReadyH.nil
        refine set2K W30 b_u 44 _ _ (.int .i64 a) (.int .i64 b) hx_u (fun wa31 W31 sa sb ca0 fa0 ca1 fa1 hx4 hxk HZs hxb => ?_)
        have HB31 : Below w2.heap.size w2 W31 := hxb w2 w2.heap.size hl_u HB30
        have hx_v := (hxk b_v (by first | exact hn_v_u | exact Ne.symm hn_u_v)).trans hx_v
        have hx_u := hx4
        clear hx4 hxk hxb HZs
        go_simp
        refine hK.out _ _ (by (try dsimp only); exact HSB.out _ HB31) (fun hHeld => ?_)
        clear hK K hHeld
        try simp only [Act.put, ptL]
        clear ca0 fa0 ca1 fa1 sa sb HB30
        refine wpAnyH_ready (rs := [9]) (by kernel_rfl) (by simp) ?_
        refine AllReadyH.cons rfl (fun K hK => ?_) AllReadyH.nil
        refine set2K W31 b_v 44 _ _ (.int .i64 c) (.int .i64 d) hx_v (fun wa32 W32 sa sb ca0 fa0 ca1 fa1 hx4 hxk HZs hxb => ?_)
        have HB32 : Below w2.heap.size w2 W32 := hxb w2 w2.heap.size hl_v HB31
        have hx_u := (hxk b_u (by first | exact hn_u_v | exact Ne.symm hn_v_u)).trans hx_u
        have hx_v := hx4
        clear hx4 hxk hxb HZs
        go_simp
        refine hK.out _ _ (by (try dsimp only); exact HSB.out _ HB32) (fun hHeld => ?_)
        clear hK K hHeld
        try simp only [Act.put, ptL]
        clear ca0 fa0 ca1 fa1 sa sb HB31
        refine wpAnyH_done (by kernel_rfl) ?_ _
        obtain ⟨wz, hwz⟩ : ∃ wz, wz = W32 := ⟨_, rfl⟩
        subst hwz
        have HBZ := HB32
        clear HB32
        obtain ⟨u0, u1⟩ := cells2 hx_u
        obtain ⟨v0, v1⟩ := cells2 hx_v
        have hkz := (HBZ.block _ (block_lt HKB.out)).trans HKB.out
        obtain ⟨w4, w5, s1, s2, ⟨c0', f0⟩, ⟨c1', f1⟩, hx4, hxk, HZ5, hxb⟩ := set2 wz w1.heap.size 44 _ _ (.int .i64 (a - d)) (.int .i64 (b - c)) hkz
        obtain ⟨r0, r1⟩ := cells2 hx4
        have HBB := Lib.hid (hxb w w.heap.size HZ.out.1 (HB.out.trans (HBZ.mono HB.out.size)))
        clear hx4 hxk hxb hkz hx_u hx_v hl_u hl_v HBZ
        go_wp2
        refine bodyPost_ret (v := .agg #[.int .i64 (a - d), .int .i64 (b - c)]) ?_ rfl ⟨rfl, HBB.out⟩
        simp [results, Tryz.results92, go_sem, r0, r1]
  · go_simp
    refine hK.out _ _ (by (try dsimp only); exact HSB.out _ (HB0.alloc HB0.size _)) (fun hHeld => ?_)
    clear hK K hHeld
    try simp only [Act.put, ptL]
    refine wpAnyH_gen (fun W33 hWn => ?_)
    have HB33 : Below w2.heap.size w2 W33 := by rw [hWn]; exact HB0.alloc HB0.size _
    have hx_u : W33.heap[W0.heap.size]? = some (.cells #[.int .i64 0, .int .i64 0] 44) := by rw [hWn]; exact alloc_new _ _
    have hl_u : w2.heap.size ≤ W0.heap.size := HB0.size
    clear hWn
    obtain ⟨b_u, hb_u⟩ : ∃ b, W0.heap.size = b := ⟨_, rfl⟩
    rw [hb_u] at hx_u hl_u ⊢
    clear HB0 hb_u 
    refine wpAnyH_ready (rs := [2, 7]) (by kernel_rfl) (by simp) ?_
    refine AllReadyH.cons rfl (fun K hK => ?_) (AllReadyH.cons rfl (fun K hK => ?_) AllReadyH.nil)
    · go_simp
      (with_reducible refine (HCA.out _ HB33).mono ?_)
      rintro e W34 ⟨rfl, hbn⟩
      have HB34 : Below w2.heap.size w2 W34 := HB33.trans (hbn.mono HB33.size)
      have hx_u : W34.heap[b_u]? = some (.cells #[.int .i64 0, .int .i64 0] 44) := (hbn.block _ (block_lt hx_u)).trans hx_u
      clear hbn
      go_simp
      refine hK.out _ _ (by (try dsimp only); exact HSB.out _ HB34) (fun hHeld => ?_)
      clear hK K hHeld
      try simp only [Act.put, ptL]
      clear HB33
      refine wpAnyH_ready (rs := [5, 7]) (by kernel_rfl) (by simp) ?_
      refine AllReadyH.cons rfl (fun K hK => ?_) (AllReadyH.cons rfl (fun K hK => ?_) AllReadyH.nil)
      · go_simp
        (with_reducible refine (HCB.out _ HB34).mono ?_)
        rintro e W35 ⟨rfl, hbn⟩
        have HB35 : Below w2.heap.size w2 W35 := HB34.trans (hbn.mono HB34.size)
        have hx_u : W35.heap[b_u]? = some (.cells #[.int .i64 0, .int .i64 0] 44) := (hbn.block _ (block_lt hx_u)).trans hx_u
        clear hbn
        go_simp
        refine hK.out _ _ (by (try dsimp only); exact HSB.out _ HB35) (fun hHeld => ?_)
        clear hK K hHeld
        try simp only [Act.put, ptL]
        clear HB34
        refine wpAnyH_ready (rs := [7]) (by kernel_rfl) (by simp) ?_
        refine AllReadyH.cons rfl (fun K hK => ?_) AllReadyH.nil
        go_simp
        refine hK.out _ _ (by (try dsimp only); exact HSB.out _ (HB35.alloc HB35.size _)) (fun hHeld => ?_)
        clear hK K hHeld
        try simp only [Act.put, ptL]
        refine wpAnyH_gen (fun W36 hWn => ?_)
        have HB36 : Below w2.heap.size w2 W36 := by rw [hWn]; exact HB35.alloc HB35.size _
        have hlt_u := block_lt hx_u
        have hx_u : W36.heap[b_u]? = some (.cells #[.int .i64 0, .int .i64 0] 44) := by rw [hWn]; exact alloc_old _ _ hx_u
        have hx_v : W36.heap[W35.heap.size]? = some (.cells #[.int .i64 0, .int .i64 0] 44) := by rw [hWn]; exact alloc_new _ _
        have hl_v : w2.heap.size ≤ W35.heap.size := HB35.size
        clear hWn
        obtain ⟨b_v, hb_v⟩ : ∃ b, W35.heap.size = b := ⟨_, rfl⟩
        rw [hb_v] at hx_v hl_v ⊢
        have hn_u_v : b_u ≠ b_v := by have := hlt_u; omega
        clear HB35 hb_v hlt_u
        refine wpAnyH_ready (rs := [8]) (by kernel_rfl) (by simp) ?_
        refine AllReadyH.cons rfl (fun K hK => ?_) AllReadyH.nil
        refine set2K W36 b_u 44 _ _ (.int .i64 a) (.int .i64 b) hx_u (fun wa37 W37 sa sb ca0 fa0 ca1 fa1 hx4 hxk HZs hxb => ?_)
        have HB37 : Below w2.heap.size w2 W37 := hxb w2 w2.heap.size hl_u HB36
        have hx_v := (hxk b_v (by first | exact hn_v_u | exact Ne.symm hn_u_v)).trans hx_v
        have hx_u := hx4
        clear hx4 hxk hxb HZs
        go_simp
        refine hK.out _ _ (by (try dsimp only); exact HSB.out _ HB37) (fun hHeld => ?_)
        clear hK K hHeld
        try simp only [Act.put, ptL]
        clear ca0 fa0 ca1 fa1 sa sb HB36
        refine wpAnyH_ready (rs := [9]) (by kernel_rfl) (by simp) ?_
        refine AllReadyH.cons rfl (fun K hK => ?_) AllReadyH.nil
        refine set2K W37 b_v 44 _ _ (.int .i64 c) (.int .i64 d) hx_v (fun wa38 W38 sa sb ca0 fa0 ca1 fa1 hx4 hxk HZs hxb => ?_)
        have HB38 : Below w2.heap.size w2 W38 := hxb w2 w2.heap.size hl_v HB37
        have hx_u := (hxk b_u (by first | exact hn_u_v | exact Ne.symm hn_v_u)).trans hx_u
        have hx_v := hx4
        clear hx4 hxk hxb HZs
        go_simp
        refine hK.out _ _ (by (try dsimp only); exact HSB.out _ HB38) (fun hHeld => ?_)
        clear hK K hHeld
        try simp only [Act.put, ptL]
        clear ca0 fa0 ca1 fa1 sa sb HB37
        refine wpAnyH_done (by kernel_rfl) ?_ _
        obtain ⟨wz, hwz⟩ : ∃ wz, wz = W38 := ⟨_, rfl⟩
        subst hwz
        have HBZ := HB38
        clear HB38
        obtain ⟨u0, u1⟩ := cells2 hx_u
        obtain ⟨v0, v1⟩ := cells2 hx_v
        have hkz := (HBZ.block _ (block_lt HKB.out)).trans HKB.out
        obtain ⟨w4, w5, s1, s2, ⟨c0', f0⟩, ⟨c1', f1⟩, hx4, hxk, HZ5, hxb⟩ := set2 wz w1.heap.size 44 _ _ (.int .i64 (a - d)) (.int .i64 (b - c)) hkz
        obtain ⟨r0, r1⟩ := cells2 hx4
        have HBB := Lib.hid (hxb w w.heap.size HZ.out.1 (HB.out.trans (HBZ.mono HB.out.size)))
        clear hx4 hxk hxb hkz hx_u hx_v hl_u hl_v HBZ
        go_wp2
        refine bodyPost_ret (v := .agg #[.int .i64 (a - d), .int .i64 (b - c)]) ?_ rfl ⟨rfl, HBB.out⟩
        simp [results, Tryz.results92, go_sem, r0, r1]
      · go_simp
        refine hK.out _ _ (by (try dsimp only); exact HSB.out _ (HB34.alloc HB34.size _)) (fun hHeld => ?_)
        clear hK K hHeld
        try simp only [Act.put, ptL]
        refine wpAnyH_gen (fun W39 hWn => ?_)
        have HB39 : Below w2.heap.size w2 W39 := by rw [hWn]; exact HB34.alloc HB34.size _
        have hlt_u := block_lt hx_u
        have hx_u : W39.heap[b_u]? = some (.cells #[.int .i64 0, .int .i64 0] 44) := by rw [hWn]; exact alloc_old _ _ hx_u
        have hx_v : W39.heap[W34.heap.size]? = some (.cells #[.int .i64 0, .int .i64 0] 44) := by rw [hWn]; exact alloc_new _ _
        have hl_v : w2.heap.size ≤ W34.heap.size := HB34.size
        clear hWn
        obtain ⟨b_v, hb_v⟩ : ∃ b, W34.heap.size = b := ⟨_, rfl⟩
        rw [hb_v] at hx_v hl_v ⊢
        have hn_u_v : b_u ≠ b_v := by have := hlt_u; omega
        clear HB34 hb_v hlt_u
        refine wpAnyH_ready (rs := [5]) (by kernel_rfl) (by simp) ?_
        refine AllReadyH.cons rfl (fun K hK => ?_) AllReadyH.nil
        go_simp
        (with_reducible refine (HCB.out _ HB39).mono ?_)
        rintro e W40 ⟨rfl, hbn⟩
        have HB40 : Below w2.heap.size w2 W40 := HB39.trans (hbn.mono HB39.size)
        have hx_u : W40.heap[b_u]? = some (.cells #[.int .i64 0, .int .i64 0] 44) := (hbn.block _ (block_lt hx_u)).trans hx_u
        have hx_v : W40.heap[b_v]? = some (.cells #[.int .i64 0, .int .i64 0] 44) := (hbn.block _ (block_lt hx_v)).trans hx_v
        clear hbn
        go_simp
        refine hK.out _ _ (by (try dsimp only); exact HSB.out _ HB40) (fun hHeld => ?_)
        clear hK K hHeld
        try simp only [Act.put, ptL]
        clear HB39
        refine wpAnyH_ready (rs := [8]) (by kernel_rfl) (by simp) ?_
        refine AllReadyH.cons rfl (fun K hK => ?_) AllReadyH.nil
        refine set2K W40 b_u 44 _ _ (.int .i64 a) (.int .i64 b) hx_u (fun wa41 W41 sa sb ca0 fa0 ca1 fa1 hx4 hxk HZs hxb => ?_)
        have HB41 : Below w2.heap.size w2 W41 := hxb w2 w2.heap.size hl_u HB40
        have hx_v := (hxk b_v (by first | exact hn_v_u | exact Ne.symm hn_u_v)).trans hx_v
        have hx_u := hx4
        clear hx4 hxk hxb HZs
        go_simp
        refine hK.out _ _ (by (try dsimp only); exact HSB.out _ HB41) (fun hHeld => ?_)
        clear hK K hHeld
        try simp only [Act.put, ptL]
        clear ca0 fa0 ca1 fa1 sa sb HB40
        refine wpAnyH_ready (rs := [9]) (by kernel_rfl) (by simp) ?_
        refine AllReadyH.cons rfl (fun K hK => ?_) AllReadyH.nil
        refine set2K W41 b_v 44 _ _ (.int .i64 c) (.int .i64 d) hx_v (fun wa42 W42 sa sb ca0 fa0 ca1 fa1 hx4 hxk HZs hxb => ?_)
        have HB42 : Below w2.heap.size w2 W42 := hxb w2 w2.heap.size hl_v HB41
        have hx_u := (hxk b_u (by first | exact hn_u_v | exact Ne.symm hn_v_u)).trans hx_u
        have hx_v := hx4
        clear hx4 hxk hxb HZs
        go_simp
        refine hK.out _ _ (by (try dsimp only); exact HSB.out _ HB42) (fun hHeld => ?_)
        clear hK K hHeld
        try simp only [Act.put, ptL]
        clear ca0 fa0 ca1 fa1 sa sb HB41
        refine wpAnyH_done (by kernel_rfl) ?_ _
        obtain ⟨wz, hwz⟩ : ∃ wz, wz = W42 := ⟨_, rfl⟩
        subst hwz
        have HBZ := HB42
        clear HB42
        obtain ⟨u0, u1⟩ := cells2 hx_u
        obtain ⟨v0, v1⟩ := cells2 hx_v
        have hkz := (HBZ.block _ (block_lt HKB.out)).trans HKB.out
        obtain ⟨w4, w5, s1, s2, ⟨c0', f0⟩, ⟨c1', f1⟩, hx4, hxk, HZ5, hxb⟩ := set2 wz w1.heap.size 44 _ _ (.int .i64 (a - d)) (.int .i64 (b - c)) hkz
        obtain ⟨r0, r1⟩ := cells2 hx4
        have HBB := Lib.hid (hxb w w.heap.size HZ.out.1 (HB.out.trans (HBZ.mono HB.out.size)))
        clear hx4 hxk hxb hkz hx_u hx_v hl_u hl_v HBZ
        go_wp2
        refine bodyPost_ret (v := .agg #[.int .i64 (a - d), .int .i64 (b - c)]) ?_ rfl ⟨rfl, HBB.out⟩
        simp [results, Tryz.results92, go_sem, r0, r1]
    · go_simp
      refine hK.out _ _ (by (try dsimp only); exact HSB.out _ (HB33.alloc HB33.size _)) (fun hHeld => ?_)
      clear hK K hHeld
      try simp only [Act.put, ptL]
      refine wpAnyH_gen (fun W43 hWn => ?_)
      have HB43 : Below w2.heap.size w2 W43 := by rw [hWn]; exact HB33.alloc HB33.size _
      have hlt_u := block_lt hx_u
      have hx_u : W43.heap[b_u]? = some (.cells #[.int .i64 0, .int .i64 0] 44) := by rw [hWn]; exact alloc_old _ _ hx_u
      have hx_v : W43.heap[W33.heap.size]? = some (.cells #[.int .i64 0, .int .i64 0] 44) := by rw [hWn]; exact alloc_new _ _
      have hl_v : w2.heap.size ≤ W33.heap.size := HB33.size
      clear hWn
      obtain ⟨b_v, hb_v⟩ : ∃ b, W33.heap.size = b := ⟨_, rfl⟩
      rw [hb_v] at hx_v hl_v ⊢
      have hn_u_v : b_u ≠ b_v := by have := hlt_u; omega
      clear HB33 hb_v hlt_u
      refine wpAnyH_ready (rs := [2]) (by kernel_rfl) (by simp) ?_
      refine AllReadyH.cons rfl (fun K hK => ?_) AllReadyH.nil
      go_simp
      (with_reducible refine (HCA.out _ HB43).mono ?_)
      rintro e W44 ⟨rfl, hbn⟩
      have HB44 : Below w2.heap.size w2 W44 := HB43.trans (hbn.mono HB43.size)
      have hx_u : W44.heap[b_u]? = some (.cells #[.int .i64 0, .int .i64 0] 44) := (hbn.block _ (block_lt hx_u)).trans hx_u
      have hx_v : W44.heap[b_v]? = some (.cells #[.int .i64 0, .int .i64 0] 44) := (hbn.block _ (block_lt hx_v)).trans hx_v
      clear hbn
      go_simp
      refine hK.out _ _ (by (try dsimp only); exact HSB.out _ HB44) (fun hHeld => ?_)
      clear hK K hHeld
      try simp only [Act.put, ptL]
      clear HB43
      refine wpAnyH_ready (rs := [5]) (by kernel_rfl) (by simp) ?_
      refine AllReadyH.cons rfl (fun K hK => ?_) AllReadyH.nil
      go_simp
      (with_reducible refine (HCB.out _ HB44).mono ?_)
      rintro e W45 ⟨rfl, hbn⟩
      have HB45 : Below w2.heap.size w2 W45 := HB44.trans (hbn.mono HB44.size)
      have hx_u : W45.heap[b_u]? = some (.cells #[.int .i64 0, .int .i64 0] 44) := (hbn.block _ (block_lt hx_u)).trans hx_u
      have hx_v : W45.heap[b_v]? = some (.cells #[.int .i64 0, .int .i64 0] 44) := (hbn.block _ (block_lt hx_v)).trans hx_v
      clear hbn
      go_simp
      refine hK.out _ _ (by (try dsimp only); exact HSB.out _ HB45) (fun hHeld => ?_)
      clear hK K hHeld
      try simp only [Act.put, ptL]
      clear HB44
      refine wpAnyH_ready (rs := [8]) (by kernel_rfl) (by simp) ?_
      refine AllReadyH.cons rfl (fun K hK => ?_) AllReadyH.nil
      refine set2K W45 b_u 44 _ _ (.int .i64 a) (.int .i64 b) hx_u (fun wa46 W46 sa sb ca0 fa0 ca1 fa1 hx4 hxk HZs hxb => ?_)
      have HB46 : Below w2.heap.size w2 W46 := hxb w2 w2.heap.size hl_u HB45
      have hx_v := (hxk b_v (by first | exact hn_v_u | exact Ne.symm hn_u_v)).trans hx_v
      have hx_u := hx4
      clear hx4 hxk hxb HZs
      go_simp
      refine hK.out _ _ (by (try dsimp only); exact HSB.out _ HB46) (fun hHeld => ?_)
      clear hK K hHeld
      try simp only [Act.put, ptL]
      clear ca0 fa0 ca1 fa1 sa sb HB45
      refine wpAnyH_ready (rs := [9]) (by kernel_rfl) (by simp) ?_
      refine AllReadyH.cons rfl (fun K hK => ?_) AllReadyH.nil
      refine set2K W46 b_v 44 _ _ (.int .i64 c) (.int .i64 d) hx_v (fun wa47 W47 sa sb ca0 fa0 ca1 fa1 hx4 hxk HZs hxb => ?_)
      have HB47 : Below w2.heap.size w2 W47 := hxb w2 w2.heap.size hl_v HB46
      have hx_u := (hxk b_u (by first | exact hn_u_v | exact Ne.symm hn_v_u)).trans hx_u
      have hx_v := hx4
      clear hx4 hxk hxb HZs
      go_simp
      refine hK.out _ _ (by (try dsimp only); exact HSB.out _ HB47) (fun hHeld => ?_)
      clear hK K hHeld
      try simp only [Act.put, ptL]
      clear ca0 fa0 ca1 fa1 sa sb HB46
      refine wpAnyH_done (by kernel_rfl) ?_ _
      obtain ⟨wz, hwz⟩ : ∃ wz, wz = W47 := ⟨_, rfl⟩
      subst hwz
      have HBZ := HB47
      clear HB47
      obtain ⟨u0, u1⟩ := cells2 hx_u
      obtain ⟨v0, v1⟩ := cells2 hx_v
      have hkz := (HBZ.block _ (block_lt HKB.out)).trans HKB.out
      obtain ⟨w4, w5, s1, s2, ⟨c0', f0⟩, ⟨c1', f1⟩, hx4, hxk, HZ5, hxb⟩ := set2 wz w1.heap.size 44 _ _ (.int .i64 (a - d)) (.int .i64 (b - c)) hkz
      obtain ⟨r0, r1⟩ := cells2 hx4
      have HBB := Lib.hid (hxb w w.heap.size HZ.out.1 (HB.out.trans (HBZ.mono HB.out.size)))
      clear hx4 hxk hxb hkz hx_u hx_v hl_u hl_v HBZ
      go_wp2
      refine bodyPost_ret (v := .agg #[.int .i64 (a - d), .int .i64 (b - c)]) ?_ rfl ⟨rfl, HBB.out⟩
      simp [results, Tryz.results92, go_sem, r0, r1]
  · go_simp
    refine hK.out _ _ (by (try dsimp only); exact HSB.out _ (HB0.alloc HB0.size _)) (fun hHeld => ?_)
    clear hK K hHeld
    try simp only [Act.put, ptL]
    refine wpAnyH_gen (fun W48 hWn => ?_)
    have HB48 : Below w2.heap.size w2 W48 := by rw [hWn]; exact HB0.alloc HB0.size _
    have hx_v : W48.heap[W0.heap.size]? = some (.cells #[.int .i64 0, .int .i64 0] 44) := by rw [hWn]; exact alloc_new _ _
    have hl_v : w2.heap.size ≤ W0.heap.size := HB0.size
    clear hWn
    obtain ⟨b_v, hb_v⟩ : ∃ b, W0.heap.size = b := ⟨_, rfl⟩
    rw [hb_v] at hx_v hl_v ⊢
    clear HB0 hb_v 
    refine wpAnyH_ready (rs := [2, 6]) (by kernel_rfl) (by simp) ?_
    refine AllReadyH.cons rfl (fun K hK => ?_) (AllReadyH.cons rfl (fun K hK => ?_) AllReadyH.nil)
    · go_simp
      (with_reducible refine (HCA.out _ HB48).mono ?_)
      rintro e W49 ⟨rfl, hbn⟩
      have HB49 : Below w2.heap.size w2 W49 := HB48.trans (hbn.mono HB48.size)
      have hx_v : W49.heap[b_v]? = some (.cells #[.int .i64 0, .int .i64 0] 44) := (hbn.block _ (block_lt hx_v)).trans hx_v
      clear hbn
      go_simp
      refine hK.out _ _ (by (try dsimp only); exact HSB.out _ HB49) (fun hHeld => ?_)
      clear hK K hHeld
      try simp only [Act.put, ptL]
      clear HB48
      refine wpAnyH_ready (rs := [5, 6]) (by kernel_rfl) (by simp) ?_
      refine AllReadyH.cons rfl (fun K hK => ?_) (AllReadyH.cons rfl (fun K hK => ?_) AllReadyH.nil)
      · go_simp
        (with_reducible refine (HCB.out _ HB49).mono ?_)
        rintro e W50 ⟨rfl, hbn⟩
        have HB50 : Below w2.heap.size w2 W50 := HB49.trans (hbn.mono HB49.size)
        have hx_v : W50.heap[b_v]? = some (.cells #[.int .i64 0, .int .i64 0] 44) := (hbn.block _ (block_lt hx_v)).trans hx_v
        clear hbn
        go_simp
        refine hK.out _ _ (by (try dsimp only); exact HSB.out _ HB50) (fun hHeld => ?_)
        clear hK K hHeld
        try simp only [Act.put, ptL]
        clear HB49
        refine wpAnyH_ready (rs := [6]) (by kernel_rfl) (by simp) ?_
        refine AllReadyH.cons rfl (fun K hK => ?_) AllReadyH.nil
        go_simp
        refine hK.out _ _ (by (try dsimp only); exact HSB.out _ (HB50.alloc HB50.size _)) (fun hHeld => ?_)
        clear hK K hHeld
        try simp only [Act.put, ptL]
        refine wpAnyH_gen (fun W51 hWn => ?_)
        have HB51 : Below w2.heap.size w2 W51 := by rw [hWn]; exact HB50.alloc HB50.size _
        have hlt_v := block_lt hx_v
        have hx_v : W51.heap[b_v]? = some (.cells #[.int .i64 0, .int .i64 0] 44) := by rw [hWn]; exact alloc_old _ _ hx_v
        have hx_u : W51.heap[W50.heap.size]? = some (.cells #[.int .i64 0, .int .i64 0] 44) := by rw [hWn]; exact alloc_new _ _
        have hl_u : w2.heap.size ≤ W50.heap.size := HB50.size
        clear hWn
        obtain ⟨b_u, hb_u⟩ : ∃ b, W50.heap.size = b := ⟨_, rfl⟩
        rw [hb_u] at hx_u hl_u ⊢
        have hn_v_u : b_v ≠ b_u := by have := hlt_v; omega
        clear HB50 hb_u hlt_v
        refine wpAnyH_ready (rs := [8]) (by kernel_rfl) (by simp) ?_
        refine AllReadyH.cons rfl (fun K hK => ?_) AllReadyH.nil
        refine set2K W51 b_u 44 _ _ (.int .i64 a) (.int .i64 b) hx_u (fun wa52 W52 sa sb ca0 fa0 ca1 fa1 hx4 hxk HZs hxb => ?_)
        have HB52 : Below w2.heap.size w2 W52 := hxb w2 w2.heap.size hl_u HB51
        have hx_v := (hxk b_v (by first | exact hn_v_u | exact Ne.symm hn_u_v)).trans hx_v
        have hx_u := hx4
        clear hx4 hxk hxb HZs
        go_simp
        refine hK.out _ _ (by (try dsimp only); exact HSB.out _ HB52) (fun hHeld => ?_)
        clear hK K hHeld
        try simp only [Act.put, ptL]
        clear ca0 fa0 ca1 fa1 sa sb HB51
        refine wpAnyH_ready (rs := [9]) (by kernel_rfl) (by simp) ?_
        refine AllReadyH.cons rfl (fun K hK => ?_) AllReadyH.nil
        refine set2K W52 b_v 44 _ _ (.int .i64 c) (.int .i64 d) hx_v (fun wa53 W53 sa sb ca0 fa0 ca1 fa1 hx4 hxk HZs hxb => ?_)
        have HB53 : Below w2.heap.size w2 W53 := hxb w2 w2.heap.size hl_v HB52
        have hx_u := (hxk b_u (by first | exact hn_u_v | exact Ne.symm hn_v_u)).trans hx_u
        have hx_v := hx4
        clear hx4 hxk hxb HZs
        go_simp
        refine hK.out _ _ (by (try dsimp only); exact HSB.out _ HB53) (fun hHeld => ?_)
        clear hK K hHeld
        try simp only [Act.put, ptL]
        clear ca0 fa0 ca1 fa1 sa sb HB52
        refine wpAnyH_done (by kernel_rfl) ?_ _
        obtain ⟨wz, hwz⟩ : ∃ wz, wz = W53 := ⟨_, rfl⟩
        subst hwz
        have HBZ := HB53
        clear HB53
        obtain ⟨u0, u1⟩ := cells2 hx_u
        obtain ⟨v0, v1⟩ := cells2 hx_v
        have hkz := (HBZ.block _ (block_lt HKB.out)).trans HKB.out
        obtain ⟨w4, w5, s1, s2, ⟨c0', f0⟩, ⟨c1', f1⟩, hx4, hxk, HZ5, hxb⟩ := set2 wz w1.heap.size 44 _ _ (.int .i64 (a - d)) (.int .i64 (b - c)) hkz
        obtain ⟨r0, r1⟩ := cells2 hx4
        have HBB := Lib.hid (hxb w w.heap.size HZ.out.1 (HB.out.trans (HBZ.mono HB.out.size)))
        clear hx4 hxk hxb hkz hx_u hx_v hl_u hl_v HBZ
        go_wp2
        refine bodyPost_ret (v := .agg #[.int .i64 (a - d), .int .i64 (b - c)]) ?_ rfl ⟨rfl, HBB.out⟩
        simp [results, Tryz.results92, go_sem, r0, r1]
      · go_simp
        refine hK.out _ _ (by (try dsimp only); exact HSB.out _ (HB49.alloc HB49.size _)) (fun hHeld => ?_)
        clear hK K hHeld
        try simp only [Act.put, ptL]
        refine wpAnyH_gen (fun W54 hWn => ?_)
        have HB54 : Below w2.heap.size w2 W54 := by rw [hWn]; exact HB49.alloc HB49.size _
        have hlt_v := block_lt hx_v
        have hx_v : W54.heap[b_v]? = some (.cells #[.int .i64 0, .int .i64 0] 44) := by rw [hWn]; exact alloc_old _ _ hx_v
        have hx_u : W54.heap[W49.heap.size]? = some (.cells #[.int .i64 0, .int .i64 0] 44) := by rw [hWn]; exact alloc_new _ _
        have hl_u : w2.heap.size ≤ W49.heap.size := HB49.size
        clear hWn
        obtain ⟨b_u, hb_u⟩ : ∃ b, W49.heap.size = b := ⟨_, rfl⟩
        rw [hb_u] at hx_u hl_u ⊢
        have hn_v_u : b_v ≠ b_u := by have := hlt_v; omega
        clear HB49 hb_u hlt_v
        refine wpAnyH_ready (rs := [5]) (by kernel_rfl) (by simp) ?_
        refine AllReadyH.cons rfl (fun K hK => ?_) AllReadyH.nil
        go_simp
        (with_reducible refine (HCB.out _ HB54).mono ?_)
        rintro e W55 ⟨rfl, hbn⟩
        have HB55 : Below w2.heap.size w2 W55 := HB54.trans (hbn.mono HB54.size)
        have hx_v : W55.heap[b_v]? = some (.cells #[.int .i64 0, .int .i64 0] 44) := (hbn.block _ (block_lt hx_v)).trans hx_v
        have hx_u : W55.heap[b_u]? = some (.cells #[.int .i64 0, .int .i64 0] 44) := (hbn.block _ (block_lt hx_u)).trans hx_u
        clear hbn
        go_simp
        refine hK.out _ _ (by (try dsimp only); exact HSB.out _ HB55) (fun hHeld => ?_)
        clear hK K hHeld
        try simp only [Act.put, ptL]
        clear HB54
        refine wpAnyH_ready (rs := [8]) (by kernel_rfl) (by simp) ?_
        refine AllReadyH.cons rfl (fun K hK => ?_) AllReadyH.nil
        refine set2K W55 b_u 44 _ _ (.int .i64 a) (.int .i64 b) hx_u (fun wa56 W56 sa sb ca0 fa0 ca1 fa1 hx4 hxk HZs hxb => ?_)
        have HB56 : Below w2.heap.size w2 W56 := hxb w2 w2.heap.size hl_u HB55
        have hx_v := (hxk b_v (by first | exact hn_v_u | exact Ne.symm hn_u_v)).trans hx_v
        have hx_u := hx4
        clear hx4 hxk hxb HZs
        go_simp
        refine hK.out _ _ (by (try dsimp only); exact HSB.out _ HB56) (fun hHeld => ?_)
        clear hK K hHeld
        try simp only [Act.put, ptL]
        clear ca0 fa0 ca1 fa1 sa sb HB55
        refine wpAnyH_ready (rs := [9]) (by kernel_rfl) (by simp) ?_
        refine AllReadyH.cons rfl (fun K hK => ?_) AllReadyH.nil
        refine set2K W56 b_v 44 _ _ (.int .i64 c) (.int .i64 d) hx_v (fun wa57 W57 sa sb ca0 fa0 ca1 fa1 hx4 hxk HZs hxb => ?_)
        have HB57 : Below w2.heap.size w2 W57 := hxb w2 w2.heap.size hl_v HB56
        have hx_u := (hxk b_u (by first | exact hn_u_v | exact Ne.symm hn_v_u)).trans hx_u
        have hx_v := hx4
        clear hx4 hxk hxb HZs
        go_simp
        refine hK.out _ _ (by (try dsimp only); exact HSB.out _ HB57) (fun hHeld => ?_)
        clear hK K hHeld
        try simp only [Act.put, ptL]
        clear ca0 fa0 ca1 fa1 sa sb HB56
        refine wpAnyH_done (by kernel_rfl) ?_ _
        obtain ⟨wz, hwz⟩ : ∃ wz, wz = W57 := ⟨_, rfl⟩
        subst hwz
        have HBZ := HB57
        clear HB57
        obtain ⟨u0, u1⟩ := cells2 hx_u
        obtain ⟨v0, v1⟩ := cells2 hx_v
        have hkz := (HBZ.block _ (block_lt HKB.out)).trans HKB.out
        obtain ⟨w4, w5, s1, s2, ⟨c0', f0⟩, ⟨c1', f1⟩, hx4, hxk, HZ5, hxb⟩ := set2 wz w1.heap.size 44 _ _ (.int .i64 (a - d)) (.int .i64 (b - c)) hkz
        obtain ⟨r0, r1⟩ := cells2 hx4
        have HBB := Lib.hid (hxb w w.heap.size HZ.out.1 (HB.out.trans (HBZ.mono HB.out.size)))
        clear hx4 hxk hxb hkz hx_u hx_v hl_u hl_v HBZ
        go_wp2
        refine bodyPost_ret (v := .agg #[.int .i64 (a - d), .int .i64 (b - c)]) ?_ rfl ⟨rfl, HBB.out⟩
        simp [results, Tryz.results92, go_sem, r0, r1]
    · go_simp
      refine hK.out _ _ (by (try dsimp only); exact HSB.out _ (HB48.alloc HB48.size _)) (fun hHeld => ?_)
      clear hK K hHeld
      try simp only [Act.put, ptL]
      refine wpAnyH_gen (fun W58 hWn => ?_)
      have HB58 : Below w2.heap.size w2 W58 := by rw [hWn]; exact HB48.alloc HB48.size _
      have hlt_v := block_lt hx_v
      have hx_v : W58.heap[b_v]? = some (.cells #[.int .i64 0, .int .i64 0] 44) := by rw [hWn]; exact alloc_old _ _ hx_v
      have hx_u : W58.heap[W48.heap.size]? = some (.cells #[.int .i64 0, .int .i64 0] 44) := by rw [hWn]; exact alloc_new _ _
      have hl_u : w2.heap.size ≤ W48.heap.size := HB48.size
      clear hWn
      obtain ⟨b_u, hb_u⟩ : ∃ b, W48.heap.size = b := ⟨_, rfl⟩
      rw [hb_u] at hx_u hl_u ⊢
      have hn_v_u : b_v ≠ b_u := by have := hlt_v; omega
      clear HB48 hb_u hlt_v
      refine wpAnyH_ready (rs := [2]) (by kernel_rfl) (by simp) ?_
      refine AllReadyH.cons rfl (fun K hK => ?_) AllReadyH.nil
      go_simp
      (with_reducible refine (HCA.out _ HB58).mono ?_)
      rintro e W59 ⟨rfl, hbn⟩
      have HB59 : Below w2.heap.size w2 W59 := HB58.trans (hbn.mono HB58.size)
      have hx_v : W59.heap[b_v]? = some (.cells #[.int .i64 0, .int .i64 0] 44) := (hbn.block _ (block_lt hx_v)).trans hx_v
      have hx_u : W59.heap[b_u]? = some (.cells #[.int .i64 0, .int .i64 0] 44) := (hbn.block _ (block_lt hx_u)).trans hx_u
      clear hbn
      go_simp
      refine hK.out _ _ (by (try dsimp only); exact HSB.out _ HB59) (fun hHeld => ?_)
      clear hK K hHeld
      try simp only [Act.put, ptL]
      clear HB58
      refine wpAnyH_ready (rs := [5]) (by kernel_rfl) (by simp) ?_
      refine AllReadyH.cons rfl (fun K hK => ?_) AllReadyH.nil
      go_simp
      (with_reducible refine (HCB.out _ HB59).mono ?_)
      rintro e W60 ⟨rfl, hbn⟩
      have HB60 : Below w2.heap.size w2 W60 := HB59.trans (hbn.mono HB59.size)
      have hx_v : W60.heap[b_v]? = some (.cells #[.int .i64 0, .int .i64 0] 44) := (hbn.block _ (block_lt hx_v)).trans hx_v
      have hx_u : W60.heap[b_u]? = some (.cells #[.int .i64 0, .int .i64 0] 44) := (hbn.block _ (block_lt hx_u)).trans hx_u
      clear hbn
      go_simp
      refine hK.out _ _ (by (try dsimp only); exact HSB.out _ HB60) (fun hHeld => ?_)
      clear hK K hHeld
      try simp only [Act.put, ptL]
      clear HB59
      refine wpAnyH_ready (rs := [8]) (by kernel_rfl) (by simp) ?_
      refine AllReadyH.cons rfl (fun K hK => ?_) AllReadyH.nil
      refine set2K W60 b_u 44 _ _ (.int .i64 a) (.int .i64 b) hx_u (fun wa61 W61 sa sb ca0 fa0 ca1 fa1 hx4 hxk HZs hxb => ?_)
      have HB61 : Below w2.heap.size w2 W61 := hxb w2 w2.heap.size hl_u HB60
      have hx_v := (hxk b_v (by first | exact hn_v_u | exact Ne.symm hn_u_v)).trans hx_v
      have hx_u := hx4
      clear hx4 hxk hxb HZs
      go_simp
      refine hK.out _ _ (by (try dsimp only); exact HSB.out _ HB61) (fun hHeld => ?_)
      clear hK K hHeld
      try simp only [Act.put, ptL]
      clear ca0 fa0 ca1 fa1 sa sb HB60
      refine wpAnyH_ready (rs := [9]) (by kernel_rfl) (by simp) ?_
      refine AllReadyH.cons rfl (fun K hK => ?_) AllReadyH.nil
      refine set2K W61 b_v 44 _ _ (.int .i64 c) (.int .i64 d) hx_v (fun wa62 W62 sa sb ca0 fa0 ca1 fa1 hx4 hxk HZs hxb => ?_)
      have HB62 : Below w2.heap.size w2 W62 := hxb w2 w2.heap.size hl_v HB61
      have hx_u := (hxk b_u (by first | exact hn_u_v | exact Ne.symm hn_v_u)).trans hx_u
      have hx_v := hx4
      clear hx4 hxk hxb HZs
      go_simp
      refine hK.out _ _ (by (try dsimp only); exact HSB.out _ HB62) (fun hHeld => ?_)
      clear hK K hHeld
      try simp only [Act.put, ptL]
      clear ca0 fa0 ca1 fa1 sa sb HB61
      refine wpAnyH_done (by kernel_rfl) ?_ _
      obtain ⟨wz, hwz⟩ : ∃ wz, wz = W62 := ⟨_, rfl⟩
      subst hwz
      have HBZ := HB62
      clear HB62
      obtain ⟨u0, u1⟩ := cells2 hx_u
      obtain ⟨v0, v1⟩ := cells2 hx_v
      have hkz := (HBZ.block _ (block_lt HKB.out)).trans HKB.out
      obtain ⟨w4, w5, s1, s2, ⟨c0', f0⟩, ⟨c1', f1⟩, hx4, hxk, HZ5, hxb⟩ := set2 wz w1.heap.size 44 _ _ (.int .i64 (a - d)) (.int .i64 (b - c)) hkz
      obtain ⟨r0, r1⟩ := cells2 hx4
      have HBB := Lib.hid (hxb w w.heap.size HZ.out.1 (HB.out.trans (HBZ.mono HB.out.size)))
      clear hx4 hxk hxb hkz hx_u hx_v hl_u hl_v HBZ
      go_wp2
      refine bodyPost_ret (v := .agg #[.int .i64 (a - d), .int .i64 (b - c)]) ?_ rfl ⟨rfl, HBB.out⟩
      simp [results, Tryz.results92, go_sem, r0, r1]
end Go.Proofs.YtlednchfifphgaaGreatDoor
end
