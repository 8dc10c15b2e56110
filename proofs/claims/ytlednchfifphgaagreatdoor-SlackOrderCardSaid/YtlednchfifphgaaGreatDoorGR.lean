/-
  Apart: contract, all arguments (printed by slkask.py)
-/
import Derived.Test.YtlednchfifphgaaGreatDoorGH
import Derived.Test.YtlednchfifphgaaGreatDoorGQ
section
namespace Go.Proofs.YtlednchfifphgaaGreatDoor
set_option linter.unusedSimpArgs false
open Go Go.RowKit Go.Proofs
set_option linter.unusedVariables false
attribute [local go_sem] imax2 imin2

set_option maxHeartbeats 6400000 in
set_option maxRecDepth 100000 in
theorem c_Apart (pm pv pr : Option Addr) (cm cv cr : Nat) (p : Pc) (h k : Hd) (pe pf : Option Addr) (ce cf : Nat) (w : World) (hp : RdP w pm pv pr p) (hl : LenOk p) (hh : RdS w pe h.er) (hle : h.er.length ≤ 1000000) (hk : RdS w pf k.er) (hlk : k.er.length ≤ 1000000) :
    Calls Tryz.prog 55 #[.agg #[.slice pm p.ms.length cm, .slice pv p.mv.length cv, .slice pr p.rs.length cr], hdV h pe ce, hdV k pf cf] w (SpanPost p (handB p.ms.length h && handB p.ms.length k) (apartF p h k) w) := by
  have hc := fun w hh => c_isHand pm pv pr cm cv cr p h pe ce w hh hle
  have hd := fun w hk => c_isHand pm pv pr cm cv cr p k pf cf w hk hlk
  unfold hdV at hc hd ⊢
  obtain ⟨w1, e1, HS1, k0, k1, k2, b1⟩ := box3 w (.slice pm p.ms.length cm) (.slice pv p.mv.length cv) (.slice pr p.rs.length cr) 26
  obtain ⟨w2, e2, HS2, q0, q1, q2, q3, b2⟩ := box4 w1 (.int .i64 h.arb) (.int .i64 h.num) (.int .i64 h.den) (.slice pe h.er.length ce) 85
  obtain ⟨w3, e3, HS3, y0, y1, y2, y3, b3⟩ := box4 w2 (.int .i64 k.arb) (.int .i64 k.num) (.int .i64 k.den) (.slice pf k.er.length cf) 85
  have kr := alloc_new w3 (.cells #[.int .i64 0, .int .i64 0] 44)
  obtain ⟨w4, e4, HS4, _, _, b4⟩ := box2 w3 (.int .i64 0) (.int .i64 0) 44
  rw [e4] at kr
  have b34 := b3.trans (b4.mono b3.size)
  have b24 := b2.trans (b34.mono b2.size)
  have b14 := b1.trans (b24.mono b1.size)
  have k0 := (b24.cell (lt_of_cellq k0)).trans k0
  have k1 := (b24.cell (lt_of_cellq k1)).trans k1
  have k2 := (b24.cell (lt_of_cellq k2)).trans k2
  have q0 := (b34.cell (lt_of_cellq q0)).trans q0
  have q1 := (b34.cell (lt_of_cellq q1)).trans q1
  have q2 := (b34.cell (lt_of_cellq q2)).trans q2
  have q3 := (b34.cell (lt_of_cellq q3)).trans q3
  have y0 := (b4.cell (lt_of_cellq y0)).trans y0
  have y1 := (b4.cell (lt_of_cellq y1)).trans y1
  have y2 := (b4.cell (lt_of_cellq y2)).trans y2
  have y3 := (b4.cell (lt_of_cellq y3)).trans y3
  have HPW := Lib.hid (fun (W : World) (hb : Below w4.heap.size w4 W) => (hp.below b14).below hb)
  have HEW := Lib.hid (fun (W : World) (hb : Below w4.heap.size w4 W) => (hh.below b14).below hb)
  have HFW := Lib.hid (fun (W : World) (hb : Below w4.heap.size w4 W) => (hk.below b14).below hb)
  have HL := Lib.hid hl
  have HC := Lib.hid hc
  have HD := Lib.hid hd
  have HB := Lib.hid b14
  have HKR := Lib.hid kr
  have HZ := Lib.hid (show w.heap.size < w1.heap.size ∧ w1.heap.size < w2.heap.size ∧ w2.heap.size < w3.heap.size ∧ w3.heap.size < w4.heap.size from ⟨by have := HS1.out; omega, by have := HS2.out; omega, by have := HS3.out; omega, by have := HS4.out; omega⟩)
  have HRH := Lib.hid (fun (W : World) (hb : Below w4.heap.size w4 W) => (⟨(hb.cell (lt_of_cellq q0)).trans q0, (hb.cell (lt_of_cellq q1)).trans q1, (hb.cell (lt_of_cellq q2)).trans q2, (hb.cell (lt_of_cellq q3)).trans q3, (hh.below b14).below hb⟩ : RdH W w1.heap.size h pe ce))
  have HRK := Lib.hid (fun (W : World) (hb : Below w4.heap.size w4 W) => (⟨(hb.cell (lt_of_cellq y0)).trans y0, (hb.cell (lt_of_cellq y1)).trans y1, (hb.cell (lt_of_cellq y2)).trans y2, (hb.cell (lt_of_cellq y3)).trans y3, (hk.below b14).below hb⟩ : RdH W w2.heap.size k pf cf))
  have HSB := Lib.hid (show ∀ W, Below w4.heap.size w4 W → (fun w' => (w'.cell? ⟨w.heap.size, 0, none⟩ = some (.slice pm p.ms.length cm) ∧ w'.cell? ⟨w.heap.size, 1, none⟩ = some (.slice pv p.mv.length cv) ∧ w'.cell? ⟨w.heap.size, 2, none⟩ = some (.slice pr p.rs.length cr)) ∧ (w'.cell? ⟨w1.heap.size, 0, none⟩ = some (.int .i64 h.arb) ∧ w'.cell? ⟨w1.heap.size, 1, none⟩ = some (.int .i64 h.num) ∧ w'.cell? ⟨w1.heap.size, 2, none⟩ = some (.int .i64 h.den) ∧ w'.cell? ⟨w1.heap.size, 3, none⟩ = some (.slice pe h.er.length ce)) ∧ (w'.cell? ⟨w2.heap.size, 0, none⟩ = some (.int .i64 k.arb) ∧ w'.cell? ⟨w2.heap.size, 1, none⟩ = some (.int .i64 k.num) ∧ w'.cell? ⟨w2.heap.size, 2, none⟩ = some (.int .i64 k.den) ∧ w'.cell? ⟨w2.heap.size, 3, none⟩ = some (.slice pf k.er.length cf))) W from fun W hb => ⟨⟨(hb.cell (lt_of_cellq k0)).trans k0, (hb.cell (lt_of_cellq k1)).trans k1, (hb.cell (lt_of_cellq k2)).trans k2⟩, ⟨(hb.cell (lt_of_cellq q0)).trans q0, (hb.cell (lt_of_cellq q1)).trans q1, (hb.cell (lt_of_cellq q2)).trans q2, (hb.cell (lt_of_cellq q3)).trans q3⟩, (hb.cell (lt_of_cellq y0)).trans y0, (hb.cell (lt_of_cellq y1)).trans y1, (hb.cell (lt_of_cellq y2)).trans y2, (hb.cell (lt_of_cellq y3)).trans y3⟩)
  clear hp hh hk hl hc hd b1 b2 b3 b4 b34 b24 b14 kr
  go_enter Tryz.func55, Tryz.ntmps55
  go_upto_region 1 with (fail)
  clear e1 e2 e3 e4 k0 k1 k2 q0 q1 q2 q3 y0 y1 y2 y3
  refine Code.wp_mono (Q := fun e a wz => e = .normal ∧ ∃ (bx : Nat) (qa : Option Addr) (na ca : Nat) (qb : Option Addr) (nb cb : Nat) (qc : Option Addr) (nc cc : Nat) (qd : Option Addr) (nd cd : Nat) (er : Int) (g14 g15 g16 g17 g18 g19 : Value), a = { tmps := #[.agg #[.slice pm p.ms.length cm, .slice pv p.mv.length cv, .slice pr p.rs.length cr], .agg #[.int .i64 h.arb, .int .i64 h.num, .int .i64 h.den, .slice pe h.er.length ce], .agg #[.int .i64 k.arb, .int .i64 k.num, .int .i64 k.den, .slice pf k.er.length cf], .pointer (some ⟨w.heap.size, 0, none⟩), .pointer (some ⟨w1.heap.size, 0, none⟩), .pointer (some ⟨w2.heap.size, 0, none⟩), .pointer (some ⟨w3.heap.size, 0, none⟩), .int .i64 0, .pointer (some ⟨bx, 0, none⟩), .int .i64 er, .tuple #[.agg #[.slice qa na ca, .slice qb nb cb, .slice qc nc cc, .slice qd nd cd], .int .i64 er], .agg #[.slice pm p.ms.length cm, .slice pv p.mv.length cv, .slice pr p.rs.length cr], .agg #[.slice pm p.ms.length cm, .slice pv p.mv.length cv, .slice pr p.rs.length cr], .agg #[.int .i64 h.arb, .int .i64 h.num, .int .i64 h.den, .slice pe h.er.length ce], g14, g15, g16, g17, g18, g19, .tuple #[.agg #[.slice qa na ca, .slice qb nb cb, .slice qc nc cc, .slice qd nd cd], .int .i64 er], .agg #[.slice qa na ca, .slice qb nb cb, .slice qc nc cc, .slice qd nd cd], .int .i64 er, undef, undef, undef, undef, undef, undef, undef], defers := [] } ∧ Hid (wz.heap[bx]? = some (.cells #[.slice qa na ca, .slice qb nb cb, .slice qc nc cc, .slice qd nd cd] 96 (0, 0))) ∧ Hid (AskZ pm pv pr cm cv cr p (handB p.ms.length h && handB p.ms.length k) (.slice qa na ca) (.slice qb nb cb) (.slice qc nc cc) (.slice qd nd cd) er wz) ∧ Hid (Below w4.heap.size w4 wz) ∧ Hid (w4.heap.size ≤ bx)) ?imp ?reg
  case reg =>
    rcases hF1 : handB p.ms.length h with _ | _
    · skip
      refine wp_region_held_drew (S := (fun w' => (w'.cell? ⟨w.heap.size, 0, none⟩ = some (.slice pm p.ms.length cm) ∧ w'.cell? ⟨w.heap.size, 1, none⟩ = some (.slice pv p.mv.length cv) ∧ w'.cell? ⟨w.heap.size, 2, none⟩ = some (.slice pr p.rs.length cr)) ∧ (w'.cell? ⟨w1.heap.size, 0, none⟩ = some (.int .i64 h.arb) ∧ w'.cell? ⟨w1.heap.size, 1, none⟩ = some (.int .i64 h.num) ∧ w'.cell? ⟨w1.heap.size, 2, none⟩ = some (.int .i64 h.den) ∧ w'.cell? ⟨w1.heap.size, 3, none⟩ = some (.slice pe h.er.length ce)) ∧ (w'.cell? ⟨w2.heap.size, 0, none⟩ = some (.int .i64 k.arb) ∧ w'.cell? ⟨w2.heap.size, 1, none⟩ = some (.int .i64 k.num) ∧ w'.cell? ⟨w2.heap.size, 2, none⟩ = some (.int .i64 k.den) ∧ w'.cell? ⟨w2.heap.size, 3, none⟩ = some (.slice pf k.er.length cf)))) (by kernel_rfl) (by (try dsimp only); exact HSB.out _ (Below.refl _ _).drew) (fun hHeld => ?_)
      refine wpAnyH_gen (fun W0 hW0 => ?_)
      have HB0 : Below w4.heap.size w4 W0 := by rw [hW0]; exact (Below.refl _ _).drew
      clear hW0 hHeld
      refine tk 0 rfl (by exact HSB.out _ HB0) ?_
      try simp only [Act.put, ptL]
      refine tk 1 rfl (by exact HSB.out _ HB0) ?_
      try simp only [Act.put, ptL]
      refine tk 2 rfl (by exact HSB.out _ HB0) ?_
      try simp only [Act.put, ptL]
      refine wpAnyH_ready (rs := [3, 13]) (by kernel_rfl) (by simp) ?_
      refine AllReadyH.cons rfl (fun K hK => ?_) (AllReadyH.cons rfl (fun K hK => ?_) AllReadyH.nil)
      · go_simp
        (with_reducible refine (HC.out W0 (HEW.out _ HB0)).mono ?_)
        rw [hF1]
        rintro e W30 ⟨rfl, hbn⟩
        have HB30 : Below w4.heap.size w4 W30 := HB0.trans (hbn.mono HB0.size)
        clear hbn
        go_simp
        refine hK.out _ _ (by (try dsimp only); exact HSB.out _ HB30) (fun hHeld => ?_)
        clear hK K hHeld
        try simp only [Act.put, ptL]
        clear HB0
        refine tk 4 rfl (by exact HSB.out _ HB30) ?_
        try simp only [Act.put, ptL]
        refine wpAnyH_take (i := 5) (v := undef) rfl (by kernel_rfl) (by kernel_rfl) (by kernel_rfl) (fun _ _ _ h => by first | exact h | (exact absurd h.1 (by intro hh; cases hh))) (Or.inr ⟨by rfl, rfl⟩) (by (try dsimp only); exact HSB.out _ HB30) ?_
        try simp only [Act.put, ptL]
        refine wpAnyH_take (i := 6) (v := undef) rfl (by kernel_rfl) (by kernel_rfl) (by kernel_rfl) (fun _ _ _ h => by first | exact h | (exact absurd h.1 (by intro hh; cases hh))) (Or.inr ⟨by rfl, rfl⟩) (by (try dsimp only); exact HSB.out _ HB30) ?_
        try simp only [Act.put, ptL]
        refine wpAnyH_ready (rs := [7, 13]) (by kernel_rfl) (by simp) ?_
        refine AllReadyH.cons rfl (fun K hK => ?_) (AllReadyH.cons rfl (fun K hK => ?_) AllReadyH.nil)
        · rw [if_neg (by intro hw; exact Bool.noConfusion (show false = true from hw))]
          refine hK.out _ _ (by (try dsimp only); exact HSB.out _ HB30) (fun hHeld => ?_)
          clear hK K hHeld
          try simp only [Act.put, ptL]
          refine tk 8 rfl (by exact HSB.out _ HB30) ?_
          try simp only [Act.put, ptL]
          refine wpAnyH_ready (rs := [9, 13]) (by kernel_rfl) (by simp) ?_
          refine AllReadyH.cons rfl (fun K hK => ?_) (AllReadyH.cons rfl (fun K hK => ?_) AllReadyH.nil)
          · go_simp
            obtain ⟨WA, hWA⟩ : ∃ WA, WA = W30 := ⟨_, rfl⟩
            (with_reducible refine (c_askedG pm pv pr cm cv cr p false W30 (HPW.out _ HB30) HL.out).mono ?_)
            rintro e W36 ⟨qa, na, ca, qb, nb, cb, qc, nc, cc, qd, nd, cd, er, rfl, hmk, hbn⟩
            obtain ⟨WB, hWB⟩ : ∃ WB, WB = W36 := ⟨_, rfl⟩
            have HQ : ∀ k, WA.heap.size ≤ k → k < WB.heap.size → W36.heap[k]? = WB.heap[k]? := fun k _ _ => by rw [hWB]
            have hqs : WB.heap.size ≤ W36.heap.size := by rw [hWB]; exact Nat.le_refl _
            rw [← hWA, ← hWB] at hmk
            clear hWA hWB
            have HB36 : Below w4.heap.size w4 W36 := HB30.trans (hbn.mono HB30.size)
            clear hbn
            go_simp
            refine hK.out _ _ (by (try dsimp only); exact HSB.out _ HB36) (fun hHeld => ?_)
            clear hK K hHeld
            try simp only [Act.put, ptL]
            clear HB30
            refine tk 10 rfl (by exact HSB.out _ HB36) ?_
            try simp only [Act.put, ptL]
            refine tk 11 rfl (by exact HSB.out _ HB36) ?_
            try simp only [Act.put, ptL]
            refine tk 12 rfl (by exact HSB.out _ HB36) ?_
            try simp only [Act.put, ptL]
            refine wpAnyH_ready (rs := [13]) (by kernel_rfl) (by simp) ?_
            refine AllReadyH.cons rfl (fun K hK => ?_) AllReadyH.nil
            go_simp
            refine hK.out _ _ (by (try dsimp only); exact HSB.out _ (HB36.alloc HB36.size _)) (fun hHeld => ?_)
            clear hK K hHeld
            try simp only [Act.put, ptL]
            refine wpAnyH_gen (fun W40 hWn => ?_)
            have HB40 : Below w4.heap.size w4 W40 := by rw [hWn]; exact HB36.alloc HB36.size _
            have HQ : ∀ k, WA.heap.size ≤ k → k < WB.heap.size → W40.heap[k]? = WB.heap[k]? := fun k h1 h2 => by rw [hWn, Below.heap_alloc _ _ _ (Nat.lt_of_lt_of_le h2 hqs)]; exact HQ k h1 h2
            have hq_x : WB.heap.size ≤ W36.heap.size := hqs
            have hqs : WB.heap.size ≤ W40.heap.size := by rw [hWn]; simp; omega
            have hx_x : W40.heap[W36.heap.size]? = some (.cells #[.slice none 0 0, .slice none 0 0, .slice none 0 0, .slice none 0 0] 96) := by rw [hWn]; exact alloc_new _ _
            have hl_x : w4.heap.size ≤ W36.heap.size := HB36.size
            clear hWn
            obtain ⟨b_x, hb_x⟩ : ∃ b, W36.heap.size = b := ⟨_, rfl⟩
            rw [hb_x] at hx_x hl_x hq_x ⊢
            clear HB36 hb_x 
            refine wpAnyH_ready (rs := [14]) (by kernel_rfl) (by simp) ?_
            refine AllReadyH.cons rfl (fun K hK => ?_) AllReadyH.nil
            refine set4K W40 b_x 96 _ _ _ _ (.slice qa na ca) (.slice qb nb cb) (.slice qc nc cc) (.slice qd nd cd) hx_x (fun wa41 wb41 wc41 W41 sa sb sc sd ca0 fa0 ca1 fa1 ca2 fa2 ca3 fa3 hx4 hxk HZs hxb => ?_)
            have HB41 : Below w4.heap.size w4 W41 := hxb w4 w4.heap.size hl_x HB40
            have hx_x := hx4
            have HQ : ∀ k, WA.heap.size ≤ k → k < WB.heap.size → W41.heap[k]? = WB.heap[k]? := fun k h1 h2 => (hxk k (by omega)).trans (HQ k h1 h2)
            have hqs : WB.heap.size ≤ W41.heap.size := by rw [HZs.out]; exact hqs
            clear hx4 hxk hxb HZs
            go_simp
            refine hK.out _ _ (by (try dsimp only); exact HSB.out _ HB41) (fun hHeld => ?_)
            clear hK K hHeld
            try simp only [Act.put, ptL]
            clear ca0 ca1 ca2 ca3 fa0 fa1 fa2 fa3 sa sb sc sd HB40
            refine tk 15 rfl (by exact HSB.out _ HB41) ?_
            try simp only [Act.put, ptL]
            refine wpAnyH_done (by kernel_rfl) ?_ _
            obtain ⟨wz, hwz⟩ : ∃ wz, wz = W41 := ⟨_, rfl⟩
            subst hwz
            have HBZ := HB41
            clear HB41
            exact ⟨rfl, _, _, _, _, _, _, _, _, _, _, _, _, _, _, _, _, _, _, _, _, rfl, Lib.hid hx_x, Lib.hid (by rw [Bool.false_and]; exact hmk.out.at HQ), Lib.hid HBZ, Lib.hid hl_x⟩
          · go_simp
            refine hK.out _ _ (by (try dsimp only); exact HSB.out _ (HB30.alloc HB30.size _)) (fun hHeld => ?_)
            clear hK K hHeld
            try simp only [Act.put, ptL]
            refine wpAnyH_gen (fun W43 hWn => ?_)
            have HB43 : Below w4.heap.size w4 W43 := by rw [hWn]; exact HB30.alloc HB30.size _
            have hx_x : W43.heap[W30.heap.size]? = some (.cells #[.slice none 0 0, .slice none 0 0, .slice none 0 0, .slice none 0 0] 96) := by rw [hWn]; exact alloc_new _ _
            have hl_x : w4.heap.size ≤ W30.heap.size := HB30.size
            clear hWn
            obtain ⟨b_x, hb_x⟩ : ∃ b, W30.heap.size = b := ⟨_, rfl⟩
            rw [hb_x] at hx_x hl_x ⊢
            clear HB30 hb_x 
            refine wpAnyH_ready (rs := [9]) (by kernel_rfl) (by simp) ?_
            refine AllReadyH.cons rfl (fun K hK => ?_) AllReadyH.nil
            go_simp
            obtain ⟨WA, hWA⟩ : ∃ WA, WA = W43 := ⟨_, rfl⟩
            have hq_x : b_x < WA.heap.size := by rw [hWA]; exact block_lt hx_x
            (with_reducible refine (c_askedG pm pv pr cm cv cr p false W43 (HPW.out _ HB43) HL.out).mono ?_)
            rintro e W44 ⟨qa, na, ca, qb, nb, cb, qc, nc, cc, qd, nd, cd, er, rfl, hmk, hbn⟩
            obtain ⟨WB, hWB⟩ : ∃ WB, WB = W44 := ⟨_, rfl⟩
            have HQ : ∀ k, WA.heap.size ≤ k → k < WB.heap.size → W44.heap[k]? = WB.heap[k]? := fun k _ _ => by rw [hWB]
            have hqs : WB.heap.size ≤ W44.heap.size := by rw [hWB]; exact Nat.le_refl _
            rw [← hWA, ← hWB] at hmk
            clear hWA hWB
            have HB44 : Below w4.heap.size w4 W44 := HB43.trans (hbn.mono HB43.size)
            have hx_x : W44.heap[b_x]? = some (.cells #[.slice none 0 0, .slice none 0 0, .slice none 0 0, .slice none 0 0] 96) := (hbn.block _ (block_lt hx_x)).trans hx_x
            clear hbn
            go_simp
            refine hK.out _ _ (by (try dsimp only); exact HSB.out _ HB44) (fun hHeld => ?_)
            clear hK K hHeld
            try simp only [Act.put, ptL]
            clear HB43
            refine tk 10 rfl (by exact HSB.out _ HB44) ?_
            try simp only [Act.put, ptL]
            refine tk 11 rfl (by exact HSB.out _ HB44) ?_
            try simp only [Act.put, ptL]
            refine tk 12 rfl (by exact HSB.out _ HB44) ?_
            try simp only [Act.put, ptL]
            refine wpAnyH_ready (rs := [14]) (by kernel_rfl) (by simp) ?_
            refine AllReadyH.cons rfl (fun K hK => ?_) AllReadyH.nil
            refine set4K W44 b_x 96 _ _ _ _ (.slice qa na ca) (.slice qb nb cb) (.slice qc nc cc) (.slice qd nd cd) hx_x (fun wa48 wb48 wc48 W48 sa sb sc sd ca0 fa0 ca1 fa1 ca2 fa2 ca3 fa3 hx4 hxk HZs hxb => ?_)
            have HB48 : Below w4.heap.size w4 W48 := hxb w4 w4.heap.size hl_x HB44
            have hx_x := hx4
            have HQ : ∀ k, WA.heap.size ≤ k → k < WB.heap.size → W48.heap[k]? = WB.heap[k]? := fun k h1 h2 => (hxk k (by omega)).trans (HQ k h1 h2)
            have hqs : WB.heap.size ≤ W48.heap.size := by rw [HZs.out]; exact hqs
            clear hx4 hxk hxb HZs
            go_simp
            refine hK.out _ _ (by (try dsimp only); exact HSB.out _ HB48) (fun hHeld => ?_)
            clear hK K hHeld
            try simp only [Act.put, ptL]
            clear ca0 ca1 ca2 ca3 fa0 fa1 fa2 fa3 sa sb sc sd HB44
            refine tk 15 rfl (by exact HSB.out _ HB48) ?_
            try simp only [Act.put, ptL]
            refine wpAnyH_done (by kernel_rfl) ?_ _
            obtain ⟨wz, hwz⟩ : ∃ wz, wz = W48 := ⟨_, rfl⟩
            subst hwz
            have HBZ := HB48
            clear HB48
            exact ⟨rfl, _, _, _, _, _, _, _, _, _, _, _, _, _, _, _, _, _, _, _, _, rfl, Lib.hid hx_x, Lib.hid (by rw [Bool.false_and]; exact hmk.out.at HQ), Lib.hid HBZ, Lib.hid hl_x⟩
        · go_simp
          refine hK.out _ _ (by (try dsimp only); exact HSB.out _ (HB30.alloc HB30.size _)) (fun hHeld => ?_)
          clear hK K hHeld
          try simp only [Act.put, ptL]
          refine wpAnyH_gen (fun W50 hWn => ?_)
          have HB50 : Below w4.heap.size w4 W50 := by rw [hWn]; exact HB30.alloc HB30.size _
          have hx_x : W50.heap[W30.heap.size]? = some (.cells #[.slice none 0 0, .slice none 0 0, .slice none 0 0, .slice none 0 0] 96) := by rw [hWn]; exact alloc_new _ _
          have hl_x : w4.heap.size ≤ W30.heap.size := HB30.size
          clear hWn
          obtain ⟨b_x, hb_x⟩ : ∃ b, W30.heap.size = b := ⟨_, rfl⟩
          rw [hb_x] at hx_x hl_x ⊢
          clear HB30 hb_x 
          refine wpAnyH_ready (rs := [7]) (by kernel_rfl) (by simp) ?_
          refine AllReadyH.cons rfl (fun K hK => ?_) AllReadyH.nil
          rw [if_neg (by intro hw; exact Bool.noConfusion (show false = true from hw))]
          refine hK.out _ _ (by (try dsimp only); exact HSB.out _ HB50) (fun hHeld => ?_)
          clear hK K hHeld
          try simp only [Act.put, ptL]
          refine tk 8 rfl (by exact HSB.out _ HB50) ?_
          try simp only [Act.put, ptL]
          refine wpAnyH_ready (rs := [9]) (by kernel_rfl) (by simp) ?_
          refine AllReadyH.cons rfl (fun K hK => ?_) AllReadyH.nil
          go_simp
          obtain ⟨WA, hWA⟩ : ∃ WA, WA = W50 := ⟨_, rfl⟩
          have hq_x : b_x < WA.heap.size := by rw [hWA]; exact block_lt hx_x
          (with_reducible refine (c_askedG pm pv pr cm cv cr p false W50 (HPW.out _ HB50) HL.out).mono ?_)
          rintro e W53 ⟨qa, na, ca, qb, nb, cb, qc, nc, cc, qd, nd, cd, er, rfl, hmk, hbn⟩
          obtain ⟨WB, hWB⟩ : ∃ WB, WB = W53 := ⟨_, rfl⟩
          have HQ : ∀ k, WA.heap.size ≤ k → k < WB.heap.size → W53.heap[k]? = WB.heap[k]? := fun k _ _ => by rw [hWB]
          have hqs : WB.heap.size ≤ W53.heap.size := by rw [hWB]; exact Nat.le_refl _
          rw [← hWA, ← hWB] at hmk
          clear hWA hWB
          have HB53 : Below w4.heap.size w4 W53 := HB50.trans (hbn.mono HB50.size)
          have hx_x : W53.heap[b_x]? = some (.cells #[.slice none 0 0, .slice none 0 0, .slice none 0 0, .slice none 0 0] 96) := (hbn.block _ (block_lt hx_x)).trans hx_x
          clear hbn
          go_simp
          refine hK.out _ _ (by (try dsimp only); exact HSB.out _ HB53) (fun hHeld => ?_)
          clear hK K hHeld
          try simp only [Act.put, ptL]
          clear HB50
          refine tk 10 rfl (by exact HSB.out _ HB53) ?_
          try simp only [Act.put, ptL]
          refine tk 11 rfl (by exact HSB.out _ HB53) ?_
          try simp only [Act.put, ptL]
          refine tk 12 rfl (by exact HSB.out _ HB53) ?_
          try simp only [Act.put, ptL]
          refine wpAnyH_ready (rs := [14]) (by kernel_rfl) (by simp) ?_
          refine AllReadyH.cons rfl (fun K hK => ?_) AllReadyH.nil
          refine set4K W53 b_x 96 _ _ _ _ (.slice qa na ca) (.slice qb nb cb) (.slice qc nc cc) (.slice qd nd cd) hx_x (fun wa57 wb57 wc57 W57 sa sb sc sd ca0 fa0 ca1 fa1 ca2 fa2 ca3 fa3 hx4 hxk HZs hxb => ?_)
          have HB57 : Below w4.heap.size w4 W57 := hxb w4 w4.heap.size hl_x HB53
          have hx_x := hx4
          have HQ : ∀ k, WA.heap.size ≤ k → k < WB.heap.size → W57.heap[k]? = WB.heap[k]? := fun k h1 h2 => (hxk k (by omega)).trans (HQ k h1 h2)
          have hqs : WB.heap.size ≤ W57.heap.size := by rw [HZs.out]; exact hqs
          clear hx4 hxk hxb HZs
          go_simp
          refine hK.out _ _ (by (try dsimp only); exact HSB.out _ HB57) (fun hHeld => ?_)
          clear hK K hHeld
          try simp only [Act.put, ptL]
          clear ca0 ca1 ca2 ca3 fa0 fa1 fa2 fa3 sa sb sc sd HB53
          refine tk 15 rfl (by exact HSB.out _ HB57) ?_
          try simp only [Act.put, ptL]
          refine wpAnyH_done (by kernel_rfl) ?_ _
          obtain ⟨wz, hwz⟩ : ∃ wz, wz = W57 := ⟨_, rfl⟩
          subst hwz
          have HBZ := HB57
          clear HB57
          exact ⟨rfl, _, _, _, _, _, _, _, _, _, _, _, _, _, _, _, _, _, _, _, _, rfl, Lib.hid hx_x, Lib.hid (by rw [Bool.false_and]; exact hmk.out.at HQ), Lib.hid HBZ, Lib.hid hl_x⟩
      · go_simp
        refine hK.out _ _ (by (try dsimp only); exact HSB.out _ (HB0.alloc HB0.size _)) (fun hHeld => ?_)
        clear hK K hHeld
        try simp only [Act.put, ptL]
        refine wpAnyH_gen (fun W59 hWn => ?_)
        have HB59 : Below w4.heap.size w4 W59 := by rw [hWn]; exact HB0.alloc HB0.size _
        have hx_x : W59.heap[W0.heap.size]? = some (.cells #[.slice none 0 0, .slice none 0 0, .slice none 0 0, .slice none 0 0] 96) := by rw [hWn]; exact alloc_new _ _
        have hl_x : w4.heap.size ≤ W0.heap.size := HB0.size
        clear hWn
        obtain ⟨b_x, hb_x⟩ : ∃ b, W0.heap.size = b := ⟨_, rfl⟩
        rw [hb_x] at hx_x hl_x ⊢
        clear HB0 hb_x 
        refine wpAnyH_ready (rs := [3]) (by kernel_rfl) (by simp) ?_
        refine AllReadyH.cons rfl (fun K hK => ?_) AllReadyH.nil
        go_simp
        (with_reducible refine (HC.out W59 (HEW.out _ HB59)).mono ?_)
        rw [hF1]
        rintro e W60 ⟨rfl, hbn⟩
        have HB60 : Below w4.heap.size w4 W60 := HB59.trans (hbn.mono HB59.size)
        have hx_x : W60.heap[b_x]? = some (.cells #[.slice none 0 0, .slice none 0 0, .slice none 0 0, .slice none 0 0] 96) := (hbn.block _ (block_lt hx_x)).trans hx_x
        clear hbn
        go_simp
        refine hK.out _ _ (by (try dsimp only); exact HSB.out _ HB60) (fun hHeld => ?_)
        clear hK K hHeld
        try simp only [Act.put, ptL]
        clear HB59
        refine tk 4 rfl (by exact HSB.out _ HB60) ?_
        try simp only [Act.put, ptL]
        refine wpAnyH_take (i := 5) (v := undef) rfl (by kernel_rfl) (by kernel_rfl) (by kernel_rfl) (fun _ _ _ h => by first | exact h | (exact absurd h.1 (by intro hh; cases hh))) (Or.inr ⟨by rfl, rfl⟩) (by (try dsimp only); exact HSB.out _ HB60) ?_
        try simp only [Act.put, ptL]
        refine wpAnyH_take (i := 6) (v := undef) rfl (by kernel_rfl) (by kernel_rfl) (by kernel_rfl) (fun _ _ _ h => by first | exact h | (exact absurd h.1 (by intro hh; cases hh))) (Or.inr ⟨by rfl, rfl⟩) (by (try dsimp only); exact HSB.out _ HB60) ?_
        try simp only [Act.put, ptL]
        refine wpAnyH_ready (rs := [7]) (by kernel_rfl) (by simp) ?_
        refine AllReadyH.cons rfl (fun K hK => ?_) AllReadyH.nil
        rw [if_neg (by intro hw; exact Bool.noConfusion (show false = true from hw))]
        refine hK.out _ _ (by (try dsimp only); exact HSB.out _ HB60) (fun hHeld => ?_)
        clear hK K hHeld
        try simp only [Act.put, ptL]
        refine tk 8 rfl (by exact HSB.out _ HB60) ?_
        try simp only [Act.put, ptL]
        refine wpAnyH_ready (rs := [9]) (by kernel_rfl) (by simp) ?_
        refine AllReadyH.cons rfl (fun K hK => ?_) AllReadyH.nil
        go_simp
        obtain ⟨WA, hWA⟩ : ∃ WA, WA = W60 := ⟨_, rfl⟩
        have hq_x : b_x < WA.heap.size := by rw [hWA]; exact block_lt hx_x
        (with_reducible refine (c_askedG pm pv pr cm cv cr p false W60 (HPW.out _ HB60) HL.out).mono ?_)
        rintro e W66 ⟨qa, na, ca, qb, nb, cb, qc, nc, cc, qd, nd, cd, er, rfl, hmk, hbn⟩
        obtain ⟨WB, hWB⟩ : ∃ WB, WB = W66 := ⟨_, rfl⟩
        have HQ : ∀ k, WA.heap.size ≤ k → k < WB.heap.size → W66.heap[k]? = WB.heap[k]? := fun k _ _ => by rw [hWB]
        have hqs : WB.heap.size ≤ W66.heap.size := by rw [hWB]; exact Nat.le_refl _
        rw [← hWA, ← hWB] at hmk
        clear hWA hWB
        have HB66 : Below w4.heap.size w4 W66 := HB60.trans (hbn.mono HB60.size)
        have hx_x : W66.heap[b_x]? = some (.cells #[.slice none 0 0, .slice none 0 0, .slice none 0 0, .slice none 0 0] 96) := (hbn.block _ (block_lt hx_x)).trans hx_x
        clear hbn
        go_simp
        refine hK.out _ _ (by (try dsimp only); exact HSB.out _ HB66) (fun hHeld => ?_)
        clear hK K hHeld
        try simp only [Act.put, ptL]
        clear HB60
        refine tk 10 rfl (by exact HSB.out _ HB66) ?_
        try simp only [Act.put, ptL]
        refine tk 11 rfl (by exact HSB.out _ HB66) ?_
        try simp only [Act.put, ptL]
        refine tk 12 rfl (by exact HSB.out _ HB66) ?_
        try simp only [Act.put, ptL]
        refine wpAnyH_ready (rs := [14]) (by kernel_rfl) (by simp) ?_
        refine AllReadyH.cons rfl (fun K hK => ?_) AllReadyH.nil
        refine set4K W66 b_x 96 _ _ _ _ (.slice qa na ca) (.slice qb nb cb) (.slice qc nc cc) (.slice qd nd cd) hx_x (fun wa70 wb70 wc70 W70 sa sb sc sd ca0 fa0 ca1 fa1 ca2 fa2 ca3 fa3 hx4 hxk HZs hxb => ?_)
        have HB70 : Below w4.heap.size w4 W70 := hxb w4 w4.heap.size hl_x HB66
        have hx_x := hx4
        have HQ : ∀ k, WA.heap.size ≤ k → k < WB.heap.size → W70.heap[k]? = WB.heap[k]? := fun k h1 h2 => (hxk k (by omega)).trans (HQ k h1 h2)
        have hqs : WB.heap.size ≤ W70.heap.size := by rw [HZs.out]; exact hqs
        clear hx4 hxk hxb HZs
        go_simp
        refine hK.out _ _ (by (try dsimp only); exact HSB.out _ HB70) (fun hHeld => ?_)
        clear hK K hHeld
        try simp only [Act.put, ptL]
        clear ca0 ca1 ca2 ca3 fa0 fa1 fa2 fa3 sa sb sc sd HB66
        refine tk 15 rfl (by exact HSB.out _ HB70) ?_
        try simp only [Act.put, ptL]
        refine wpAnyH_done (by kernel_rfl) ?_ _
        obtain ⟨wz, hwz⟩ : ∃ wz, wz = W70 := ⟨_, rfl⟩
        subst hwz
        have HBZ := HB70
        clear HB70
        exact ⟨rfl, _, _, _, _, _, _, _, _, _, _, _, _, _, _, _, _, _, _, _, _, rfl, Lib.hid hx_x, Lib.hid (by rw [Bool.false_and]; exact hmk.out.at HQ), Lib.hid HBZ, Lib.hid hl_x⟩
    refine wp_region_held_drew (S := (fun w' => (w'.cell? ⟨w.heap.size, 0, none⟩ = some (.slice pm p.ms.length cm) ∧ w'.cell? ⟨w.heap.size, 1, none⟩ = some (.slice pv p.mv.length cv) ∧ w'.cell? ⟨w.heap.size, 2, none⟩ = some (.slice pr p.rs.length cr)) ∧ (w'.cell? ⟨w1.heap.size, 0, none⟩ = some (.int .i64 h.arb) ∧ w'.cell? ⟨w1.heap.size, 1, none⟩ = some (.int .i64 h.num) ∧ w'.cell? ⟨w1.heap.size, 2, none⟩ = some (.int .i64 h.den) ∧ w'.cell? ⟨w1.heap.size, 3, none⟩ = some (.slice pe h.er.length ce)) ∧ (w'.cell? ⟨w2.heap.size, 0, none⟩ = some (.int .i64 k.arb) ∧ w'.cell? ⟨w2.heap.size, 1, none⟩ = some (.int .i64 k.num) ∧ w'.cell? ⟨w2.heap.size, 2, none⟩ = some (.int .i64 k.den) ∧ w'.cell? ⟨w2.heap.size, 3, none⟩ = some (.slice pf k.er.length cf)))) (by kernel_rfl) (by (try dsimp only); exact HSB.out _ (Below.refl _ _).drew) (fun hHeld => ?_)
    refine wpAnyH_gen (fun W0 hW0 => ?_)
    have HB0 : Below w4.heap.size w4 W0 := by rw [hW0]; exact (Below.refl _ _).drew
    clear hW0 hHeld
    refine tk 0 rfl (by exact HSB.out _ HB0) ?_
    try simp only [Act.put, ptL]
    refine tk 1 rfl (by exact HSB.out _ HB0) ?_
    try simp only [Act.put, ptL]
    refine tk 2 rfl (by exact HSB.out _ HB0) ?_
    try simp only [Act.put, ptL]
    refine wpAnyH_ready (rs := [3, 13]) (by kernel_rfl) (by simp) ?_
    refine AllReadyH.cons rfl (fun K hK => ?_) (AllReadyH.cons rfl (fun K hK => ?_) AllReadyH.nil)
    · go_simp
      (with_reducible refine (HC.out W0 (HEW.out _ HB0)).mono ?_)
      rw [hF1]
      rintro e W75 ⟨rfl, hbn⟩
      have HB75 : Below w4.heap.size w4 W75 := HB0.trans (hbn.mono HB0.size)
      clear hbn
      go_simp
      refine hK.out _ _ (by (try dsimp only); exact HSB.out _ HB75) (fun hHeld => ?_)
      clear hK K hHeld
      try simp only [Act.put, ptL]
      clear HB0
      refine tk 4 rfl (by exact HSB.out _ HB75) ?_
      try simp only [Act.put, ptL]
      refine tk 5 rfl (by exact HSB.out _ HB75) ?_
      try simp only [Act.put, ptL]
      refine tk 6 rfl (by exact HSB.out _ HB75) ?_
      try simp only [Act.put, ptL]
      refine wpAnyH_ready (rs := [7, 13]) (by kernel_rfl) (by simp) ?_
      refine AllReadyH.cons rfl (fun K hK => ?_) (AllReadyH.cons rfl (fun K hK => ?_) AllReadyH.nil)
      · go_simp
        (with_reducible refine (HD.out W75 (HFW.out _ HB75)).mono ?_)
        rintro e W79 ⟨rfl, hbn⟩
        have HB79 : Below w4.heap.size w4 W79 := HB75.trans (hbn.mono HB75.size)
        clear hbn
        go_simp
        refine hK.out _ _ (by (try dsimp only); exact HSB.out _ HB79) (fun hHeld => ?_)
        clear hK K hHeld
        try simp only [Act.put, ptL]
        clear HB75
        refine tk 8 rfl (by exact HSB.out _ HB79) ?_
        try simp only [Act.put, ptL]
        refine wpAnyH_ready (rs := [9, 13]) (by kernel_rfl) (by simp) ?_
        refine AllReadyH.cons rfl (fun K hK => ?_) (AllReadyH.cons rfl (fun K hK => ?_) AllReadyH.nil)
        · go_simp
          obtain ⟨WA, hWA⟩ : ∃ WA, WA = W79 := ⟨_, rfl⟩
          (with_reducible refine (c_askedG pm pv pr cm cv cr p (handB p.ms.length k) W79 (HPW.out _ HB79) HL.out).mono ?_)
          rintro e W81 ⟨qa, na, ca, qb, nb, cb, qc, nc, cc, qd, nd, cd, er, rfl, hmk, hbn⟩
          obtain ⟨WB, hWB⟩ : ∃ WB, WB = W81 := ⟨_, rfl⟩
          have HQ : ∀ k, WA.heap.size ≤ k → k < WB.heap.size → W81.heap[k]? = WB.heap[k]? := fun k _ _ => by rw [hWB]
          have hqs : WB.heap.size ≤ W81.heap.size := by rw [hWB]; exact Nat.le_refl _
          rw [← hWA, ← hWB] at hmk
          clear hWA hWB
          have HB81 : Below w4.heap.size w4 W81 := HB79.trans (hbn.mono HB79.size)
          clear hbn
          go_simp
          refine hK.out _ _ (by (try dsimp only); exact HSB.out _ HB81) (fun hHeld => ?_)
          clear hK K hHeld
          try simp only [Act.put, ptL]
          clear HB79
          refine tk 10 rfl (by exact HSB.out _ HB81) ?_
          try simp only [Act.put, ptL]
          refine tk 11 rfl (by exact HSB.out _ HB81) ?_
          try simp only [Act.put, ptL]
          refine tk 12 rfl (by exact HSB.out _ HB81) ?_
          try simp only [Act.put, ptL]
          refine wpAnyH_ready (rs := [13]) (by kernel_rfl) (by simp) ?_
          refine AllReadyH.cons rfl (fun K hK => ?_) AllReadyH.nil
          go_simp
          refine hK.out _ _ (by (try dsimp only); exact HSB.out _ (HB81.alloc HB81.size _)) (fun hHeld => ?_)
          clear hK K hHeld
          try simp only [Act.put, ptL]
          refine wpAnyH_gen (fun W85 hWn => ?_)
          have HB85 : Below w4.heap.size w4 W85 := by rw [hWn]; exact HB81.alloc HB81.size _
          have HQ : ∀ k, WA.heap.size ≤ k → k < WB.heap.size → W85.heap[k]? = WB.heap[k]? := fun k h1 h2 => by rw [hWn, Below.heap_alloc _ _ _ (Nat.lt_of_lt_of_le h2 hqs)]; exact HQ k h1 h2
          have hq_x : WB.heap.size ≤ W81.heap.size := hqs
          have hqs : WB.heap.size ≤ W85.heap.size := by rw [hWn]; simp; omega
          have hx_x : W85.heap[W81.heap.size]? = some (.cells #[.slice none 0 0, .slice none 0 0, .slice none 0 0, .slice none 0 0] 96) := by rw [hWn]; exact alloc_new _ _
          have hl_x : w4.heap.size ≤ W81.heap.size := HB81.size
          clear hWn
          obtain ⟨b_x, hb_x⟩ : ∃ b, W81.heap.size = b := ⟨_, rfl⟩
          rw [hb_x] at hx_x hl_x hq_x ⊢
          clear HB81 hb_x 
          refine wpAnyH_ready (rs := [14]) (by kernel_rfl) (by simp) ?_
          refine AllReadyH.cons rfl (fun K hK => ?_) AllReadyH.nil
          refine set4K W85 b_x 96 _ _ _ _ (.slice qa na ca) (.slice qb nb cb) (.slice qc nc cc) (.slice qd nd cd) hx_x (fun wa86 wb86 wc86 W86 sa sb sc sd ca0 fa0 ca1 fa1 ca2 fa2 ca3 fa3 hx4 hxk HZs hxb => ?_)
          have HB86 : Below w4.heap.size w4 W86 := hxb w4 w4.heap.size hl_x HB85
          have hx_x := hx4
          have HQ : ∀ k, WA.heap.size ≤ k → k < WB.heap.size → W86.heap[k]? = WB.heap[k]? := fun k h1 h2 => (hxk k (by omega)).trans (HQ k h1 h2)
          have hqs : WB.heap.size ≤ W86.heap.size := by rw [HZs.out]; exact hqs
          clear hx4 hxk hxb HZs
          go_simp
          refine hK.out _ _ (by (try dsimp only); exact HSB.out _ HB86) (fun hHeld => ?_)
          clear hK K hHeld
          try simp only [Act.put, ptL]
          clear ca0 ca1 ca2 ca3 fa0 fa1 fa2 fa3 sa sb sc sd HB85
          refine tk 15 rfl (by exact HSB.out _ HB86) ?_
          try simp only [Act.put, ptL]
          refine wpAnyH_done (by kernel_rfl) ?_ _
          obtain ⟨wz, hwz⟩ : ∃ wz, wz = W86 := ⟨_, rfl⟩
          subst hwz
          have HBZ := HB86
          clear HB86
          exact ⟨rfl, _, _, _, _, _, _, _, _, _, _, _, _, _, _, _, _, _, _, _, _, rfl, Lib.hid hx_x, Lib.hid (by rw [Bool.true_and]; exact hmk.out.at HQ), Lib.hid HBZ, Lib.hid hl_x⟩
        · go_simp
          refine hK.out _ _ (by (try dsimp only); exact HSB.out _ (HB79.alloc HB79.size _)) (fun hHeld => ?_)
          clear hK K hHeld
          try simp only [Act.put, ptL]
          refine wpAnyH_gen (fun W88 hWn => ?_)
          have HB88 : Below w4.heap.size w4 W88 := by rw [hWn]; exact HB79.alloc HB79.size _
          have hx_x : W88.heap[W79.heap.size]? = some (.cells #[.slice none 0 0, .slice none 0 0, .slice none 0 0, .slice none 0 0] 96) := by rw [hWn]; exact alloc_new _ _
          have hl_x : w4.heap.size ≤ W79.heap.size := HB79.size
          clear hWn
          obtain ⟨b_x, hb_x⟩ : ∃ b, W79.heap.size = b := ⟨_, rfl⟩
          rw [hb_x] at hx_x hl_x ⊢
          clear HB79 hb_x 
          refine wpAnyH_ready (rs := [9]) (by kernel_rfl) (by simp) ?_
          refine AllReadyH.cons rfl (fun K hK => ?_) AllReadyH.nil
          go_simp
          obtain ⟨WA, hWA⟩ : ∃ WA, WA = W88 := ⟨_, rfl⟩
          have hq_x : b_x < WA.heap.size := by rw [hWA]; exact block_lt hx_x
          (with_reducible refine (c_askedG pm pv pr cm cv cr p (handB p.ms.length k) W88 (HPW.out _ HB88) HL.out).mono ?_)
          rintro e W89 ⟨qa, na, ca, qb, nb, cb, qc, nc, cc, qd, nd, cd, er, rfl, hmk, hbn⟩
          obtain ⟨WB, hWB⟩ : ∃ WB, WB = W89 := ⟨_, rfl⟩
          have HQ : ∀ k, WA.heap.size ≤ k → k < WB.heap.size → W89.heap[k]? = WB.heap[k]? := fun k _ _ => by rw [hWB]
          have hqs : WB.heap.size ≤ W89.heap.size := by rw [hWB]; exact Nat.le_refl _
          rw [← hWA, ← hWB] at hmk
          clear hWA hWB
          have HB89 : Below w4.heap.size w4 W89 := HB88.trans (hbn.mono HB88.size)
          have hx_x : W89.heap[b_x]? = some (.cells #[.slice none 0 0, .slice none 0 0, .slice none 0 0, .slice none 0 0] 96) := (hbn.block _ (block_lt hx_x)).trans hx_x
          clear hbn
          go_simp
          refine hK.out _ _ (by (try dsimp only); exact HSB.out _ HB89) (fun hHeld => ?_)
          clear hK K hHeld
          try simp only [Act.put, ptL]
          clear HB88
          refine tk 10 rfl (by exact HSB.out _ HB89) ?_
          try simp only [Act.put, ptL]
          refine tk 11 rfl (by exact HSB.out _ HB89) ?_
          try simp only [Act.put, ptL]
          refine tk 12 rfl (by exact HSB.out _ HB89) ?_
          try simp only [Act.put, ptL]
          refine wpAnyH_ready (rs := [14]) (by kernel_rfl) (by simp) ?_
          refine AllReadyH.cons rfl (fun K hK => ?_) AllReadyH.nil
          refine set4K W89 b_x 96 _ _ _ _ (.slice qa na ca) (.slice qb nb cb) (.slice qc nc cc) (.slice qd nd cd) hx_x (fun wa93 wb93 wc93 W93 sa sb sc sd ca0 fa0 ca1 fa1 ca2 fa2 ca3 fa3 hx4 hxk HZs hxb => ?_)
          have HB93 : Below w4.heap.size w4 W93 := hxb w4 w4.heap.size hl_x HB89
          have hx_x := hx4
          have HQ : ∀ k, WA.heap.size ≤ k → k < WB.heap.size → W93.heap[k]? = WB.heap[k]? := fun k h1 h2 => (hxk k (by omega)).trans (HQ k h1 h2)
          have hqs : WB.heap.size ≤ W93.heap.size := by rw [HZs.out]; exact hqs
          clear hx4 hxk hxb HZs
          go_simp
          refine hK.out _ _ (by (try dsimp only); exact HSB.out _ HB93) (fun hHeld => ?_)
          clear hK K hHeld
          try simp only [Act.put, ptL]
          clear ca0 ca1 ca2 ca3 fa0 fa1 fa2 fa3 sa sb sc sd HB89
          refine tk 15 rfl (by exact HSB.out _ HB93) ?_
          try simp only [Act.put, ptL]
          refine wpAnyH_done (by kernel_rfl) ?_ _
          obtain ⟨wz, hwz⟩ : ∃ wz, wz = W93 := ⟨_, rfl⟩
          subst hwz
          have HBZ := HB93
          clear HB93
          exact ⟨rfl, _, _, _, _, _, _, _, _, _, _, _, _, _, _, _, _, _, _, _, _, rfl, Lib.hid hx_x, Lib.hid (by rw [Bool.true_and]; exact hmk.out.at HQ), Lib.hid HBZ, Lib.hid hl_x⟩
      · go_simp
        refine hK.out _ _ (by (try dsimp only); exact HSB.out _ (HB75.alloc HB75.size _)) (fun hHeld => ?_)
        clear hK K hHeld
        try simp only [Act.put, ptL]
        refine wpAnyH_gen (fun W95 hWn => ?_)
        have HB95 : Below w4.heap.size w4 W95 := by rw [hWn]; exact HB75.alloc HB75.size _
        have hx_x : W95.heap[W75.heap.size]? = some (.cells #[.slice none 0 0, .slice none 0 0, .slice none 0 0, .slice none 0 0] 96) := by rw [hWn]; exact alloc_new _ _
        have hl_x : w4.heap.size ≤ W75.heap.size := HB75.size
        clear hWn
        obtain ⟨b_x, hb_x⟩ : ∃ b, W75.heap.size = b := ⟨_, rfl⟩
        rw [hb_x] at hx_x hl_x ⊢
        clear HB75 hb_x 
        refine wpAnyH_ready (rs := [7]) (by kernel_rfl) (by simp) ?_
        refine AllReadyH.cons rfl (fun K hK => ?_) AllReadyH.nil
        go_simp
        (with_reducible refine (HD.out W95 (HFW.out _ HB95)).mono ?_)
        rintro e W96 ⟨rfl, hbn⟩
        have HB96 : Below w4.heap.size w4 W96 := HB95.trans (hbn.mono HB95.size)
        have hx_x : W96.heap[b_x]? = some (.cells #[.slice none 0 0, .slice none 0 0, .slice none 0 0, .slice none 0 0] 96) := (hbn.block _ (block_lt hx_x)).trans hx_x
        clear hbn
        go_simp
        refine hK.out _ _ (by (try dsimp only); exact HSB.out _ HB96) (fun hHeld => ?_)
        clear hK K hHeld
        try simp only [Act.put, ptL]
        clear HB95
        refine tk 8 rfl (by exact HSB.out _ HB96) ?_
        try simp only [Act.put, ptL]
        refine wpAnyH_ready (rs := [9]) (by kernel_rfl) (by simp) ?_
        refine AllReadyH.cons rfl (fun K hK => ?_) AllReadyH.nil
        go_simp
        obtain ⟨WA, hWA⟩ : ∃ WA, WA = W96 := ⟨_, rfl⟩
        have hq_x : b_x < WA.heap.size := by rw [hWA]; exact block_lt hx_x
        (with_reducible refine (c_askedG pm pv pr cm cv cr p (handB p.ms.length k) W96 (HPW.out _ HB96) HL.out).mono ?_)
        rintro e W98 ⟨qa, na, ca, qb, nb, cb, qc, nc, cc, qd, nd, cd, er, rfl, hmk, hbn⟩
        obtain ⟨WB, hWB⟩ : ∃ WB, WB = W98 := ⟨_, rfl⟩
        have HQ : ∀ k, WA.heap.size ≤ k → k < WB.heap.size → W98.heap[k]? = WB.heap[k]? := fun k _ _ => by rw [hWB]
        have hqs : WB.heap.size ≤ W98.heap.size := by rw [hWB]; exact Nat.le_refl _
        rw [← hWA, ← hWB] at hmk
        clear hWA hWB
        have HB98 : Below w4.heap.size w4 W98 := HB96.trans (hbn.mono HB96.size)
        have hx_x : W98.heap[b_x]? = some (.cells #[.slice none 0 0, .slice none 0 0, .slice none 0 0, .slice none 0 0] 96) := (hbn.block _ (block_lt hx_x)).trans hx_x
        clear hbn
        go_simp
        refine hK.out _ _ (by (try dsimp only); exact HSB.out _ HB98) (fun hHeld => ?_)
        clear hK K hHeld
        try simp only [Act.put, ptL]
        clear HB96
        refine tk 10 rfl (by exact HSB.out _ HB98) ?_
        try simp only [Act.put, ptL]
        refine tk 11 rfl (by exact HSB.out _ HB98) ?_
        try simp only [Act.put, ptL]
        refine tk 12 rfl (by exact HSB.out _ HB98) ?_
        try simp only [Act.put, ptL]
        refine wpAnyH_ready (rs := [14]) (by kernel_rfl) (by simp) ?_
        refine AllReadyH.cons rfl (fun K hK => ?_) AllReadyH.nil
        refine set4K W98 b_x 96 _ _ _ _ (.slice qa na ca) (.slice qb nb cb) (.slice qc nc cc) (.slice qd nd cd) hx_x (fun wa102 wb102 wc102 W102 sa sb sc sd ca0 fa0 ca1 fa1 ca2 fa2 ca3 fa3 hx4 hxk HZs hxb => ?_)
        have HB102 : Below w4.heap.size w4 W102 := hxb w4 w4.heap.size hl_x HB98
        have hx_x := hx4
        have HQ : ∀ k, WA.heap.size ≤ k → k < WB.heap.size → W102.heap[k]? = WB.heap[k]? := fun k h1 h2 => (hxk k (by omega)).trans (HQ k h1 h2)
        have hqs : WB.heap.size ≤ W102.heap.size := by rw [HZs.out]; exact hqs
        clear hx4 hxk hxb HZs
        go_simp
        refine hK.out _ _ (by (try dsimp only); exact HSB.out _ HB102) (fun hHeld => ?_)
        clear hK K hHeld
        try simp only [Act.put, ptL]
        clear ca0 ca1 ca2 ca3 fa0 fa1 fa2 fa3 sa sb sc sd HB98
        refine tk 15 rfl (by exact HSB.out _ HB102) ?_
        try simp only [Act.put, ptL]
        refine wpAnyH_done (by kernel_rfl) ?_ _
        obtain ⟨wz, hwz⟩ : ∃ wz, wz = W102 := ⟨_, rfl⟩
        subst hwz
        have HBZ := HB102
        clear HB102
        exact ⟨rfl, _, _, _, _, _, _, _, _, _, _, _, _, _, _, _, _, _, _, _, _, rfl, Lib.hid hx_x, Lib.hid (by rw [Bool.true_and]; exact hmk.out.at HQ), Lib.hid HBZ, Lib.hid hl_x⟩
    · go_simp
      refine hK.out _ _ (by (try dsimp only); exact HSB.out _ (HB0.alloc HB0.size _)) (fun hHeld => ?_)
      clear hK K hHeld
      try simp only [Act.put, ptL]
      refine wpAnyH_gen (fun W104 hWn => ?_)
      have HB104 : Below w4.heap.size w4 W104 := by rw [hWn]; exact HB0.alloc HB0.size _
      have hx_x : W104.heap[W0.heap.size]? = some (.cells #[.slice none 0 0, .slice none 0 0, .slice none 0 0, .slice none 0 0] 96) := by rw [hWn]; exact alloc_new _ _
      have hl_x : w4.heap.size ≤ W0.heap.size := HB0.size
      clear hWn
      obtain ⟨b_x, hb_x⟩ : ∃ b, W0.heap.size = b := ⟨_, rfl⟩
      rw [hb_x] at hx_x hl_x ⊢
      clear HB0 hb_x 
      refine wpAnyH_ready (rs := [3]) (by kernel_rfl) (by simp) ?_
      refine AllReadyH.cons rfl (fun K hK => ?_) AllReadyH.nil
      go_simp
      (with_reducible refine (HC.out W104 (HEW.out _ HB104)).mono ?_)
      rw [hF1]
      rintro e W105 ⟨rfl, hbn⟩
      have HB105 : Below w4.heap.size w4 W105 := HB104.trans (hbn.mono HB104.size)
      have hx_x : W105.heap[b_x]? = some (.cells #[.slice none 0 0, .slice none 0 0, .slice none 0 0, .slice none 0 0] 96) := (hbn.block _ (block_lt hx_x)).trans hx_x
      clear hbn
      go_simp
      refine hK.out _ _ (by (try dsimp only); exact HSB.out _ HB105) (fun hHeld => ?_)
      clear hK K hHeld
      try simp only [Act.put, ptL]
      clear HB104
      refine tk 4 rfl (by exact HSB.out _ HB105) ?_
      try simp only [Act.put, ptL]
      refine tk 5 rfl (by exact HSB.out _ HB105) ?_
      try simp only [Act.put, ptL]
      refine tk 6 rfl (by exact HSB.out _ HB105) ?_
      try simp only [Act.put, ptL]
      refine wpAnyH_ready (rs := [7]) (by kernel_rfl) (by simp) ?_
      refine AllReadyH.cons rfl (fun K hK => ?_) AllReadyH.nil
      go_simp
      (with_reducible refine (HD.out W105 (HFW.out _ HB105)).mono ?_)
      rintro e W109 ⟨rfl, hbn⟩
      have HB109 : Below w4.heap.size w4 W109 := HB105.trans (hbn.mono HB105.size)
      have hx_x : W109.heap[b_x]? = some (.cells #[.slice none 0 0, .slice none 0 0, .slice none 0 0, .slice none 0 0] 96) := (hbn.block _ (block_lt hx_x)).trans hx_x
      clear hbn
      go_simp
      refine hK.out _ _ (by (try dsimp only); exact HSB.out _ HB109) (fun hHeld => ?_)
      clear hK K hHeld
      try simp only [Act.put, ptL]
      clear HB105
      refine tk 8 rfl (by exact HSB.out _ HB109) ?_
      try simp only [Act.put, ptL]
      refine wpAnyH_ready (rs := [9]) (by kernel_rfl) (by simp) ?_
      refine AllReadyH.cons rfl (fun K hK => ?_) AllReadyH.nil
      go_simp
      obtain ⟨WA, hWA⟩ : ∃ WA, WA = W109 := ⟨_, rfl⟩
      have hq_x : b_x < WA.heap.size := by rw [hWA]; exact block_lt hx_x
      (with_reducible refine (c_askedG pm pv pr cm cv cr p (handB p.ms.length k) W109 (HPW.out _ HB109) HL.out).mono ?_)
      rintro e W111 ⟨qa, na, ca, qb, nb, cb, qc, nc, cc, qd, nd, cd, er, rfl, hmk, hbn⟩
      obtain ⟨WB, hWB⟩ : ∃ WB, WB = W111 := ⟨_, rfl⟩
      have HQ : ∀ k, WA.heap.size ≤ k → k < WB.heap.size → W111.heap[k]? = WB.heap[k]? := fun k _ _ => by rw [hWB]
      have hqs : WB.heap.size ≤ W111.heap.size := by rw [hWB]; exact Nat.le_refl _
      rw [← hWA, ← hWB] at hmk
      clear hWA hWB
      have HB111 : Below w4.heap.size w4 W111 := HB109.trans (hbn.mono HB109.size)
      have hx_x : W111.heap[b_x]? = some (.cells #[.slice none 0 0, .slice none 0 0, .slice none 0 0, .slice none 0 0] 96) := (hbn.block _ (block_lt hx_x)).trans hx_x
      clear hbn
      go_simp
      refine hK.out _ _ (by (try dsimp only); exact HSB.out _ HB111) (fun hHeld => ?_)
      clear hK K hHeld
      try simp only [Act.put, ptL]
      clear HB109
      refine tk 10 rfl (by exact HSB.out _ HB111) ?_
      try simp only [Act.put, ptL]
      refine tk 11 rfl (by exact HSB.out _ HB111) ?_
      try simp only [Act.put, ptL]
      refine tk 12 rfl (by exact HSB.out _ HB111) ?_
      try simp only [Act.put, ptL]
      refine wpAnyH_ready (rs := [14]) (by kernel_rfl) (by simp) ?_
      refine AllReadyH.cons rfl (fun K hK => ?_) AllReadyH.nil
      refine set4K W111 b_x 96 _ _ _ _ (.slice qa na ca) (.slice qb nb cb) (.slice qc nc cc) (.slice qd nd cd) hx_x (fun wa115 wb115 wc115 W115 sa sb sc sd ca0 fa0 ca1 fa1 ca2 fa2 ca3 fa3 hx4 hxk HZs hxb => ?_)
      have HB115 : Below w4.heap.size w4 W115 := hxb w4 w4.heap.size hl_x HB111
      have hx_x := hx4
      have HQ : ∀ k, WA.heap.size ≤ k → k < WB.heap.size → W115.heap[k]? = WB.heap[k]? := fun k h1 h2 => (hxk k (by omega)).trans (HQ k h1 h2)
      have hqs : WB.heap.size ≤ W115.heap.size := by rw [HZs.out]; exact hqs
      clear hx4 hxk hxb HZs
      go_simp
      refine hK.out _ _ (by (try dsimp only); exact HSB.out _ HB115) (fun hHeld => ?_)
      clear hK K hHeld
      try simp only [Act.put, ptL]
      clear ca0 ca1 ca2 ca3 fa0 fa1 fa2 fa3 sa sb sc sd HB111
      refine tk 15 rfl (by exact HSB.out _ HB115) ?_
      try simp only [Act.put, ptL]
      refine wpAnyH_done (by kernel_rfl) ?_ _
      obtain ⟨wz, hwz⟩ : ∃ wz, wz = W115 := ⟨_, rfl⟩
      subst hwz
      have HBZ := HB115
      clear HB115
      exact ⟨rfl, _, _, _, _, _, _, _, _, _, _, _, _, _, _, _, _, _, _, _, _, rfl, Lib.hid hx_x, Lib.hid (by rw [Bool.true_and]; exact hmk.out.at HQ), Lib.hid HBZ, Lib.hid hl_x⟩
  case imp =>
    rintro e a wz ⟨rfl, bx, qa, na, ca, qb, nb, cb, qc, nc, cc, qd, nd, cd, er, g14, g15, g16, g17, g18, g19, rfl, HX, HAZ, HBZ, HLX⟩
    rcases HAZ.out with ⟨hf, rfl, ea, eb, ec, ed⟩ | ⟨hf, ht, rfl, ea, eb, ec, ed⟩ | ⟨hpo, hfi, ht, rfl, ea, eb, ec, g, cap, ed, hq⟩
    all_goals
      obtain ⟨rfl, rfl, rfl⟩ := sl_inj ea
      obtain ⟨rfl, rfl, rfl⟩ := sl_inj eb
      obtain ⟨rfl, rfl, rfl⟩ := sl_inj ec
      obtain ⟨rfl, rfl, rfl⟩ := sl_inj ed
      clear ea eb ec ed
    · have HF := Lib.hid hf
      have hkz := (HBZ.out.block _ (block_lt HKR.out)).trans HKR.out
      obtain ⟨w4, w5, s1, s2, ⟨c0', f0⟩, ⟨c1', f1⟩, hx4, hxk, HZ5, hxb⟩ := set2 wz w3.heap.size 44 _ _ (.int .i64 0) (.int .i64 0) hkz
      obtain ⟨r0, r1⟩ := cells2 hx4
      have HBB := Lib.hid (hxb w w.heap.size (by have := HZ.out; omega) (HB.out.trans (HBZ.out.mono HB.out.size)))
      clear hx4 hxk hxb hkz hf
      go_wp2
      refine bodyPost_ret (v := .tuple #[.agg #[.int .i64 0, .int .i64 0], .int .i64 2]) ?_ rfl ⟨?_, HBB.out⟩
      · simp [results, Tryz.results55, go_sem, r0, r1]
      · exact ans_bad HF.out
    · have HF := Lib.hid (And.intro hf ht)
      have hkz := (HBZ.out.block _ (block_lt HKR.out)).trans HKR.out
      obtain ⟨w4, w5, s1, s2, ⟨c0', f0⟩, ⟨c1', f1⟩, hx4, hxk, HZ5, hxb⟩ := set2 wz w3.heap.size 44 _ _ (.int .i64 0) (.int .i64 0) hkz
      obtain ⟨r0, r1⟩ := cells2 hx4
      have HBB := Lib.hid (hxb w w.heap.size (by have := HZ.out; omega) (HB.out.trans (HBZ.out.mono HB.out.size)))
      clear hx4 hxk hxb hkz hf ht
      go_wp2
      refine bodyPost_ret (v := .tuple #[.agg #[.int .i64 0, .int .i64 0], .int .i64 7]) ?_ rfl ⟨?_, HBB.out⟩
      · simp [results, Tryz.results55, go_sem, r0, r1]
      · exact ans_rule HF.out.1 HF.out.2
    · rw [Bool.and_eq_true] at hfi
      have hHO := handB_iff.1 hfi.1
      have hKO := handB_iff.1 hfi.2
      have hT := truths_le hpo
      obtain ⟨x0, x1, x2, x3⟩ := cells4 HX.out
      have hov := over_gen 92 #[.pointer (some ⟨w1.heap.size, 0, none⟩), .pointer (some ⟨w2.heap.size, 0, none⟩)] (enters_of Tryz.func92 (by kernel_rfl) rfl) pm pv pr cm cv cr p (some ⟨g, 0, none⟩) cap (truthsF p) wz (apF p h k) hq (by omega) (fun W i p1 p2 c1 c2 hb hk hl1 h1 h2 hl2 hcc hpp =>
        c1_apart p (gl (truthsF p) i) p1 p2 c1 c2 w1.heap.size w2.heap.size h k pe pf ce cf W hpo (truth_plays hpo (gl_mem hk)) h2 hHO hKO ((HRH.out wz HBZ.out).below hb) ((HRK.out wz HBZ.out).below hb))
      have hfi : (handB p.ms.length h && handB p.ms.length k) = true := by rw [hfi.1, hfi.2]; rfl
      rw [ovTo_all] at hov
      have HF := Lib.hid (And.intro (pieceB_iff.2 hpo) (And.intro hfi ht))
      have HBY := Lib.hid (HB.out.trans (HBZ.out.mono HB.out.size))
      have HKZ := Lib.hid ((HBZ.out.block _ (block_lt HKR.out)).trans HKR.out)
      clear hq hpo hfi ht hHO hKO hT HRH HRK HSB HPW HEW HFW HC HD
      go_wp2_with fail
      refine hov.mono ?_
      clear hov
      rintro e w6 ⟨rfl, b6⟩
      have hkz := (b6.block _ (block_lt HKZ.out)).trans HKZ.out
      obtain ⟨w7, w8, s1, s2, ⟨c0', f0⟩, ⟨c1', f1⟩, hx4, hxk, HZ5, hxb⟩ := set2 w6 w3.heap.size 44 _ _ (.int .i64 (ovF p (apF p h k)).1) (.int .i64 (ovF p (apF p h k)).2) hkz
      obtain ⟨r0, r1⟩ := cells2 hx4
      have HBB := Lib.hid (hxb w w.heap.size (by have := HZ.out; omega) (HBY.out.trans (b6.mono HBY.out.size)))
      clear hx4 hxk hxb hkz b6
      go_wp2
      refine bodyPost_ret (v := .tuple #[.agg #[.int .i64 (ovF p (apF p h k)).1, .int .i64 (ovF p (apF p h k)).2], .int .i64 0]) ?_ rfl ⟨?_, HBB.out⟩
      · simp [results, Tryz.results55, go_sem, r0, r1]
      · exact ans_good HF.out.1 HF.out.2.1 HF.out.2.2
end Go.Proofs.YtlednchfifphgaaGreatDoor
end
