/-
  Aim: contract, all arguments (printed by slkask.py)
-/
import Derived.Test.YtlednchfifphgaaGreatDoorGH
import Derived.Test.YtlednchfifphgaaGreatDoorGS
section
namespace Go.Proofs.YtlednchfifphgaaGreatDoor
set_option linter.unusedSimpArgs false
open Go Go.RowKit Go.Proofs
set_option linter.unusedVariables false
attribute [local go_sem] imax2 imin2

theorem aimTo_up {p : Pc} {a : Nat} {want lim m : Int} {k : Nat} (h : aimTo p a want lim k = some m) : ∀ {n : Nat}, k ≤ n → aimTo p a want lim n = some m := by
  intro n hn
  induction n with
  | zero => have : k = 0 := by omega
            subst this; exact h
  | succ n ih =>
    rcases (show k = n + 1 ∨ k ≤ n by omega) with rfl | h2
    · exact h
    · rw [aimTo, ih h2]
theorem c_isPlaceB (n : Int) (w : World) : Calls Tryz.prog 93 #[.int .i64 n] w fun e w' => e = .returned (.bool (inB n (-5000) 5000)) ∧ Below w.heap.size w w' :=
  (c_isPlace n w).mono fun e w' h => ⟨h.1, h.2 ▸ Below.refl _ _⟩
theorem c_isLimitB (n : Int) (w : World) : Calls Tryz.prog 94 #[.int .i64 n] w fun e w' => e = .returned (.bool (inB n 0 5000)) ∧ Below w.heap.size w w' :=
  (c_isLimit n w).mono fun e w' h => ⟨h.1, h.2 ▸ Below.refl _ _⟩
def aimErr (p : Pc) (n want lim : Int) : Int := if errF p ((inB n 1 p.ms.length && inB want (-5000) 5000) && inB lim 0 5000) = 0 then (if aimF p n.toNat want lim = none then 5 else 0) else errF p ((inB n 1 p.ms.length && inB want (-5000) 5000) && inB lim 0 5000)
def aimOut (p : Pc) (n want lim : Int) : Int := if errF p ((inB n 1 p.ms.length && inB want (-5000) 5000) && inB lim 0 5000) = 0 then (aimF p n.toNat want lim).getD 0 else 0
/-- the least move after which the arbor surely is near to the place, or the error -/
def AimPost (p : Pc) (n want lim : Int) (w : World) (e : Ending) (w' : World) : Prop := e = .returned (.tuple #[.int .i64 (aimOut p n want lim), .int .i64 (aimErr p n want lim)]) ∧ Below w.heap.size w w'
set_option maxHeartbeats 6400000 in
set_option maxRecDepth 100000 in
theorem c_Aim (pm pv pr : Option Addr) (cm cv cr : Nat) (p : Pc) (n want lim : Int) (w : World) (hp : RdP w pm pv pr p) (hl : LenOk p) :
    Calls Tryz.prog 57 #[.agg #[.slice pm p.ms.length cm, .slice pv p.mv.length cv, .slice pr p.rs.length cr], .int .i64 n, .int .i64 want, .int .i64 lim] w (AimPost p n want lim w) := by
  obtain ⟨w1, e1, HS1, k0, k1, k2, b1⟩ := box3 w (.slice pm p.ms.length cm) (.slice pv p.mv.length cv) (.slice pr p.rs.length cr) 26
  have HPW := Lib.hid (fun (W : World) (hb : Below w1.heap.size w1 W) => (hp.below b1).below hb)
  have HL := Lib.hid hl
  have HB := Lib.hid b1
  have HSB := Lib.hid (show ∀ W, Below w1.heap.size w1 W → (fun w' => (w'.cell? ⟨w.heap.size, 0, none⟩ = some (.slice pm p.ms.length cm) ∧ w'.cell? ⟨w.heap.size, 1, none⟩ = some (.slice pv p.mv.length cv) ∧ w'.cell? ⟨w.heap.size, 2, none⟩ = some (.slice pr p.rs.length cr))) W from fun W hb => ⟨(hb.cell (lt_of_cellq k0)).trans k0, (hb.cell (lt_of_cellq k1)).trans k1, (hb.cell (lt_of_cellq k2)).trans k2⟩)
  clear hp hl b1
  go_enter Tryz.func57, Tryz.ntmps57
  go_upto_region 1 with (fail)
  go_step3
  go_upto_region 1 with (fail)
  clear e1 k0 k1 k2
  refine Code.wp_mono (Q := fun e a wz => e = .normal ∧ ∃ (bx : Nat) (qa : Option Addr) (na ca : Nat) (qb : Option Addr) (nb cb : Nat) (qc : Option Addr) (nc cc : Nat) (qd : Option Addr) (nd cd : Nat) (er : Int) (g21 g22 g23 g24 g25 g26 g27 g28 g29 : Value), a = { tmps := #[.agg #[.slice pm p.ms.length cm, .slice pv p.mv.length cv, .slice pr p.rs.length cr], .int .i64 n, .int .i64 want, .int .i64 lim, .pointer (some ⟨w.heap.size, 0, none⟩), undef, undef, undef, .int .i64 0, .int .i64 0, .pointer (some ⟨bx, 0, none⟩), .int .i64 er, undef, undef, undef, undef, undef, .tuple #[.agg #[.slice qa na ca, .slice qb nb cb, .slice qc nc cc, .slice qd nd cd], .int .i64 er], .agg #[.slice pm p.ms.length cm, .slice pv p.mv.length cv, .slice pr p.rs.length cr], .agg #[.slice pm p.ms.length cm, .slice pv p.mv.length cv, .slice pr p.rs.length cr], .int .i64 n, g21, g22, g23, g24, g25, g26, g27, g28, g29, .tuple #[.agg #[.slice qa na ca, .slice qb nb cb, .slice qc nc cc, .slice qd nd cd], .int .i64 er], .agg #[.slice qa na ca, .slice qb nb cb, .slice qc nc cc, .slice qd nd cd], .int .i64 er, undef, undef, undef, undef, undef, undef, undef, undef, undef, undef, undef, undef, undef, undef, undef, undef, undef, undef, undef, undef, undef, undef, undef, undef, undef], defers := [] } ∧ Hid (wz.heap[bx]? = some (.cells #[.slice qa na ca, .slice qb nb cb, .slice qc nc cc, .slice qd nd cd] 96 (0, 0))) ∧ Hid (AskZ pm pv pr cm cv cr p ((inB n 1 p.ms.length && inB want (-5000) 5000) && inB lim 0 5000) (.slice qa na ca) (.slice qb nb cb) (.slice qc nc cc) (.slice qd nd cd) er wz) ∧ Hid (Below w1.heap.size w1 wz) ∧ Hid (w1.heap.size ≤ bx)) ?imp ?reg
  case reg =>
    rcases hF1 : inB n 1 p.ms.length with _ | _
    · skip
      refine wp_region_held_drew (S := (fun w' => (w'.cell? ⟨w.heap.size, 0, none⟩ = some (.slice pm p.ms.length cm) ∧ w'.cell? ⟨w.heap.size, 1, none⟩ = some (.slice pv p.mv.length cv) ∧ w'.cell? ⟨w.heap.size, 2, none⟩ = some (.slice pr p.rs.length cr)))) (by kernel_rfl) (by (try dsimp only); exact HSB.out _ (Below.refl _ _).drew) (fun hHeld => ?_)
      refine wpAnyH_gen (fun W0 hW0 => ?_)
      have HB0 : Below w1.heap.size w1 W0 := by rw [hW0]; exact (Below.refl _ _).drew
      clear hW0 hHeld
      refine tk 0 rfl (by exact HSB.out _ HB0) ?_
      try simp only [Act.put, ptL]
      refine tk 1 rfl (by exact HSB.out _ HB0) ?_
      try simp only [Act.put, ptL]
      refine tk 2 rfl (by exact HSB.out _ HB0) ?_
      try simp only [Act.put, ptL]
      refine wpAnyH_ready (rs := [3, 16]) (by kernel_rfl) (by simp) ?_
      refine AllReadyH.cons rfl (fun K hK => ?_) (AllReadyH.cons rfl (fun K hK => ?_) AllReadyH.nil)
      · go_simp
        (with_reducible refine (c_isArbor pm pv pr cm cv cr p n 1 W0).mono ?_)
        rw [hF1]
        rintro e W30 ⟨rfl, hbn⟩
        have HB30 : Below w1.heap.size w1 W30 := HB0.trans (hbn.mono HB0.size)
        clear hbn
        go_simp
        refine hK.out _ _ (by (try dsimp only); exact HSB.out _ HB30) (fun hHeld => ?_)
        clear hK K hHeld
        try simp only [Act.put, ptL]
        clear HB0
        refine tk 4 rfl (by exact HSB.out _ HB30) ?_
        try simp only [Act.put, ptL]
        refine wpAnyH_take (i := 5) (v := undef) rfl (by kernel_rfl) (by kernel_rfl) (by kernel_rfl) (fun _ _ _ h => by first | exact h | (exact absurd h.1 (by intro hh; cases hh))) (Or.inr ⟨by rfl, rfl⟩) (by (try dsimp only); exact HSB.out _ HB30) ?_
        try simp only [Act.put, ptL]
        refine wpAnyH_ready (rs := [6, 16]) (by kernel_rfl) (by simp) ?_
        refine AllReadyH.cons rfl (fun K hK => ?_) (AllReadyH.cons rfl (fun K hK => ?_) AllReadyH.nil)
        · rw [if_neg (by intro hw; exact Bool.noConfusion (show false = true from hw))]
          refine hK.out _ _ (by (try dsimp only); exact HSB.out _ HB30) (fun hHeld => ?_)
          clear hK K hHeld
          try simp only [Act.put, ptL]
          refine tk 7 rfl (by exact HSB.out _ HB30) ?_
          try simp only [Act.put, ptL]
          refine tk 8 rfl (by exact HSB.out _ HB30) ?_
          try simp only [Act.put, ptL]
          refine wpAnyH_take (i := 9) (v := undef) rfl (by kernel_rfl) (by kernel_rfl) (by kernel_rfl) (fun _ _ _ h => by first | exact h | (exact absurd h.1 (by intro hh; cases hh))) (Or.inr ⟨by rfl, rfl⟩) (by (try dsimp only); exact HSB.out _ HB30) ?_
          try simp only [Act.put, ptL]
          refine wpAnyH_ready (rs := [10, 16]) (by kernel_rfl) (by simp) ?_
          refine AllReadyH.cons rfl (fun K hK => ?_) (AllReadyH.cons rfl (fun K hK => ?_) AllReadyH.nil)
          · rw [if_neg (by intro hw; exact Bool.noConfusion (show false = true from hw))]
            refine hK.out _ _ (by (try dsimp only); exact HSB.out _ HB30) (fun hHeld => ?_)
            clear hK K hHeld
            try simp only [Act.put, ptL]
            refine tk 11 rfl (by exact HSB.out _ HB30) ?_
            try simp only [Act.put, ptL]
            refine wpAnyH_ready (rs := [12, 16]) (by kernel_rfl) (by simp) ?_
            refine AllReadyH.cons rfl (fun K hK => ?_) (AllReadyH.cons rfl (fun K hK => ?_) AllReadyH.nil)
            · go_simp
              obtain ⟨WA, hWA⟩ : ∃ WA, WA = W30 := ⟨_, rfl⟩
              (with_reducible refine (c_askedG pm pv pr cm cv cr p false W30 (HPW.out _ HB30) HL.out).mono ?_)
              rintro e W39 ⟨qa, na, ca, qb, nb, cb, qc, nc, cc, qd, nd, cd, er, rfl, hmk, hbn⟩
              obtain ⟨WB, hWB⟩ : ∃ WB, WB = W39 := ⟨_, rfl⟩
              have HQ : ∀ k, WA.heap.size ≤ k → k < WB.heap.size → W39.heap[k]? = WB.heap[k]? := fun k _ _ => by rw [hWB]
              have hqs : WB.heap.size ≤ W39.heap.size := by rw [hWB]; exact Nat.le_refl _
              rw [← hWA, ← hWB] at hmk
              clear hWA hWB
              have HB39 : Below w1.heap.size w1 W39 := HB30.trans (hbn.mono HB30.size)
              clear hbn
              go_simp
              refine hK.out _ _ (by (try dsimp only); exact HSB.out _ HB39) (fun hHeld => ?_)
              clear hK K hHeld
              try simp only [Act.put, ptL]
              clear HB30
              refine tk 13 rfl (by exact HSB.out _ HB39) ?_
              try simp only [Act.put, ptL]
              refine tk 14 rfl (by exact HSB.out _ HB39) ?_
              try simp only [Act.put, ptL]
              refine tk 15 rfl (by exact HSB.out _ HB39) ?_
              try simp only [Act.put, ptL]
              refine wpAnyH_ready (rs := [16]) (by kernel_rfl) (by simp) ?_
              refine AllReadyH.cons rfl (fun K hK => ?_) AllReadyH.nil
              go_simp
              refine hK.out _ _ (by (try dsimp only); exact HSB.out _ (HB39.alloc HB39.size _)) (fun hHeld => ?_)
              clear hK K hHeld
              try simp only [Act.put, ptL]
              refine wpAnyH_gen (fun W43 hWn => ?_)
              have HB43 : Below w1.heap.size w1 W43 := by rw [hWn]; exact HB39.alloc HB39.size _
              have HQ : ∀ k, WA.heap.size ≤ k → k < WB.heap.size → W43.heap[k]? = WB.heap[k]? := fun k h1 h2 => by rw [hWn, Below.heap_alloc _ _ _ (Nat.lt_of_lt_of_le h2 hqs)]; exact HQ k h1 h2
              have hq_x : WB.heap.size ≤ W39.heap.size := hqs
              have hqs : WB.heap.size ≤ W43.heap.size := by rw [hWn]; simp; omega
              have hx_x : W43.heap[W39.heap.size]? = some (.cells #[.slice none 0 0, .slice none 0 0, .slice none 0 0, .slice none 0 0] 96) := by rw [hWn]; exact alloc_new _ _
              have hl_x : w1.heap.size ≤ W39.heap.size := HB39.size
              clear hWn
              obtain ⟨b_x, hb_x⟩ : ∃ b, W39.heap.size = b := ⟨_, rfl⟩
              rw [hb_x] at hx_x hl_x hq_x ⊢
              clear HB39 hb_x 
              refine wpAnyH_ready (rs := [17]) (by kernel_rfl) (by simp) ?_
              refine AllReadyH.cons rfl (fun K hK => ?_) AllReadyH.nil
              refine set4K W43 b_x 96 _ _ _ _ (.slice qa na ca) (.slice qb nb cb) (.slice qc nc cc) (.slice qd nd cd) hx_x (fun wa44 wb44 wc44 W44 sa sb sc sd ca0 fa0 ca1 fa1 ca2 fa2 ca3 fa3 hx4 hxk HZs hxb => ?_)
              have HB44 : Below w1.heap.size w1 W44 := hxb w1 w1.heap.size hl_x HB43
              have hx_x := hx4
              have HQ : ∀ k, WA.heap.size ≤ k → k < WB.heap.size → W44.heap[k]? = WB.heap[k]? := fun k h1 h2 => (hxk k (by omega)).trans (HQ k h1 h2)
              have hqs : WB.heap.size ≤ W44.heap.size := by rw [HZs.out]; exact hqs
              clear hx4 hxk hxb HZs
              go_simp
              refine hK.out _ _ (by (try dsimp only); exact HSB.out _ HB44) (fun hHeld => ?_)
              clear hK K hHeld
              try simp only [Act.put, ptL]
              clear ca0 ca1 ca2 ca3 fa0 fa1 fa2 fa3 sa sb sc sd HB43
              refine tk 18 rfl (by exact HSB.out _ HB44) ?_
              try simp only [Act.put, ptL]
              refine wpAnyH_done (by kernel_rfl) ?_ _
              obtain ⟨wz, hwz⟩ : ∃ wz, wz = W44 := ⟨_, rfl⟩
              subst hwz
              have HBZ := HB44
              clear HB44
              exact ⟨rfl, _, _, _, _, _, _, _, _, _, _, _, _, _, _, _, _, _, _, _, _, _, _, _, rfl, Lib.hid hx_x, Lib.hid (by rw [Bool.false_and, Bool.false_and]; exact hmk.out.at HQ), Lib.hid HBZ, Lib.hid hl_x⟩
            · go_simp
              refine hK.out _ _ (by (try dsimp only); exact HSB.out _ (HB30.alloc HB30.size _)) (fun hHeld => ?_)
              clear hK K hHeld
              try simp only [Act.put, ptL]
              refine wpAnyH_gen (fun W46 hWn => ?_)
              have HB46 : Below w1.heap.size w1 W46 := by rw [hWn]; exact HB30.alloc HB30.size _
              have hx_x : W46.heap[W30.heap.size]? = some (.cells #[.slice none 0 0, .slice none 0 0, .slice none 0 0, .slice none 0 0] 96) := by rw [hWn]; exact alloc_new _ _
              have hl_x : w1.heap.size ≤ W30.heap.size := HB30.size
              clear hWn
              obtain ⟨b_x, hb_x⟩ : ∃ b, W30.heap.size = b := ⟨_, rfl⟩
              rw [hb_x] at hx_x hl_x ⊢
              clear HB30 hb_x 
              refine wpAnyH_ready (rs := [12]) (by kernel_rfl) (by simp) ?_
              refine AllReadyH.cons rfl (fun K hK => ?_) AllReadyH.nil
              go_simp
              obtain ⟨WA, hWA⟩ : ∃ WA, WA = W46 := ⟨_, rfl⟩
              have hq_x : b_x < WA.heap.size := by rw [hWA]; exact block_lt hx_x
              (with_reducible refine (c_askedG pm pv pr cm cv cr p false W46 (HPW.out _ HB46) HL.out).mono ?_)
              rintro e W47 ⟨qa, na, ca, qb, nb, cb, qc, nc, cc, qd, nd, cd, er, rfl, hmk, hbn⟩
              obtain ⟨WB, hWB⟩ : ∃ WB, WB = W47 := ⟨_, rfl⟩
              have HQ : ∀ k, WA.heap.size ≤ k → k < WB.heap.size → W47.heap[k]? = WB.heap[k]? := fun k _ _ => by rw [hWB]
              have hqs : WB.heap.size ≤ W47.heap.size := by rw [hWB]; exact Nat.le_refl _
              rw [← hWA, ← hWB] at hmk
              clear hWA hWB
              have HB47 : Below w1.heap.size w1 W47 := HB46.trans (hbn.mono HB46.size)
              have hx_x : W47.heap[b_x]? = some (.cells #[.slice none 0 0, .slice none 0 0, .slice none 0 0, .slice none 0 0] 96) := (hbn.block _ (block_lt hx_x)).trans hx_x
              clear hbn
              go_simp
              refine hK.out _ _ (by (try dsimp only); exact HSB.out _ HB47) (fun hHeld => ?_)
              clear hK K hHeld
              try simp only [Act.put, ptL]
              clear HB46
              refine tk 13 rfl (by exact HSB.out _ HB47) ?_
              try simp only [Act.put, ptL]
              refine tk 14 rfl (by exact HSB.out _ HB47) ?_
              try simp only [Act.put, ptL]
              refine tk 15 rfl (by exact HSB.out _ HB47) ?_
              try simp only [Act.put, ptL]
              refine wpAnyH_ready (rs := [17]) (by kernel_rfl) (by simp) ?_
              refine AllReadyH.cons rfl (fun K hK => ?_) AllReadyH.nil
              refine set4K W47 b_x 96 _ _ _ _ (.slice qa na ca) (.slice qb nb cb) (.slice qc nc cc) (.slice qd nd cd) hx_x (fun wa51 wb51 wc51 W51 sa sb sc sd ca0 fa0 ca1 fa1 ca2 fa2 ca3 fa3 hx4 hxk HZs hxb => ?_)
              have HB51 : Below w1.heap.size w1 W51 := hxb w1 w1.heap.size hl_x HB47
              have hx_x := hx4
              have HQ : ∀ k, WA.heap.size ≤ k → k < WB.heap.size → W51.heap[k]? = WB.heap[k]? := fun k h1 h2 => (hxk k (by omega)).trans (HQ k h1 h2)
              have hqs : WB.heap.size ≤ W51.heap.size := by rw [HZs.out]; exact hqs
              clear hx4 hxk hxb HZs
              go_simp
              refine hK.out _ _ (by (try dsimp only); exact HSB.out _ HB51) (fun hHeld => ?_)
              clear hK K hHeld
              try simp only [Act.put, ptL]
              clear ca0 ca1 ca2 ca3 fa0 fa1 fa2 fa3 sa sb sc sd HB47
              refine tk 18 rfl (by exact HSB.out _ HB51) ?_
              try simp only [Act.put, ptL]
              refine wpAnyH_done (by kernel_rfl) ?_ _
              obtain ⟨wz, hwz⟩ : ∃ wz, wz = W51 := ⟨_, rfl⟩
              subst hwz
              have HBZ := HB51
              clear HB51
              exact ⟨rfl, _, _, _, _, _, _, _, _, _, _, _, _, _, _, _, _, _, _, _, _, _, _, _, rfl, Lib.hid hx_x, Lib.hid (by rw [Bool.false_and, Bool.false_and]; exact hmk.out.at HQ), Lib.hid HBZ, Lib.hid hl_x⟩
          · go_simp
            refine hK.out _ _ (by (try dsimp only); exact HSB.out _ (HB30.alloc HB30.size _)) (fun hHeld => ?_)
            clear hK K hHeld
            try simp only [Act.put, ptL]
            refine wpAnyH_gen (fun W53 hWn => ?_)
            have HB53 : Below w1.heap.size w1 W53 := by rw [hWn]; exact HB30.alloc HB30.size _
            have hx_x : W53.heap[W30.heap.size]? = some (.cells #[.slice none 0 0, .slice none 0 0, .slice none 0 0, .slice none 0 0] 96) := by rw [hWn]; exact alloc_new _ _
            have hl_x : w1.heap.size ≤ W30.heap.size := HB30.size
            clear hWn
            obtain ⟨b_x, hb_x⟩ : ∃ b, W30.heap.size = b := ⟨_, rfl⟩
            rw [hb_x] at hx_x hl_x ⊢
            clear HB30 hb_x 
            refine wpAnyH_ready (rs := [10]) (by kernel_rfl) (by simp) ?_
            refine AllReadyH.cons rfl (fun K hK => ?_) AllReadyH.nil
            rw [if_neg (by intro hw; exact Bool.noConfusion (show false = true from hw))]
            refine hK.out _ _ (by (try dsimp only); exact HSB.out _ HB53) (fun hHeld => ?_)
            clear hK K hHeld
            try simp only [Act.put, ptL]
            refine tk 11 rfl (by exact HSB.out _ HB53) ?_
            try simp only [Act.put, ptL]
            refine wpAnyH_ready (rs := [12]) (by kernel_rfl) (by simp) ?_
            refine AllReadyH.cons rfl (fun K hK => ?_) AllReadyH.nil
            go_simp
            obtain ⟨WA, hWA⟩ : ∃ WA, WA = W53 := ⟨_, rfl⟩
            have hq_x : b_x < WA.heap.size := by rw [hWA]; exact block_lt hx_x
            (with_reducible refine (c_askedG pm pv pr cm cv cr p false W53 (HPW.out _ HB53) HL.out).mono ?_)
            rintro e W56 ⟨qa, na, ca, qb, nb, cb, qc, nc, cc, qd, nd, cd, er, rfl, hmk, hbn⟩
            obtain ⟨WB, hWB⟩ : ∃ WB, WB = W56 := ⟨_, rfl⟩
            have HQ : ∀ k, WA.heap.size ≤ k → k < WB.heap.size → W56.heap[k]? = WB.heap[k]? := fun k _ _ => by rw [hWB]
            have hqs : WB.heap.size ≤ W56.heap.size := by rw [hWB]; exact Nat.le_refl _
            rw [← hWA, ← hWB] at hmk
            clear hWA hWB
            have HB56 : Below w1.heap.size w1 W56 := HB53.trans (hbn.mono HB53.size)
            have hx_x : W56.heap[b_x]? = some (.cells #[.slice none 0 0, .slice none 0 0, .slice none 0 0, .slice none 0 0] 96) := (hbn.block _ (block_lt hx_x)).trans hx_x
            clear hbn
            go_simp
            refine hK.out _ _ (by (try dsimp only); exact HSB.out _ HB56) (fun hHeld => ?_)
            clear hK K hHeld
            try simp only [Act.put, ptL]
            clear HB53
            refine tk 13 rfl (by exact HSB.out _ HB56) ?_
            try simp only [Act.put, ptL]
            refine tk 14 rfl (by exact HSB.out _ HB56) ?_
            try simp only [Act.put, ptL]
            refine tk 15 rfl (by exact HSB.out _ HB56) ?_
            try simp only [Act.put, ptL]
            refine wpAnyH_ready (rs := [17]) (by kernel_rfl) (by simp) ?_
            refine AllReadyH.cons rfl (fun K hK => ?_) AllReadyH.nil
            refine set4K W56 b_x 96 _ _ _ _ (.slice qa na ca) (.slice qb nb cb) (.slice qc nc cc) (.slice qd nd cd) hx_x (fun wa60 wb60 wc60 W60 sa sb sc sd ca0 fa0 ca1 fa1 ca2 fa2 ca3 fa3 hx4 hxk HZs hxb => ?_)
            have HB60 : Below w1.heap.size w1 W60 := hxb w1 w1.heap.size hl_x HB56
            have hx_x := hx4
            have HQ : ∀ k, WA.heap.size ≤ k → k < WB.heap.size → W60.heap[k]? = WB.heap[k]? := fun k h1 h2 => (hxk k (by omega)).trans (HQ k h1 h2)
            have hqs : WB.heap.size ≤ W60.heap.size := by rw [HZs.out]; exact hqs
            clear hx4 hxk hxb HZs
            go_simp
            refine hK.out _ _ (by (try dsimp only); exact HSB.out _ HB60) (fun hHeld => ?_)
            clear hK K hHeld
            try simp only [Act.put, ptL]
            clear ca0 ca1 ca2 ca3 fa0 fa1 fa2 fa3 sa sb sc sd HB56
            refine tk 18 rfl (by exact HSB.out _ HB60) ?_
            try simp only [Act.put, ptL]
            refine wpAnyH_done (by kernel_rfl) ?_ _
            obtain ⟨wz, hwz⟩ : ∃ wz, wz = W60 := ⟨_, rfl⟩
            subst hwz
            have HBZ := HB60
            clear HB60
            exact ⟨rfl, _, _, _, _, _, _, _, _, _, _, _, _, _, _, _, _, _, _, _, _, _, _, _, rfl, Lib.hid hx_x, Lib.hid (by rw [Bool.false_and, Bool.false_and]; exact hmk.out.at HQ), Lib.hid HBZ, Lib.hid hl_x⟩
        · go_simp
          refine hK.out _ _ (by (try dsimp only); exact HSB.out _ (HB30.alloc HB30.size _)) (fun hHeld => ?_)
          clear hK K hHeld
          try simp only [Act.put, ptL]
          refine wpAnyH_gen (fun W62 hWn => ?_)
          have HB62 : Below w1.heap.size w1 W62 := by rw [hWn]; exact HB30.alloc HB30.size _
          have hx_x : W62.heap[W30.heap.size]? = some (.cells #[.slice none 0 0, .slice none 0 0, .slice none 0 0, .slice none 0 0] 96) := by rw [hWn]; exact alloc_new _ _
          have hl_x : w1.heap.size ≤ W30.heap.size := HB30.size
          clear hWn
          obtain ⟨b_x, hb_x⟩ : ∃ b, W30.heap.size = b := ⟨_, rfl⟩
          rw [hb_x] at hx_x hl_x ⊢
          clear HB30 hb_x 
          refine wpAnyH_ready (rs := [6]) (by kernel_rfl) (by simp) ?_
          refine AllReadyH.cons rfl (fun K hK => ?_) AllReadyH.nil
          rw [if_neg (by intro hw; exact Bool.noConfusion (show false = true from hw))]
          refine hK.out _ _ (by (try dsimp only); exact HSB.out _ HB62) (fun hHeld => ?_)
          clear hK K hHeld
          try simp only [Act.put, ptL]
          refine tk 7 rfl (by exact HSB.out _ HB62) ?_
          try simp only [Act.put, ptL]
          refine tk 8 rfl (by exact HSB.out _ HB62) ?_
          try simp only [Act.put, ptL]
          refine wpAnyH_take (i := 9) (v := undef) rfl (by kernel_rfl) (by kernel_rfl) (by kernel_rfl) (fun _ _ _ h => by first | exact h | (exact absurd h.1 (by intro hh; cases hh))) (Or.inr ⟨by rfl, rfl⟩) (by (try dsimp only); exact HSB.out _ HB62) ?_
          try simp only [Act.put, ptL]
          refine wpAnyH_ready (rs := [10]) (by kernel_rfl) (by simp) ?_
          refine AllReadyH.cons rfl (fun K hK => ?_) AllReadyH.nil
          rw [if_neg (by intro hw; exact Bool.noConfusion (show false = true from hw))]
          refine hK.out _ _ (by (try dsimp only); exact HSB.out _ HB62) (fun hHeld => ?_)
          clear hK K hHeld
          try simp only [Act.put, ptL]
          refine tk 11 rfl (by exact HSB.out _ HB62) ?_
          try simp only [Act.put, ptL]
          refine wpAnyH_ready (rs := [12]) (by kernel_rfl) (by simp) ?_
          refine AllReadyH.cons rfl (fun K hK => ?_) AllReadyH.nil
          go_simp
          obtain ⟨WA, hWA⟩ : ∃ WA, WA = W62 := ⟨_, rfl⟩
          have hq_x : b_x < WA.heap.size := by rw [hWA]; exact block_lt hx_x
          (with_reducible refine (c_askedG pm pv pr cm cv cr p false W62 (HPW.out _ HB62) HL.out).mono ?_)
          rintro e W69 ⟨qa, na, ca, qb, nb, cb, qc, nc, cc, qd, nd, cd, er, rfl, hmk, hbn⟩
          obtain ⟨WB, hWB⟩ : ∃ WB, WB = W69 := ⟨_, rfl⟩
          have HQ : ∀ k, WA.heap.size ≤ k → k < WB.heap.size → W69.heap[k]? = WB.heap[k]? := fun k _ _ => by rw [hWB]
          have hqs : WB.heap.size ≤ W69.heap.size := by rw [hWB]; exact Nat.le_refl _
          rw [← hWA, ← hWB] at hmk
          clear hWA hWB
          have HB69 : Below w1.heap.size w1 W69 := HB62.trans (hbn.mono HB62.size)
          have hx_x : W69.heap[b_x]? = some (.cells #[.slice none 0 0, .slice none 0 0, .slice none 0 0, .slice none 0 0] 96) := (hbn.block _ (block_lt hx_x)).trans hx_x
          clear hbn
          go_simp
          refine hK.out _ _ (by (try dsimp only); exact HSB.out _ HB69) (fun hHeld => ?_)
          clear hK K hHeld
          try simp only [Act.put, ptL]
          clear HB62
          refine tk 13 rfl (by exact HSB.out _ HB69) ?_
          try simp only [Act.put, ptL]
          refine tk 14 rfl (by exact HSB.out _ HB69) ?_
          try simp only [Act.put, ptL]
          refine tk 15 rfl (by exact HSB.out _ HB69) ?_
          try simp only [Act.put, ptL]
          refine wpAnyH_ready (rs := [17]) (by kernel_rfl) (by simp) ?_
          refine AllReadyH.cons rfl (fun K hK => ?_) AllReadyH.nil
          refine set4K W69 b_x 96 _ _ _ _ (.slice qa na ca) (.slice qb nb cb) (.slice qc nc cc) (.slice qd nd cd) hx_x (fun wa73 wb73 wc73 W73 sa sb sc sd ca0 fa0 ca1 fa1 ca2 fa2 ca3 fa3 hx4 hxk HZs hxb => ?_)
          have HB73 : Below w1.heap.size w1 W73 := hxb w1 w1.heap.size hl_x HB69
          have hx_x := hx4
          have HQ : ∀ k, WA.heap.size ≤ k → k < WB.heap.size → W73.heap[k]? = WB.heap[k]? := fun k h1 h2 => (hxk k (by omega)).trans (HQ k h1 h2)
          have hqs : WB.heap.size ≤ W73.heap.size := by rw [HZs.out]; exact hqs
          clear hx4 hxk hxb HZs
          go_simp
          refine hK.out _ _ (by (try dsimp only); exact HSB.out _ HB73) (fun hHeld => ?_)
          clear hK K hHeld
          try simp only [Act.put, ptL]
          clear ca0 ca1 ca2 ca3 fa0 fa1 fa2 fa3 sa sb sc sd HB69
          refine tk 18 rfl (by exact HSB.out _ HB73) ?_
          try simp only [Act.put, ptL]
          refine wpAnyH_done (by kernel_rfl) ?_ _
          obtain ⟨wz, hwz⟩ : ∃ wz, wz = W73 := ⟨_, rfl⟩
          subst hwz
          have HBZ := HB73
          clear HB73
          exact ⟨rfl, _, _, _, _, _, _, _, _, _, _, _, _, _, _, _, _, _, _, _, _, _, _, _, rfl, Lib.hid hx_x, Lib.hid (by rw [Bool.false_and, Bool.false_and]; exact hmk.out.at HQ), Lib.hid HBZ, Lib.hid hl_x⟩
      · go_simp
        refine hK.out _ _ (by (try dsimp only); exact HSB.out _ (HB0.alloc HB0.size _)) (fun hHeld => ?_)
        clear hK K hHeld
        try simp only [Act.put, ptL]
        refine wpAnyH_gen (fun W75 hWn => ?_)
        have HB75 : Below w1.heap.size w1 W75 := by rw [hWn]; exact HB0.alloc HB0.size _
        have hx_x : W75.heap[W0.heap.size]? = some (.cells #[.slice none 0 0, .slice none 0 0, .slice none 0 0, .slice none 0 0] 96) := by rw [hWn]; exact alloc_new _ _
        have hl_x : w1.heap.size ≤ W0.heap.size := HB0.size
        clear hWn
        obtain ⟨b_x, hb_x⟩ : ∃ b, W0.heap.size = b := ⟨_, rfl⟩
        rw [hb_x] at hx_x hl_x ⊢
        clear HB0 hb_x 
        refine wpAnyH_ready (rs := [3]) (by kernel_rfl) (by simp) ?_
        refine AllReadyH.cons rfl (fun K hK => ?_) AllReadyH.nil
        go_simp
        (with_reducible refine (c_isArbor pm pv pr cm cv cr p n 1 W75).mono ?_)
        rw [hF1]
        rintro e W76 ⟨rfl, hbn⟩
        have HB76 : Below w1.heap.size w1 W76 := HB75.trans (hbn.mono HB75.size)
        have hx_x : W76.heap[b_x]? = some (.cells #[.slice none 0 0, .slice none 0 0, .slice none 0 0, .slice none 0 0] 96) := (hbn.block _ (block_lt hx_x)).trans hx_x
        clear hbn
        go_simp
        refine hK.out _ _ (by (try dsimp only); exact HSB.out _ HB76) (fun hHeld => ?_)
        clear hK K hHeld
        try simp only [Act.put, ptL]
        clear HB75
        refine tk 4 rfl (by exact HSB.out _ HB76) ?_
        try simp only [Act.put, ptL]
        refine wpAnyH_take (i := 5) (v := undef) rfl (by kernel_rfl) (by kernel_rfl) (by kernel_rfl) (fun _ _ _ h => by first | exact h | (exact absurd h.1 (by intro hh; cases hh))) (Or.inr ⟨by rfl, rfl⟩) (by (try dsimp only); exact HSB.out _ HB76) ?_
        try simp only [Act.put, ptL]
        refine wpAnyH_ready (rs := [6]) (by kernel_rfl) (by simp) ?_
        refine AllReadyH.cons rfl (fun K hK => ?_) AllReadyH.nil
        rw [if_neg (by intro hw; exact Bool.noConfusion (show false = true from hw))]
        refine hK.out _ _ (by (try dsimp only); exact HSB.out _ HB76) (fun hHeld => ?_)
        clear hK K hHeld
        try simp only [Act.put, ptL]
        refine tk 7 rfl (by exact HSB.out _ HB76) ?_
        try simp only [Act.put, ptL]
        refine tk 8 rfl (by exact HSB.out _ HB76) ?_
        try simp only [Act.put, ptL]
        refine wpAnyH_take (i := 9) (v := undef) rfl (by kernel_rfl) (by kernel_rfl) (by kernel_rfl) (fun _ _ _ h => by first | exact h | (exact absurd h.1 (by intro hh; cases hh))) (Or.inr ⟨by rfl, rfl⟩) (by (try dsimp only); exact HSB.out _ HB76) ?_
        try simp only [Act.put, ptL]
        refine wpAnyH_ready (rs := [10]) (by kernel_rfl) (by simp) ?_
        refine AllReadyH.cons rfl (fun K hK => ?_) AllReadyH.nil
        rw [if_neg (by intro hw; exact Bool.noConfusion (show false = true from hw))]
        refine hK.out _ _ (by (try dsimp only); exact HSB.out _ HB76) (fun hHeld => ?_)
        clear hK K hHeld
        try simp only [Act.put, ptL]
        refine tk 11 rfl (by exact HSB.out _ HB76) ?_
        try simp only [Act.put, ptL]
        refine wpAnyH_ready (rs := [12]) (by kernel_rfl) (by simp) ?_
        refine AllReadyH.cons rfl (fun K hK => ?_) AllReadyH.nil
        go_simp
        obtain ⟨WA, hWA⟩ : ∃ WA, WA = W76 := ⟨_, rfl⟩
        have hq_x : b_x < WA.heap.size := by rw [hWA]; exact block_lt hx_x
        (with_reducible refine (c_askedG pm pv pr cm cv cr p false W76 (HPW.out _ HB76) HL.out).mono ?_)
        rintro e W85 ⟨qa, na, ca, qb, nb, cb, qc, nc, cc, qd, nd, cd, er, rfl, hmk, hbn⟩
        obtain ⟨WB, hWB⟩ : ∃ WB, WB = W85 := ⟨_, rfl⟩
        have HQ : ∀ k, WA.heap.size ≤ k → k < WB.heap.size → W85.heap[k]? = WB.heap[k]? := fun k _ _ => by rw [hWB]
        have hqs : WB.heap.size ≤ W85.heap.size := by rw [hWB]; exact Nat.le_refl _
        rw [← hWA, ← hWB] at hmk
        clear hWA hWB
        have HB85 : Below w1.heap.size w1 W85 := HB76.trans (hbn.mono HB76.size)
        have hx_x : W85.heap[b_x]? = some (.cells #[.slice none 0 0, .slice none 0 0, .slice none 0 0, .slice none 0 0] 96) := (hbn.block _ (block_lt hx_x)).trans hx_x
        clear hbn
        go_simp
        refine hK.out _ _ (by (try dsimp only); exact HSB.out _ HB85) (fun hHeld => ?_)
        clear hK K hHeld
        try simp only [Act.put, ptL]
        clear HB76
        refine tk 13 rfl (by exact HSB.out _ HB85) ?_
        try simp only [Act.put, ptL]
        refine tk 14 rfl (by exact HSB.out _ HB85) ?_
        try simp only [Act.put, ptL]
        refine tk 15 rfl (by exact HSB.out _ HB85) ?_
        try simp only [Act.put, ptL]
        refine wpAnyH_ready (rs := [17]) (by kernel_rfl) (by simp) ?_
        refine AllReadyH.cons rfl (fun K hK => ?_) AllReadyH.nil
        refine set4K W85 b_x 96 _ _ _ _ (.slice qa na ca) (.slice qb nb cb) (.slice qc nc cc) (.slice qd nd cd) hx_x (fun wa89 wb89 wc89 W89 sa sb sc sd ca0 fa0 ca1 fa1 ca2 fa2 ca3 fa3 hx4 hxk HZs hxb => ?_)
        have HB89 : Below w1.heap.size w1 W89 := hxb w1 w1.heap.size hl_x HB85
        have hx_x := hx4
        have HQ : ∀ k, WA.heap.size ≤ k → k < WB.heap.size → W89.heap[k]? = WB.heap[k]? := fun k h1 h2 => (hxk k (by omega)).trans (HQ k h1 h2)
        have hqs : WB.heap.size ≤ W89.heap.size := by rw [HZs.out]; exact hqs
        clear hx4 hxk hxb HZs
        go_simp
        refine hK.out _ _ (by (try dsimp only); exact HSB.out _ HB89) (fun hHeld => ?_)
        clear hK K hHeld
        try simp only [Act.put, ptL]
        clear ca0 ca1 ca2 ca3 fa0 fa1 fa2 fa3 sa sb sc sd HB85
        refine tk 18 rfl (by exact HSB.out _ HB89) ?_
        try simp only [Act.put, ptL]
        refine wpAnyH_done (by kernel_rfl) ?_ _
        obtain ⟨wz, hwz⟩ : ∃ wz, wz = W89 := ⟨_, rfl⟩
        subst hwz
        have HBZ := HB89
        clear HB89
        exact ⟨rfl, _, _, _, _, _, _, _, _, _, _, _, _, _, _, _, _, _, _, _, _, _, _, _, rfl, Lib.hid hx_x, Lib.hid (by rw [Bool.false_and, Bool.false_and]; exact hmk.out.at HQ), Lib.hid HBZ, Lib.hid hl_x⟩
    rcases hF2 : inB want (-5000) 5000 with _ | _
    · skip
      refine wp_region_held_drew (S := (fun w' => (w'.cell? ⟨w.heap.size, 0, none⟩ = some (.slice pm p.ms.length cm) ∧ w'.cell? ⟨w.heap.size, 1, none⟩ = some (.slice pv p.mv.length cv) ∧ w'.cell? ⟨w.heap.size, 2, none⟩ = some (.slice pr p.rs.length cr)))) (by kernel_rfl) (by (try dsimp only); exact HSB.out _ (Below.refl _ _).drew) (fun hHeld => ?_)
      refine wpAnyH_gen (fun W0 hW0 => ?_)
      have HB0 : Below w1.heap.size w1 W0 := by rw [hW0]; exact (Below.refl _ _).drew
      clear hW0 hHeld
      refine tk 0 rfl (by exact HSB.out _ HB0) ?_
      try simp only [Act.put, ptL]
      refine tk 1 rfl (by exact HSB.out _ HB0) ?_
      try simp only [Act.put, ptL]
      refine tk 2 rfl (by exact HSB.out _ HB0) ?_
      try simp only [Act.put, ptL]
      refine wpAnyH_ready (rs := [3, 16]) (by kernel_rfl) (by simp) ?_
      refine AllReadyH.cons rfl (fun K hK => ?_) (AllReadyH.cons rfl (fun K hK => ?_) AllReadyH.nil)
      · go_simp
        (with_reducible refine (c_isArbor pm pv pr cm cv cr p n 1 W0).mono ?_)
        rw [hF1]
        rintro e W94 ⟨rfl, hbn⟩
        have HB94 : Below w1.heap.size w1 W94 := HB0.trans (hbn.mono HB0.size)
        clear hbn
        go_simp
        refine hK.out _ _ (by (try dsimp only); exact HSB.out _ HB94) (fun hHeld => ?_)
        clear hK K hHeld
        try simp only [Act.put, ptL]
        clear HB0
        refine tk 4 rfl (by exact HSB.out _ HB94) ?_
        try simp only [Act.put, ptL]
        refine tk 5 rfl (by exact HSB.out _ HB94) ?_
        try simp only [Act.put, ptL]
        refine wpAnyH_ready (rs := [6, 16]) (by kernel_rfl) (by simp) ?_
        refine AllReadyH.cons rfl (fun K hK => ?_) (AllReadyH.cons rfl (fun K hK => ?_) AllReadyH.nil)
        · go_simp
          (with_reducible refine (c_isPlaceB want W94).mono ?_)
          rw [hF2]
          rintro e W97 ⟨rfl, hbn⟩
          have HB97 : Below w1.heap.size w1 W97 := HB94.trans (hbn.mono HB94.size)
          clear hbn
          go_simp
          refine hK.out _ _ (by (try dsimp only); exact HSB.out _ HB97) (fun hHeld => ?_)
          clear hK K hHeld
          try simp only [Act.put, ptL]
          clear HB94
          refine tk 7 rfl (by exact HSB.out _ HB97) ?_
          try simp only [Act.put, ptL]
          refine tk 8 rfl (by exact HSB.out _ HB97) ?_
          try simp only [Act.put, ptL]
          refine wpAnyH_take (i := 9) (v := undef) rfl (by kernel_rfl) (by kernel_rfl) (by kernel_rfl) (fun _ _ _ h => by first | exact h | (exact absurd h.1 (by intro hh; cases hh))) (Or.inr ⟨by rfl, rfl⟩) (by (try dsimp only); exact HSB.out _ HB97) ?_
          try simp only [Act.put, ptL]
          refine wpAnyH_ready (rs := [10, 16]) (by kernel_rfl) (by simp) ?_
          refine AllReadyH.cons rfl (fun K hK => ?_) (AllReadyH.cons rfl (fun K hK => ?_) AllReadyH.nil)
          · rw [if_neg (by intro hw; exact Bool.noConfusion (show false = true from hw))]
            refine hK.out _ _ (by (try dsimp only); exact HSB.out _ HB97) (fun hHeld => ?_)
            clear hK K hHeld
            try simp only [Act.put, ptL]
            refine tk 11 rfl (by exact HSB.out _ HB97) ?_
            try simp only [Act.put, ptL]
            refine wpAnyH_ready (rs := [12, 16]) (by kernel_rfl) (by simp) ?_
            refine AllReadyH.cons rfl (fun K hK => ?_) (AllReadyH.cons rfl (fun K hK => ?_) AllReadyH.nil)
            · go_simp
              obtain ⟨WA, hWA⟩ : ∃ WA, WA = W97 := ⟨_, rfl⟩
              (with_reducible refine (c_askedG pm pv pr cm cv cr p false W97 (HPW.out _ HB97) HL.out).mono ?_)
              rintro e W103 ⟨qa, na, ca, qb, nb, cb, qc, nc, cc, qd, nd, cd, er, rfl, hmk, hbn⟩
              obtain ⟨WB, hWB⟩ : ∃ WB, WB = W103 := ⟨_, rfl⟩
              have HQ : ∀ k, WA.heap.size ≤ k → k < WB.heap.size → W103.heap[k]? = WB.heap[k]? := fun k _ _ => by rw [hWB]
              have hqs : WB.heap.size ≤ W103.heap.size := by rw [hWB]; exact Nat.le_refl _
              rw [← hWA, ← hWB] at hmk
              clear hWA hWB
              have HB103 : Below w1.heap.size w1 W103 := HB97.trans (hbn.mono HB97.size)
              clear hbn
              go_simp
              refine hK.out _ _ (by (try dsimp only); exact HSB.out _ HB103) (fun hHeld => ?_)
              clear hK K hHeld
              try simp only [Act.put, ptL]
              clear HB97
              refine tk 13 rfl (by exact HSB.out _ HB103) ?_
              try simp only [Act.put, ptL]
              refine tk 14 rfl (by exact HSB.out _ HB103) ?_
              try simp only [Act.put, ptL]
              refine tk 15 rfl (by exact HSB.out _ HB103) ?_
              try simp only [Act.put, ptL]
              refine wpAnyH_ready (rs := [16]) (by kernel_rfl) (by simp) ?_
              refine AllReadyH.cons rfl (fun K hK => ?_) AllReadyH.nil
              go_simp
              refine hK.out _ _ (by (try dsimp only); exact HSB.out _ (HB103.alloc HB103.size _)) (fun hHeld => ?_)
              clear hK K hHeld
              try simp only [Act.put, ptL]
              refine wpAnyH_gen (fun W107 hWn => ?_)
              have HB107 : Below w1.heap.size w1 W107 := by rw [hWn]; exact HB103.alloc HB103.size _
              have HQ : ∀ k, WA.heap.size ≤ k → k < WB.heap.size → W107.heap[k]? = WB.heap[k]? := fun k h1 h2 => by rw [hWn, Below.heap_alloc _ _ _ (Nat.lt_of_lt_of_le h2 hqs)]; exact HQ k h1 h2
              have hq_x : WB.heap.size ≤ W103.heap.size := hqs
              have hqs : WB.heap.size ≤ W107.heap.size := by rw [hWn]; simp; omega
              have hx_x : W107.heap[W103.heap.size]? = some (.cells #[.slice none 0 0, .slice none 0 0, .slice none 0 0, .slice none 0 0] 96) := by rw [hWn]; exact alloc_new _ _
              have hl_x : w1.heap.size ≤ W103.heap.size := HB103.size
              clear hWn
              obtain ⟨b_x, hb_x⟩ : ∃ b, W103.heap.size = b := ⟨_, rfl⟩
              rw [hb_x] at hx_x hl_x hq_x ⊢
              clear HB103 hb_x 
              refine wpAnyH_ready (rs := [17]) (by kernel_rfl) (by simp) ?_
              refine AllReadyH.cons rfl (fun K hK => ?_) AllReadyH.nil
              refine set4K W107 b_x 96 _ _ _ _ (.slice qa na ca) (.slice qb nb cb) (.slice qc nc cc) (.slice qd nd cd) hx_x (fun wa108 wb108 wc108 W108 sa sb sc sd ca0 fa0 ca1 fa1 ca2 fa2 ca3 fa3 hx4 hxk HZs hxb => ?_)
              have HB108 : Below w1.heap.size w1 W108 := hxb w1 w1.heap.size hl_x HB107
              have hx_x := hx4
              have HQ : ∀ k, WA.heap.size ≤ k → k < WB.heap.size → W108.heap[k]? = WB.heap[k]? := fun k h1 h2 => (hxk k (by omega)).trans (HQ k h1 h2)
              have hqs : WB.heap.size ≤ W108.heap.size := by rw [HZs.out]; exact hqs
              clear hx4 hxk hxb HZs
              go_simp
              refine hK.out _ _ (by (try dsimp only); exact HSB.out _ HB108) (fun hHeld => ?_)
              clear hK K hHeld
              try simp only [Act.put, ptL]
              clear ca0 ca1 ca2 ca3 fa0 fa1 fa2 fa3 sa sb sc sd HB107
              refine tk 18 rfl (by exact HSB.out _ HB108) ?_
              try simp only [Act.put, ptL]
              refine wpAnyH_done (by kernel_rfl) ?_ _
              obtain ⟨wz, hwz⟩ : ∃ wz, wz = W108 := ⟨_, rfl⟩
              subst hwz
              have HBZ := HB108
              clear HB108
              exact ⟨rfl, _, _, _, _, _, _, _, _, _, _, _, _, _, _, _, _, _, _, _, _, _, _, _, rfl, Lib.hid hx_x, Lib.hid (by rw [Bool.true_and, Bool.false_and]; exact hmk.out.at HQ), Lib.hid HBZ, Lib.hid hl_x⟩
            · go_simp
              refine hK.out _ _ (by (try dsimp only); exact HSB.out _ (HB97.alloc HB97.size _)) (fun hHeld => ?_)
              clear hK K hHeld
              try simp only [Act.put, ptL]
              refine wpAnyH_gen (fun W110 hWn => ?_)
              have HB110 : Below w1.heap.size w1 W110 := by rw [hWn]; exact HB97.alloc HB97.size _
              have hx_x : W110.heap[W97.heap.size]? = some (.cells #[.slice none 0 0, .slice none 0 0, .slice none 0 0, .slice none 0 0] 96) := by rw [hWn]; exact alloc_new _ _
              have hl_x : w1.heap.size ≤ W97.heap.size := HB97.size
              clear hWn
              obtain ⟨b_x, hb_x⟩ : ∃ b, W97.heap.size = b := ⟨_, rfl⟩
              rw [hb_x] at hx_x hl_x ⊢
              clear HB97 hb_x 
              refine wpAnyH_ready (rs := [12]) (by kernel_rfl) (by simp) ?_
              refine AllReadyH.cons rfl (fun K hK => ?_) AllReadyH.nil
              go_simp
              obtain ⟨WA, hWA⟩ : ∃ WA, WA = W110 := ⟨_, rfl⟩
              have hq_x : b_x < WA.heap.size := by rw [hWA]; exact block_lt hx_x
              (with_reducible refine (c_askedG pm pv pr cm cv cr p false W110 (HPW.out _ HB110) HL.out).mono ?_)
              rintro e W111 ⟨qa, na, ca, qb, nb, cb, qc, nc, cc, qd, nd, cd, er, rfl, hmk, hbn⟩
              obtain ⟨WB, hWB⟩ : ∃ WB, WB = W111 := ⟨_, rfl⟩
              have HQ : ∀ k, WA.heap.size ≤ k → k < WB.heap.size → W111.heap[k]? = WB.heap[k]? := fun k _ _ => by rw [hWB]
              have hqs : WB.heap.size ≤ W111.heap.size := by rw [hWB]; exact Nat.le_refl _
              rw [← hWA, ← hWB] at hmk
              clear hWA hWB
              have HB111 : Below w1.heap.size w1 W111 := HB110.trans (hbn.mono HB110.size)
              have hx_x : W111.heap[b_x]? = some (.cells #[.slice none 0 0, .slice none 0 0, .slice none 0 0, .slice none 0 0] 96) := (hbn.block _ (block_lt hx_x)).trans hx_x
              clear hbn
              go_simp
              refine hK.out _ _ (by (try dsimp only); exact HSB.out _ HB111) (fun hHeld => ?_)
              clear hK K hHeld
              try simp only [Act.put, ptL]
              clear HB110
              refine tk 13 rfl (by exact HSB.out _ HB111) ?_
              try simp only [Act.put, ptL]
              refine tk 14 rfl (by exact HSB.out _ HB111) ?_
              try simp only [Act.put, ptL]
              refine tk 15 rfl (by exact HSB.out _ HB111) ?_
              try simp only [Act.put, ptL]
              refine wpAnyH_ready (rs := [17]) (by kernel_rfl) (by simp) ?_
              refine AllReadyH.cons rfl (fun K hK => ?_) AllReadyH.nil
              refine set4K W111 b_x 96 _ _ _ _ (.slice qa na ca) (.slice qb nb cb) (.slice qc nc cc) (.slice qd nd cd) hx_x (fun wa115 wb115 wc115 W115 sa sb sc sd ca0 fa0 ca1 fa1 ca2 fa2 ca3 fa3 hx4 hxk HZs hxb => ?_)
              have HB115 : Below w1.heap.size w1 W115 := hxb w1 w1.heap.size hl_x HB111
              have hx_x := hx4
              have HQ : ∀ k, WA.heap.size ≤ k → k < WB.heap.size → W115.heap[k]? = WB.heap[k]? := fun k h1 h2 => (hxk k (by omega)).trans (HQ k h1 h2)
              have hqs : WB.heap.size ≤ W115.heap.size := by rw [HZs.out]; exact hqs
              clear hx4 hxk hxb HZs
              go_simp
              refine hK.out _ _ (by (try dsimp only); exact HSB.out _ HB115) (fun hHeld => ?_)
              clear hK K hHeld
              try simp only [Act.put, ptL]
              clear ca0 ca1 ca2 ca3 fa0 fa1 fa2 fa3 sa sb sc sd HB111
              refine tk 18 rfl (by exact HSB.out _ HB115) ?_
              try simp only [Act.put, ptL]
              refine wpAnyH_done (by kernel_rfl) ?_ _
              obtain ⟨wz, hwz⟩ : ∃ wz, wz = W115 := ⟨_, rfl⟩
              subst hwz
              have HBZ := HB115
              clear HB115
              exact ⟨rfl, _, _, _, _, _, _, _, _, _, _, _, _, _, _, _, _, _, _, _, _, _, _, _, rfl, Lib.hid hx_x, Lib.hid (by rw [Bool.true_and, Bool.false_and]; exact hmk.out.at HQ), Lib.hid HBZ, Lib.hid hl_x⟩
          · go_simp
            refine hK.out _ _ (by (try dsimp only); exact HSB.out _ (HB97.alloc HB97.size _)) (fun hHeld => ?_)
            clear hK K hHeld
            try simp only [Act.put, ptL]
            refine wpAnyH_gen (fun W117 hWn => ?_)
            have HB117 : Below w1.heap.size w1 W117 := by rw [hWn]; exact HB97.alloc HB97.size _
            have hx_x : W117.heap[W97.heap.size]? = some (.cells #[.slice none 0 0, .slice none 0 0, .slice none 0 0, .slice none 0 0] 96) := by rw [hWn]; exact alloc_new _ _
            have hl_x : w1.heap.size ≤ W97.heap.size := HB97.size
            clear hWn
            obtain ⟨b_x, hb_x⟩ : ∃ b, W97.heap.size = b := ⟨_, rfl⟩
            rw [hb_x] at hx_x hl_x ⊢
            clear HB97 hb_x 
            refine wpAnyH_ready (rs := [10]) (by kernel_rfl) (by simp) ?_
            refine AllReadyH.cons rfl (fun K hK => ?_) AllReadyH.nil
            rw [if_neg (by intro hw; exact Bool.noConfusion (show false = true from hw))]
            refine hK.out _ _ (by (try dsimp only); exact HSB.out _ HB117) (fun hHeld => ?_)
            clear hK K hHeld
            try simp only [Act.put, ptL]
            refine tk 11 rfl (by exact HSB.out _ HB117) ?_
            try simp only [Act.put, ptL]
            refine wpAnyH_ready (rs := [12]) (by kernel_rfl) (by simp) ?_
            refine AllReadyH.cons rfl (fun K hK => ?_) AllReadyH.nil
            go_simp
            obtain ⟨WA, hWA⟩ : ∃ WA, WA = W117 := ⟨_, rfl⟩
            have hq_x : b_x < WA.heap.size := by rw [hWA]; exact block_lt hx_x
            (with_reducible refine (c_askedG pm pv pr cm cv cr p false W117 (HPW.out _ HB117) HL.out).mono ?_)
            rintro e W120 ⟨qa, na, ca, qb, nb, cb, qc, nc, cc, qd, nd, cd, er, rfl, hmk, hbn⟩
            obtain ⟨WB, hWB⟩ : ∃ WB, WB = W120 := ⟨_, rfl⟩
            have HQ : ∀ k, WA.heap.size ≤ k → k < WB.heap.size → W120.heap[k]? = WB.heap[k]? := fun k _ _ => by rw [hWB]
            have hqs : WB.heap.size ≤ W120.heap.size := by rw [hWB]; exact Nat.le_refl _
            rw [← hWA, ← hWB] at hmk
            clear hWA hWB
            have HB120 : Below w1.heap.size w1 W120 := HB117.trans (hbn.mono HB117.size)
            have hx_x : W120.heap[b_x]? = some (.cells #[.slice none 0 0, .slice none 0 0, .slice none 0 0, .slice none 0 0] 96) := (hbn.block _ (block_lt hx_x)).trans hx_x
            clear hbn
            go_simp
            refine hK.out _ _ (by (try dsimp only); exact HSB.out _ HB120) (fun hHeld => ?_)
            clear hK K hHeld
            try simp only [Act.put, ptL]
            clear HB117
            refine tk 13 rfl (by exact HSB.out _ HB120) ?_
            try simp only [Act.put, ptL]
            refine tk 14 rfl (by exact HSB.out _ HB120) ?_
            try simp only [Act.put, ptL]
            refine tk 15 rfl (by exact HSB.out _ HB120) ?_
            try simp only [Act.put, ptL]
            refine wpAnyH_ready (rs := [17]) (by kernel_rfl) (by simp) ?_
            refine AllReadyH.cons rfl (fun K hK => ?_) AllReadyH.nil
            refine set4K W120 b_x 96 _ _ _ _ (.slice qa na ca) (.slice qb nb cb) (.slice qc nc cc) (.slice qd nd cd) hx_x (fun wa124 wb124 wc124 W124 sa sb sc sd ca0 fa0 ca1 fa1 ca2 fa2 ca3 fa3 hx4 hxk HZs hxb => ?_)
            have HB124 : Below w1.heap.size w1 W124 := hxb w1 w1.heap.size hl_x HB120
            have hx_x := hx4
            have HQ : ∀ k, WA.heap.size ≤ k → k < WB.heap.size → W124.heap[k]? = WB.heap[k]? := fun k h1 h2 => (hxk k (by omega)).trans (HQ k h1 h2)
            have hqs : WB.heap.size ≤ W124.heap.size := by rw [HZs.out]; exact hqs
            clear hx4 hxk hxb HZs
            go_simp
            refine hK.out _ _ (by (try dsimp only); exact HSB.out _ HB124) (fun hHeld => ?_)
            clear hK K hHeld
            try simp only [Act.put, ptL]
            clear ca0 ca1 ca2 ca3 fa0 fa1 fa2 fa3 sa sb sc sd HB120
            refine tk 18 rfl (by exact HSB.out _ HB124) ?_
            try simp only [Act.put, ptL]
            refine wpAnyH_done (by kernel_rfl) ?_ _
            obtain ⟨wz, hwz⟩ : ∃ wz, wz = W124 := ⟨_, rfl⟩
            subst hwz
            have HBZ := HB124
            clear HB124
            exact ⟨rfl, _, _, _, _, _, _, _, _, _, _, _, _, _, _, _, _, _, _, _, _, _, _, _, rfl, Lib.hid hx_x, Lib.hid (by rw [Bool.true_and, Bool.false_and]; exact hmk.out.at HQ), Lib.hid HBZ, Lib.hid hl_x⟩
        · go_simp
          refine hK.out _ _ (by (try dsimp only); exact HSB.out _ (HB94.alloc HB94.size _)) (fun hHeld => ?_)
          clear hK K hHeld
          try simp only [Act.put, ptL]
          refine wpAnyH_gen (fun W126 hWn => ?_)
          have HB126 : Below w1.heap.size w1 W126 := by rw [hWn]; exact HB94.alloc HB94.size _
          have hx_x : W126.heap[W94.heap.size]? = some (.cells #[.slice none 0 0, .slice none 0 0, .slice none 0 0, .slice none 0 0] 96) := by rw [hWn]; exact alloc_new _ _
          have hl_x : w1.heap.size ≤ W94.heap.size := HB94.size
          clear hWn
          obtain ⟨b_x, hb_x⟩ : ∃ b, W94.heap.size = b := ⟨_, rfl⟩
          rw [hb_x] at hx_x hl_x ⊢
          clear HB94 hb_x 
          refine wpAnyH_ready (rs := [6]) (by kernel_rfl) (by simp) ?_
          refine AllReadyH.cons rfl (fun K hK => ?_) AllReadyH.nil
          go_simp
          (with_reducible refine (c_isPlaceB want W126).mono ?_)
          rw [hF2]
          rintro e W127 ⟨rfl, hbn⟩
          have HB127 : Below w1.heap.size w1 W127 := HB126.trans (hbn.mono HB126.size)
          have hx_x : W127.heap[b_x]? = some (.cells #[.slice none 0 0, .slice none 0 0, .slice none 0 0, .slice none 0 0] 96) := (hbn.block _ (block_lt hx_x)).trans hx_x
          clear hbn
          go_simp
          refine hK.out _ _ (by (try dsimp only); exact HSB.out _ HB127) (fun hHeld => ?_)
          clear hK K hHeld
          try simp only [Act.put, ptL]
          clear HB126
          refine tk 7 rfl (by exact HSB.out _ HB127) ?_
          try simp only [Act.put, ptL]
          refine tk 8 rfl (by exact HSB.out _ HB127) ?_
          try simp only [Act.put, ptL]
          refine wpAnyH_take (i := 9) (v := undef) rfl (by kernel_rfl) (by kernel_rfl) (by kernel_rfl) (fun _ _ _ h => by first | exact h | (exact absurd h.1 (by intro hh; cases hh))) (Or.inr ⟨by rfl, rfl⟩) (by (try dsimp only); exact HSB.out _ HB127) ?_
          try simp only [Act.put, ptL]
          refine wpAnyH_ready (rs := [10]) (by kernel_rfl) (by simp) ?_
          refine AllReadyH.cons rfl (fun K hK => ?_) AllReadyH.nil
          rw [if_neg (by intro hw; exact Bool.noConfusion (show false = true from hw))]
          refine hK.out _ _ (by (try dsimp only); exact HSB.out _ HB127) (fun hHeld => ?_)
          clear hK K hHeld
          try simp only [Act.put, ptL]
          refine tk 11 rfl (by exact HSB.out _ HB127) ?_
          try simp only [Act.put, ptL]
          refine wpAnyH_ready (rs := [12]) (by kernel_rfl) (by simp) ?_
          refine AllReadyH.cons rfl (fun K hK => ?_) AllReadyH.nil
          go_simp
          obtain ⟨WA, hWA⟩ : ∃ WA, WA = W127 := ⟨_, rfl⟩
          have hq_x : b_x < WA.heap.size := by rw [hWA]; exact block_lt hx_x
          (with_reducible refine (c_askedG pm pv pr cm cv cr p false W127 (HPW.out _ HB127) HL.out).mono ?_)
          rintro e W133 ⟨qa, na, ca, qb, nb, cb, qc, nc, cc, qd, nd, cd, er, rfl, hmk, hbn⟩
          obtain ⟨WB, hWB⟩ : ∃ WB, WB = W133 := ⟨_, rfl⟩
          have HQ : ∀ k, WA.heap.size ≤ k → k < WB.heap.size → W133.heap[k]? = WB.heap[k]? := fun k _ _ => by rw [hWB]
          have hqs : WB.heap.size ≤ W133.heap.size := by rw [hWB]; exact Nat.le_refl _
          rw [← hWA, ← hWB] at hmk
          clear hWA hWB
          have HB133 : Below w1.heap.size w1 W133 := HB127.trans (hbn.mono HB127.size)
          have hx_x : W133.heap[b_x]? = some (.cells #[.slice none 0 0, .slice none 0 0, .slice none 0 0, .slice none 0 0] 96) := (hbn.block _ (block_lt hx_x)).trans hx_x
          clear hbn
          go_simp
          refine hK.out _ _ (by (try dsimp only); exact HSB.out _ HB133) (fun hHeld => ?_)
          clear hK K hHeld
          try simp only [Act.put, ptL]
          clear HB127
          refine tk 13 rfl (by exact HSB.out _ HB133) ?_
          try simp only [Act.put, ptL]
          refine tk 14 rfl (by exact HSB.out _ HB133) ?_
          try simp only [Act.put, ptL]
          refine tk 15 rfl (by exact HSB.out _ HB133) ?_
          try simp only [Act.put, ptL]
          refine wpAnyH_ready (rs := [17]) (by kernel_rfl) (by simp) ?_
          refine AllReadyH.cons rfl (fun K hK => ?_) AllReadyH.nil
          refine set4K W133 b_x 96 _ _ _ _ (.slice qa na ca) (.slice qb nb cb) (.slice qc nc cc) (.slice qd nd cd) hx_x (fun wa137 wb137 wc137 W137 sa sb sc sd ca0 fa0 ca1 fa1 ca2 fa2 ca3 fa3 hx4 hxk HZs hxb => ?_)
          have HB137 : Below w1.heap.size w1 W137 := hxb w1 w1.heap.size hl_x HB133
          have hx_x := hx4
          have HQ : ∀ k, WA.heap.size ≤ k → k < WB.heap.size → W137.heap[k]? = WB.heap[k]? := fun k h1 h2 => (hxk k (by omega)).trans (HQ k h1 h2)
          have hqs : WB.heap.size ≤ W137.heap.size := by rw [HZs.out]; exact hqs
          clear hx4 hxk hxb HZs
          go_simp
          refine hK.out _ _ (by (try dsimp only); exact HSB.out _ HB137) (fun hHeld => ?_)
          clear hK K hHeld
          try simp only [Act.put, ptL]
          clear ca0 ca1 ca2 ca3 fa0 fa1 fa2 fa3 sa sb sc sd HB133
          refine tk 18 rfl (by exact HSB.out _ HB137) ?_
          try simp only [Act.put, ptL]
          refine wpAnyH_done (by kernel_rfl) ?_ _
          obtain ⟨wz, hwz⟩ : ∃ wz, wz = W137 := ⟨_, rfl⟩
          subst hwz
          have HBZ := HB137
          clear HB137
          exact ⟨rfl, _, _, _, _, _, _, _, _, _, _, _, _, _, _, _, _, _, _, _, _, _, _, _, rfl, Lib.hid hx_x, Lib.hid (by rw [Bool.true_and, Bool.false_and]; exact hmk.out.at HQ), Lib.hid HBZ, Lib.hid hl_x⟩
      · go_simp
        refine hK.out _ _ (by (try dsimp only); exact HSB.out _ (HB0.alloc HB0.size _)) (fun hHeld => ?_)
        clear hK K hHeld
        try simp only [Act.put, ptL]
        refine wpAnyH_gen (fun W139 hWn => ?_)
        have HB139 : Below w1.heap.size w1 W139 := by rw [hWn]; exact HB0.alloc HB0.size _
        have hx_x : W139.heap[W0.heap.size]? = some (.cells #[.slice none 0 0, .slice none 0 0, .slice none 0 0, .slice none 0 0] 96) := by rw [hWn]; exact alloc_new _ _
        have hl_x : w1.heap.size ≤ W0.heap.size := HB0.size
        clear hWn
        obtain ⟨b_x, hb_x⟩ : ∃ b, W0.heap.size = b := ⟨_, rfl⟩
        rw [hb_x] at hx_x hl_x ⊢
        clear HB0 hb_x 
        refine wpAnyH_ready (rs := [3]) (by kernel_rfl) (by simp) ?_
        refine AllReadyH.cons rfl (fun K hK => ?_) AllReadyH.nil
        go_simp
        (with_reducible refine (c_isArbor pm pv pr cm cv cr p n 1 W139).mono ?_)
        rw [hF1]
        rintro e W140 ⟨rfl, hbn⟩
        have HB140 : Below w1.heap.size w1 W140 := HB139.trans (hbn.mono HB139.size)
        have hx_x : W140.heap[b_x]? = some (.cells #[.slice none 0 0, .slice none 0 0, .slice none 0 0, .slice none 0 0] 96) := (hbn.block _ (block_lt hx_x)).trans hx_x
        clear hbn
        go_simp
        refine hK.out _ _ (by (try dsimp only); exact HSB.out _ HB140) (fun hHeld => ?_)
        clear hK K hHeld
        try simp only [Act.put, ptL]
        clear HB139
        refine tk 4 rfl (by exact HSB.out _ HB140) ?_
        try simp only [Act.put, ptL]
        refine tk 5 rfl (by exact HSB.out _ HB140) ?_
        try simp only [Act.put, ptL]
        refine wpAnyH_ready (rs := [6]) (by kernel_rfl) (by simp) ?_
        refine AllReadyH.cons rfl (fun K hK => ?_) AllReadyH.nil
        go_simp
        (with_reducible refine (c_isPlaceB want W140).mono ?_)
        rw [hF2]
        rintro e W143 ⟨rfl, hbn⟩
        have HB143 : Below w1.heap.size w1 W143 := HB140.trans (hbn.mono HB140.size)
        have hx_x : W143.heap[b_x]? = some (.cells #[.slice none 0 0, .slice none 0 0, .slice none 0 0, .slice none 0 0] 96) := (hbn.block _ (block_lt hx_x)).trans hx_x
        clear hbn
        go_simp
        refine hK.out _ _ (by (try dsimp only); exact HSB.out _ HB143) (fun hHeld => ?_)
        clear hK K hHeld
        try simp only [Act.put, ptL]
        clear HB140
        refine tk 7 rfl (by exact HSB.out _ HB143) ?_
        try simp only [Act.put, ptL]
        refine tk 8 rfl (by exact HSB.out _ HB143) ?_
        try simp only [Act.put, ptL]
        refine wpAnyH_take (i := 9) (v := undef) rfl (by kernel_rfl) (by kernel_rfl) (by kernel_rfl) (fun _ _ _ h => by first | exact h | (exact absurd h.1 (by intro hh; cases hh))) (Or.inr ⟨by rfl, rfl⟩) (by (try dsimp only); exact HSB.out _ HB143) ?_
        try simp only [Act.put, ptL]
        refine wpAnyH_ready (rs := [10]) (by kernel_rfl) (by simp) ?_
        refine AllReadyH.cons rfl (fun K hK => ?_) AllReadyH.nil
        rw [if_neg (by intro hw; exact Bool.noConfusion (show false = true from hw))]
        refine hK.out _ _ (by (try dsimp only); exact HSB.out _ HB143) (fun hHeld => ?_)
        clear hK K hHeld
        try simp only [Act.put, ptL]
        refine tk 11 rfl (by exact HSB.out _ HB143) ?_
        try simp only [Act.put, ptL]
        refine wpAnyH_ready (rs := [12]) (by kernel_rfl) (by simp) ?_
        refine AllReadyH.cons rfl (fun K hK => ?_) AllReadyH.nil
        go_simp
        obtain ⟨WA, hWA⟩ : ∃ WA, WA = W143 := ⟨_, rfl⟩
        have hq_x : b_x < WA.heap.size := by rw [hWA]; exact block_lt hx_x
        (with_reducible refine (c_askedG pm pv pr cm cv cr p false W143 (HPW.out _ HB143) HL.out).mono ?_)
        rintro e W149 ⟨qa, na, ca, qb, nb, cb, qc, nc, cc, qd, nd, cd, er, rfl, hmk, hbn⟩
        obtain ⟨WB, hWB⟩ : ∃ WB, WB = W149 := ⟨_, rfl⟩
        have HQ : ∀ k, WA.heap.size ≤ k → k < WB.heap.size → W149.heap[k]? = WB.heap[k]? := fun k _ _ => by rw [hWB]
        have hqs : WB.heap.size ≤ W149.heap.size := by rw [hWB]; exact Nat.le_refl _
        rw [← hWA, ← hWB] at hmk
        clear hWA hWB
        have HB149 : Below w1.heap.size w1 W149 := HB143.trans (hbn.mono HB143.size)
        have hx_x : W149.heap[b_x]? = some (.cells #[.slice none 0 0, .slice none 0 0, .slice none 0 0, .slice none 0 0] 96) := (hbn.block _ (block_lt hx_x)).trans hx_x
        clear hbn
        go_simp
        refine hK.out _ _ (by (try dsimp only); exact HSB.out _ HB149) (fun hHeld => ?_)
        clear hK K hHeld
        try simp only [Act.put, ptL]
        clear HB143
        refine tk 13 rfl (by exact HSB.out _ HB149) ?_
        try simp only [Act.put, ptL]
        refine tk 14 rfl (by exact HSB.out _ HB149) ?_
        try simp only [Act.put, ptL]
        refine tk 15 rfl (by exact HSB.out _ HB149) ?_
        try simp only [Act.put, ptL]
        refine wpAnyH_ready (rs := [17]) (by kernel_rfl) (by simp) ?_
        refine AllReadyH.cons rfl (fun K hK => ?_) AllReadyH.nil
        refine set4K W149 b_x 96 _ _ _ _ (.slice qa na ca) (.slice qb nb cb) (.slice qc nc cc) (.slice qd nd cd) hx_x (fun wa153 wb153 wc153 W153 sa sb sc sd ca0 fa0 ca1 fa1 ca2 fa2 ca3 fa3 hx4 hxk HZs hxb => ?_)
        have HB153 : Below w1.heap.size w1 W153 := hxb w1 w1.heap.size hl_x HB149
        have hx_x := hx4
        have HQ : ∀ k, WA.heap.size ≤ k → k < WB.heap.size → W153.heap[k]? = WB.heap[k]? := fun k h1 h2 => (hxk k (by omega)).trans (HQ k h1 h2)
        have hqs : WB.heap.size ≤ W153.heap.size := by rw [HZs.out]; exact hqs
        clear hx4 hxk hxb HZs
        go_simp
        refine hK.out _ _ (by (try dsimp only); exact HSB.out _ HB153) (fun hHeld => ?_)
        clear hK K hHeld
        try simp only [Act.put, ptL]
        clear ca0 ca1 ca2 ca3 fa0 fa1 fa2 fa3 sa sb sc sd HB149
        refine tk 18 rfl (by exact HSB.out _ HB153) ?_
        try simp only [Act.put, ptL]
        refine wpAnyH_done (by kernel_rfl) ?_ _
        obtain ⟨wz, hwz⟩ : ∃ wz, wz = W153 := ⟨_, rfl⟩
        subst hwz
        have HBZ := HB153
        clear HB153
        exact ⟨rfl, _, _, _, _, _, _, _, _, _, _, _, _, _, _, _, _, _, _, _, _, _, _, _, rfl, Lib.hid hx_x, Lib.hid (by rw [Bool.true_and, Bool.false_and]; exact hmk.out.at HQ), Lib.hid HBZ, Lib.hid hl_x⟩
    refine wp_region_held_drew (S := (fun w' => (w'.cell? ⟨w.heap.size, 0, none⟩ = some (.slice pm p.ms.length cm) ∧ w'.cell? ⟨w.heap.size, 1, none⟩ = some (.slice pv p.mv.length cv) ∧ w'.cell? ⟨w.heap.size, 2, none⟩ = some (.slice pr p.rs.length cr)))) (by kernel_rfl) (by (try dsimp only); exact HSB.out _ (Below.refl _ _).drew) (fun hHeld => ?_)
    refine wpAnyH_gen (fun W0 hW0 => ?_)
    have HB0 : Below w1.heap.size w1 W0 := by rw [hW0]; exact (Below.refl _ _).drew
    clear hW0 hHeld
    refine tk 0 rfl (by exact HSB.out _ HB0) ?_
    try simp only [Act.put, ptL]
    refine tk 1 rfl (by exact HSB.out _ HB0) ?_
    try simp only [Act.put, ptL]
    refine tk 2 rfl (by exact HSB.out _ HB0) ?_
    try simp only [Act.put, ptL]
    refine wpAnyH_ready (rs := [3, 16]) (by kernel_rfl) (by simp) ?_
    refine AllReadyH.cons rfl (fun K hK => ?_) (AllReadyH.cons rfl (fun K hK => ?_) AllReadyH.nil)
    · go_simp
      (with_reducible refine (c_isArbor pm pv pr cm cv cr p n 1 W0).mono ?_)
      rw [hF1]
      rintro e W158 ⟨rfl, hbn⟩
      have HB158 : Below w1.heap.size w1 W158 := HB0.trans (hbn.mono HB0.size)
      clear hbn
      go_simp
      refine hK.out _ _ (by (try dsimp only); exact HSB.out _ HB158) (fun hHeld => ?_)
      clear hK K hHeld
      try simp only [Act.put, ptL]
      clear HB0
      refine tk 4 rfl (by exact HSB.out _ HB158) ?_
      try simp only [Act.put, ptL]
      refine tk 5 rfl (by exact HSB.out _ HB158) ?_
      try simp only [Act.put, ptL]
      refine wpAnyH_ready (rs := [6, 16]) (by kernel_rfl) (by simp) ?_
      refine AllReadyH.cons rfl (fun K hK => ?_) (AllReadyH.cons rfl (fun K hK => ?_) AllReadyH.nil)
      · go_simp
        (with_reducible refine (c_isPlaceB want W158).mono ?_)
        rw [hF2]
        rintro e W161 ⟨rfl, hbn⟩
        have HB161 : Below w1.heap.size w1 W161 := HB158.trans (hbn.mono HB158.size)
        clear hbn
        go_simp
        refine hK.out _ _ (by (try dsimp only); exact HSB.out _ HB161) (fun hHeld => ?_)
        clear hK K hHeld
        try simp only [Act.put, ptL]
        clear HB158
        refine tk 7 rfl (by exact HSB.out _ HB161) ?_
        try simp only [Act.put, ptL]
        refine tk 8 rfl (by exact HSB.out _ HB161) ?_
        try simp only [Act.put, ptL]
        refine tk 9 rfl (by exact HSB.out _ HB161) ?_
        try simp only [Act.put, ptL]
        refine wpAnyH_ready (rs := [10, 16]) (by kernel_rfl) (by simp) ?_
        refine AllReadyH.cons rfl (fun K hK => ?_) (AllReadyH.cons rfl (fun K hK => ?_) AllReadyH.nil)
        · go_simp
          (with_reducible refine (c_isLimitB lim W161).mono ?_)
          rintro e W165 ⟨rfl, hbn⟩
          have HB165 : Below w1.heap.size w1 W165 := HB161.trans (hbn.mono HB161.size)
          clear hbn
          go_simp
          refine hK.out _ _ (by (try dsimp only); exact HSB.out _ HB165) (fun hHeld => ?_)
          clear hK K hHeld
          try simp only [Act.put, ptL]
          clear HB161
          refine tk 11 rfl (by exact HSB.out _ HB165) ?_
          try simp only [Act.put, ptL]
          refine wpAnyH_ready (rs := [12, 16]) (by kernel_rfl) (by simp) ?_
          refine AllReadyH.cons rfl (fun K hK => ?_) (AllReadyH.cons rfl (fun K hK => ?_) AllReadyH.nil)
          · go_simp
            obtain ⟨WA, hWA⟩ : ∃ WA, WA = W165 := ⟨_, rfl⟩
            (with_reducible refine (c_askedG pm pv pr cm cv cr p (inB lim 0 5000) W165 (HPW.out _ HB165) HL.out).mono ?_)
            rintro e W167 ⟨qa, na, ca, qb, nb, cb, qc, nc, cc, qd, nd, cd, er, rfl, hmk, hbn⟩
            obtain ⟨WB, hWB⟩ : ∃ WB, WB = W167 := ⟨_, rfl⟩
            have HQ : ∀ k, WA.heap.size ≤ k → k < WB.heap.size → W167.heap[k]? = WB.heap[k]? := fun k _ _ => by rw [hWB]
            have hqs : WB.heap.size ≤ W167.heap.size := by rw [hWB]; exact Nat.le_refl _
            rw [← hWA, ← hWB] at hmk
            clear hWA hWB
            have HB167 : Below w1.heap.size w1 W167 := HB165.trans (hbn.mono HB165.size)
            clear hbn
            go_simp
            refine hK.out _ _ (by (try dsimp only); exact HSB.out _ HB167) (fun hHeld => ?_)
            clear hK K hHeld
            try simp only [Act.put, ptL]
            clear HB165
            refine tk 13 rfl (by exact HSB.out _ HB167) ?_
            try simp only [Act.put, ptL]
            refine tk 14 rfl (by exact HSB.out _ HB167) ?_
            try simp only [Act.put, ptL]
            refine tk 15 rfl (by exact HSB.out _ HB167) ?_
            try simp only [Act.put, ptL]
            refine wpAnyH_ready (rs := [16]) (by kernel_rfl) (by simp) ?_
            refine AllReadyH.cons rfl (fun K hK => ?_) AllReadyH.nil
            go_simp
            refine hK.out _ _ (by (try dsimp only); exact HSB.out _ (HB167.alloc HB167.size _)) (fun hHeld => ?_)
            clear hK K hHeld
            try simp only [Act.put, ptL]
            refine wpAnyH_gen (fun W171 hWn => ?_)
            have HB171 : Below w1.heap.size w1 W171 := by rw [hWn]; exact HB167.alloc HB167.size _
            have HQ : ∀ k, WA.heap.size ≤ k → k < WB.heap.size → W171.heap[k]? = WB.heap[k]? := fun k h1 h2 => by rw [hWn, Below.heap_alloc _ _ _ (Nat.lt_of_lt_of_le h2 hqs)]; exact HQ k h1 h2
            have hq_x : WB.heap.size ≤ W167.heap.size := hqs
            have hqs : WB.heap.size ≤ W171.heap.size := by rw [hWn]; simp; omega
            have hx_x : W171.heap[W167.heap.size]? = some (.cells #[.slice none 0 0, .slice none 0 0, .slice none 0 0, .slice none 0 0] 96) := by rw [hWn]; exact alloc_new _ _
            have hl_x : w1.heap.size ≤ W167.heap.size := HB167.size
            clear hWn
            obtain ⟨b_x, hb_x⟩ : ∃ b, W167.heap.size = b := ⟨_, rfl⟩
            rw [hb_x] at hx_x hl_x hq_x ⊢
            clear HB167 hb_x 
            refine wpAnyH_ready (rs := [17]) (by kernel_rfl) (by simp) ?_
            refine AllReadyH.cons rfl (fun K hK => ?_) AllReadyH.nil
            refine set4K W171 b_x 96 _ _ _ _ (.slice qa na ca) (.slice qb nb cb) (.slice qc nc cc) (.slice qd nd cd) hx_x (fun wa172 wb172 wc172 W172 sa sb sc sd ca0 fa0 ca1 fa1 ca2 fa2 ca3 fa3 hx4 hxk HZs hxb => ?_)
            have HB172 : Below w1.heap.size w1 W172 := hxb w1 w1.heap.size hl_x HB171
            have hx_x := hx4
            have HQ : ∀ k, WA.heap.size ≤ k → k < WB.heap.size → W172.heap[k]? = WB.heap[k]? := fun k h1 h2 => (hxk k (by omega)).trans (HQ k h1 h2)
            have hqs : WB.heap.size ≤ W172.heap.size := by rw [HZs.out]; exact hqs
            clear hx4 hxk hxb HZs
            go_simp
            refine hK.out _ _ (by (try dsimp only); exact HSB.out _ HB172) (fun hHeld => ?_)
            clear hK K hHeld
            try simp only [Act.put, ptL]
            clear ca0 ca1 ca2 ca3 fa0 fa1 fa2 fa3 sa sb sc sd HB171
            refine tk 18 rfl (by exact HSB.out _ HB172) ?_
            try simp only [Act.put, ptL]
            refine wpAnyH_done (by kernel_rfl) ?_ _
            obtain ⟨wz, hwz⟩ : ∃ wz, wz = W172 := ⟨_, rfl⟩
            subst hwz
            have HBZ := HB172
            clear HB172
            exact ⟨rfl, _, _, _, _, _, _, _, _, _, _, _, _, _, _, _, _, _, _, _, _, _, _, _, rfl, Lib.hid hx_x, Lib.hid (by rw [Bool.true_and, Bool.true_and]; exact hmk.out.at HQ), Lib.hid HBZ, Lib.hid hl_x⟩
          · go_simp
            refine hK.out _ _ (by (try dsimp only); exact HSB.out _ (HB165.alloc HB165.size _)) (fun hHeld => ?_)
            clear hK K hHeld
            try simp only [Act.put, ptL]
            refine wpAnyH_gen (fun W174 hWn => ?_)
            have HB174 : Below w1.heap.size w1 W174 := by rw [hWn]; exact HB165.alloc HB165.size _
            have hx_x : W174.heap[W165.heap.size]? = some (.cells #[.slice none 0 0, .slice none 0 0, .slice none 0 0, .slice none 0 0] 96) := by rw [hWn]; exact alloc_new _ _
            have hl_x : w1.heap.size ≤ W165.heap.size := HB165.size
            clear hWn
            obtain ⟨b_x, hb_x⟩ : ∃ b, W165.heap.size = b := ⟨_, rfl⟩
            rw [hb_x] at hx_x hl_x ⊢
            clear HB165 hb_x 
            refine wpAnyH_ready (rs := [12]) (by kernel_rfl) (by simp) ?_
            refine AllReadyH.cons rfl (fun K hK => ?_) AllReadyH.nil
            go_simp
            obtain ⟨WA, hWA⟩ : ∃ WA, WA = W174 := ⟨_, rfl⟩
            have hq_x : b_x < WA.heap.size := by rw [hWA]; exact block_lt hx_x
            (with_reducible refine (c_askedG pm pv pr cm cv cr p (inB lim 0 5000) W174 (HPW.out _ HB174) HL.out).mono ?_)
            rintro e W175 ⟨qa, na, ca, qb, nb, cb, qc, nc, cc, qd, nd, cd, er, rfl, hmk, hbn⟩
            obtain ⟨WB, hWB⟩ : ∃ WB, WB = W175 := ⟨_, rfl⟩
            have HQ : ∀ k, WA.heap.size ≤ k → k < WB.heap.size → W175.heap[k]? = WB.heap[k]? := fun k _ _ => by rw [hWB]
            have hqs : WB.heap.size ≤ W175.heap.size := by rw [hWB]; exact Nat.le_refl _
            rw [← hWA, ← hWB] at hmk
            clear hWA hWB
            have HB175 : Below w1.heap.size w1 W175 := HB174.trans (hbn.mono HB174.size)
            have hx_x : W175.heap[b_x]? = some (.cells #[.slice none 0 0, .slice none 0 0, .slice none 0 0, .slice none 0 0] 96) := (hbn.block _ (block_lt hx_x)).trans hx_x
            clear hbn
            go_simp
            refine hK.out _ _ (by (try dsimp only); exact HSB.out _ HB175) (fun hHeld => ?_)
            clear hK K hHeld
            try simp only [Act.put, ptL]
            clear HB174
            refine tk 13 rfl (by exact HSB.out _ HB175) ?_
            try simp only [Act.put, ptL]
            refine tk 14 rfl (by exact HSB.out _ HB175) ?_
            try simp only [Act.put, ptL]
            refine tk 15 rfl (by exact HSB.out _ HB175) ?_
            try simp only [Act.put, ptL]
            refine wpAnyH_ready (rs := [17]) (by kernel_rfl) (by simp) ?_
            refine AllReadyH.cons rfl (fun K hK => ?_) AllReadyH.nil
            refine set4K W175 b_x 96 _ _ _ _ (.slice qa na ca) (.slice qb nb cb) (.slice qc nc cc) (.slice qd nd cd) hx_x (fun wa179 wb179 wc179 W179 sa sb sc sd ca0 fa0 ca1 fa1 ca2 fa2 ca3 fa3 hx4 hxk HZs hxb => ?_)
            have HB179 : Below w1.heap.size w1 W179 := hxb w1 w1.heap.size hl_x HB175
            have hx_x := hx4
            have HQ : ∀ k, WA.heap.size ≤ k → k < WB.heap.size → W179.heap[k]? = WB.heap[k]? := fun k h1 h2 => (hxk k (by omega)).trans (HQ k h1 h2)
            have hqs : WB.heap.size ≤ W179.heap.size := by rw [HZs.out]; exact hqs
            clear hx4 hxk hxb HZs
            go_simp
            refine hK.out _ _ (by (try dsimp only); exact HSB.out _ HB179) (fun hHeld => ?_)
            clear hK K hHeld
            try simp only [Act.put, ptL]
            clear ca0 ca1 ca2 ca3 fa0 fa1 fa2 fa3 sa sb sc sd HB175
            refine tk 18 rfl (by exact HSB.out _ HB179) ?_
            try simp only [Act.put, ptL]
            refine wpAnyH_done (by kernel_rfl) ?_ _
            obtain ⟨wz, hwz⟩ : ∃ wz, wz = W179 := ⟨_, rfl⟩
            subst hwz
            have HBZ := HB179
            clear HB179
            exact ⟨rfl, _, _, _, _, _, _, _, _, _, _, _, _, _, _, _, _, _, _, _, _, _, _, _, rfl, Lib.hid hx_x, Lib.hid (by rw [Bool.true_and, Bool.true_and]; exact hmk.out.at HQ), Lib.hid HBZ, Lib.hid hl_x⟩
        · go_simp
          refine hK.out _ _ (by (try dsimp only); exact HSB.out _ (HB161.alloc HB161.size _)) (fun hHeld => ?_)
          clear hK K hHeld
          try simp only [Act.put, ptL]
          refine wpAnyH_gen (fun W181 hWn => ?_)
          have HB181 : Below w1.heap.size w1 W181 := by rw [hWn]; exact HB161.alloc HB161.size _
          have hx_x : W181.heap[W161.heap.size]? = some (.cells #[.slice none 0 0, .slice none 0 0, .slice none 0 0, .slice none 0 0] 96) := by rw [hWn]; exact alloc_new _ _
          have hl_x : w1.heap.size ≤ W161.heap.size := HB161.size
          clear hWn
          obtain ⟨b_x, hb_x⟩ : ∃ b, W161.heap.size = b := ⟨_, rfl⟩
          rw [hb_x] at hx_x hl_x ⊢
          clear HB161 hb_x 
          refine wpAnyH_ready (rs := [10]) (by kernel_rfl) (by simp) ?_
          refine AllReadyH.cons rfl (fun K hK => ?_) AllReadyH.nil
          go_simp
          (with_reducible refine (c_isLimitB lim W181).mono ?_)
          rintro e W182 ⟨rfl, hbn⟩
          have HB182 : Below w1.heap.size w1 W182 := HB181.trans (hbn.mono HB181.size)
          have hx_x : W182.heap[b_x]? = some (.cells #[.slice none 0 0, .slice none 0 0, .slice none 0 0, .slice none 0 0] 96) := (hbn.block _ (block_lt hx_x)).trans hx_x
          clear hbn
          go_simp
          refine hK.out _ _ (by (try dsimp only); exact HSB.out _ HB182) (fun hHeld => ?_)
          clear hK K hHeld
          try simp only [Act.put, ptL]
          clear HB181
          refine tk 11 rfl (by exact HSB.out _ HB182) ?_
          try simp only [Act.put, ptL]
          refine wpAnyH_ready (rs := [12]) (by kernel_rfl) (by simp) ?_
          refine AllReadyH.cons rfl (fun K hK => ?_) AllReadyH.nil
          go_simp
          obtain ⟨WA, hWA⟩ : ∃ WA, WA = W182 := ⟨_, rfl⟩
          have hq_x : b_x < WA.heap.size := by rw [hWA]; exact block_lt hx_x
          (with_reducible refine (c_askedG pm pv pr cm cv cr p (inB lim 0 5000) W182 (HPW.out _ HB182) HL.out).mono ?_)
          rintro e W184 ⟨qa, na, ca, qb, nb, cb, qc, nc, cc, qd, nd, cd, er, rfl, hmk, hbn⟩
          obtain ⟨WB, hWB⟩ : ∃ WB, WB = W184 := ⟨_, rfl⟩
          have HQ : ∀ k, WA.heap.size ≤ k → k < WB.heap.size → W184.heap[k]? = WB.heap[k]? := fun k _ _ => by rw [hWB]
          have hqs : WB.heap.size ≤ W184.heap.size := by rw [hWB]; exact Nat.le_refl _
          rw [← hWA, ← hWB] at hmk
          clear hWA hWB
          have HB184 : Below w1.heap.size w1 W184 := HB182.trans (hbn.mono HB182.size)
          have hx_x : W184.heap[b_x]? = some (.cells #[.slice none 0 0, .slice none 0 0, .slice none 0 0, .slice none 0 0] 96) := (hbn.block _ (block_lt hx_x)).trans hx_x
          clear hbn
          go_simp
          refine hK.out _ _ (by (try dsimp only); exact HSB.out _ HB184) (fun hHeld => ?_)
          clear hK K hHeld
          try simp only [Act.put, ptL]
          clear HB182
          refine tk 13 rfl (by exact HSB.out _ HB184) ?_
          try simp only [Act.put, ptL]
          refine tk 14 rfl (by exact HSB.out _ HB184) ?_
          try simp only [Act.put, ptL]
          refine tk 15 rfl (by exact HSB.out _ HB184) ?_
          try simp only [Act.put, ptL]
          refine wpAnyH_ready (rs := [17]) (by kernel_rfl) (by simp) ?_
          refine AllReadyH.cons rfl (fun K hK => ?_) AllReadyH.nil
          refine set4K W184 b_x 96 _ _ _ _ (.slice qa na ca) (.slice qb nb cb) (.slice qc nc cc) (.slice qd nd cd) hx_x (fun wa188 wb188 wc188 W188 sa sb sc sd ca0 fa0 ca1 fa1 ca2 fa2 ca3 fa3 hx4 hxk HZs hxb => ?_)
          have HB188 : Below w1.heap.size w1 W188 := hxb w1 w1.heap.size hl_x HB184
          have hx_x := hx4
          have HQ : ∀ k, WA.heap.size ≤ k → k < WB.heap.size → W188.heap[k]? = WB.heap[k]? := fun k h1 h2 => (hxk k (by omega)).trans (HQ k h1 h2)
          have hqs : WB.heap.size ≤ W188.heap.size := by rw [HZs.out]; exact hqs
          clear hx4 hxk hxb HZs
          go_simp
          refine hK.out _ _ (by (try dsimp only); exact HSB.out _ HB188) (fun hHeld => ?_)
          clear hK K hHeld
          try simp only [Act.put, ptL]
          clear ca0 ca1 ca2 ca3 fa0 fa1 fa2 fa3 sa sb sc sd HB184
          refine tk 18 rfl (by exact HSB.out _ HB188) ?_
          try simp only [Act.put, ptL]
          refine wpAnyH_done (by kernel_rfl) ?_ _
          obtain ⟨wz, hwz⟩ : ∃ wz, wz = W188 := ⟨_, rfl⟩
          subst hwz
          have HBZ := HB188
          clear HB188
          exact ⟨rfl, _, _, _, _, _, _, _, _, _, _, _, _, _, _, _, _, _, _, _, _, _, _, _, rfl, Lib.hid hx_x, Lib.hid (by rw [Bool.true_and, Bool.true_and]; exact hmk.out.at HQ), Lib.hid HBZ, Lib.hid hl_x⟩
      · go_simp
        refine hK.out _ _ (by (try dsimp only); exact HSB.out _ (HB158.alloc HB158.size _)) (fun hHeld => ?_)
        clear hK K hHeld
        try simp only [Act.put, ptL]
        refine wpAnyH_gen (fun W190 hWn => ?_)
        have HB190 : Below w1.heap.size w1 W190 := by rw [hWn]; exact HB158.alloc HB158.size _
        have hx_x : W190.heap[W158.heap.size]? = some (.cells #[.slice none 0 0, .slice none 0 0, .slice none 0 0, .slice none 0 0] 96) := by rw [hWn]; exact alloc_new _ _
        have hl_x : w1.heap.size ≤ W158.heap.size := HB158.size
        clear hWn
        obtain ⟨b_x, hb_x⟩ : ∃ b, W158.heap.size = b := ⟨_, rfl⟩
        rw [hb_x] at hx_x hl_x ⊢
        clear HB158 hb_x 
        refine wpAnyH_ready (rs := [6]) (by kernel_rfl) (by simp) ?_
        refine AllReadyH.cons rfl (fun K hK => ?_) AllReadyH.nil
        go_simp
        (with_reducible refine (c_isPlaceB want W190).mono ?_)
        rw [hF2]
        rintro e W191 ⟨rfl, hbn⟩
        have HB191 : Below w1.heap.size w1 W191 := HB190.trans (hbn.mono HB190.size)
        have hx_x : W191.heap[b_x]? = some (.cells #[.slice none 0 0, .slice none 0 0, .slice none 0 0, .slice none 0 0] 96) := (hbn.block _ (block_lt hx_x)).trans hx_x
        clear hbn
        go_simp
        refine hK.out _ _ (by (try dsimp only); exact HSB.out _ HB191) (fun hHeld => ?_)
        clear hK K hHeld
        try simp only [Act.put, ptL]
        clear HB190
        refine tk 7 rfl (by exact HSB.out _ HB191) ?_
        try simp only [Act.put, ptL]
        refine tk 8 rfl (by exact HSB.out _ HB191) ?_
        try simp only [Act.put, ptL]
        refine tk 9 rfl (by exact HSB.out _ HB191) ?_
        try simp only [Act.put, ptL]
        refine wpAnyH_ready (rs := [10]) (by kernel_rfl) (by simp) ?_
        refine AllReadyH.cons rfl (fun K hK => ?_) AllReadyH.nil
        go_simp
        (with_reducible refine (c_isLimitB lim W191).mono ?_)
        rintro e W195 ⟨rfl, hbn⟩
        have HB195 : Below w1.heap.size w1 W195 := HB191.trans (hbn.mono HB191.size)
        have hx_x : W195.heap[b_x]? = some (.cells #[.slice none 0 0, .slice none 0 0, .slice none 0 0, .slice none 0 0] 96) := (hbn.block _ (block_lt hx_x)).trans hx_x
        clear hbn
        go_simp
        refine hK.out _ _ (by (try dsimp only); exact HSB.out _ HB195) (fun hHeld => ?_)
        clear hK K hHeld
        try simp only [Act.put, ptL]
        clear HB191
        refine tk 11 rfl (by exact HSB.out _ HB195) ?_
        try simp only [Act.put, ptL]
        refine wpAnyH_ready (rs := [12]) (by kernel_rfl) (by simp) ?_
        refine AllReadyH.cons rfl (fun K hK => ?_) AllReadyH.nil
        go_simp
        obtain ⟨WA, hWA⟩ : ∃ WA, WA = W195 := ⟨_, rfl⟩
        have hq_x : b_x < WA.heap.size := by rw [hWA]; exact block_lt hx_x
        (with_reducible refine (c_askedG pm pv pr cm cv cr p (inB lim 0 5000) W195 (HPW.out _ HB195) HL.out).mono ?_)
        rintro e W197 ⟨qa, na, ca, qb, nb, cb, qc, nc, cc, qd, nd, cd, er, rfl, hmk, hbn⟩
        obtain ⟨WB, hWB⟩ : ∃ WB, WB = W197 := ⟨_, rfl⟩
        have HQ : ∀ k, WA.heap.size ≤ k → k < WB.heap.size → W197.heap[k]? = WB.heap[k]? := fun k _ _ => by rw [hWB]
        have hqs : WB.heap.size ≤ W197.heap.size := by rw [hWB]; exact Nat.le_refl _
        rw [← hWA, ← hWB] at hmk
        clear hWA hWB
        have HB197 : Below w1.heap.size w1 W197 := HB195.trans (hbn.mono HB195.size)
        have hx_x : W197.heap[b_x]? = some (.cells #[.slice none 0 0, .slice none 0 0, .slice none 0 0, .slice none 0 0] 96) := (hbn.block _ (block_lt hx_x)).trans hx_x
        clear hbn
        go_simp
        refine hK.out _ _ (by (try dsimp only); exact HSB.out _ HB197) (fun hHeld => ?_)
        clear hK K hHeld
        try simp only [Act.put, ptL]
        clear HB195
        refine tk 13 rfl (by exact HSB.out _ HB197) ?_
        try simp only [Act.put, ptL]
        refine tk 14 rfl (by exact HSB.out _ HB197) ?_
        try simp only [Act.put, ptL]
        refine tk 15 rfl (by exact HSB.out _ HB197) ?_
        try simp only [Act.put, ptL]
        refine wpAnyH_ready (rs := [17]) (by kernel_rfl) (by simp) ?_
        refine AllReadyH.cons rfl (fun K hK => ?_) AllReadyH.nil
        refine set4K W197 b_x 96 _ _ _ _ (.slice qa na ca) (.slice qb nb cb) (.slice qc nc cc) (.slice qd nd cd) hx_x (fun wa201 wb201 wc201 W201 sa sb sc sd ca0 fa0 ca1 fa1 ca2 fa2 ca3 fa3 hx4 hxk HZs hxb => ?_)
        have HB201 : Below w1.heap.size w1 W201 := hxb w1 w1.heap.size hl_x HB197
        have hx_x := hx4
        have HQ : ∀ k, WA.heap.size ≤ k → k < WB.heap.size → W201.heap[k]? = WB.heap[k]? := fun k h1 h2 => (hxk k (by omega)).trans (HQ k h1 h2)
        have hqs : WB.heap.size ≤ W201.heap.size := by rw [HZs.out]; exact hqs
        clear hx4 hxk hxb HZs
        go_simp
        refine hK.out _ _ (by (try dsimp only); exact HSB.out _ HB201) (fun hHeld => ?_)
        clear hK K hHeld
        try simp only [Act.put, ptL]
        clear ca0 ca1 ca2 ca3 fa0 fa1 fa2 fa3 sa sb sc sd HB197
        refine tk 18 rfl (by exact HSB.out _ HB201) ?_
        try simp only [Act.put, ptL]
        refine wpAnyH_done (by kernel_rfl) ?_ _
        obtain ⟨wz, hwz⟩ : ∃ wz, wz = W201 := ⟨_, rfl⟩
        subst hwz
        have HBZ := HB201
        clear HB201
        exact ⟨rfl, _, _, _, _, _, _, _, _, _, _, _, _, _, _, _, _, _, _, _, _, _, _, _, rfl, Lib.hid hx_x, Lib.hid (by rw [Bool.true_and, Bool.true_and]; exact hmk.out.at HQ), Lib.hid HBZ, Lib.hid hl_x⟩
    · go_simp
      refine hK.out _ _ (by (try dsimp only); exact HSB.out _ (HB0.alloc HB0.size _)) (fun hHeld => ?_)
      clear hK K hHeld
      try simp only [Act.put, ptL]
      refine wpAnyH_gen (fun W203 hWn => ?_)
      have HB203 : Below w1.heap.size w1 W203 := by rw [hWn]; exact HB0.alloc HB0.size _
      have hx_x : W203.heap[W0.heap.size]? = some (.cells #[.slice none 0 0, .slice none 0 0, .slice none 0 0, .slice none 0 0] 96) := by rw [hWn]; exact alloc_new _ _
      have hl_x : w1.heap.size ≤ W0.heap.size := HB0.size
      clear hWn
      obtain ⟨b_x, hb_x⟩ : ∃ b, W0.heap.size = b := ⟨_, rfl⟩
      rw [hb_x] at hx_x hl_x ⊢
      clear HB0 hb_x 
      refine wpAnyH_ready (rs := [3]) (by kernel_rfl) (by simp) ?_
      refine AllReadyH.cons rfl (fun K hK => ?_) AllReadyH.nil
      go_simp
      (with_reducible refine (c_isArbor pm pv pr cm cv cr p n 1 W203).mono ?_)
      rw [hF1]
      rintro e W204 ⟨rfl, hbn⟩
      have HB204 : Below w1.heap.size w1 W204 := HB203.trans (hbn.mono HB203.size)
      have hx_x : W204.heap[b_x]? = some (.cells #[.slice none 0 0, .slice none 0 0, .slice none 0 0, .slice none 0 0] 96) := (hbn.block _ (block_lt hx_x)).trans hx_x
      clear hbn
      go_simp
      refine hK.out _ _ (by (try dsimp only); exact HSB.out _ HB204) (fun hHeld => ?_)
      clear hK K hHeld
      try simp only [Act.put, ptL]
      clear HB203
      refine tk 4 rfl (by exact HSB.out _ HB204) ?_
      try simp only [Act.put, ptL]
      refine tk 5 rfl (by exact HSB.out _ HB204) ?_
      try simp only [Act.put, ptL]
      refine wpAnyH_ready (rs := [6]) (by kernel_rfl) (by simp) ?_
      refine AllReadyH.cons rfl (fun K hK => ?_) AllReadyH.nil
      go_simp
      (with_reducible refine (c_isPlaceB want W204).mono ?_)
      rw [hF2]
      rintro e W207 ⟨rfl, hbn⟩
      have HB207 : Below w1.heap.size w1 W207 := HB204.trans (hbn.mono HB204.size)
      have hx_x : W207.heap[b_x]? = some (.cells #[.slice none 0 0, .slice none 0 0, .slice none 0 0, .slice none 0 0] 96) := (hbn.block _ (block_lt hx_x)).trans hx_x
      clear hbn
      go_simp
      refine hK.out _ _ (by (try dsimp only); exact HSB.out _ HB207) (fun hHeld => ?_)
      clear hK K hHeld
      try simp only [Act.put, ptL]
      clear HB204
      refine tk 7 rfl (by exact HSB.out _ HB207) ?_
      try simp only [Act.put, ptL]
      refine tk 8 rfl (by exact HSB.out _ HB207) ?_
      try simp only [Act.put, ptL]
      refine tk 9 rfl (by exact HSB.out _ HB207) ?_
      try simp only [Act.put, ptL]
      refine wpAnyH_ready (rs := [10]) (by kernel_rfl) (by simp) ?_
      refine AllReadyH.cons rfl (fun K hK => ?_) AllReadyH.nil
      go_simp
      (with_reducible refine (c_isLimitB lim W207).mono ?_)
      rintro e W211 ⟨rfl, hbn⟩
      have HB211 : Below w1.heap.size w1 W211 := HB207.trans (hbn.mono HB207.size)
      have hx_x : W211.heap[b_x]? = some (.cells #[.slice none 0 0, .slice none 0 0, .slice none 0 0, .slice none 0 0] 96) := (hbn.block _ (block_lt hx_x)).trans hx_x
      clear hbn
      go_simp
      refine hK.out _ _ (by (try dsimp only); exact HSB.out _ HB211) (fun hHeld => ?_)
      clear hK K hHeld
      try simp only [Act.put, ptL]
      clear HB207
      refine tk 11 rfl (by exact HSB.out _ HB211) ?_
      try simp only [Act.put, ptL]
      refine wpAnyH_ready (rs := [12]) (by kernel_rfl) (by simp) ?_
      refine AllReadyH.cons rfl (fun K hK => ?_) AllReadyH.nil
      go_simp
      obtain ⟨WA, hWA⟩ : ∃ WA, WA = W211 := ⟨_, rfl⟩
      have hq_x : b_x < WA.heap.size := by rw [hWA]; exact block_lt hx_x
      (with_reducible refine (c_askedG pm pv pr cm cv cr p (inB lim 0 5000) W211 (HPW.out _ HB211) HL.out).mono ?_)
      rintro e W213 ⟨qa, na, ca, qb, nb, cb, qc, nc, cc, qd, nd, cd, er, rfl, hmk, hbn⟩
      obtain ⟨WB, hWB⟩ : ∃ WB, WB = W213 := ⟨_, rfl⟩
      have HQ : ∀ k, WA.heap.size ≤ k → k < WB.heap.size → W213.heap[k]? = WB.heap[k]? := fun k _ _ => by rw [hWB]
      have hqs : WB.heap.size ≤ W213.heap.size := by rw [hWB]; exact Nat.le_refl _
      rw [← hWA, ← hWB] at hmk
      clear hWA hWB
      have HB213 : Below w1.heap.size w1 W213 := HB211.trans (hbn.mono HB211.size)
      have hx_x : W213.heap[b_x]? = some (.cells #[.slice none 0 0, .slice none 0 0, .slice none 0 0, .slice none 0 0] 96) := (hbn.block _ (block_lt hx_x)).trans hx_x
      clear hbn
      go_simp
      refine hK.out _ _ (by (try dsimp only); exact HSB.out _ HB213) (fun hHeld => ?_)
      clear hK K hHeld
      try simp only [Act.put, ptL]
      clear HB211
      refine tk 13 rfl (by exact HSB.out _ HB213) ?_
      try simp only [Act.put, ptL]
      refine tk 14 rfl (by exact HSB.out _ HB213) ?_
      try simp only [Act.put, ptL]
      refine tk 15 rfl (by exact HSB.out _ HB213) ?_
      try simp only [Act.put, ptL]
      refine wpAnyH_ready (rs := [17]) (by kernel_rfl) (by simp) ?_
      refine AllReadyH.cons rfl (fun K hK => ?_) AllReadyH.nil
      refine set4K W213 b_x 96 _ _ _ _ (.slice qa na ca) (.slice qb nb cb) (.slice qc nc cc) (.slice qd nd cd) hx_x (fun wa217 wb217 wc217 W217 sa sb sc sd ca0 fa0 ca1 fa1 ca2 fa2 ca3 fa3 hx4 hxk HZs hxb => ?_)
      have HB217 : Below w1.heap.size w1 W217 := hxb w1 w1.heap.size hl_x HB213
      have hx_x := hx4
      have HQ : ∀ k, WA.heap.size ≤ k → k < WB.heap.size → W217.heap[k]? = WB.heap[k]? := fun k h1 h2 => (hxk k (by omega)).trans (HQ k h1 h2)
      have hqs : WB.heap.size ≤ W217.heap.size := by rw [HZs.out]; exact hqs
      clear hx4 hxk hxb HZs
      go_simp
      refine hK.out _ _ (by (try dsimp only); exact HSB.out _ HB217) (fun hHeld => ?_)
      clear hK K hHeld
      try simp only [Act.put, ptL]
      clear ca0 ca1 ca2 ca3 fa0 fa1 fa2 fa3 sa sb sc sd HB213
      refine tk 18 rfl (by exact HSB.out _ HB217) ?_
      try simp only [Act.put, ptL]
      refine wpAnyH_done (by kernel_rfl) ?_ _
      obtain ⟨wz, hwz⟩ : ∃ wz, wz = W217 := ⟨_, rfl⟩
      subst hwz
      have HBZ := HB217
      clear HB217
      exact ⟨rfl, _, _, _, _, _, _, _, _, _, _, _, _, _, _, _, _, _, _, _, _, _, _, _, rfl, Lib.hid hx_x, Lib.hid (by rw [Bool.true_and, Bool.true_and]; exact hmk.out.at HQ), Lib.hid HBZ, Lib.hid hl_x⟩
  case imp =>
    rintro e a wz ⟨rfl, bx, qa, na, ca, qb, nb, cb, qc, nc, cc, qd, nd, cd, er, g21, g22, g23, g24, g25, g26, g27, g28, g29, rfl, HX, HAZ, HBZ, HLX⟩
    rcases HAZ.out with ⟨hf, rfl, ea, eb, ec, ed⟩ | ⟨hf, ht, rfl, ea, eb, ec, ed⟩ | ⟨hpo, hfi, ht, rfl, ea, eb, ec, g, cap, ed, hq⟩
    all_goals
      obtain ⟨rfl, rfl, rfl⟩ := sl_inj ea
      obtain ⟨rfl, rfl, rfl⟩ := sl_inj eb
      obtain ⟨rfl, rfl, rfl⟩ := sl_inj ec
      obtain ⟨rfl, rfl, rfl⟩ := sl_inj ed
      clear ea eb ec ed
    · have HF := Lib.hid hf
      have HBB := Lib.hid (HB.out.trans (HBZ.out.mono HB.out.size))
      clear hf
      go_wp2
      refine bodyPost_ret (v := .tuple #[.int .i64 0, .int .i64 2]) (by simp [results, Tryz.results57, go_sem]) rfl ⟨?_, HBB.out⟩
      unfold aimErr aimOut; rw [err_bad HF.out, if_neg (by decide), if_neg (by decide)]
    · have HF := Lib.hid (And.intro hf ht)
      have HBB := Lib.hid (HB.out.trans (HBZ.out.mono HB.out.size))
      clear hf ht
      go_wp2
      refine bodyPost_ret (v := .tuple #[.int .i64 0, .int .i64 7]) (by simp [results, Tryz.results57, go_sem]) rfl ⟨?_, HBB.out⟩
      unfold aimErr aimOut; rw [err_rule HF.out.1 HF.out.2, if_neg (by decide), if_neg (by decide)]
    · have hfx := hfi
      rw [Bool.and_eq_true, Bool.and_eq_true] at hfx
      obtain ⟨a, rfl⟩ : ∃ a : Nat, n = (a : Int) := ⟨n.toNat, by have := inB_iff.1 hfx.1.1; omega⟩
      have ha := inB_iff.1 hfx.1.1
      have hwa := inB_iff.1 hfx.1.2
      have hwb := inB_iff.1 hfx.2
      have ha2 : a ≤ p.ms.length := by omega
      have hwl : -5000 ≤ want ∧ want ≤ 5000 ∧ 0 ≤ lim ∧ lim ≤ 5000 := ⟨hwa.1, hwa.2, hwb.1, hwb.2⟩
      have HAI := Lib.hid (fun (W : World) (hb : Below wz.heap.size wz W) (m : Int) (hm : -300 ≤ m ∧ m ≤ 300) => c_aimed pm pv pr cm cv cr p (some ⟨g, 0, none⟩) cap a m want lim W (hq.below hb) hpo ht ha2 hm hwl)
      have HE := Lib.hid (err_good (pieceB_iff.2 hpo) hfi ht)
      have HBY := Lib.hid (HB.out.trans (HBZ.out.mono HB.out.size))
      have HXO := Lib.hid (cells4 HX.out)
      clear hfx ha hwa hwb ha2 hwl hq hpo ht hfi HSB HPW HL
      go_wp2
      go_step3
      go_wp2
      go_loopw [12, 13, 36] (fun o m i wr => ∃ k : Nat, k ≤ 301 ∧ o = .int .i64 0 ∧ m = .bool false ∧ i = .int .i64 k ∧ Hid (aimTo p a want lim k = none) ∧ Hid (Below wz.heap.size wz wr)) (fun _ _ i _ => 301 - (intOf i).toNat)
      case atStart => exact ⟨0, by omega, rfl, rfl, rfl, Lib.hid rfl, Lib.hid (Below.refl _ _)⟩
      case round =>
      obtain ⟨k, hk, rfl, rfl, rfl, HN, HR⟩ := hrel
      by_cases hlt : k < 301
      · have hneg : IntKind.i64.wrap (-(k : Int)) = -(k : Int) := w64 _ (by omega) (by omega)
        obtain ⟨wn, hwn⟩ : ∃ wn, wr = wn := ⟨_, rfl⟩
        subst hwn
        go_wp2
        clear hneg
        rw [show decide ((k : Int) < 301) = true from decide_eq_true (by omega)]
        have hx0 := ixL0 (.int .i64 (k : Int)) (.int .i64 (-(k : Int)))
        have hx1 := ixL1 (.int .i64 (k : Int)) (.int .i64 (-(k : Int)))
        go_loopw [12, 13, 43] (fun o m i wr => ∃ j : Nat, j ≤ 2 ∧ o = .int .i64 0 ∧ m = .bool false ∧ i = .int .i64 j ∧ Hid ((1 ≤ j → aimedB p a want lim k = false) ∧ (2 ≤ j → aimedB p a want lim (-(k : Int)) = false)) ∧ Hid (Below wz.heap.size wz wr)) (fun _ _ i _ => 2 - (intOf i).toNat)
        case atStart => exact ⟨0, by omega, rfl, rfl, rfl, Lib.hid ⟨fun h => by omega, fun h => by omega⟩, HR⟩
        case round =>
        obtain ⟨j, hj, rfl, rfl, rfl, HJ, HI⟩ := hrel
        rcases (show j = 0 ∨ j = 1 ∨ j = 2 by omega) with rfl | rfl | rfl
        · skip
          have hcall := HAI.out wr HI.out ((k : Int)) (by omega)
          obtain ⟨o0, o1, o2, o3⟩ := HXO.out
          have o0 := (HI.out.cell (lt_of_cellq o0)).trans o0
          have o1 := (HI.out.cell (lt_of_cellq o1)).trans o1
          have o2 := (HI.out.cell (lt_of_cellq o2)).trans o2
          have o3 := (HI.out.cell (lt_of_cellq o3)).trans o3
          go_wp2_with fail
          refine hcall.mono ?_
          clear hcall
          rintro e w6 ⟨rfl, b6⟩
          clear o0 o1 o2 o3
          rcases hA : aimedB p a want lim ((k : Int)) with _ | _
          · have HA := Lib.hid hA
            have HI6 := Lib.hid (HI.out.trans (b6.mono HI.out.size))
            clear hA b6
            go_wp2
            go_roundw
            case rel => exact ⟨1, by omega, rfl, rfl, rfl, Lib.hid (⟨fun _ => HA.out, fun h => by omega⟩), HI6⟩
            case measure => simp [intOf]
          · have HA := Lib.hid hA
            clear hA
            have HF := Lib.hid (show aimF p a want lim = some ((k : Int)) from aimTo_up (k := k + 1) (by rw [aimTo, HN.out]; dsimp only; rw [if_pos HA.out]) (by omega))
            have HBB := Lib.hid (HBY.out.trans ((HI.out.trans (b6.mono HI.out.size)).mono HBY.out.size))
            clear hj hk HN HR HI b6
            go_wp2
            refine bodyPost_ret (v := .tuple #[.int .i64 ((k : Int)), .int .i64 0]) (by simp [results, Tryz.results57, go_sem]) rfl ⟨?_, HBB.out⟩
            unfold aimErr aimOut; rw [HE.out, if_pos rfl, if_pos rfl, Int.toNat_natCast, HF.out]; rfl
        · skip
          have hcall := HAI.out wr HI.out (-(k : Int)) (by omega)
          obtain ⟨o0, o1, o2, o3⟩ := HXO.out
          have o0 := (HI.out.cell (lt_of_cellq o0)).trans o0
          have o1 := (HI.out.cell (lt_of_cellq o1)).trans o1
          have o2 := (HI.out.cell (lt_of_cellq o2)).trans o2
          have o3 := (HI.out.cell (lt_of_cellq o3)).trans o3
          go_wp2_with fail
          refine hcall.mono ?_
          clear hcall
          rintro e w6 ⟨rfl, b6⟩
          clear o0 o1 o2 o3
          rcases hA : aimedB p a want lim (-(k : Int)) with _ | _
          · have HA := Lib.hid hA
            have HI6 := Lib.hid (HI.out.trans (b6.mono HI.out.size))
            clear hA b6
            go_wp2
            go_roundw
            case rel => exact ⟨2, by omega, rfl, rfl, rfl, Lib.hid (⟨fun _ => HJ.out.1 (by omega), fun _ => HA.out⟩), HI6⟩
            case measure => simp [intOf]
          · have HA := Lib.hid hA
            clear hA
            have HF := Lib.hid (show aimF p a want lim = some (-(k : Int)) from aimTo_up (k := k + 1) (by rw [aimTo, HN.out]; dsimp only; rw [if_neg (by rw [HJ.out.1 (by omega)]; decide), if_pos HA.out]) (by omega))
            have HBB := Lib.hid (HBY.out.trans ((HI.out.trans (b6.mono HI.out.size)).mono HBY.out.size))
            clear hj hk HN HR HI b6
            go_wp2
            refine bodyPost_ret (v := .tuple #[.int .i64 (-(k : Int)), .int .i64 0]) (by simp [results, Tryz.results57, go_sem]) rfl ⟨?_, HBB.out⟩
            unfold aimErr aimOut; rw [HE.out, if_pos rfl, if_pos rfl, Int.toNat_natCast, HF.out]; rfl
        · have HN1 := Lib.hid (show aimTo p a want lim (k + 1) = none by rw [aimTo, HN.out]; dsimp only; rw [if_neg (by rw [HJ.out.1 (by omega)]; decide), if_neg (by rw [HJ.out.2 (by omega)]; decide)])
          clear HN HJ hj
          have hk1 : IntKind.i64.wrap ((k : Int) + 1) = (k : Int) + 1 := w64 _ (by omega) (by omega)
          go_wp2
          go_roundw
          case rel => exact ⟨k + 1, by omega, rfl, rfl, by simp, HN1, HI⟩
          case measure => simp [intOf]; omega
      · have hke : k = 301 := by omega
        have HF := Lib.hid (show aimF p a want lim = none by unfold aimF; rw [← hke]; exact HN.out)
        have HBB := Lib.hid (HBY.out.trans (HR.out.mono HBY.out.size))
        clear hke HN HR
        go_wp2
        refine bodyPost_ret (v := .tuple #[.int .i64 0, .int .i64 5]) (by simp [results, Tryz.results57, go_sem]) rfl ⟨?_, HBB.out⟩
        unfold aimErr aimOut; rw [HE.out, if_pos rfl, if_pos rfl, Int.toNat_natCast, HF.out]; rfl
end Go.Proofs.YtlednchfifphgaaGreatDoor
end
