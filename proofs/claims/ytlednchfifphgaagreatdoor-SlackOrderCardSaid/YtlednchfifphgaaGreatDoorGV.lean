/-
  Renew: contract, all arguments (under way) (printed by slkask.py)
-/
import Derived.Test.YtlednchfifphgaaGreatDoorGH
import Derived.Test.YtlednchfifphgaaGreatDoorGT
import Derived.Test.YtlednchfifphgaaGreatDoorGU
section
namespace Go.Proofs.YtlednchfifphgaaGreatDoor
set_option linter.unusedSimpArgs false
open Go Go.RowKit Go.Proofs
set_option linter.unusedVariables false
attribute [local go_sem] imax2 imin2

def renewFine (p : Pc) (prices : List Int) (lim : Int) : Bool := (((prices.length : Int) == (p.ms.length : Int)) && prices.all fun x => inB x 0 1000) && inB lim 0 5000
/-- the cheapest meshes to be renewed, and their price, or the error -/
def RenewPost (p : Pc) (prices : List Int) (lim : Int) (w : World) (e : Ending) (w' : World) : Prop :=
  ((errF p (renewFine p prices lim) ≠ 0 ∧ e = .returned (.tuple #[.slice none 0 0, .int .i64 0, .int .i64 (errF p (renewFine p prices lim))])) ∨
   (errF p (renewFine p prices lim) = 0 ∧ ∃ qx cx, e = .returned (.tuple #[.slice qx (renewF p prices lim).length cx, .int .i64 (priceF prices (renewF p prices lim)), .int .i64 0]) ∧ RdI w' qx (renewF p prices lim))) ∧ Below w.heap.size w w'
set_option maxHeartbeats 6400000 in
set_option maxRecDepth 100000 in
theorem c_Renew (pm pv pr : Option Addr) (cm cv cr : Nat) (p : Pc) (pq : Option Addr) (cq : Nat) (prices : List Int) (lim : Int) (w : World) (hp : RdP w pm pv pr p) (hl : LenOk p) (hq : RdI w pq prices) (hlq : prices.length ≤ 1000000) :
    Calls Tryz.prog 58 #[.agg #[.slice pm p.ms.length cm, .slice pv p.mv.length cv, .slice pr p.rs.length cr], .slice pq prices.length cq, .int .i64 lim] w (RenewPost p prices lim w) := by
  obtain ⟨w1, e1, HS1, k0, k1, k2, b1⟩ := box3 w (.slice pm p.ms.length cm) (.slice pv p.mv.length cv) (.slice pr p.rs.length cr) 26
  have HPW := Lib.hid (fun (W : World) (hb : Below w1.heap.size w1 W) => (hp.below b1).below hb)
  have HCF := Lib.hid (fun (W : World) (hb : Below w1.heap.size w1 W) => cf_price pq cq prices W ((hq.below b1).below hb) hlq)
  have HQW := Lib.hid (fun (W : World) (hb : Below w1.heap.size w1 W) => (hq.below b1).below hb)
  have HL := Lib.hid hl
  have HB := Lib.hid b1
  have HSB := Lib.hid (show ∀ W, Below w1.heap.size w1 W → (fun w' => (w'.cell? ⟨w.heap.size, 0, none⟩ = some (.slice pm p.ms.length cm) ∧ w'.cell? ⟨w.heap.size, 1, none⟩ = some (.slice pv p.mv.length cv) ∧ w'.cell? ⟨w.heap.size, 2, none⟩ = some (.slice pr p.rs.length cr))) W from fun W hb => ⟨(hb.cell (lt_of_cellq k0)).trans k0, (hb.cell (lt_of_cellq k1)).trans k1, (hb.cell (lt_of_cellq k2)).trans k2⟩)
  clear hp hl hq b1
  go_enter Tryz.func58, Tryz.ntmps58
  go_upto_region 1 with (fail)
  clear e1 k0 k1 k2
  refine Code.wp_mono (Q := fun e a wz => e = .normal ∧ ∃ (bx : Nat) (qa : Option Addr) (na ca : Nat) (qb : Option Addr) (nb cb : Nat) (qc : Option Addr) (nc cc : Nat) (qd : Option Addr) (nd cd : Nat) (er : Int) (g25 g26 g27 g28 g29 g30 g31 g32 g33 g34 : Value), a = { tmps := #[.agg #[.slice pm p.ms.length cm, .slice pv p.mv.length cv, .slice pr p.rs.length cr], .slice pq prices.length cq, .int .i64 lim, .pointer (some ⟨w.heap.size, 0, none⟩), undef, undef, .slice none 0 0, .int .i64 0, .int .i64 0, .pointer (some ⟨bx, 0, none⟩), .int .i64 er, undef, undef, undef, undef, undef, undef, undef, .tuple #[.agg #[.slice qa na ca, .slice qb nb cb, .slice qc nc cc, .slice qd nd cd], .int .i64 er], .agg #[.slice pm p.ms.length cm, .slice pv p.mv.length cv, .slice pr p.rs.length cr], .slice pq prices.length cq, .int .i64 (prices.length : Int), .pointer (some ⟨w.heap.size, 0, none⟩), .slice pm p.ms.length cm, .int .i64 (p.ms.length : Int), g25, g26, g27, g28, g29, g30, g31, g32, g33, g34, .tuple #[.agg #[.slice qa na ca, .slice qb nb cb, .slice qc nc cc, .slice qd nd cd], .int .i64 er], .agg #[.slice qa na ca, .slice qb nb cb, .slice qc nc cc, .slice qd nd cd], .int .i64 er, undef, undef, undef, undef, undef, undef, undef, undef, undef, undef, undef, undef, undef, undef, undef, undef, undef, undef, undef, undef, undef, undef, undef, undef, undef, undef, undef, undef, undef, undef, undef, undef, undef, undef, undef, undef, undef, undef, undef, undef, undef, undef, undef, undef, undef, undef, undef, undef, undef, undef, undef], defers := [] } ∧ Hid (wz.heap[bx]? = some (.cells #[.slice qa na ca, .slice qb nb cb, .slice qc nc cc, .slice qd nd cd] 96 (0, 0))) ∧ Hid (AskZ pm pv pr cm cv cr p ((((prices.length : Int) == (p.ms.length : Int)) && prices.all fun x => inB x 0 1000) && inB lim 0 5000) (.slice qa na ca) (.slice qb nb cb) (.slice qc nc cc) (.slice qd nd cd) er wz) ∧ Hid (Below w1.heap.size w1 wz) ∧ Hid (w1.heap.size ≤ bx)) ?imp ?reg
  case reg =>
    rcases hF1 : ((prices.length : Int) == (p.ms.length : Int)) with _ | _
    · skip
      refine wp_region_held_drew (S := (fun w' => (w'.cell? ⟨w.heap.size, 0, none⟩ = some (.slice pm p.ms.length cm) ∧ w'.cell? ⟨w.heap.size, 1, none⟩ = some (.slice pv p.mv.length cv) ∧ w'.cell? ⟨w.heap.size, 2, none⟩ = some (.slice pr p.rs.length cr)))) (by kernel_rfl) (by (try dsimp only); exact HSB.out _ (Below.refl _ _).drew) (fun hHeld => ?_)
      refine wpAnyH_gen (fun W0 hW0 => ?_)
      have HB0 : Below w1.heap.size w1 W0 := by rw [hW0]; exact (Below.refl _ _).drew
      clear hW0 hHeld
      refine tj 0 rfl (by exact HSB.out _ HB0) ?_
      try simp only [Act.put, ptL]
      refine tj 1 rfl (by exact HSB.out _ HB0) ?_
      try simp only [Act.put, ptL]
      refine tj 2 rfl (by exact HSB.out _ HB0) ?_
      try simp only [Act.put, ptL]
      refine tj 3 rfl (by exact HSB.out _ HB0) ?_
      try simp only [Act.put, ptL]
      refine tj 4 rfl (by exact HSB.out _ HB0) ?_
      try simp only [Act.put, ptL]
      refine tj 5 rfl (by exact HSB.out _ HB0) ?_
      try simp only [Act.put, ptL]
      refine wpAnyH_take (i := 6) (v := .bool false) rfl (by kernel_rfl) (by kernel_rfl) (by kernel_rfl) (fun _ _ _ h => by first | (exact absurd h.1 (by intro hh; cases hh)) | exact h) (Or.inl ⟨by rfl, ?hy33⟩) (by (try dsimp only); exact HSB.out _ HB0) ?rest33
      case hy33 => (intro w hSw; (try dsimp only at hSw); go_simp <;> (try with_reducible rfl) <;> (first | rw [hF1] | simp_all))
      try simp only [Act.put, ptL]
      refine tj 7 rfl (by exact HSB.out _ HB0) ?_
      try simp only [Act.put, ptL]
      refine wpAnyH_take (i := 8) (v := undef) rfl (by kernel_rfl) (by kernel_rfl) (by kernel_rfl) (fun _ _ _ h => by first | (exact absurd h.1 (by intro hh; cases hh)) | exact h) (Or.inr ⟨by kernel_rfl, rfl⟩) (by (try dsimp only); exact HSB.out _ HB0) ?_
      try simp only [Act.put, ptL]
      refine wpAnyH_ready (rs := [9, 20]) (by kernel_rfl) (by simp) ?_
      refine AllReadyH.cons rfl ?_ (AllReadyH.cons rfl ?_ AllReadyH.nil)
      · intro K hK
        with_reducible refine unw ?hb36 ?hq36
        case hb36 => kernel_rfl
        refine hK.out _ _ (by (try dsimp only); exact HSB.out _ HB0) (fun hHeld => ?_)
        clear hK K hHeld
        try simp only [Act.put, ptL]
        refine wpAnyH_take (i := 10) (v := undef) rfl (by kernel_rfl) (by kernel_rfl) (by kernel_rfl) (fun _ _ _ h => by first | (exact absurd h.1 (by intro hh; cases hh)) | exact h) (Or.inr ⟨by kernel_rfl, rfl⟩) (by (try dsimp only); exact HSB.out _ HB0) ?_
        try simp only [Act.put, ptL]
        refine tj 11 rfl (by exact HSB.out _ HB0) ?_
        try simp only [Act.put, ptL]
        refine tj 12 rfl (by exact HSB.out _ HB0) ?_
        try simp only [Act.put, ptL]
        refine wpAnyH_take (i := 13) (v := undef) rfl (by kernel_rfl) (by kernel_rfl) (by kernel_rfl) (fun _ _ _ h => by first | (exact absurd h.1 (by intro hh; cases hh)) | exact h) (Or.inr ⟨by kernel_rfl, rfl⟩) (by (try dsimp only); exact HSB.out _ HB0) ?_
        try simp only [Act.put, ptL]
        refine wpAnyH_ready (rs := [14, 20]) (by kernel_rfl) (by simp) ?_
        refine AllReadyH.cons rfl ?_ (AllReadyH.cons rfl ?_ AllReadyH.nil)
        · intro K hK
          with_reducible refine unw ?hb41 ?hq41
          case hb41 => kernel_rfl
          refine hK.out _ _ (by (try dsimp only); exact HSB.out _ HB0) (fun hHeld => ?_)
          clear hK K hHeld
          try simp only [Act.put, ptL]
          refine tj 15 rfl (by exact HSB.out _ HB0) ?_
          try simp only [Act.put, ptL]
          refine wpAnyH_ready (rs := [16, 20]) (by kernel_rfl) (by simp) ?_
          refine AllReadyH.cons rfl ?_ (AllReadyH.cons rfl ?_ AllReadyH.nil)
          · intro K hK
            go_simp
            obtain ⟨WA, hWA⟩ : ∃ WA, WA = W0 := ⟨_, rfl⟩
            (with_reducible refine (c_askedG pm pv pr cm cv cr p false W0 (HPW.out _ HB0) HL.out).mono ?_)
            rintro e W43 ⟨qa, na, ca, qb, nb, cb, qc, nc, cc, qd, nd, cd, er, rfl, hmk, hbn⟩
            obtain ⟨WB, hWB⟩ : ∃ WB, WB = W43 := ⟨_, rfl⟩
            have HQ : ∀ k, WA.heap.size ≤ k → k < WB.heap.size → W43.heap[k]? = WB.heap[k]? := fun k _ _ => by rw [hWB]
            have hqs : WB.heap.size ≤ W43.heap.size := by rw [hWB]; exact Nat.le_refl _
            rw [← hWA, ← hWB] at hmk
            clear hWA hWB
            have HB43 : Below w1.heap.size w1 W43 := HB0.trans (hbn.mono HB0.size)
            clear hbn
            go_simp
            refine hK.out _ _ (by (try dsimp only); exact HSB.out _ HB43) (fun hHeld => ?_)
            clear hK K hHeld
            try simp only [Act.put, ptL]
            clear HB0
            refine tj 17 rfl (by exact HSB.out _ HB43) ?_
            try simp only [Act.put, ptL]
            refine tj 18 rfl (by exact HSB.out _ HB43) ?_
            try simp only [Act.put, ptL]
            refine tj 19 rfl (by exact HSB.out _ HB43) ?_
            try simp only [Act.put, ptL]
            refine wpAnyH_ready (rs := [20]) (by kernel_rfl) (by simp) ?_
            refine AllReadyH.cons rfl ?_ AllReadyH.nil
            intro K hK
            go_simp
            refine hK.out _ _ (by (try dsimp only); exact HSB.out _ (HB43.alloc HB43.size _)) (fun hHeld => ?_)
            clear hK K hHeld
            try simp only [Act.put, ptL]
            refine wpAnyH_gen (fun W47 hWn => ?_)
            have HB47 : Below w1.heap.size w1 W47 := by rw [hWn]; exact HB43.alloc HB43.size _
            have HQ : ∀ k, WA.heap.size ≤ k → k < WB.heap.size → W47.heap[k]? = WB.heap[k]? := fun k h1 h2 => by rw [hWn, Below.heap_alloc _ _ _ (Nat.lt_of_lt_of_le h2 hqs)]; exact HQ k h1 h2
            have hq_x : WB.heap.size ≤ W43.heap.size := hqs
            have hqs : WB.heap.size ≤ W47.heap.size := by rw [hWn]; simp; omega
            have hx_x : W47.heap[W43.heap.size]? = some (.cells #[.slice none 0 0, .slice none 0 0, .slice none 0 0, .slice none 0 0] 96) := by rw [hWn]; exact alloc_new _ _
            have hl_x : w1.heap.size ≤ W43.heap.size := HB43.size
            clear hWn
            obtain ⟨b_x, hb_x⟩ : ∃ b, W43.heap.size = b := ⟨_, rfl⟩
            rw [hb_x] at hx_x hl_x hq_x ⊢
            clear HB43 hb_x 
            refine wpAnyH_ready (rs := [21]) (by kernel_rfl) (by simp) ?_
            refine AllReadyH.cons rfl ?_ AllReadyH.nil
            intro K hK
            refine set4K W47 b_x 96 _ _ _ _ (.slice qa na ca) (.slice qb nb cb) (.slice qc nc cc) (.slice qd nd cd) hx_x (fun wa48 wb48 wc48 W48 sa sb sc sd ca0 fa0 ca1 fa1 ca2 fa2 ca3 fa3 hx4 hxk HZs hxb => ?_)
            have HB48 : Below w1.heap.size w1 W48 := hxb w1 w1.heap.size hl_x HB47
            have hx_x := hx4
            have HQ : ∀ k, WA.heap.size ≤ k → k < WB.heap.size → W48.heap[k]? = WB.heap[k]? := fun k h1 h2 => (hxk k (by omega)).trans (HQ k h1 h2)
            have hqs : WB.heap.size ≤ W48.heap.size := by rw [HZs.out]; exact hqs
            clear hx4 hxk hxb HZs
            go_simp
            refine hK.out _ _ (by (try dsimp only); exact HSB.out _ HB48) (fun hHeld => ?_)
            clear hK K hHeld
            try simp only [Act.put, ptL]
            clear ca0 ca1 ca2 ca3 fa0 fa1 fa2 fa3 sa sb sc sd HB47
            refine tj 22 rfl (by exact HSB.out _ HB48) ?_
            try simp only [Act.put, ptL]
            refine wpAnyH_done (by kernel_rfl) ?_ _
            obtain ⟨wz, hwz⟩ : ∃ wz, wz = W48 := ⟨_, rfl⟩
            subst hwz
            have HBZ := HB48
            clear HB48
            exact ⟨rfl, _, _, _, _, _, _, _, _, _, _, _, _, _, _, _, _, _, _, _, _, _, _, _, _, rfl, Lib.hid hx_x, Lib.hid (by rw [Bool.false_and, Bool.false_and]; exact hmk.out.at HQ), Lib.hid HBZ, Lib.hid hl_x⟩
          · intro K hK
            go_simp
            refine hK.out _ _ (by (try dsimp only); exact HSB.out _ (HB0.alloc HB0.size _)) (fun hHeld => ?_)
            clear hK K hHeld
            try simp only [Act.put, ptL]
            refine wpAnyH_gen (fun W50 hWn => ?_)
            have HB50 : Below w1.heap.size w1 W50 := by rw [hWn]; exact HB0.alloc HB0.size _
            have hx_x : W50.heap[W0.heap.size]? = some (.cells #[.slice none 0 0, .slice none 0 0, .slice none 0 0, .slice none 0 0] 96) := by rw [hWn]; exact alloc_new _ _
            have hl_x : w1.heap.size ≤ W0.heap.size := HB0.size
            clear hWn
            obtain ⟨b_x, hb_x⟩ : ∃ b, W0.heap.size = b := ⟨_, rfl⟩
            rw [hb_x] at hx_x hl_x ⊢
            clear HB0 hb_x 
            refine wpAnyH_ready (rs := [16]) (by kernel_rfl) (by simp) ?_
            refine AllReadyH.cons rfl ?_ AllReadyH.nil
            intro K hK
            go_simp
            obtain ⟨WA, hWA⟩ : ∃ WA, WA = W50 := ⟨_, rfl⟩
            have hq_x : b_x < WA.heap.size := by rw [hWA]; exact block_lt hx_x
            (with_reducible refine (c_askedG pm pv pr cm cv cr p false W50 (HPW.out _ HB50) HL.out).mono ?_)
            rintro e W51 ⟨qa, na, ca, qb, nb, cb, qc, nc, cc, qd, nd, cd, er, rfl, hmk, hbn⟩
            obtain ⟨WB, hWB⟩ : ∃ WB, WB = W51 := ⟨_, rfl⟩
            have HQ : ∀ k, WA.heap.size ≤ k → k < WB.heap.size → W51.heap[k]? = WB.heap[k]? := fun k _ _ => by rw [hWB]
            have hqs : WB.heap.size ≤ W51.heap.size := by rw [hWB]; exact Nat.le_refl _
            rw [← hWA, ← hWB] at hmk
            clear hWA hWB
            have HB51 : Below w1.heap.size w1 W51 := HB50.trans (hbn.mono HB50.size)
            have hx_x : W51.heap[b_x]? = some (.cells #[.slice none 0 0, .slice none 0 0, .slice none 0 0, .slice none 0 0] 96) := (hbn.block _ (block_lt hx_x)).trans hx_x
            clear hbn
            go_simp
            refine hK.out _ _ (by (try dsimp only); exact HSB.out _ HB51) (fun hHeld => ?_)
            clear hK K hHeld
            try simp only [Act.put, ptL]
            clear HB50
            refine tj 17 rfl (by exact HSB.out _ HB51) ?_
            try simp only [Act.put, ptL]
            refine tj 18 rfl (by exact HSB.out _ HB51) ?_
            try simp only [Act.put, ptL]
            refine tj 19 rfl (by exact HSB.out _ HB51) ?_
            try simp only [Act.put, ptL]
            refine wpAnyH_ready (rs := [21]) (by kernel_rfl) (by simp) ?_
            refine AllReadyH.cons rfl ?_ AllReadyH.nil
            intro K hK
            refine set4K W51 b_x 96 _ _ _ _ (.slice qa na ca) (.slice qb nb cb) (.slice qc nc cc) (.slice qd nd cd) hx_x (fun wa55 wb55 wc55 W55 sa sb sc sd ca0 fa0 ca1 fa1 ca2 fa2 ca3 fa3 hx4 hxk HZs hxb => ?_)
            have HB55 : Below w1.heap.size w1 W55 := hxb w1 w1.heap.size hl_x HB51
            have hx_x := hx4
            have HQ : ∀ k, WA.heap.size ≤ k → k < WB.heap.size → W55.heap[k]? = WB.heap[k]? := fun k h1 h2 => (hxk k (by omega)).trans (HQ k h1 h2)
            have hqs : WB.heap.size ≤ W55.heap.size := by rw [HZs.out]; exact hqs
            clear hx4 hxk hxb HZs
            go_simp
            refine hK.out _ _ (by (try dsimp only); exact HSB.out _ HB55) (fun hHeld => ?_)
            clear hK K hHeld
            try simp only [Act.put, ptL]
            clear ca0 ca1 ca2 ca3 fa0 fa1 fa2 fa3 sa sb sc sd HB51
            refine tj 22 rfl (by exact HSB.out _ HB55) ?_
            try simp only [Act.put, ptL]
            refine wpAnyH_done (by kernel_rfl) ?_ _
            obtain ⟨wz, hwz⟩ : ∃ wz, wz = W55 := ⟨_, rfl⟩
            subst hwz
            have HBZ := HB55
            clear HB55
            exact ⟨rfl, _, _, _, _, _, _, _, _, _, _, _, _, _, _, _, _, _, _, _, _, _, _, _, _, rfl, Lib.hid hx_x, Lib.hid (by rw [Bool.false_and, Bool.false_and]; exact hmk.out.at HQ), Lib.hid HBZ, Lib.hid hl_x⟩
        · intro K hK
          go_simp
          refine hK.out _ _ (by (try dsimp only); exact HSB.out _ (HB0.alloc HB0.size _)) (fun hHeld => ?_)
          clear hK K hHeld
          try simp only [Act.put, ptL]
          refine wpAnyH_gen (fun W57 hWn => ?_)
          have HB57 : Below w1.heap.size w1 W57 := by rw [hWn]; exact HB0.alloc HB0.size _
          have hx_x : W57.heap[W0.heap.size]? = some (.cells #[.slice none 0 0, .slice none 0 0, .slice none 0 0, .slice none 0 0] 96) := by rw [hWn]; exact alloc_new _ _
          have hl_x : w1.heap.size ≤ W0.heap.size := HB0.size
          clear hWn
          obtain ⟨b_x, hb_x⟩ : ∃ b, W0.heap.size = b := ⟨_, rfl⟩
          rw [hb_x] at hx_x hl_x ⊢
          clear HB0 hb_x 
          refine wpAnyH_ready (rs := [14]) (by kernel_rfl) (by simp) ?_
          refine AllReadyH.cons rfl ?_ AllReadyH.nil
          intro K hK
          with_reducible refine unw ?hb58 ?hq58
          case hb58 => kernel_rfl
          refine hK.out _ _ (by (try dsimp only); exact HSB.out _ HB57) (fun hHeld => ?_)
          clear hK K hHeld
          try simp only [Act.put, ptL]
          refine tj 15 rfl (by exact HSB.out _ HB57) ?_
          try simp only [Act.put, ptL]
          refine wpAnyH_ready (rs := [16]) (by kernel_rfl) (by simp) ?_
          refine AllReadyH.cons rfl ?_ AllReadyH.nil
          intro K hK
          go_simp
          obtain ⟨WA, hWA⟩ : ∃ WA, WA = W57 := ⟨_, rfl⟩
          have hq_x : b_x < WA.heap.size := by rw [hWA]; exact block_lt hx_x
          (with_reducible refine (c_askedG pm pv pr cm cv cr p false W57 (HPW.out _ HB57) HL.out).mono ?_)
          rintro e W60 ⟨qa, na, ca, qb, nb, cb, qc, nc, cc, qd, nd, cd, er, rfl, hmk, hbn⟩
          obtain ⟨WB, hWB⟩ : ∃ WB, WB = W60 := ⟨_, rfl⟩
          have HQ : ∀ k, WA.heap.size ≤ k → k < WB.heap.size → W60.heap[k]? = WB.heap[k]? := fun k _ _ => by rw [hWB]
          have hqs : WB.heap.size ≤ W60.heap.size := by rw [hWB]; exact Nat.le_refl _
          rw [← hWA, ← hWB] at hmk
          clear hWA hWB
          have HB60 : Below w1.heap.size w1 W60 := HB57.trans (hbn.mono HB57.size)
          have hx_x : W60.heap[b_x]? = some (.cells #[.slice none 0 0, .slice none 0 0, .slice none 0 0, .slice none 0 0] 96) := (hbn.block _ (block_lt hx_x)).trans hx_x
          clear hbn
          go_simp
          refine hK.out _ _ (by (try dsimp only); exact HSB.out _ HB60) (fun hHeld => ?_)
          clear hK K hHeld
          try simp only [Act.put, ptL]
          clear HB57
          refine tj 17 rfl (by exact HSB.out _ HB60) ?_
          try simp only [Act.put, ptL]
          refine tj 18 rfl (by exact HSB.out _ HB60) ?_
          try simp only [Act.put, ptL]
          refine tj 19 rfl (by exact HSB.out _ HB60) ?_
          try simp only [Act.put, ptL]
          refine wpAnyH_ready (rs := [21]) (by kernel_rfl) (by simp) ?_
          refine AllReadyH.cons rfl ?_ AllReadyH.nil
          intro K hK
          refine set4K W60 b_x 96 _ _ _ _ (.slice qa na ca) (.slice qb nb cb) (.slice qc nc cc) (.slice qd nd cd) hx_x (fun wa64 wb64 wc64 W64 sa sb sc sd ca0 fa0 ca1 fa1 ca2 fa2 ca3 fa3 hx4 hxk HZs hxb => ?_)
          have HB64 : Below w1.heap.size w1 W64 := hxb w1 w1.heap.size hl_x HB60
          have hx_x := hx4
          have HQ : ∀ k, WA.heap.size ≤ k → k < WB.heap.size → W64.heap[k]? = WB.heap[k]? := fun k h1 h2 => (hxk k (by omega)).trans (HQ k h1 h2)
          have hqs : WB.heap.size ≤ W64.heap.size := by rw [HZs.out]; exact hqs
          clear hx4 hxk hxb HZs
          go_simp
          refine hK.out _ _ (by (try dsimp only); exact HSB.out _ HB64) (fun hHeld => ?_)
          clear hK K hHeld
          try simp only [Act.put, ptL]
          clear ca0 ca1 ca2 ca3 fa0 fa1 fa2 fa3 sa sb sc sd HB60
          refine tj 22 rfl (by exact HSB.out _ HB64) ?_
          try simp only [Act.put, ptL]
          refine wpAnyH_done (by kernel_rfl) ?_ _
          obtain ⟨wz, hwz⟩ : ∃ wz, wz = W64 := ⟨_, rfl⟩
          subst hwz
          have HBZ := HB64
          clear HB64
          exact ⟨rfl, _, _, _, _, _, _, _, _, _, _, _, _, _, _, _, _, _, _, _, _, _, _, _, _, rfl, Lib.hid hx_x, Lib.hid (by rw [Bool.false_and, Bool.false_and]; exact hmk.out.at HQ), Lib.hid HBZ, Lib.hid hl_x⟩
      · intro K hK
        go_simp
        refine hK.out _ _ (by (try dsimp only); exact HSB.out _ (HB0.alloc HB0.size _)) (fun hHeld => ?_)
        clear hK K hHeld
        try simp only [Act.put, ptL]
        refine wpAnyH_gen (fun W66 hWn => ?_)
        have HB66 : Below w1.heap.size w1 W66 := by rw [hWn]; exact HB0.alloc HB0.size _
        have hx_x : W66.heap[W0.heap.size]? = some (.cells #[.slice none 0 0, .slice none 0 0, .slice none 0 0, .slice none 0 0] 96) := by rw [hWn]; exact alloc_new _ _
        have hl_x : w1.heap.size ≤ W0.heap.size := HB0.size
        clear hWn
        obtain ⟨b_x, hb_x⟩ : ∃ b, W0.heap.size = b := ⟨_, rfl⟩
        rw [hb_x] at hx_x hl_x ⊢
        clear HB0 hb_x 
        refine wpAnyH_ready (rs := [9]) (by kernel_rfl) (by simp) ?_
        refine AllReadyH.cons rfl ?_ AllReadyH.nil
        intro K hK
        with_reducible refine unw ?hb67 ?hq67
        case hb67 => kernel_rfl
        refine hK.out _ _ (by (try dsimp only); exact HSB.out _ HB66) (fun hHeld => ?_)
        clear hK K hHeld
        try simp only [Act.put, ptL]
        refine wpAnyH_take (i := 10) (v := undef) rfl (by kernel_rfl) (by kernel_rfl) (by kernel_rfl) (fun _ _ _ h => by first | (exact absurd h.1 (by intro hh; cases hh)) | exact h) (Or.inr ⟨by kernel_rfl, rfl⟩) (by (try dsimp only); exact HSB.out _ HB66) ?_
        try simp only [Act.put, ptL]
        refine tj 11 rfl (by exact HSB.out _ HB66) ?_
        try simp only [Act.put, ptL]
        refine tj 12 rfl (by exact HSB.out _ HB66) ?_
        try simp only [Act.put, ptL]
        refine wpAnyH_take (i := 13) (v := undef) rfl (by kernel_rfl) (by kernel_rfl) (by kernel_rfl) (fun _ _ _ h => by first | (exact absurd h.1 (by intro hh; cases hh)) | exact h) (Or.inr ⟨by kernel_rfl, rfl⟩) (by (try dsimp only); exact HSB.out _ HB66) ?_
        try simp only [Act.put, ptL]
        refine wpAnyH_ready (rs := [14]) (by kernel_rfl) (by simp) ?_
        refine AllReadyH.cons rfl ?_ AllReadyH.nil
        intro K hK
        with_reducible refine unw ?hb72 ?hq72
        case hb72 => kernel_rfl
        refine hK.out _ _ (by (try dsimp only); exact HSB.out _ HB66) (fun hHeld => ?_)
        clear hK K hHeld
        try simp only [Act.put, ptL]
        refine tj 15 rfl (by exact HSB.out _ HB66) ?_
        try simp only [Act.put, ptL]
        refine wpAnyH_ready (rs := [16]) (by kernel_rfl) (by simp) ?_
        refine AllReadyH.cons rfl ?_ AllReadyH.nil
        intro K hK
        go_simp
        obtain ⟨WA, hWA⟩ : ∃ WA, WA = W66 := ⟨_, rfl⟩
        have hq_x : b_x < WA.heap.size := by rw [hWA]; exact block_lt hx_x
        (with_reducible refine (c_askedG pm pv pr cm cv cr p false W66 (HPW.out _ HB66) HL.out).mono ?_)
        rintro e W74 ⟨qa, na, ca, qb, nb, cb, qc, nc, cc, qd, nd, cd, er, rfl, hmk, hbn⟩
        obtain ⟨WB, hWB⟩ : ∃ WB, WB = W74 := ⟨_, rfl⟩
        have HQ : ∀ k, WA.heap.size ≤ k → k < WB.heap.size → W74.heap[k]? = WB.heap[k]? := fun k _ _ => by rw [hWB]
        have hqs : WB.heap.size ≤ W74.heap.size := by rw [hWB]; exact Nat.le_refl _
        rw [← hWA, ← hWB] at hmk
        clear hWA hWB
        have HB74 : Below w1.heap.size w1 W74 := HB66.trans (hbn.mono HB66.size)
        have hx_x : W74.heap[b_x]? = some (.cells #[.slice none 0 0, .slice none 0 0, .slice none 0 0, .slice none 0 0] 96) := (hbn.block _ (block_lt hx_x)).trans hx_x
        clear hbn
        go_simp
        refine hK.out _ _ (by (try dsimp only); exact HSB.out _ HB74) (fun hHeld => ?_)
        clear hK K hHeld
        try simp only [Act.put, ptL]
        clear HB66
        refine tj 17 rfl (by exact HSB.out _ HB74) ?_
        try simp only [Act.put, ptL]
        refine tj 18 rfl (by exact HSB.out _ HB74) ?_
        try simp only [Act.put, ptL]
        refine tj 19 rfl (by exact HSB.out _ HB74) ?_
        try simp only [Act.put, ptL]
        refine wpAnyH_ready (rs := [21]) (by kernel_rfl) (by simp) ?_
        refine AllReadyH.cons rfl ?_ AllReadyH.nil
        intro K hK
        refine set4K W74 b_x 96 _ _ _ _ (.slice qa na ca) (.slice qb nb cb) (.slice qc nc cc) (.slice qd nd cd) hx_x (fun wa78 wb78 wc78 W78 sa sb sc sd ca0 fa0 ca1 fa1 ca2 fa2 ca3 fa3 hx4 hxk HZs hxb => ?_)
        have HB78 : Below w1.heap.size w1 W78 := hxb w1 w1.heap.size hl_x HB74
        have hx_x := hx4
        have HQ : ∀ k, WA.heap.size ≤ k → k < WB.heap.size → W78.heap[k]? = WB.heap[k]? := fun k h1 h2 => (hxk k (by omega)).trans (HQ k h1 h2)
        have hqs : WB.heap.size ≤ W78.heap.size := by rw [HZs.out]; exact hqs
        clear hx4 hxk hxb HZs
        go_simp
        refine hK.out _ _ (by (try dsimp only); exact HSB.out _ HB78) (fun hHeld => ?_)
        clear hK K hHeld
        try simp only [Act.put, ptL]
        clear ca0 ca1 ca2 ca3 fa0 fa1 fa2 fa3 sa sb sc sd HB74
        refine tj 22 rfl (by exact HSB.out _ HB78) ?_
        try simp only [Act.put, ptL]
        refine wpAnyH_done (by kernel_rfl) ?_ _
        obtain ⟨wz, hwz⟩ : ∃ wz, wz = W78 := ⟨_, rfl⟩
        subst hwz
        have HBZ := HB78
        clear HB78
        exact ⟨rfl, _, _, _, _, _, _, _, _, _, _, _, _, _, _, _, _, _, _, _, _, _, _, _, _, rfl, Lib.hid hx_x, Lib.hid (by rw [Bool.false_and, Bool.false_and]; exact hmk.out.at HQ), Lib.hid HBZ, Lib.hid hl_x⟩
    rcases hF2 : (prices.all fun x => inB x 0 1000) with _ | _
    · skip
      refine wp_region_held_drew (S := (fun w' => (w'.cell? ⟨w.heap.size, 0, none⟩ = some (.slice pm p.ms.length cm) ∧ w'.cell? ⟨w.heap.size, 1, none⟩ = some (.slice pv p.mv.length cv) ∧ w'.cell? ⟨w.heap.size, 2, none⟩ = some (.slice pr p.rs.length cr)))) (by kernel_rfl) (by (try dsimp only); exact HSB.out _ (Below.refl _ _).drew) (fun hHeld => ?_)
      refine wpAnyH_gen (fun W0 hW0 => ?_)
      have HB0 : Below w1.heap.size w1 W0 := by rw [hW0]; exact (Below.refl _ _).drew
      clear hW0 hHeld
      refine tj 0 rfl (by exact HSB.out _ HB0) ?_
      try simp only [Act.put, ptL]
      refine tj 1 rfl (by exact HSB.out _ HB0) ?_
      try simp only [Act.put, ptL]
      refine tj 2 rfl (by exact HSB.out _ HB0) ?_
      try simp only [Act.put, ptL]
      refine tj 3 rfl (by exact HSB.out _ HB0) ?_
      try simp only [Act.put, ptL]
      refine tj 4 rfl (by exact HSB.out _ HB0) ?_
      try simp only [Act.put, ptL]
      refine tj 5 rfl (by exact HSB.out _ HB0) ?_
      try simp only [Act.put, ptL]
      refine wpAnyH_take (i := 6) (v := .bool true) rfl (by kernel_rfl) (by kernel_rfl) (by kernel_rfl) (fun _ _ _ h => by first | (exact absurd h.1 (by intro hh; cases hh)) | exact h) (Or.inl ⟨by rfl, ?hy86⟩) (by (try dsimp only); exact HSB.out _ HB0) ?rest86
      case hy86 => (intro w hSw; (try dsimp only at hSw); go_simp <;> (try with_reducible rfl) <;> (first | rw [hF1] | simp_all))
      try simp only [Act.put, ptL]
      refine tj 7 rfl (by exact HSB.out _ HB0) ?_
      try simp only [Act.put, ptL]
      refine tj 8 rfl (by exact HSB.out _ HB0) ?_
      try simp only [Act.put, ptL]
      refine wpAnyH_ready (rs := [9, 20]) (by kernel_rfl) (by simp) ?_
      refine AllReadyH.cons rfl ?_ (AllReadyH.cons rfl ?_ AllReadyH.nil)
      · intro K hK
        go_simp
        (with_reducible refine (HCF.out _ HB0).mono ?_)
        rw [hF2]
        simp only [Bool.not_false]
        rintro e W89 ⟨rfl, hbn⟩
        have HB89 : Below w1.heap.size w1 W89 := HB0.trans (hbn.mono HB0.size)
        clear hbn
        go_simp
        refine hK.out _ _ (by (try dsimp only); exact HSB.out _ HB89) (fun hHeld => ?_)
        clear hK K hHeld
        try simp only [Act.put, ptL]
        clear HB0
        refine tj 10 rfl (by exact HSB.out _ HB89) ?_
        try simp only [Act.put, ptL]
        refine tj 11 rfl (by exact HSB.out _ HB89) ?_
        try simp only [Act.put, ptL]
        refine tj 12 rfl (by exact HSB.out _ HB89) ?_
        try simp only [Act.put, ptL]
        refine wpAnyH_take (i := 13) (v := undef) rfl (by kernel_rfl) (by kernel_rfl) (by kernel_rfl) (fun _ _ _ h => by first | (exact absurd h.1 (by intro hh; cases hh)) | exact h) (Or.inr ⟨by kernel_rfl, rfl⟩) (by (try dsimp only); exact HSB.out _ HB89) ?_
        try simp only [Act.put, ptL]
        refine wpAnyH_ready (rs := [14, 20]) (by kernel_rfl) (by simp) ?_
        refine AllReadyH.cons rfl ?_ (AllReadyH.cons rfl ?_ AllReadyH.nil)
        · intro K hK
          with_reducible refine unw ?hb94 ?hq94
          case hb94 => kernel_rfl
          refine hK.out _ _ (by (try dsimp only); exact HSB.out _ HB89) (fun hHeld => ?_)
          clear hK K hHeld
          try simp only [Act.put, ptL]
          refine tj 15 rfl (by exact HSB.out _ HB89) ?_
          try simp only [Act.put, ptL]
          refine wpAnyH_ready (rs := [16, 20]) (by kernel_rfl) (by simp) ?_
          refine AllReadyH.cons rfl ?_ (AllReadyH.cons rfl ?_ AllReadyH.nil)
          · intro K hK
            go_simp
            obtain ⟨WA, hWA⟩ : ∃ WA, WA = W89 := ⟨_, rfl⟩
            (with_reducible refine (c_askedG pm pv pr cm cv cr p false W89 (HPW.out _ HB89) HL.out).mono ?_)
            rintro e W96 ⟨qa, na, ca, qb, nb, cb, qc, nc, cc, qd, nd, cd, er, rfl, hmk, hbn⟩
            obtain ⟨WB, hWB⟩ : ∃ WB, WB = W96 := ⟨_, rfl⟩
            have HQ : ∀ k, WA.heap.size ≤ k → k < WB.heap.size → W96.heap[k]? = WB.heap[k]? := fun k _ _ => by rw [hWB]
            have hqs : WB.heap.size ≤ W96.heap.size := by rw [hWB]; exact Nat.le_refl _
            rw [← hWA, ← hWB] at hmk
            clear hWA hWB
            have HB96 : Below w1.heap.size w1 W96 := HB89.trans (hbn.mono HB89.size)
            clear hbn
            go_simp
            refine hK.out _ _ (by (try dsimp only); exact HSB.out _ HB96) (fun hHeld => ?_)
            clear hK K hHeld
            try simp only [Act.put, ptL]
            clear HB89
            refine tj 17 rfl (by exact HSB.out _ HB96) ?_
            try simp only [Act.put, ptL]
            refine tj 18 rfl (by exact HSB.out _ HB96) ?_
            try simp only [Act.put, ptL]
            refine tj 19 rfl (by exact HSB.out _ HB96) ?_
            try simp only [Act.put, ptL]
            refine wpAnyH_ready (rs := [20]) (by kernel_rfl) (by simp) ?_
            refine AllReadyH.cons rfl ?_ AllReadyH.nil
            intro K hK
            go_simp
            refine hK.out _ _ (by (try dsimp only); exact HSB.out _ (HB96.alloc HB96.size _)) (fun hHeld => ?_)
            clear hK K hHeld
            try simp only [Act.put, ptL]
            refine wpAnyH_gen (fun W100 hWn => ?_)
            have HB100 : Below w1.heap.size w1 W100 := by rw [hWn]; exact HB96.alloc HB96.size _
            have HQ : ∀ k, WA.heap.size ≤ k → k < WB.heap.size → W100.heap[k]? = WB.heap[k]? := fun k h1 h2 => by rw [hWn, Below.heap_alloc _ _ _ (Nat.lt_of_lt_of_le h2 hqs)]; exact HQ k h1 h2
            have hq_x : WB.heap.size ≤ W96.heap.size := hqs
            have hqs : WB.heap.size ≤ W100.heap.size := by rw [hWn]; simp; omega
            have hx_x : W100.heap[W96.heap.size]? = some (.cells #[.slice none 0 0, .slice none 0 0, .slice none 0 0, .slice none 0 0] 96) := by rw [hWn]; exact alloc_new _ _
            have hl_x : w1.heap.size ≤ W96.heap.size := HB96.size
            clear hWn
            obtain ⟨b_x, hb_x⟩ : ∃ b, W96.heap.size = b := ⟨_, rfl⟩
            rw [hb_x] at hx_x hl_x hq_x ⊢
            clear HB96 hb_x 
            refine wpAnyH_ready (rs := [21]) (by kernel_rfl) (by simp) ?_
            refine AllReadyH.cons rfl ?_ AllReadyH.nil
            intro K hK
            refine set4K W100 b_x 96 _ _ _ _ (.slice qa na ca) (.slice qb nb cb) (.slice qc nc cc) (.slice qd nd cd) hx_x (fun wa101 wb101 wc101 W101 sa sb sc sd ca0 fa0 ca1 fa1 ca2 fa2 ca3 fa3 hx4 hxk HZs hxb => ?_)
            have HB101 : Below w1.heap.size w1 W101 := hxb w1 w1.heap.size hl_x HB100
            have hx_x := hx4
            have HQ : ∀ k, WA.heap.size ≤ k → k < WB.heap.size → W101.heap[k]? = WB.heap[k]? := fun k h1 h2 => (hxk k (by omega)).trans (HQ k h1 h2)
            have hqs : WB.heap.size ≤ W101.heap.size := by rw [HZs.out]; exact hqs
            clear hx4 hxk hxb HZs
            go_simp
            refine hK.out _ _ (by (try dsimp only); exact HSB.out _ HB101) (fun hHeld => ?_)
            clear hK K hHeld
            try simp only [Act.put, ptL]
            clear ca0 ca1 ca2 ca3 fa0 fa1 fa2 fa3 sa sb sc sd HB100
            refine tj 22 rfl (by exact HSB.out _ HB101) ?_
            try simp only [Act.put, ptL]
            refine wpAnyH_done (by kernel_rfl) ?_ _
            obtain ⟨wz, hwz⟩ : ∃ wz, wz = W101 := ⟨_, rfl⟩
            subst hwz
            have HBZ := HB101
            clear HB101
            exact ⟨rfl, _, _, _, _, _, _, _, _, _, _, _, _, _, _, _, _, _, _, _, _, _, _, _, _, rfl, Lib.hid hx_x, Lib.hid (by rw [Bool.true_and, Bool.false_and]; exact hmk.out.at HQ), Lib.hid HBZ, Lib.hid hl_x⟩
          · intro K hK
            go_simp
            refine hK.out _ _ (by (try dsimp only); exact HSB.out _ (HB89.alloc HB89.size _)) (fun hHeld => ?_)
            clear hK K hHeld
            try simp only [Act.put, ptL]
            refine wpAnyH_gen (fun W103 hWn => ?_)
            have HB103 : Below w1.heap.size w1 W103 := by rw [hWn]; exact HB89.alloc HB89.size _
            have hx_x : W103.heap[W89.heap.size]? = some (.cells #[.slice none 0 0, .slice none 0 0, .slice none 0 0, .slice none 0 0] 96) := by rw [hWn]; exact alloc_new _ _
            have hl_x : w1.heap.size ≤ W89.heap.size := HB89.size
            clear hWn
            obtain ⟨b_x, hb_x⟩ : ∃ b, W89.heap.size = b := ⟨_, rfl⟩
            rw [hb_x] at hx_x hl_x ⊢
            clear HB89 hb_x 
            refine wpAnyH_ready (rs := [16]) (by kernel_rfl) (by simp) ?_
            refine AllReadyH.cons rfl ?_ AllReadyH.nil
            intro K hK
            go_simp
            obtain ⟨WA, hWA⟩ : ∃ WA, WA = W103 := ⟨_, rfl⟩
            have hq_x : b_x < WA.heap.size := by rw [hWA]; exact block_lt hx_x
            (with_reducible refine (c_askedG pm pv pr cm cv cr p false W103 (HPW.out _ HB103) HL.out).mono ?_)
            rintro e W104 ⟨qa, na, ca, qb, nb, cb, qc, nc, cc, qd, nd, cd, er, rfl, hmk, hbn⟩
            obtain ⟨WB, hWB⟩ : ∃ WB, WB = W104 := ⟨_, rfl⟩
            have HQ : ∀ k, WA.heap.size ≤ k → k < WB.heap.size → W104.heap[k]? = WB.heap[k]? := fun k _ _ => by rw [hWB]
            have hqs : WB.heap.size ≤ W104.heap.size := by rw [hWB]; exact Nat.le_refl _
            rw [← hWA, ← hWB] at hmk
            clear hWA hWB
            have HB104 : Below w1.heap.size w1 W104 := HB103.trans (hbn.mono HB103.size)
            have hx_x : W104.heap[b_x]? = some (.cells #[.slice none 0 0, .slice none 0 0, .slice none 0 0, .slice none 0 0] 96) := (hbn.block _ (block_lt hx_x)).trans hx_x
            clear hbn
            go_simp
            refine hK.out _ _ (by (try dsimp only); exact HSB.out _ HB104) (fun hHeld => ?_)
            clear hK K hHeld
            try simp only [Act.put, ptL]
            clear HB103
            refine tj 17 rfl (by exact HSB.out _ HB104) ?_
            try simp only [Act.put, ptL]
            refine tj 18 rfl (by exact HSB.out _ HB104) ?_
            try simp only [Act.put, ptL]
            refine tj 19 rfl (by exact HSB.out _ HB104) ?_
            try simp only [Act.put, ptL]
            refine wpAnyH_ready (rs := [21]) (by kernel_rfl) (by simp) ?_
            refine AllReadyH.cons rfl ?_ AllReadyH.nil
            intro K hK
            refine set4K W104 b_x 96 _ _ _ _ (.slice qa na ca) (.slice qb nb cb) (.slice qc nc cc) (.slice qd nd cd) hx_x (fun wa108 wb108 wc108 W108 sa sb sc sd ca0 fa0 ca1 fa1 ca2 fa2 ca3 fa3 hx4 hxk HZs hxb => ?_)
            have HB108 : Below w1.heap.size w1 W108 := hxb w1 w1.heap.size hl_x HB104
            have hx_x := hx4
            have HQ : ∀ k, WA.heap.size ≤ k → k < WB.heap.size → W108.heap[k]? = WB.heap[k]? := fun k h1 h2 => (hxk k (by omega)).trans (HQ k h1 h2)
            have hqs : WB.heap.size ≤ W108.heap.size := by rw [HZs.out]; exact hqs
            clear hx4 hxk hxb HZs
            go_simp
            refine hK.out _ _ (by (try dsimp only); exact HSB.out _ HB108) (fun hHeld => ?_)
            clear hK K hHeld
            try simp only [Act.put, ptL]
            clear ca0 ca1 ca2 ca3 fa0 fa1 fa2 fa3 sa sb sc sd HB104
            refine tj 22 rfl (by exact HSB.out _ HB108) ?_
            try simp only [Act.put, ptL]
            refine wpAnyH_done (by kernel_rfl) ?_ _
            obtain ⟨wz, hwz⟩ : ∃ wz, wz = W108 := ⟨_, rfl⟩
            subst hwz
            have HBZ := HB108
            clear HB108
            exact ⟨rfl, _, _, _, _, _, _, _, _, _, _, _, _, _, _, _, _, _, _, _, _, _, _, _, _, rfl, Lib.hid hx_x, Lib.hid (by rw [Bool.true_and, Bool.false_and]; exact hmk.out.at HQ), Lib.hid HBZ, Lib.hid hl_x⟩
        · intro K hK
          go_simp
          refine hK.out _ _ (by (try dsimp only); exact HSB.out _ (HB89.alloc HB89.size _)) (fun hHeld => ?_)
          clear hK K hHeld
          try simp only [Act.put, ptL]
          refine wpAnyH_gen (fun W110 hWn => ?_)
          have HB110 : Below w1.heap.size w1 W110 := by rw [hWn]; exact HB89.alloc HB89.size _
          have hx_x : W110.heap[W89.heap.size]? = some (.cells #[.slice none 0 0, .slice none 0 0, .slice none 0 0, .slice none 0 0] 96) := by rw [hWn]; exact alloc_new _ _
          have hl_x : w1.heap.size ≤ W89.heap.size := HB89.size
          clear hWn
          obtain ⟨b_x, hb_x⟩ : ∃ b, W89.heap.size = b := ⟨_, rfl⟩
          rw [hb_x] at hx_x hl_x ⊢
          clear HB89 hb_x 
          refine wpAnyH_ready (rs := [14]) (by kernel_rfl) (by simp) ?_
          refine AllReadyH.cons rfl ?_ AllReadyH.nil
          intro K hK
          with_reducible refine unw ?hb111 ?hq111
          case hb111 => kernel_rfl
          refine hK.out _ _ (by (try dsimp only); exact HSB.out _ HB110) (fun hHeld => ?_)
          clear hK K hHeld
          try simp only [Act.put, ptL]
          refine tj 15 rfl (by exact HSB.out _ HB110) ?_
          try simp only [Act.put, ptL]
          refine wpAnyH_ready (rs := [16]) (by kernel_rfl) (by simp) ?_
          refine AllReadyH.cons rfl ?_ AllReadyH.nil
          intro K hK
          go_simp
          obtain ⟨WA, hWA⟩ : ∃ WA, WA = W110 := ⟨_, rfl⟩
          have hq_x : b_x < WA.heap.size := by rw [hWA]; exact block_lt hx_x
          (with_reducible refine (c_askedG pm pv pr cm cv cr p false W110 (HPW.out _ HB110) HL.out).mono ?_)
          rintro e W113 ⟨qa, na, ca, qb, nb, cb, qc, nc, cc, qd, nd, cd, er, rfl, hmk, hbn⟩
          obtain ⟨WB, hWB⟩ : ∃ WB, WB = W113 := ⟨_, rfl⟩
          have HQ : ∀ k, WA.heap.size ≤ k → k < WB.heap.size → W113.heap[k]? = WB.heap[k]? := fun k _ _ => by rw [hWB]
          have hqs : WB.heap.size ≤ W113.heap.size := by rw [hWB]; exact Nat.le_refl _
          rw [← hWA, ← hWB] at hmk
          clear hWA hWB
          have HB113 : Below w1.heap.size w1 W113 := HB110.trans (hbn.mono HB110.size)
          have hx_x : W113.heap[b_x]? = some (.cells #[.slice none 0 0, .slice none 0 0, .slice none 0 0, .slice none 0 0] 96) := (hbn.block _ (block_lt hx_x)).trans hx_x
          clear hbn
          go_simp
          refine hK.out _ _ (by (try dsimp only); exact HSB.out _ HB113) (fun hHeld => ?_)
          clear hK K hHeld
          try simp only [Act.put, ptL]
          clear HB110
          refine tj 17 rfl (by exact HSB.out _ HB113) ?_
          try simp only [Act.put, ptL]
          refine tj 18 rfl (by exact HSB.out _ HB113) ?_
          try simp only [Act.put, ptL]
          refine tj 19 rfl (by exact HSB.out _ HB113) ?_
          try simp only [Act.put, ptL]
          refine wpAnyH_ready (rs := [21]) (by kernel_rfl) (by simp) ?_
          refine AllReadyH.cons rfl ?_ AllReadyH.nil
          intro K hK
          refine set4K W113 b_x 96 _ _ _ _ (.slice qa na ca) (.slice qb nb cb) (.slice qc nc cc) (.slice qd nd cd) hx_x (fun wa117 wb117 wc117 W117 sa sb sc sd ca0 fa0 ca1 fa1 ca2 fa2 ca3 fa3 hx4 hxk HZs hxb => ?_)
          have HB117 : Below w1.heap.size w1 W117 := hxb w1 w1.heap.size hl_x HB113
          have hx_x := hx4
          have HQ : ∀ k, WA.heap.size ≤ k → k < WB.heap.size → W117.heap[k]? = WB.heap[k]? := fun k h1 h2 => (hxk k (by omega)).trans (HQ k h1 h2)
          have hqs : WB.heap.size ≤ W117.heap.size := by rw [HZs.out]; exact hqs
          clear hx4 hxk hxb HZs
          go_simp
          refine hK.out _ _ (by (try dsimp only); exact HSB.out _ HB117) (fun hHeld => ?_)
          clear hK K hHeld
          try simp only [Act.put, ptL]
          clear ca0 ca1 ca2 ca3 fa0 fa1 fa2 fa3 sa sb sc sd HB113
          refine tj 22 rfl (by exact HSB.out _ HB117) ?_
          try simp only [Act.put, ptL]
          refine wpAnyH_done (by kernel_rfl) ?_ _
          obtain ⟨wz, hwz⟩ : ∃ wz, wz = W117 := ⟨_, rfl⟩
          subst hwz
          have HBZ := HB117
          clear HB117
          exact ⟨rfl, _, _, _, _, _, _, _, _, _, _, _, _, _, _, _, _, _, _, _, _, _, _, _, _, rfl, Lib.hid hx_x, Lib.hid (by rw [Bool.true_and, Bool.false_and]; exact hmk.out.at HQ), Lib.hid HBZ, Lib.hid hl_x⟩
      · intro K hK
        go_simp
        refine hK.out _ _ (by (try dsimp only); exact HSB.out _ (HB0.alloc HB0.size _)) (fun hHeld => ?_)
        clear hK K hHeld
        try simp only [Act.put, ptL]
        refine wpAnyH_gen (fun W119 hWn => ?_)
        have HB119 : Below w1.heap.size w1 W119 := by rw [hWn]; exact HB0.alloc HB0.size _
        have hx_x : W119.heap[W0.heap.size]? = some (.cells #[.slice none 0 0, .slice none 0 0, .slice none 0 0, .slice none 0 0] 96) := by rw [hWn]; exact alloc_new _ _
        have hl_x : w1.heap.size ≤ W0.heap.size := HB0.size
        clear hWn
        obtain ⟨b_x, hb_x⟩ : ∃ b, W0.heap.size = b := ⟨_, rfl⟩
        rw [hb_x] at hx_x hl_x ⊢
        clear HB0 hb_x 
        refine wpAnyH_ready (rs := [9]) (by kernel_rfl) (by simp) ?_
        refine AllReadyH.cons rfl ?_ AllReadyH.nil
        intro K hK
        go_simp
        (with_reducible refine (HCF.out _ HB119).mono ?_)
        rw [hF2]
        simp only [Bool.not_false]
        rintro e W120 ⟨rfl, hbn⟩
        have HB120 : Below w1.heap.size w1 W120 := HB119.trans (hbn.mono HB119.size)
        have hx_x : W120.heap[b_x]? = some (.cells #[.slice none 0 0, .slice none 0 0, .slice none 0 0, .slice none 0 0] 96) := (hbn.block _ (block_lt hx_x)).trans hx_x
        clear hbn
        go_simp
        refine hK.out _ _ (by (try dsimp only); exact HSB.out _ HB120) (fun hHeld => ?_)
        clear hK K hHeld
        try simp only [Act.put, ptL]
        clear HB119
        refine tj 10 rfl (by exact HSB.out _ HB120) ?_
        try simp only [Act.put, ptL]
        refine tj 11 rfl (by exact HSB.out _ HB120) ?_
        try simp only [Act.put, ptL]
        refine tj 12 rfl (by exact HSB.out _ HB120) ?_
        try simp only [Act.put, ptL]
        refine wpAnyH_take (i := 13) (v := undef) rfl (by kernel_rfl) (by kernel_rfl) (by kernel_rfl) (fun _ _ _ h => by first | (exact absurd h.1 (by intro hh; cases hh)) | exact h) (Or.inr ⟨by kernel_rfl, rfl⟩) (by (try dsimp only); exact HSB.out _ HB120) ?_
        try simp only [Act.put, ptL]
        refine wpAnyH_ready (rs := [14]) (by kernel_rfl) (by simp) ?_
        refine AllReadyH.cons rfl ?_ AllReadyH.nil
        intro K hK
        with_reducible refine unw ?hb125 ?hq125
        case hb125 => kernel_rfl
        refine hK.out _ _ (by (try dsimp only); exact HSB.out _ HB120) (fun hHeld => ?_)
        clear hK K hHeld
        try simp only [Act.put, ptL]
        refine tj 15 rfl (by exact HSB.out _ HB120) ?_
        try simp only [Act.put, ptL]
        refine wpAnyH_ready (rs := [16]) (by kernel_rfl) (by simp) ?_
        refine AllReadyH.cons rfl ?_ AllReadyH.nil
        intro K hK
        go_simp
        obtain ⟨WA, hWA⟩ : ∃ WA, WA = W120 := ⟨_, rfl⟩
        have hq_x : b_x < WA.heap.size := by rw [hWA]; exact block_lt hx_x
        (with_reducible refine (c_askedG pm pv pr cm cv cr p false W120 (HPW.out _ HB120) HL.out).mono ?_)
        rintro e W127 ⟨qa, na, ca, qb, nb, cb, qc, nc, cc, qd, nd, cd, er, rfl, hmk, hbn⟩
        obtain ⟨WB, hWB⟩ : ∃ WB, WB = W127 := ⟨_, rfl⟩
        have HQ : ∀ k, WA.heap.size ≤ k → k < WB.heap.size → W127.heap[k]? = WB.heap[k]? := fun k _ _ => by rw [hWB]
        have hqs : WB.heap.size ≤ W127.heap.size := by rw [hWB]; exact Nat.le_refl _
        rw [← hWA, ← hWB] at hmk
        clear hWA hWB
        have HB127 : Below w1.heap.size w1 W127 := HB120.trans (hbn.mono HB120.size)
        have hx_x : W127.heap[b_x]? = some (.cells #[.slice none 0 0, .slice none 0 0, .slice none 0 0, .slice none 0 0] 96) := (hbn.block _ (block_lt hx_x)).trans hx_x
        clear hbn
        go_simp
        refine hK.out _ _ (by (try dsimp only); exact HSB.out _ HB127) (fun hHeld => ?_)
        clear hK K hHeld
        try simp only [Act.put, ptL]
        clear HB120
        refine tj 17 rfl (by exact HSB.out _ HB127) ?_
        try simp only [Act.put, ptL]
        refine tj 18 rfl (by exact HSB.out _ HB127) ?_
        try simp only [Act.put, ptL]
        refine tj 19 rfl (by exact HSB.out _ HB127) ?_
        try simp only [Act.put, ptL]
        refine wpAnyH_ready (rs := [21]) (by kernel_rfl) (by simp) ?_
        refine AllReadyH.cons rfl ?_ AllReadyH.nil
        intro K hK
        refine set4K W127 b_x 96 _ _ _ _ (.slice qa na ca) (.slice qb nb cb) (.slice qc nc cc) (.slice qd nd cd) hx_x (fun wa131 wb131 wc131 W131 sa sb sc sd ca0 fa0 ca1 fa1 ca2 fa2 ca3 fa3 hx4 hxk HZs hxb => ?_)
        have HB131 : Below w1.heap.size w1 W131 := hxb w1 w1.heap.size hl_x HB127
        have hx_x := hx4
        have HQ : ∀ k, WA.heap.size ≤ k → k < WB.heap.size → W131.heap[k]? = WB.heap[k]? := fun k h1 h2 => (hxk k (by omega)).trans (HQ k h1 h2)
        have hqs : WB.heap.size ≤ W131.heap.size := by rw [HZs.out]; exact hqs
        clear hx4 hxk hxb HZs
        go_simp
        refine hK.out _ _ (by (try dsimp only); exact HSB.out _ HB131) (fun hHeld => ?_)
        clear hK K hHeld
        try simp only [Act.put, ptL]
        clear ca0 ca1 ca2 ca3 fa0 fa1 fa2 fa3 sa sb sc sd HB127
        refine tj 22 rfl (by exact HSB.out _ HB131) ?_
        try simp only [Act.put, ptL]
        refine wpAnyH_done (by kernel_rfl) ?_ _
        obtain ⟨wz, hwz⟩ : ∃ wz, wz = W131 := ⟨_, rfl⟩
        subst hwz
        have HBZ := HB131
        clear HB131
        exact ⟨rfl, _, _, _, _, _, _, _, _, _, _, _, _, _, _, _, _, _, _, _, _, _, _, _, _, rfl, Lib.hid hx_x, Lib.hid (by rw [Bool.true_and, Bool.false_and]; exact hmk.out.at HQ), Lib.hid HBZ, Lib.hid hl_x⟩
    refine wp_region_held_drew (S := (fun w' => (w'.cell? ⟨w.heap.size, 0, none⟩ = some (.slice pm p.ms.length cm) ∧ w'.cell? ⟨w.heap.size, 1, none⟩ = some (.slice pv p.mv.length cv) ∧ w'.cell? ⟨w.heap.size, 2, none⟩ = some (.slice pr p.rs.length cr)))) (by kernel_rfl) (by (try dsimp only); exact HSB.out _ (Below.refl _ _).drew) (fun hHeld => ?_)
    refine wpAnyH_gen (fun W0 hW0 => ?_)
    have HB0 : Below w1.heap.size w1 W0 := by rw [hW0]; exact (Below.refl _ _).drew
    clear hW0 hHeld
    refine tj 0 rfl (by exact HSB.out _ HB0) ?_
    try simp only [Act.put, ptL]
    refine tj 1 rfl (by exact HSB.out _ HB0) ?_
    try simp only [Act.put, ptL]
    refine tj 2 rfl (by exact HSB.out _ HB0) ?_
    try simp only [Act.put, ptL]
    refine tj 3 rfl (by exact HSB.out _ HB0) ?_
    try simp only [Act.put, ptL]
    refine tj 4 rfl (by exact HSB.out _ HB0) ?_
    try simp only [Act.put, ptL]
    refine tj 5 rfl (by exact HSB.out _ HB0) ?_
    try simp only [Act.put, ptL]
    refine wpAnyH_take (i := 6) (v := .bool true) rfl (by kernel_rfl) (by kernel_rfl) (by kernel_rfl) (fun _ _ _ h => by first | (exact absurd h.1 (by intro hh; cases hh)) | exact h) (Or.inl ⟨by rfl, ?hy139⟩) (by (try dsimp only); exact HSB.out _ HB0) ?rest139
    case hy139 => (intro w hSw; (try dsimp only at hSw); go_simp <;> (try with_reducible rfl) <;> (first | rw [hF1] | simp_all))
    try simp only [Act.put, ptL]
    refine tj 7 rfl (by exact HSB.out _ HB0) ?_
    try simp only [Act.put, ptL]
    refine tj 8 rfl (by exact HSB.out _ HB0) ?_
    try simp only [Act.put, ptL]
    refine wpAnyH_ready (rs := [9, 20]) (by kernel_rfl) (by simp) ?_
    refine AllReadyH.cons rfl ?_ (AllReadyH.cons rfl ?_ AllReadyH.nil)
    · intro K hK
      go_simp
      (with_reducible refine (HCF.out _ HB0).mono ?_)
      rw [hF2]
      simp only [Bool.not_true]
      rintro e W142 ⟨rfl, hbn⟩
      have HB142 : Below w1.heap.size w1 W142 := HB0.trans (hbn.mono HB0.size)
      clear hbn
      go_simp
      refine hK.out _ _ (by (try dsimp only); exact HSB.out _ HB142) (fun hHeld => ?_)
      clear hK K hHeld
      try simp only [Act.put, ptL]
      clear HB0
      refine tj 10 rfl (by exact HSB.out _ HB142) ?_
      try simp only [Act.put, ptL]
      refine tj 11 rfl (by exact HSB.out _ HB142) ?_
      try simp only [Act.put, ptL]
      refine tj 12 rfl (by exact HSB.out _ HB142) ?_
      try simp only [Act.put, ptL]
      refine tj 13 rfl (by exact HSB.out _ HB142) ?_
      try simp only [Act.put, ptL]
      refine wpAnyH_ready (rs := [14, 20]) (by kernel_rfl) (by simp) ?_
      refine AllReadyH.cons rfl ?_ (AllReadyH.cons rfl ?_ AllReadyH.nil)
      · intro K hK
        go_simp
        (with_reducible refine (c_isLimitB lim W142).mono ?_)
        rintro e W147 ⟨rfl, hbn⟩
        have HB147 : Below w1.heap.size w1 W147 := HB142.trans (hbn.mono HB142.size)
        clear hbn
        go_simp
        refine hK.out _ _ (by (try dsimp only); exact HSB.out _ HB147) (fun hHeld => ?_)
        clear hK K hHeld
        try simp only [Act.put, ptL]
        clear HB142
        refine tj 15 rfl (by exact HSB.out _ HB147) ?_
        try simp only [Act.put, ptL]
        refine wpAnyH_ready (rs := [16, 20]) (by kernel_rfl) (by simp) ?_
        refine AllReadyH.cons rfl ?_ (AllReadyH.cons rfl ?_ AllReadyH.nil)
        · intro K hK
          go_simp
          obtain ⟨WA, hWA⟩ : ∃ WA, WA = W147 := ⟨_, rfl⟩
          (with_reducible refine (c_askedG pm pv pr cm cv cr p (inB lim 0 5000) W147 (HPW.out _ HB147) HL.out).mono ?_)
          rintro e W149 ⟨qa, na, ca, qb, nb, cb, qc, nc, cc, qd, nd, cd, er, rfl, hmk, hbn⟩
          obtain ⟨WB, hWB⟩ : ∃ WB, WB = W149 := ⟨_, rfl⟩
          have HQ : ∀ k, WA.heap.size ≤ k → k < WB.heap.size → W149.heap[k]? = WB.heap[k]? := fun k _ _ => by rw [hWB]
          have hqs : WB.heap.size ≤ W149.heap.size := by rw [hWB]; exact Nat.le_refl _
          rw [← hWA, ← hWB] at hmk
          clear hWA hWB
          have HB149 : Below w1.heap.size w1 W149 := HB147.trans (hbn.mono HB147.size)
          clear hbn
          go_simp
          refine hK.out _ _ (by (try dsimp only); exact HSB.out _ HB149) (fun hHeld => ?_)
          clear hK K hHeld
          try simp only [Act.put, ptL]
          clear HB147
          refine tj 17 rfl (by exact HSB.out _ HB149) ?_
          try simp only [Act.put, ptL]
          refine tj 18 rfl (by exact HSB.out _ HB149) ?_
          try simp only [Act.put, ptL]
          refine tj 19 rfl (by exact HSB.out _ HB149) ?_
          try simp only [Act.put, ptL]
          refine wpAnyH_ready (rs := [20]) (by kernel_rfl) (by simp) ?_
          refine AllReadyH.cons rfl ?_ AllReadyH.nil
          intro K hK
          go_simp
          refine hK.out _ _ (by (try dsimp only); exact HSB.out _ (HB149.alloc HB149.size _)) (fun hHeld => ?_)
          clear hK K hHeld
          try simp only [Act.put, ptL]
          refine wpAnyH_gen (fun W153 hWn => ?_)
          have HB153 : Below w1.heap.size w1 W153 := by rw [hWn]; exact HB149.alloc HB149.size _
          have HQ : ∀ k, WA.heap.size ≤ k → k < WB.heap.size → W153.heap[k]? = WB.heap[k]? := fun k h1 h2 => by rw [hWn, Below.heap_alloc _ _ _ (Nat.lt_of_lt_of_le h2 hqs)]; exact HQ k h1 h2
          have hq_x : WB.heap.size ≤ W149.heap.size := hqs
          have hqs : WB.heap.size ≤ W153.heap.size := by rw [hWn]; simp; omega
          have hx_x : W153.heap[W149.heap.size]? = some (.cells #[.slice none 0 0, .slice none 0 0, .slice none 0 0, .slice none 0 0] 96) := by rw [hWn]; exact alloc_new _ _
          have hl_x : w1.heap.size ≤ W149.heap.size := HB149.size
          clear hWn
          obtain ⟨b_x, hb_x⟩ : ∃ b, W149.heap.size = b := ⟨_, rfl⟩
          rw [hb_x] at hx_x hl_x hq_x ⊢
          clear HB149 hb_x 
          refine wpAnyH_ready (rs := [21]) (by kernel_rfl) (by simp) ?_
          refine AllReadyH.cons rfl ?_ AllReadyH.nil
          intro K hK
          refine set4K W153 b_x 96 _ _ _ _ (.slice qa na ca) (.slice qb nb cb) (.slice qc nc cc) (.slice qd nd cd) hx_x (fun wa154 wb154 wc154 W154 sa sb sc sd ca0 fa0 ca1 fa1 ca2 fa2 ca3 fa3 hx4 hxk HZs hxb => ?_)
          have HB154 : Below w1.heap.size w1 W154 := hxb w1 w1.heap.size hl_x HB153
          have hx_x := hx4
          have HQ : ∀ k, WA.heap.size ≤ k → k < WB.heap.size → W154.heap[k]? = WB.heap[k]? := fun k h1 h2 => (hxk k (by omega)).trans (HQ k h1 h2)
          have hqs : WB.heap.size ≤ W154.heap.size := by rw [HZs.out]; exact hqs
          clear hx4 hxk hxb HZs
          go_simp
          refine hK.out _ _ (by (try dsimp only); exact HSB.out _ HB154) (fun hHeld => ?_)
          clear hK K hHeld
          try simp only [Act.put, ptL]
          clear ca0 ca1 ca2 ca3 fa0 fa1 fa2 fa3 sa sb sc sd HB153
          refine tj 22 rfl (by exact HSB.out _ HB154) ?_
          try simp only [Act.put, ptL]
          refine wpAnyH_done (by kernel_rfl) ?_ _
          obtain ⟨wz, hwz⟩ : ∃ wz, wz = W154 := ⟨_, rfl⟩
          subst hwz
          have HBZ := HB154
          clear HB154
          exact ⟨rfl, _, _, _, _, _, _, _, _, _, _, _, _, _, _, _, _, _, _, _, _, _, _, _, _, rfl, Lib.hid hx_x, Lib.hid (by rw [Bool.true_and, Bool.true_and]; exact hmk.out.at HQ), Lib.hid HBZ, Lib.hid hl_x⟩
        · intro K hK
          go_simp
          refine hK.out _ _ (by (try dsimp only); exact HSB.out _ (HB147.alloc HB147.size _)) (fun hHeld => ?_)
          clear hK K hHeld
          try simp only [Act.put, ptL]
          refine wpAnyH_gen (fun W156 hWn => ?_)
          have HB156 : Below w1.heap.size w1 W156 := by rw [hWn]; exact HB147.alloc HB147.size _
          have hx_x : W156.heap[W147.heap.size]? = some (.cells #[.slice none 0 0, .slice none 0 0, .slice none 0 0, .slice none 0 0] 96) := by rw [hWn]; exact alloc_new _ _
          have hl_x : w1.heap.size ≤ W147.heap.size := HB147.size
          clear hWn
          obtain ⟨b_x, hb_x⟩ : ∃ b, W147.heap.size = b := ⟨_, rfl⟩
          rw [hb_x] at hx_x hl_x ⊢
          clear HB147 hb_x 
          refine wpAnyH_ready (rs := [16]) (by kernel_rfl) (by simp) ?_
          refine AllReadyH.cons rfl ?_ AllReadyH.nil
          intro K hK
          go_simp
          obtain ⟨WA, hWA⟩ : ∃ WA, WA = W156 := ⟨_, rfl⟩
          have hq_x : b_x < WA.heap.size := by rw [hWA]; exact block_lt hx_x
          (with_reducible refine (c_askedG pm pv pr cm cv cr p (inB lim 0 5000) W156 (HPW.out _ HB156) HL.out).mono ?_)
          rintro e W157 ⟨qa, na, ca, qb, nb, cb, qc, nc, cc, qd, nd, cd, er, rfl, hmk, hbn⟩
          obtain ⟨WB, hWB⟩ : ∃ WB, WB = W157 := ⟨_, rfl⟩
          have HQ : ∀ k, WA.heap.size ≤ k → k < WB.heap.size → W157.heap[k]? = WB.heap[k]? := fun k _ _ => by rw [hWB]
          have hqs : WB.heap.size ≤ W157.heap.size := by rw [hWB]; exact Nat.le_refl _
          rw [← hWA, ← hWB] at hmk
          clear hWA hWB
          have HB157 : Below w1.heap.size w1 W157 := HB156.trans (hbn.mono HB156.size)
          have hx_x : W157.heap[b_x]? = some (.cells #[.slice none 0 0, .slice none 0 0, .slice none 0 0, .slice none 0 0] 96) := (hbn.block _ (block_lt hx_x)).trans hx_x
          clear hbn
          go_simp
          refine hK.out _ _ (by (try dsimp only); exact HSB.out _ HB157) (fun hHeld => ?_)
          clear hK K hHeld
          try simp only [Act.put, ptL]
          clear HB156
          refine tj 17 rfl (by exact HSB.out _ HB157) ?_
          try simp only [Act.put, ptL]
          refine tj 18 rfl (by exact HSB.out _ HB157) ?_
          try simp only [Act.put, ptL]
          refine tj 19 rfl (by exact HSB.out _ HB157) ?_
          try simp only [Act.put, ptL]
          refine wpAnyH_ready (rs := [21]) (by kernel_rfl) (by simp) ?_
          refine AllReadyH.cons rfl ?_ AllReadyH.nil
          intro K hK
          refine set4K W157 b_x 96 _ _ _ _ (.slice qa na ca) (.slice qb nb cb) (.slice qc nc cc) (.slice qd nd cd) hx_x (fun wa161 wb161 wc161 W161 sa sb sc sd ca0 fa0 ca1 fa1 ca2 fa2 ca3 fa3 hx4 hxk HZs hxb => ?_)
          have HB161 : Below w1.heap.size w1 W161 := hxb w1 w1.heap.size hl_x HB157
          have hx_x := hx4
          have HQ : ∀ k, WA.heap.size ≤ k → k < WB.heap.size → W161.heap[k]? = WB.heap[k]? := fun k h1 h2 => (hxk k (by omega)).trans (HQ k h1 h2)
          have hqs : WB.heap.size ≤ W161.heap.size := by rw [HZs.out]; exact hqs
          clear hx4 hxk hxb HZs
          go_simp
          refine hK.out _ _ (by (try dsimp only); exact HSB.out _ HB161) (fun hHeld => ?_)
          clear hK K hHeld
          try simp only [Act.put, ptL]
          clear ca0 ca1 ca2 ca3 fa0 fa1 fa2 fa3 sa sb sc sd HB157
          refine tj 22 rfl (by exact HSB.out _ HB161) ?_
          try simp only [Act.put, ptL]
          refine wpAnyH_done (by kernel_rfl) ?_ _
          obtain ⟨wz, hwz⟩ : ∃ wz, wz = W161 := ⟨_, rfl⟩
          subst hwz
          have HBZ := HB161
          clear HB161
          exact ⟨rfl, _, _, _, _, _, _, _, _, _, _, _, _, _, _, _, _, _, _, _, _, _, _, _, _, rfl, Lib.hid hx_x, Lib.hid (by rw [Bool.true_and, Bool.true_and]; exact hmk.out.at HQ), Lib.hid HBZ, Lib.hid hl_x⟩
      · intro K hK
        go_simp
        refine hK.out _ _ (by (try dsimp only); exact HSB.out _ (HB142.alloc HB142.size _)) (fun hHeld => ?_)
        clear hK K hHeld
        try simp only [Act.put, ptL]
        refine wpAnyH_gen (fun W163 hWn => ?_)
        have HB163 : Below w1.heap.size w1 W163 := by rw [hWn]; exact HB142.alloc HB142.size _
        have hx_x : W163.heap[W142.heap.size]? = some (.cells #[.slice none 0 0, .slice none 0 0, .slice none 0 0, .slice none 0 0] 96) := by rw [hWn]; exact alloc_new _ _
        have hl_x : w1.heap.size ≤ W142.heap.size := HB142.size
        clear hWn
        obtain ⟨b_x, hb_x⟩ : ∃ b, W142.heap.size = b := ⟨_, rfl⟩
        rw [hb_x] at hx_x hl_x ⊢
        clear HB142 hb_x 
        refine wpAnyH_ready (rs := [14]) (by kernel_rfl) (by simp) ?_
        refine AllReadyH.cons rfl ?_ AllReadyH.nil
        intro K hK
        go_simp
        (with_reducible refine (c_isLimitB lim W163).mono ?_)
        rintro e W164 ⟨rfl, hbn⟩
        have HB164 : Below w1.heap.size w1 W164 := HB163.trans (hbn.mono HB163.size)
        have hx_x : W164.heap[b_x]? = some (.cells #[.slice none 0 0, .slice none 0 0, .slice none 0 0, .slice none 0 0] 96) := (hbn.block _ (block_lt hx_x)).trans hx_x
        clear hbn
        go_simp
        refine hK.out _ _ (by (try dsimp only); exact HSB.out _ HB164) (fun hHeld => ?_)
        clear hK K hHeld
        try simp only [Act.put, ptL]
        clear HB163
        refine tj 15 rfl (by exact HSB.out _ HB164) ?_
        try simp only [Act.put, ptL]
        refine wpAnyH_ready (rs := [16]) (by kernel_rfl) (by simp) ?_
        refine AllReadyH.cons rfl ?_ AllReadyH.nil
        intro K hK
        go_simp
        obtain ⟨WA, hWA⟩ : ∃ WA, WA = W164 := ⟨_, rfl⟩
        have hq_x : b_x < WA.heap.size := by rw [hWA]; exact block_lt hx_x
        (with_reducible refine (c_askedG pm pv pr cm cv cr p (inB lim 0 5000) W164 (HPW.out _ HB164) HL.out).mono ?_)
        rintro e W166 ⟨qa, na, ca, qb, nb, cb, qc, nc, cc, qd, nd, cd, er, rfl, hmk, hbn⟩
        obtain ⟨WB, hWB⟩ : ∃ WB, WB = W166 := ⟨_, rfl⟩
        have HQ : ∀ k, WA.heap.size ≤ k → k < WB.heap.size → W166.heap[k]? = WB.heap[k]? := fun k _ _ => by rw [hWB]
        have hqs : WB.heap.size ≤ W166.heap.size := by rw [hWB]; exact Nat.le_refl _
        rw [← hWA, ← hWB] at hmk
        clear hWA hWB
        have HB166 : Below w1.heap.size w1 W166 := HB164.trans (hbn.mono HB164.size)
        have hx_x : W166.heap[b_x]? = some (.cells #[.slice none 0 0, .slice none 0 0, .slice none 0 0, .slice none 0 0] 96) := (hbn.block _ (block_lt hx_x)).trans hx_x
        clear hbn
        go_simp
        refine hK.out _ _ (by (try dsimp only); exact HSB.out _ HB166) (fun hHeld => ?_)
        clear hK K hHeld
        try simp only [Act.put, ptL]
        clear HB164
        refine tj 17 rfl (by exact HSB.out _ HB166) ?_
        try simp only [Act.put, ptL]
        refine tj 18 rfl (by exact HSB.out _ HB166) ?_
        try simp only [Act.put, ptL]
        refine tj 19 rfl (by exact HSB.out _ HB166) ?_
        try simp only [Act.put, ptL]
        refine wpAnyH_ready (rs := [21]) (by kernel_rfl) (by simp) ?_
        refine AllReadyH.cons rfl ?_ AllReadyH.nil
        intro K hK
        refine set4K W166 b_x 96 _ _ _ _ (.slice qa na ca) (.slice qb nb cb) (.slice qc nc cc) (.slice qd nd cd) hx_x (fun wa170 wb170 wc170 W170 sa sb sc sd ca0 fa0 ca1 fa1 ca2 fa2 ca3 fa3 hx4 hxk HZs hxb => ?_)
        have HB170 : Below w1.heap.size w1 W170 := hxb w1 w1.heap.size hl_x HB166
        have hx_x := hx4
        have HQ : ∀ k, WA.heap.size ≤ k → k < WB.heap.size → W170.heap[k]? = WB.heap[k]? := fun k h1 h2 => (hxk k (by omega)).trans (HQ k h1 h2)
        have hqs : WB.heap.size ≤ W170.heap.size := by rw [HZs.out]; exact hqs
        clear hx4 hxk hxb HZs
        go_simp
        refine hK.out _ _ (by (try dsimp only); exact HSB.out _ HB170) (fun hHeld => ?_)
        clear hK K hHeld
        try simp only [Act.put, ptL]
        clear ca0 ca1 ca2 ca3 fa0 fa1 fa2 fa3 sa sb sc sd HB166
        refine tj 22 rfl (by exact HSB.out _ HB170) ?_
        try simp only [Act.put, ptL]
        refine wpAnyH_done (by kernel_rfl) ?_ _
        obtain ⟨wz, hwz⟩ : ∃ wz, wz = W170 := ⟨_, rfl⟩
        subst hwz
        have HBZ := HB170
        clear HB170
        exact ⟨rfl, _, _, _, _, _, _, _, _, _, _, _, _, _, _, _, _, _, _, _, _, _, _, _, _, rfl, Lib.hid hx_x, Lib.hid (by rw [Bool.true_and, Bool.true_and]; exact hmk.out.at HQ), Lib.hid HBZ, Lib.hid hl_x⟩
    · intro K hK
      go_simp
      refine hK.out _ _ (by (try dsimp only); exact HSB.out _ (HB0.alloc HB0.size _)) (fun hHeld => ?_)
      clear hK K hHeld
      try simp only [Act.put, ptL]
      refine wpAnyH_gen (fun W172 hWn => ?_)
      have HB172 : Below w1.heap.size w1 W172 := by rw [hWn]; exact HB0.alloc HB0.size _
      have hx_x : W172.heap[W0.heap.size]? = some (.cells #[.slice none 0 0, .slice none 0 0, .slice none 0 0, .slice none 0 0] 96) := by rw [hWn]; exact alloc_new _ _
      have hl_x : w1.heap.size ≤ W0.heap.size := HB0.size
      clear hWn
      obtain ⟨b_x, hb_x⟩ : ∃ b, W0.heap.size = b := ⟨_, rfl⟩
      rw [hb_x] at hx_x hl_x ⊢
      clear HB0 hb_x 
      refine wpAnyH_ready (rs := [9]) (by kernel_rfl) (by simp) ?_
      refine AllReadyH.cons rfl ?_ AllReadyH.nil
      intro K hK
      go_simp
      (with_reducible refine (HCF.out _ HB172).mono ?_)
      rw [hF2]
      simp only [Bool.not_true]
      rintro e W173 ⟨rfl, hbn⟩
      have HB173 : Below w1.heap.size w1 W173 := HB172.trans (hbn.mono HB172.size)
      have hx_x : W173.heap[b_x]? = some (.cells #[.slice none 0 0, .slice none 0 0, .slice none 0 0, .slice none 0 0] 96) := (hbn.block _ (block_lt hx_x)).trans hx_x
      clear hbn
      go_simp
      refine hK.out _ _ (by (try dsimp only); exact HSB.out _ HB173) (fun hHeld => ?_)
      clear hK K hHeld
      try simp only [Act.put, ptL]
      clear HB172
      refine tj 10 rfl (by exact HSB.out _ HB173) ?_
      try simp only [Act.put, ptL]
      refine tj 11 rfl (by exact HSB.out _ HB173) ?_
      try simp only [Act.put, ptL]
      refine tj 12 rfl (by exact HSB.out _ HB173) ?_
      try simp only [Act.put, ptL]
      refine tj 13 rfl (by exact HSB.out _ HB173) ?_
      try simp only [Act.put, ptL]
      refine wpAnyH_ready (rs := [14]) (by kernel_rfl) (by simp) ?_
      refine AllReadyH.cons rfl ?_ AllReadyH.nil
      intro K hK
      go_simp
      (with_reducible refine (c_isLimitB lim W173).mono ?_)
      rintro e W178 ⟨rfl, hbn⟩
      have HB178 : Below w1.heap.size w1 W178 := HB173.trans (hbn.mono HB173.size)
      have hx_x : W178.heap[b_x]? = some (.cells #[.slice none 0 0, .slice none 0 0, .slice none 0 0, .slice none 0 0] 96) := (hbn.block _ (block_lt hx_x)).trans hx_x
      clear hbn
      go_simp
      refine hK.out _ _ (by (try dsimp only); exact HSB.out _ HB178) (fun hHeld => ?_)
      clear hK K hHeld
      try simp only [Act.put, ptL]
      clear HB173
      refine tj 15 rfl (by exact HSB.out _ HB178) ?_
      try simp only [Act.put, ptL]
      refine wpAnyH_ready (rs := [16]) (by kernel_rfl) (by simp) ?_
      refine AllReadyH.cons rfl ?_ AllReadyH.nil
      intro K hK
      go_simp
      obtain ⟨WA, hWA⟩ : ∃ WA, WA = W178 := ⟨_, rfl⟩
      have hq_x : b_x < WA.heap.size := by rw [hWA]; exact block_lt hx_x
      (with_reducible refine (c_askedG pm pv pr cm cv cr p (inB lim 0 5000) W178 (HPW.out _ HB178) HL.out).mono ?_)
      rintro e W180 ⟨qa, na, ca, qb, nb, cb, qc, nc, cc, qd, nd, cd, er, rfl, hmk, hbn⟩
      obtain ⟨WB, hWB⟩ : ∃ WB, WB = W180 := ⟨_, rfl⟩
      have HQ : ∀ k, WA.heap.size ≤ k → k < WB.heap.size → W180.heap[k]? = WB.heap[k]? := fun k _ _ => by rw [hWB]
      have hqs : WB.heap.size ≤ W180.heap.size := by rw [hWB]; exact Nat.le_refl _
      rw [← hWA, ← hWB] at hmk
      clear hWA hWB
      have HB180 : Below w1.heap.size w1 W180 := HB178.trans (hbn.mono HB178.size)
      have hx_x : W180.heap[b_x]? = some (.cells #[.slice none 0 0, .slice none 0 0, .slice none 0 0, .slice none 0 0] 96) := (hbn.block _ (block_lt hx_x)).trans hx_x
      clear hbn
      go_simp
      refine hK.out _ _ (by (try dsimp only); exact HSB.out _ HB180) (fun hHeld => ?_)
      clear hK K hHeld
      try simp only [Act.put, ptL]
      clear HB178
      refine tj 17 rfl (by exact HSB.out _ HB180) ?_
      try simp only [Act.put, ptL]
      refine tj 18 rfl (by exact HSB.out _ HB180) ?_
      try simp only [Act.put, ptL]
      refine tj 19 rfl (by exact HSB.out _ HB180) ?_
      try simp only [Act.put, ptL]
      refine wpAnyH_ready (rs := [21]) (by kernel_rfl) (by simp) ?_
      refine AllReadyH.cons rfl ?_ AllReadyH.nil
      intro K hK
      refine set4K W180 b_x 96 _ _ _ _ (.slice qa na ca) (.slice qb nb cb) (.slice qc nc cc) (.slice qd nd cd) hx_x (fun wa184 wb184 wc184 W184 sa sb sc sd ca0 fa0 ca1 fa1 ca2 fa2 ca3 fa3 hx4 hxk HZs hxb => ?_)
      have HB184 : Below w1.heap.size w1 W184 := hxb w1 w1.heap.size hl_x HB180
      have hx_x := hx4
      have HQ : ∀ k, WA.heap.size ≤ k → k < WB.heap.size → W184.heap[k]? = WB.heap[k]? := fun k h1 h2 => (hxk k (by omega)).trans (HQ k h1 h2)
      have hqs : WB.heap.size ≤ W184.heap.size := by rw [HZs.out]; exact hqs
      clear hx4 hxk hxb HZs
      go_simp
      refine hK.out _ _ (by (try dsimp only); exact HSB.out _ HB184) (fun hHeld => ?_)
      clear hK K hHeld
      try simp only [Act.put, ptL]
      clear ca0 ca1 ca2 ca3 fa0 fa1 fa2 fa3 sa sb sc sd HB180
      refine tj 22 rfl (by exact HSB.out _ HB184) ?_
      try simp only [Act.put, ptL]
      refine wpAnyH_done (by kernel_rfl) ?_ _
      obtain ⟨wz, hwz⟩ : ∃ wz, wz = W184 := ⟨_, rfl⟩
      subst hwz
      have HBZ := HB184
      clear HB184
      exact ⟨rfl, _, _, _, _, _, _, _, _, _, _, _, _, _, _, _, _, _, _, _, _, _, _, _, _, rfl, Lib.hid hx_x, Lib.hid (by rw [Bool.true_and, Bool.true_and]; exact hmk.out.at HQ), Lib.hid HBZ, Lib.hid hl_x⟩
  case imp =>
    rintro e a wz ⟨rfl, bx, qa, na, ca, qb, nb, cb, qc, nc, cc, qd, nd, cd, er, g25, g26, g27, g28, g29, g30, g31, g32, g33, g34, rfl, HX, HAZ, HBZ, HLX⟩
    rcases HAZ.out with ⟨hf, rfl, ea, eb, ec, ed⟩ | ⟨hf, ht, rfl, ea, eb, ec, ed⟩ | ⟨hpo, hfi, ht, rfl, ea, eb, ec, g, cap, ed, hq⟩
    all_goals
      obtain ⟨rfl, rfl, rfl⟩ := sl_inj ea
      obtain ⟨rfl, rfl, rfl⟩ := sl_inj eb
      obtain ⟨rfl, rfl, rfl⟩ := sl_inj ec
      obtain ⟨rfl, rfl, rfl⟩ := sl_inj ed
      clear ea eb ec ed
    · have HF := Lib.hid hf
      have HBB := Lib.hid (HB.out.trans (HBZ.out.mono HB.out.size))
      clear hf
      go_wp2
      refine bodyPost_ret (v := .tuple #[.slice none 0 0, .int .i64 0, .int .i64 2]) (by simp [results, Tryz.results58, go_sem]) rfl ⟨.inl ?_, HBB.out⟩
      unfold renewFine
      rw [err_bad HF.out]
      exact ⟨by decide, rfl⟩
    · have HF := Lib.hid (And.intro hf ht)
      have HBB := Lib.hid (HB.out.trans (HBZ.out.mono HB.out.size))
      clear hf ht
      go_wp2
      refine bodyPost_ret (v := .tuple #[.slice none 0 0, .int .i64 0, .int .i64 7]) (by simp [results, Tryz.results58, go_sem]) rfl ⟨.inl ?_, HBB.out⟩
      unfold renewFine
      rw [err_rule HF.out.1 HF.out.2]
      exact ⟨by decide, rfl⟩
    · have HE := Lib.hid (show errF p (renewFine p prices lim) = 0 from err_good (pieceB_iff.2 hpo) hfi ht)
      obtain ⟨hnl, hpr, hl0, hl5⟩ := renew_fine hfi
      have hml := (piece_len hpo).1
      have HBY := Lib.hid (HB.out.trans (HBZ.out.mono HB.out.size))
      obtain ⟨i0, hi0, hzz0, hzz1, hzz2⟩ := info_parts infI
      obtain ⟨i1, hi1, hyy0, hyy1, hyy2⟩ := info_parts infRn
      have HPO := Lib.hid (And.intro hpo ht)
      have HTS := Lib.hid hq
      have HXC := Lib.hid (cells4 HX.out)
      have HPR := Lib.hid hpr
      have HPI := Lib.hid (HQW.out wz HBZ.out)
      have HNL := Lib.hid hnl
      obtain ⟨n, hn⟩ : ∃ n, prices.length = n := ⟨_, rfl⟩
      have HN := Lib.hid hn
      have hn4 : n ≤ 4 := by omega
      obtain ⟨N, hN⟩ : ∃ N, 2 ^ n = N := ⟨_, rfl⟩
      have hN16 : N ≤ 16 := by rw [← hN]; exact Nat.pow_le_pow_right (by omega) hn4
      have HNN := Lib.hid hN
      have HMN := Lib.hid (show p.ms.length = n by omega)
      have hsh2 : wrap64 ((2 : Int) ^ n) = (N : Int) := by
        rw [show ((2 : Int) ^ n) = ((2 ^ n : Nat) : Int) by rw [Int.natCast_pow]; rfl, hN]
        unfold wrap64; omega
      rw [hn]
      clear hq hpo ht hfi HSB HPW HCF HL hpr hnl hn hN
      go_wp2
      rw [hsh2]
      clear hsh2
      go_loopw [11, 44] (fun v i wr => ∃ (s : Nat) (hs : List Value), s ≤ N ∧ i = .int .i64 s ∧ Hid (wr.ownsRow wz.heap.size 134 2 v (keptL p lim n s).length (rnV prices hs (keptL p lim n s))) ∧ Hid (RnE wr wz.heap.size (keptL p lim n s) hs) ∧ Hid (Below wz.heap.size wz wr)) (fun _ i _ => N - (intOf i).toNat)
      case atStart => exact ⟨0, [], Nat.zero_le _, rfl, Lib.hid (World.ownsRow_nil _ _ _ _), Lib.hid (RnE.nil _ _), Lib.hid (Below.refl _ _)⟩
      case round =>
      obtain ⟨s, hs, hsN, rfl, HO, HEL, HY⟩ := hrel
      by_cases hlt : s < N
      · have hsi : (s : Int) < (N : Int) := by omega
        obtain ⟨wq, rfl⟩ : ∃ wq : World, wq = wr := ⟨_, rfl⟩
        have kb := alloc_new wq (.cells #[.slice none 0 0, .int .i64 0] 134)
        obtain ⟨w5, e5, HS5, _, _, b5⟩ := box2 wq (.slice none 0 0) (.int .i64 0) 134
        rw [e5] at kb
        have HKB := Lib.hid kb
        have HB5 := Lib.hid b5
        clear kb b5
        go_wp2
        clear e5
        go_loopw [49] (fun i wr => ∃ (k : Nat) (v : Value), k ≤ n ∧ i = .int .i64 k ∧ Hid (wr.heap[wq.heap.size]? = some (.cells #[v, .int .i64 (priceF prices (setL s k))] 134 (0, 0))) ∧ Hid (wr.ownsRow (wq.heap.size + 1) 3 1 v (setL s k).length (inV (setL s k))) ∧ Hid (wq.heap.size + 1 ≤ wr.heap.size) ∧ Hid (Below wq.heap.size wq wr)) (fun i _ => n - (intOf i).toNat)
        case atStart => exact ⟨0, _, Nat.zero_le _, rfl, HKB, Lib.hid (World.ownsRow_nil _ _ _ _), Lib.hid (by have := HS5.out; omega), HB5⟩
        case round =>
        obtain ⟨k, v, hk, rfl, HX5, HV, HSZ, HB⟩ := hrel
        obtain ⟨o0, o1⟩ := cells2 HX5.out
        by_cases hkl : k < n
        · have hki : (k : Int) < (n : Int) := by omega
          have hkp : k < prices.length := by rw [HN.out]; exact hkl
          obtain ⟨b, off, rfl, hc⟩ := ((HPI.out.below HY.out).below (HB.out.mono HY.out.size |> fun _ => HB.out)).at hkp
          have d0 := hc k hkp
          have hpk := HPR.out k hkp
          have hps := price_set HPR.out s k (Nat.le_of_lt hkp)
          cases hb : bitB s k with
          | true =>
            have hbw : (bits .and .i64 ((s : Int) / 2 ^ k) 1 == 1) = true := by rw [bit_walk s k (by omega)]; exact hb
            have HPY := Lib.hid (price_yes (prices := prices) hb)
            have HSL := Lib.hid (setL_yes hb)
            have hsl := setL_len s k
            obtain ⟨x, hx⟩ : ∃ x, gi prices k = x := ⟨_, rfl⟩
            obtain ⟨P, hP⟩ : ∃ P, priceF prices (setL s k) = P := ⟨_, rfl⟩
            rw [hx] at d0 hpk HPY
            rw [hP] at hps HPY o1 HX5
            have hw : IntKind.i64.wrap (P + x) = P + x := w64 _ (by omega) (by omega)
            clear hc hx hP hb
            go_wp2_with (at_builtin; refine wpList_append_own _ rfl _ _ 23 rfl (wq.heap.size + 1) 3 i0 _ 1 8 Tryz.underlying23 hi0 hzz0 hzz1 hzz2 rfl (by decide) _ _ _ rfl (HV.out.alloc _) ⟨wr.heap.size, 0, none⟩ 1 1 [.int .i64 (k : Int)] rfl rfl ?c1 ?c2 ?c3 ?c4 ?c5 ?_)
            case c1 => exact news_of _ _ _
            case c2 => intro u hu; simp at hu; subst hu; rfl
            case c3 => unfold maxLen; omega
            case c4 => omega
            case c5 => have := HSZ.out; simp; omega
            intro v' w11 hown' hgrow _
            obtain ⟨g', cap', rfl⟩ := own_form hown'
            have h1' : (wr.alloc (.cells #[.int .i64 (k : Int)] 3)).heap[wq.heap.size]? = _ := alloc_old _ _ HX5.out
            have hd1 := (hgrow.block _ (block_lt h1') (own_not h1' (by decide) (HV.out.alloc _))).trans h1'
            obtain ⟨w12, w13, s1, s2, ⟨c0', f0⟩, ⟨c1', f1⟩, hx4, hxk, HZ6, hxb⟩ := set2 w11 wq.heap.size 134 v (.int .i64 P) (.slice (some ⟨g', 0, none⟩) ((setL s k).length + 1) cap') (.int .i64 (P + x)) hd1
            have HX6 := Lib.hid hx4
            have HV6 := Lib.hid (own_same hown' (fun g' hg' => hxk g' (by have := (hown'.lt g' hg').1; omega)))
            have HB6 := Lib.hid (hxb wq wq.heap.size (Nat.le_refl _) ((HB.out.alloc HB.out.size _).grown hgrow (by have := HB.out.size; simp; omega) (fun j hj => by have := (HV.out.lt j hj).1; omega)))
            have HSZ6 := Lib.hid (show wq.heap.size + 1 ≤ w13.heap.size from by have := HZ6.out; have := hgrow.size; have := HSZ.out; have := (below_alloc1 wr (.cells #[.int .i64 (k : Int)] 3)).size; omega)
            clear h1' hd1 hx4 hxk hxb hown' hgrow
            go_wp2
            go_roundw
            case rel => exact ⟨k + 1, _, by omega, by go_num, by rw [HPY.out]; exact HX6, by rw [HSL.out, List.length_append, inV_append]; exact HV6, HSZ6, HB6⟩
            case measure => simp [intOf]; omega
          | false =>
            have hbw : (bits .and .i64 ((s : Int) / 2 ^ k) 1 == 1) = false := by rw [bit_walk s k (by omega)]; exact hb
            have HSL := Lib.hid (setL_no hb)
            obtain ⟨x, hx⟩ : ∃ x, gi prices k = x := ⟨_, rfl⟩
            rw [hx] at d0
            clear hc hx hb hpk hps o0 o1
            go_wp2
            go_roundw
            case rel => exact ⟨k + 1, v, by omega, by go_num, by rw [HSL.out]; exact HX5, by rw [HSL.out]; exact HV, HSZ, HB⟩
            case measure => simp [intOf]; omega
        · obtain rfl : k = n := by omega
          obtain ⟨qm, cm5, hv⟩ := own_any HV.out
          subst hv
          have hrd : RdI wr qm (setL s k) := by
            obtain ⟨p', c', e, h⟩ := rd_of_own HV.out
            injection e with e1 _ _
            rw [e1]; exact h
          have HBR := Lib.hid (HY.out.trans (HB.out.mono HY.out.size))
          have hsl := setL_len s k
          have hov := over_gen 98 #[.pointer (some ⟨wq.heap.size, 0, none⟩)] (enters_of Tryz.func98 (by kernel_rfl) rfl) pm pv pr cm cv cr p (some ⟨g, 0, none⟩) cap (truthsF p) wr (lessS (setL s k)) (HTS.out.below HBR.out) (by have := truths_le HPO.out.1; omega) (fun W j p1 p2 c1 c2 hb hj hl1 h1 h2 hl2 hcc hpp =>
            c1_renew p (gl (truthsF p) j) p1 p2 c1 c2 wq.heap.size qm cm5 (setL s k) W HPO.out.1 (truth_plays HPO.out.1 (gl_mem hj)) h1 ((hb.cell (lt_of_cellq o0)).trans o0) (hrd.below hb) (by omega) (fun i hi => by
              have := setL_gi s k i hi
              rw [hl1, HMN.out]; exact this))
          rw [ovTo_all] at hov
          have HES := Lib.hid (show decide ((ovF p (lessS (setL s k))).2 ≤ lim) = enoughB p lim (setL s k) by
            have h := enough_span HPO.out.1 HPO.out.2 s lim
            rw [HMN.out] at h
            exact h)
          obtain ⟨X, hX⟩ : ∃ X, ovF p (lessS (setL s k)) = X := ⟨_, rfl⟩
          rw [hX] at hov HES
          obtain ⟨X1, X2⟩ := X
          have HRD := Lib.hid hrd
          obtain ⟨P, hP⟩ : ∃ P, priceF prices (setL s k) = P := ⟨_, rfl⟩
          have HPP := Lib.hid hP
          rw [hP] at o1 HX5
          obtain ⟨x0, x1, x2, x3⟩ := HXC.out
          have y0 := (HBR.out.cell (lt_of_cellq x0)).trans x0
          have y1 := (HBR.out.cell (lt_of_cellq x1)).trans x1
          have y2 := (HBR.out.cell (lt_of_cellq x2)).trans x2
          have y3 := (HBR.out.cell (lt_of_cellq x3)).trans x3
          clear x0 x1 x2 x3 hX hP hrd
          go_wp2_with fail
          refine hov.mono ?_
          clear hov
          rintro e w6 ⟨rfl, b6⟩
          obtain ⟨w7, e7, HS7, z0, z1, b7⟩ := box2 w6 (.int .i64 X1) (.int .i64 X2) 44
          have b67 := b6.trans (b7.mono b6.size)
          have q0 := (b67.cell (lt_of_cellq o0)).trans o0
          have q1 := (b67.cell (lt_of_cellq o1)).trans o1
          have HO7 := Lib.hid (own_kept (own_kept HO.out HB.out) b67)
          have HE7 := Lib.hid ((HEL.out.below HB.out).below b67)
          have HV7 := Lib.hid (own_mono (own_kept HV.out b67) (show wz.heap.size ≤ wq.heap.size + 1 by have := HY.out.size; omega))
          have HB7 := Lib.hid (HBR.out.trans (b67.mono HBR.out.size))
          have hkl2 := keptL_len p lim k s
          clear b6 b7 b67 y0 y1 y2 y3 o0 o1
          cases hen : enoughB p lim (setL s k) with
          | true =>
            have hX2 : X2 ≤ lim := by have h := HES.out; rw [hen] at h; exact of_decide_eq_true h
            have HKS := Lib.hid (show keptL p lim k (s + 1) = keptL p lim k s ++ [setL s k] by rw [keptL_succ, if_pos hen])
            have HHL := Lib.hid HE7.out.1
            clear hen
            go_wp2_with (at_builtin; refine wpList_append_own _ rfl _ _ 132 rfl wz.heap.size 134 i1 _ 2 32 Tryz.underlying132 hi1 hyy0 hyy1 hyy2 rfl (by decide) _ _ _ rfl (HO7.out.alloc _) ⟨w7.heap.size, 0, none⟩ 1 1 [.slice qm (setL s k).length cm5, .int .i64 P] rfl rfl ?c1 ?c2 ?c3 ?c4 ?c5 ?_)
            case c1 => exact news_of _ _ _
            case c2 => intro u hu; simp at hu; rcases hu with rfl | rfl <;> rfl
            case c3 => unfold maxLen; omega
            case c4 => omega
            case c5 => have := HB7.out.size; simp; omega
            intro v' w11 hown' hgrow _
            have HO11 := Lib.hid hown'
            have HE11 := Lib.hid (((HE7.out.snoc HV7.out).alloc _).grown (HO7.out.alloc _) (by decide) hgrow)
            have HB11 := Lib.hid ((HB7.out.alloc HB7.out.size _).grown hgrow (by have := HB7.out.size; simp; omega) (fun j hj => (HO7.out.lt j hj).1))
            clear hown' hgrow
            go_wp2
            go_roundw
            case rel =>
              refine ⟨s + 1, hs ++ [.slice qm (setL s k).length cm5], by omega, by go_num, Lib.hid ?_, by rw [HKS.out]; exact HE11, HB11⟩
              rw [HKS.out, List.length_append, rnV_snoc _ _ _ _ _ HHL.out, HPP.out]
              exact HO11.out
            case measure => simp [intOf]; omega
          | false =>
            have hX2 : ¬ X2 ≤ lim := by have h := HES.out; rw [hen] at h; exact of_decide_eq_false h
            have HKS := Lib.hid (show keptL p lim k (s + 1) = keptL p lim k s by rw [keptL_succ, if_neg (by rw [hen]; decide), List.append_nil])
            clear hen
            go_wp2
            go_roundw
            case rel => exact ⟨s + 1, hs, by omega, by go_num, by rw [HKS.out]; exact HO7, by rw [HKS.out]; exact HE7, HB7⟩
            case measure => simp [intOf]; omega
      · obtain rfl : s = N := by omega
        have hsi : ¬ (s : Int) < (s : Int) := by omega
        obtain ⟨q, cq', rfl, hrn⟩ := rdN_of HO.out HEL.out
        have hkl := keptL_len p lim n s
        have hbl := c_bestRenew q cq' prices (keptL p lim n s) wr hrn (by omega) (fun i hi => by
          obtain ⟨x, _, hx⟩ := List.mem_map.1 (List.mem_filter.1 (show gl (keptL p lim n s) i ∈ ((List.range s).map fun s => setL s n).filter (enoughB p lim) from gl_mem hi)).1
          rw [← hx]
          have := setL_len x n
          omega)
        have HRF := Lib.hid (show renewF p prices lim = firstF prices (keptL p lim n s) by rw [renewF_kept, HMN.out, HNN.out])
        clear hrn
        go_wp2_with fail
        refine hbl.mono ?_
        clear hbl
        rintro e w6 ⟨qx, cx, rfl, hrx, b6⟩
        have HFF := Lib.hid (show firstF prices (keptL p lim n s) = renewF p prices lim from HRF.out.symm)
        rw [HFF.out] at hrx ⊢
        obtain ⟨P, hP⟩ : ∃ P, priceF prices (renewF p prices lim) = P := ⟨_, rfl⟩
        obtain ⟨L, hL⟩ : ∃ L, (renewF p prices lim).length = L := ⟨_, rfl⟩
        have HPL := Lib.hid (And.intro hP hL)
        rw [hP, hL]
        obtain ⟨w7, e7, HS7, y0, y1, b7⟩ := box2 w6 (.slice qx L cx) (.int .i64 P) 134
        have HBB := Lib.hid (HBY.out.trans ((HY.out.trans ((b6.trans (b7.mono b6.size)).mono HY.out.size)).mono HBY.out.size))
        have HRX := Lib.hid ((hrx.below b6).below b7)
        clear b6 b7 hP hL hrx
        go_upto_region 21 with (fail)
        clear e7
        refine wp_region_quiet_lit (by kernel_rfl) (by kernel_rfl) ?_; (repeat (first | ((with_reducible first | apply wq_ix Tryz.underlying23 szI | apply wq_ix Tryz.underlying34 szSp | apply wq_ix Tryz.underlying22 szM | apply wq_ix Tryz.underlying24 szR | apply wq_ix Tryz.underlying30 szL | apply wq_ix Tryz.underlying94 szT); (focus rfl); (focus rfl); (focus rfl); (focus omega); (try simp only [Nat.mul_one]); go_frame) | ((with_reducible first | apply wq_ld agI | apply wq_ld agB | apply wq_ld agLI | apply wq_ld agLS | apply wq_ld agLM | apply wq_ld agLR | apply wq_ld agLL | apply wq_ld agLT); (focus rfl); (focus rfl); (focus (rintro _ ⟨_, rfl⟩; first | exact y0 | exact y1)); go_frame) | ((with_reducible first | apply wq_add | apply wq_sub | apply wq_mul | apply wq_rem); (focus rfl); (focus rfl); (focus rfl); (focus omega); (focus omega); go_frame) | ((with_reducible first | apply wq_eql | apply wq_neq | apply wq_lss | apply wq_leq | apply wq_gtr | apply wq_geq | apply wq_max2 | apply wq_min2); (focus rfl); (focus rfl); (focus rfl); go_frame) | ((with_reducible first | apply wq_max3 | apply wq_min3); (focus rfl); (focus rfl); (focus rfl); (focus rfl); go_frame) | go_big_quiet_step (fail))); refine wpQuiet_nil ?_; rintro _ ⟨nq, rfl⟩
        go_wp2
        refine bodyPost_ret (v := .tuple #[.slice qx L cx, .int .i64 P, .int .i64 0]) (by simp [results, Tryz.results58, go_sem]) rfl ⟨.inr ⟨HE.out, qx, cx, by rw [HPL.out.1, HPL.out.2], HRX.out.below (below_drewN (Below.refl _ _) _)⟩, below_drewN HBB.out _⟩
end Go.Proofs.YtlednchfifphgaaGreatDoor
end
