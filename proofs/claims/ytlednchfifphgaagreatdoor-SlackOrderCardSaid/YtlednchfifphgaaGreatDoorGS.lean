/-
  Lost: contract, all arguments (printed by slkask.py)
-/
import Derived.Test.YtlednchfifphgaaGreatDoorGH
import Derived.Test.YtlednchfifphgaaGreatDoorGR
section
namespace Go.Proofs.YtlednchfifphgaaGreatDoor
set_option linter.unusedSimpArgs false
open Go Go.RowKit Go.Proofs
set_option linter.unusedVariables false
attribute [local go_sem] imax2 imin2

theorem bcells4 {w w' : World} {b : Nat} {v0 v1 v2 v3 : Value} (h0 : w.cell? ⟨b, 0, none⟩ = some v0) (h1 : w.cell? ⟨b, 1, none⟩ = some v1) (h2 : w.cell? ⟨b, 2, none⟩ = some v2) (h3 : w.cell? ⟨b, 3, none⟩ = some v3) (hb : Below w.heap.size w w') :
    ∀ (i : Nat) (c : Value), [v0, v1, v2, v3][i]? = some c → w'.cell? ((⟨b, 0, none⟩ : Addr).add i) = some c := by
  intro j v hj
  rw [add_new]
  match j, hj with
  | 0, hj => simp at hj; subst hj; exact (hb.cell (lt_of_cellq h0)).trans h0
  | 1, hj => simp at hj; subst hj; exact (hb.cell (lt_of_cellq h1)).trans h1
  | 2, hj => simp at hj; subst hj; exact (hb.cell (lt_of_cellq h2)).trans h2
  | 3, hj => simp at hj; subst hj; exact (hb.cell (lt_of_cellq h3)).trans h3
theorem bcellsT {w w' : World} {b : Nat} {v0 v1 : Value} (h0 : w.cell? ⟨b, 2, none⟩ = some v0) (h1 : w.cell? ⟨b, 3, none⟩ = some v1) (hb : Below w.heap.size w w') :
    ∀ j v, [v0, v1][j]? = some v → w'.cell? ((⟨b, 2, none⟩ : Addr).add j) = some v := by
  intro j v hj
  have ha : ∀ j, (⟨b, 2, none⟩ : Addr).add j = ⟨b, 2 + j, none⟩ := fun j => by unfold Addr.add; split <;> simp_all
  rw [ha]
  match j, hj with
  | 0, hj => simp at hj; subst hj; exact (hb.cell (lt_of_cellq h0)).trans h0
  | 1, hj => simp at hj; subst hj; exact (hb.cell (lt_of_cellq h1)).trans h1
theorem ixP0 (b : Nat) (w : World) : (Instr.indexAt 105 (.pointer (some ⟨b, 0, none⟩)) (.int .i64 0)).run Tryz.prog w = .ok (.pointer (some ⟨b, 0, none⟩)) w := by kernel_rfl
theorem ixP1 (b : Nat) (w : World) : (Instr.indexAt 105 (.pointer (some ⟨b, 0, none⟩)) (.int .i64 1)).run Tryz.prog w = .ok (.pointer (some ⟨b, 2, none⟩)) w := by kernel_rfl
theorem wq_ixp {P : Program} {C : World → Prop} {ops : Array Oper} {Q : Act → Prop} {rest : List Oper} {a : Act} {d : Nat} {x y : Operand} {t ty : TypeId} {pos : String} {af : Array Edge} {g : Option (Nat × Bool)} {v i u : Value}
    (hr : ∀ w, (Instr.indexAt t v i).run P w = .ok u w) (hw : Region.wanted ⟨some d, .indexAddr t x y, ty, pos, af, g⟩ (yielded ops a.tmps) = true) (hx : a.eval x = v) (hy : a.eval y = i)
    (hk : wpQuiet P ops C Q rest (a.put (some d) u)) : wpQuiet P ops C Q (⟨some d, .indexAddr t x y, ty, pos, af, g⟩ :: rest) a :=
  wq hw (q_val (o := ⟨some d, .indexAddr t x y, ty, pos, af, g⟩) u (fun w _ => by unfold execOp; dsimp only; simp [hx, hy, hr]) hk)
theorem wq_mkf {P : Program} {C : World → Prop} {ops : Array Oper} {Q : Act → Prop} {rest : List Oper} {a : Act} {d : Nat} {x y : Operand} {fn : Fn} {ty : TypeId} {pos : String} {af : Array Edge} {g : Option (Nat × Bool)} {u v : Value}
    (hw : Region.wanted ⟨some d, .makeFunc fn #[] #[x, y], ty, pos, af, g⟩ (yielded ops a.tmps) = true) (hx : a.eval x = u) (hy : a.eval y = v)
    (hk : wpQuiet P ops C Q rest (a.put (some d) (.func fn #[] #[u, v]))) : wpQuiet P ops C Q (⟨some d, .makeFunc fn #[] #[x, y], ty, pos, af, g⟩ :: rest) a :=
  wq hw (q_val (o := ⟨some d, .makeFunc fn #[] #[x, y], ty, pos, af, g⟩) (.func fn #[] #[u, v]) (fun w _ => by unfold execOp; dsimp only; simp [hx, hy, Instr.makeFunc]) hk)
/-- by how much the crank can be turned on, and back, or the error -/
def LostPost (p : Pc) (n : Int) (w : World) (e : Ending) (w' : World) : Prop :=
  e = .returned (.tuple #[.agg #[.int .i64 (okI p (inB n 1 p.ms.length) (lostOn p n.toNat).1), .int .i64 (okI p (inB n 1 p.ms.length) (lostOn p n.toNat).2)], .agg #[.int .i64 (okI p (inB n 1 p.ms.length) (lostBack p n.toNat).1), .int .i64 (okI p (inB n 1 p.ms.length) (lostBack p n.toNat).2)], .int .i64 (errF p (inB n 1 p.ms.length))]) ∧ Below w.heap.size w w'
set_option maxHeartbeats 6400000 in
set_option maxRecDepth 100000 in
theorem c_Lost (pm pv pr : Option Addr) (cm cv cr : Nat) (p : Pc) (n : Int) (w : World) (hp : RdP w pm pv pr p) (hl : LenOk p) :
    Calls Tryz.prog 28 #[.agg #[.slice pm p.ms.length cm, .slice pv p.mv.length cv, .slice pr p.rs.length cr], .int .i64 n] w (LostPost p n w) := by
  have hmf : ∀ (fn : Fn) (first cap : Array Value) (w : World), (Instr.makeFunc fn first cap).run Tryz.prog w = .ok (.func fn first cap) w := fun _ _ _ _ => rfl
  obtain ⟨w1, e1, HS1, k0, k1, k2, b1⟩ := box3 w (.slice pm p.ms.length cm) (.slice pv p.mv.length cv) (.slice pr p.rs.length cr) 26
  obtain ⟨w2, e2, HS2, n0, nf, b2⟩ := box1 w1 (.int .i64 n) 3
  have kr := alloc_new w2 (.cells #[.int .i64 0, .int .i64 0] 44)
  obtain ⟨w3, e3, HS3, _, _, b3⟩ := box2 w2 (.int .i64 0) (.int .i64 0) 44
  rw [e3] at kr
  have ks := alloc_new w3 (.cells #[.int .i64 0, .int .i64 0] 44)
  obtain ⟨w4, e4, HS4, _, _, b4⟩ := box2 w3 (.int .i64 0) (.int .i64 0) 44
  rw [e4] at ks
  have kr := (b4.block _ (block_lt kr)).trans kr
  have b34 := b3.trans (b4.mono b3.size)
  have b24 := b2.trans (b34.mono b2.size)
  have b14 := b1.trans (b24.mono b1.size)
  have k0 := (b24.cell (lt_of_cellq k0)).trans k0
  have k1 := (b24.cell (lt_of_cellq k1)).trans k1
  have k2 := (b24.cell (lt_of_cellq k2)).trans k2
  have n0 := (b34.cell (lt_of_cellq n0)).trans n0
  have HPW := Lib.hid (fun (W : World) (hb : Below w4.heap.size w4 W) => (hp.below b14).below hb)
  have HL := Lib.hid hl
  have HB := Lib.hid b14
  have HKR := Lib.hid kr
  have HKS := Lib.hid ks
  have HN0 := Lib.hid n0
  have HZ := Lib.hid (show w.heap.size < w1.heap.size ∧ w1.heap.size < w2.heap.size ∧ w2.heap.size < w3.heap.size ∧ w3.heap.size < w4.heap.size from ⟨by have := HS1.out; omega, by have := HS2.out; omega, by have := HS3.out; omega, by have := HS4.out; omega⟩)
  have HSB := Lib.hid (show ∀ W, Below w4.heap.size w4 W → (fun w' => (w'.cell? ⟨w.heap.size, 0, none⟩ = some (.slice pm p.ms.length cm) ∧ w'.cell? ⟨w.heap.size, 1, none⟩ = some (.slice pv p.mv.length cv) ∧ w'.cell? ⟨w.heap.size, 2, none⟩ = some (.slice pr p.rs.length cr)) ∧ w'.cell? ⟨w1.heap.size, 0, none⟩ = some (.int .i64 n)) W from fun W hb => ⟨⟨(hb.cell (lt_of_cellq k0)).trans k0, (hb.cell (lt_of_cellq k1)).trans k1, (hb.cell (lt_of_cellq k2)).trans k2⟩, (hb.cell (lt_of_cellq n0)).trans n0⟩)
  clear hp hl b1 b2 b3 b4 b34 b24 b14 kr ks
  go_enter Tryz.func28, Tryz.ntmps28
  go_upto_region 1 with (fail)
  clear e1 e2 e3 e4 k0 k1 k2 n0
  refine Code.wp_mono (Q := fun e a wz => e = .normal ∧ ∃ (bx : Nat) (qa : Option Addr) (na ca : Nat) (qb : Option Addr) (nb cb : Nat) (qc : Option Addr) (nc cc : Nat) (qd : Option Addr) (nd cd : Nat) (er : Int), a = { tmps := #[.agg #[.slice pm p.ms.length cm, .slice pv p.mv.length cv, .slice pr p.rs.length cr], .int .i64 n, .pointer (some ⟨w.heap.size, 0, none⟩), .pointer (some ⟨w1.heap.size, 0, none⟩), .pointer (some ⟨w2.heap.size, 0, none⟩), .pointer (some ⟨w3.heap.size, 0, none⟩), .int .i64 0, .pointer (some ⟨bx, 0, none⟩), .int .i64 er, undef, undef, .tuple #[.agg #[.slice qa na ca, .slice qb nb cb, .slice qc nc cc, .slice qd nd cd], .int .i64 er], .agg #[.slice pm p.ms.length cm, .slice pv p.mv.length cv, .slice pr p.rs.length cr], .agg #[.slice pm p.ms.length cm, .slice pv p.mv.length cv, .slice pr p.rs.length cr], .int .i64 n, .bool (inB n 1 p.ms.length), .tuple #[.agg #[.slice qa na ca, .slice qb nb cb, .slice qc nc cc, .slice qd nd cd], .int .i64 er], .agg #[.slice qa na ca, .slice qb nb cb, .slice qc nc cc, .slice qd nd cd], .int .i64 er, undef, undef, undef, undef, undef, undef, undef, undef, undef, undef, undef, undef, undef, undef, undef, undef, undef, undef], defers := [] } ∧ Hid (wz.heap[bx]? = some (.cells #[.slice qa na ca, .slice qb nb cb, .slice qc nc cc, .slice qd nd cd] 96 (0, 0))) ∧ Hid (AskZ pm pv pr cm cv cr p (inB n 1 p.ms.length) (.slice qa na ca) (.slice qb nb cb) (.slice qc nc cc) (.slice qd nd cd) er wz) ∧ Hid (Below w4.heap.size w4 wz) ∧ Hid (w4.heap.size ≤ bx)) ?imp ?reg
  case reg =>
    refine wp_region_held_drew (S := (fun w' => (w'.cell? ⟨w.heap.size, 0, none⟩ = some (.slice pm p.ms.length cm) ∧ w'.cell? ⟨w.heap.size, 1, none⟩ = some (.slice pv p.mv.length cv) ∧ w'.cell? ⟨w.heap.size, 2, none⟩ = some (.slice pr p.rs.length cr)) ∧ w'.cell? ⟨w1.heap.size, 0, none⟩ = some (.int .i64 n))) (by kernel_rfl) (by (try dsimp only); exact HSB.out _ (Below.refl _ _).drew) (fun hHeld => ?_)
    refine wpAnyH_gen (fun W0 hW0 => ?_)
    have HB0 : Below w4.heap.size w4 W0 := by rw [hW0]; exact (Below.refl _ _).drew
    clear hW0 hHeld
    refine tk 0 rfl (by exact HSB.out _ HB0) ?_
    try simp only [Act.put, ptL]
    refine tk 1 rfl (by exact HSB.out _ HB0) ?_
    try simp only [Act.put, ptL]
    refine tk 2 rfl (by exact HSB.out _ HB0) ?_
    try simp only [Act.put, ptL]
    refine wpAnyH_ready (rs := [3, 8]) (by kernel_rfl) (by simp) ?_
    refine AllReadyH.cons rfl (fun K hK => ?_) (AllReadyH.cons rfl (fun K hK => ?_) AllReadyH.nil)
    · go_simp
      (with_reducible refine (c_isArbor pm pv pr cm cv cr p n 1 W0).mono ?_)
      rintro e W30 ⟨rfl, hbn⟩
      have HB30 : Below w4.heap.size w4 W30 := HB0.trans (hbn.mono HB0.size)
      clear hbn
      go_simp
      refine hK.out _ _ (by (try dsimp only); exact HSB.out _ HB30) (fun hHeld => ?_)
      clear hK K hHeld
      try simp only [Act.put, ptL]
      clear HB0
      refine wpAnyH_ready (rs := [4, 8]) (by kernel_rfl) (by simp) ?_
      refine AllReadyH.cons rfl (fun K hK => ?_) (AllReadyH.cons rfl (fun K hK => ?_) AllReadyH.nil)
      · go_simp
        obtain ⟨WA, hWA⟩ : ∃ WA, WA = W30 := ⟨_, rfl⟩
        (with_reducible refine (c_askedG pm pv pr cm cv cr p (inB n 1 p.ms.length) W30 (HPW.out _ HB30) HL.out).mono ?_)
        rintro e W31 ⟨qa, na, ca, qb, nb, cb, qc, nc, cc, qd, nd, cd, er, rfl, hmk, hbn⟩
        obtain ⟨WB, hWB⟩ : ∃ WB, WB = W31 := ⟨_, rfl⟩
        have HQ : ∀ k, WA.heap.size ≤ k → k < WB.heap.size → W31.heap[k]? = WB.heap[k]? := fun k _ _ => by rw [hWB]
        have hqs : WB.heap.size ≤ W31.heap.size := by rw [hWB]; exact Nat.le_refl _
        rw [← hWA, ← hWB] at hmk
        clear hWA hWB
        have HB31 : Below w4.heap.size w4 W31 := HB30.trans (hbn.mono HB30.size)
        clear hbn
        go_simp
        refine hK.out _ _ (by (try dsimp only); exact HSB.out _ HB31) (fun hHeld => ?_)
        clear hK K hHeld
        try simp only [Act.put, ptL]
        clear HB30
        refine tk 5 rfl (by exact HSB.out _ HB31) ?_
        try simp only [Act.put, ptL]
        refine tk 6 rfl (by exact HSB.out _ HB31) ?_
        try simp only [Act.put, ptL]
        refine tk 7 rfl (by exact HSB.out _ HB31) ?_
        try simp only [Act.put, ptL]
        refine wpAnyH_ready (rs := [8]) (by kernel_rfl) (by simp) ?_
        refine AllReadyH.cons rfl (fun K hK => ?_) AllReadyH.nil
        go_simp
        refine hK.out _ _ (by (try dsimp only); exact HSB.out _ (HB31.alloc HB31.size _)) (fun hHeld => ?_)
        clear hK K hHeld
        try simp only [Act.put, ptL]
        refine wpAnyH_gen (fun W35 hWn => ?_)
        have HB35 : Below w4.heap.size w4 W35 := by rw [hWn]; exact HB31.alloc HB31.size _
        have HQ : ∀ k, WA.heap.size ≤ k → k < WB.heap.size → W35.heap[k]? = WB.heap[k]? := fun k h1 h2 => by rw [hWn, Below.heap_alloc _ _ _ (Nat.lt_of_lt_of_le h2 hqs)]; exact HQ k h1 h2
        have hq_x : WB.heap.size ≤ W31.heap.size := hqs
        have hqs : WB.heap.size ≤ W35.heap.size := by rw [hWn]; simp; omega
        have hx_x : W35.heap[W31.heap.size]? = some (.cells #[.slice none 0 0, .slice none 0 0, .slice none 0 0, .slice none 0 0] 96) := by rw [hWn]; exact alloc_new _ _
        have hl_x : w4.heap.size ≤ W31.heap.size := HB31.size
        clear hWn
        obtain ⟨b_x, hb_x⟩ : ∃ b, W31.heap.size = b := ⟨_, rfl⟩
        rw [hb_x] at hx_x hl_x hq_x ⊢
        clear HB31 hb_x 
        refine wpAnyH_ready (rs := [9]) (by kernel_rfl) (by simp) ?_
        refine AllReadyH.cons rfl (fun K hK => ?_) AllReadyH.nil
        refine set4K W35 b_x 96 _ _ _ _ (.slice qa na ca) (.slice qb nb cb) (.slice qc nc cc) (.slice qd nd cd) hx_x (fun wa36 wb36 wc36 W36 sa sb sc sd ca0 fa0 ca1 fa1 ca2 fa2 ca3 fa3 hx4 hxk HZs hxb => ?_)
        have HB36 : Below w4.heap.size w4 W36 := hxb w4 w4.heap.size hl_x HB35
        have hx_x := hx4
        have HQ : ∀ k, WA.heap.size ≤ k → k < WB.heap.size → W36.heap[k]? = WB.heap[k]? := fun k h1 h2 => (hxk k (by omega)).trans (HQ k h1 h2)
        have hqs : WB.heap.size ≤ W36.heap.size := by rw [HZs.out]; exact hqs
        clear hx4 hxk hxb HZs
        go_simp
        refine hK.out _ _ (by (try dsimp only); exact HSB.out _ HB36) (fun hHeld => ?_)
        clear hK K hHeld
        try simp only [Act.put, ptL]
        clear ca0 ca1 ca2 ca3 fa0 fa1 fa2 fa3 sa sb sc sd HB35
        refine tk 10 rfl (by exact HSB.out _ HB36) ?_
        try simp only [Act.put, ptL]
        try go_simp
        refine wpAnyH_done (by kernel_rfl) ?_ _
        obtain ⟨wz, hwz⟩ : ∃ wz, wz = W36 := ⟨_, rfl⟩
        subst hwz
        have HBZ := HB36
        clear HB36
        exact ⟨rfl, _, _, _, _, _, _, _, _, _, _, _, _, _, _, rfl, Lib.hid hx_x, Lib.hid (by exact hmk.out.at HQ), Lib.hid HBZ, Lib.hid hl_x⟩
      · go_simp
        refine hK.out _ _ (by (try dsimp only); exact HSB.out _ (HB30.alloc HB30.size _)) (fun hHeld => ?_)
        clear hK K hHeld
        try simp only [Act.put, ptL]
        refine wpAnyH_gen (fun W38 hWn => ?_)
        have HB38 : Below w4.heap.size w4 W38 := by rw [hWn]; exact HB30.alloc HB30.size _
        have hx_x : W38.heap[W30.heap.size]? = some (.cells #[.slice none 0 0, .slice none 0 0, .slice none 0 0, .slice none 0 0] 96) := by rw [hWn]; exact alloc_new _ _
        have hl_x : w4.heap.size ≤ W30.heap.size := HB30.size
        clear hWn
        obtain ⟨b_x, hb_x⟩ : ∃ b, W30.heap.size = b := ⟨_, rfl⟩
        rw [hb_x] at hx_x hl_x ⊢
        clear HB30 hb_x 
        refine wpAnyH_ready (rs := [4]) (by kernel_rfl) (by simp) ?_
        refine AllReadyH.cons rfl (fun K hK => ?_) AllReadyH.nil
        go_simp
        obtain ⟨WA, hWA⟩ : ∃ WA, WA = W38 := ⟨_, rfl⟩
        have hq_x : b_x < WA.heap.size := by rw [hWA]; exact block_lt hx_x
        (with_reducible refine (c_askedG pm pv pr cm cv cr p (inB n 1 p.ms.length) W38 (HPW.out _ HB38) HL.out).mono ?_)
        rintro e W39 ⟨qa, na, ca, qb, nb, cb, qc, nc, cc, qd, nd, cd, er, rfl, hmk, hbn⟩
        obtain ⟨WB, hWB⟩ : ∃ WB, WB = W39 := ⟨_, rfl⟩
        have HQ : ∀ k, WA.heap.size ≤ k → k < WB.heap.size → W39.heap[k]? = WB.heap[k]? := fun k _ _ => by rw [hWB]
        have hqs : WB.heap.size ≤ W39.heap.size := by rw [hWB]; exact Nat.le_refl _
        rw [← hWA, ← hWB] at hmk
        clear hWA hWB
        have HB39 : Below w4.heap.size w4 W39 := HB38.trans (hbn.mono HB38.size)
        have hx_x : W39.heap[b_x]? = some (.cells #[.slice none 0 0, .slice none 0 0, .slice none 0 0, .slice none 0 0] 96) := (hbn.block _ (block_lt hx_x)).trans hx_x
        clear hbn
        go_simp
        refine hK.out _ _ (by (try dsimp only); exact HSB.out _ HB39) (fun hHeld => ?_)
        clear hK K hHeld
        try simp only [Act.put, ptL]
        clear HB38
        refine tk 5 rfl (by exact HSB.out _ HB39) ?_
        try simp only [Act.put, ptL]
        refine tk 6 rfl (by exact HSB.out _ HB39) ?_
        try simp only [Act.put, ptL]
        refine tk 7 rfl (by exact HSB.out _ HB39) ?_
        try simp only [Act.put, ptL]
        refine wpAnyH_ready (rs := [9]) (by kernel_rfl) (by simp) ?_
        refine AllReadyH.cons rfl (fun K hK => ?_) AllReadyH.nil
        refine set4K W39 b_x 96 _ _ _ _ (.slice qa na ca) (.slice qb nb cb) (.slice qc nc cc) (.slice qd nd cd) hx_x (fun wa43 wb43 wc43 W43 sa sb sc sd ca0 fa0 ca1 fa1 ca2 fa2 ca3 fa3 hx4 hxk HZs hxb => ?_)
        have HB43 : Below w4.heap.size w4 W43 := hxb w4 w4.heap.size hl_x HB39
        have hx_x := hx4
        have HQ : ∀ k, WA.heap.size ≤ k → k < WB.heap.size → W43.heap[k]? = WB.heap[k]? := fun k h1 h2 => (hxk k (by omega)).trans (HQ k h1 h2)
        have hqs : WB.heap.size ≤ W43.heap.size := by rw [HZs.out]; exact hqs
        clear hx4 hxk hxb HZs
        go_simp
        refine hK.out _ _ (by (try dsimp only); exact HSB.out _ HB43) (fun hHeld => ?_)
        clear hK K hHeld
        try simp only [Act.put, ptL]
        clear ca0 ca1 ca2 ca3 fa0 fa1 fa2 fa3 sa sb sc sd HB39
        refine tk 10 rfl (by exact HSB.out _ HB43) ?_
        try simp only [Act.put, ptL]
        try go_simp
        refine wpAnyH_done (by kernel_rfl) ?_ _
        obtain ⟨wz, hwz⟩ : ∃ wz, wz = W43 := ⟨_, rfl⟩
        subst hwz
        have HBZ := HB43
        clear HB43
        exact ⟨rfl, _, _, _, _, _, _, _, _, _, _, _, _, _, _, rfl, Lib.hid hx_x, Lib.hid (by exact hmk.out.at HQ), Lib.hid HBZ, Lib.hid hl_x⟩
    · go_simp
      refine hK.out _ _ (by (try dsimp only); exact HSB.out _ (HB0.alloc HB0.size _)) (fun hHeld => ?_)
      clear hK K hHeld
      try simp only [Act.put, ptL]
      refine wpAnyH_gen (fun W45 hWn => ?_)
      have HB45 : Below w4.heap.size w4 W45 := by rw [hWn]; exact HB0.alloc HB0.size _
      have hx_x : W45.heap[W0.heap.size]? = some (.cells #[.slice none 0 0, .slice none 0 0, .slice none 0 0, .slice none 0 0] 96) := by rw [hWn]; exact alloc_new _ _
      have hl_x : w4.heap.size ≤ W0.heap.size := HB0.size
      clear hWn
      obtain ⟨b_x, hb_x⟩ : ∃ b, W0.heap.size = b := ⟨_, rfl⟩
      rw [hb_x] at hx_x hl_x ⊢
      clear HB0 hb_x 
      refine wpAnyH_ready (rs := [3]) (by kernel_rfl) (by simp) ?_
      refine AllReadyH.cons rfl (fun K hK => ?_) AllReadyH.nil
      go_simp
      (with_reducible refine (c_isArbor pm pv pr cm cv cr p n 1 W45).mono ?_)
      rintro e W46 ⟨rfl, hbn⟩
      have HB46 : Below w4.heap.size w4 W46 := HB45.trans (hbn.mono HB45.size)
      have hx_x : W46.heap[b_x]? = some (.cells #[.slice none 0 0, .slice none 0 0, .slice none 0 0, .slice none 0 0] 96) := (hbn.block _ (block_lt hx_x)).trans hx_x
      clear hbn
      go_simp
      refine hK.out _ _ (by (try dsimp only); exact HSB.out _ HB46) (fun hHeld => ?_)
      clear hK K hHeld
      try simp only [Act.put, ptL]
      clear HB45
      refine wpAnyH_ready (rs := [4]) (by kernel_rfl) (by simp) ?_
      refine AllReadyH.cons rfl (fun K hK => ?_) AllReadyH.nil
      go_simp
      obtain ⟨WA, hWA⟩ : ∃ WA, WA = W46 := ⟨_, rfl⟩
      have hq_x : b_x < WA.heap.size := by rw [hWA]; exact block_lt hx_x
      (with_reducible refine (c_askedG pm pv pr cm cv cr p (inB n 1 p.ms.length) W46 (HPW.out _ HB46) HL.out).mono ?_)
      rintro e W47 ⟨qa, na, ca, qb, nb, cb, qc, nc, cc, qd, nd, cd, er, rfl, hmk, hbn⟩
      obtain ⟨WB, hWB⟩ : ∃ WB, WB = W47 := ⟨_, rfl⟩
      have HQ : ∀ k, WA.heap.size ≤ k → k < WB.heap.size → W47.heap[k]? = WB.heap[k]? := fun k _ _ => by rw [hWB]
      have hqs : WB.heap.size ≤ W47.heap.size := by rw [hWB]; exact Nat.le_refl _
      rw [← hWA, ← hWB] at hmk
      clear hWA hWB
      have HB47 : Below w4.heap.size w4 W47 := HB46.trans (hbn.mono HB46.size)
      have hx_x : W47.heap[b_x]? = some (.cells #[.slice none 0 0, .slice none 0 0, .slice none 0 0, .slice none 0 0] 96) := (hbn.block _ (block_lt hx_x)).trans hx_x
      clear hbn
      go_simp
      refine hK.out _ _ (by (try dsimp only); exact HSB.out _ HB47) (fun hHeld => ?_)
      clear hK K hHeld
      try simp only [Act.put, ptL]
      clear HB46
      refine tk 5 rfl (by exact HSB.out _ HB47) ?_
      try simp only [Act.put, ptL]
      refine tk 6 rfl (by exact HSB.out _ HB47) ?_
      try simp only [Act.put, ptL]
      refine tk 7 rfl (by exact HSB.out _ HB47) ?_
      try simp only [Act.put, ptL]
      refine wpAnyH_ready (rs := [9]) (by kernel_rfl) (by simp) ?_
      refine AllReadyH.cons rfl (fun K hK => ?_) AllReadyH.nil
      refine set4K W47 b_x 96 _ _ _ _ (.slice qa na ca) (.slice qb nb cb) (.slice qc nc cc) (.slice qd nd cd) hx_x (fun wa51 wb51 wc51 W51 sa sb sc sd ca0 fa0 ca1 fa1 ca2 fa2 ca3 fa3 hx4 hxk HZs hxb => ?_)
      have HB51 : Below w4.heap.size w4 W51 := hxb w4 w4.heap.size hl_x HB47
      have hx_x := hx4
      have HQ : ∀ k, WA.heap.size ≤ k → k < WB.heap.size → W51.heap[k]? = WB.heap[k]? := fun k h1 h2 => (hxk k (by omega)).trans (HQ k h1 h2)
      have hqs : WB.heap.size ≤ W51.heap.size := by rw [HZs.out]; exact hqs
      clear hx4 hxk hxb HZs
      go_simp
      refine hK.out _ _ (by (try dsimp only); exact HSB.out _ HB51) (fun hHeld => ?_)
      clear hK K hHeld
      try simp only [Act.put, ptL]
      clear ca0 ca1 ca2 ca3 fa0 fa1 fa2 fa3 sa sb sc sd HB47
      refine tk 10 rfl (by exact HSB.out _ HB51) ?_
      try simp only [Act.put, ptL]
      try go_simp
      refine wpAnyH_done (by kernel_rfl) ?_ _
      obtain ⟨wz, hwz⟩ : ∃ wz, wz = W51 := ⟨_, rfl⟩
      subst hwz
      have HBZ := HB51
      clear HB51
      exact ⟨rfl, _, _, _, _, _, _, _, _, _, _, _, _, _, _, rfl, Lib.hid hx_x, Lib.hid (by exact hmk.out.at HQ), Lib.hid HBZ, Lib.hid hl_x⟩
  case imp =>
    rintro e a wz ⟨rfl, bx, qa, na, ca, qb, nb, cb, qc, nc, cc, qd, nd, cd, er, rfl, HX, HAZ, HBZ, HLX⟩
    rcases HAZ.out with ⟨hf, rfl, ea, eb, ec, ed⟩ | ⟨hf, ht, rfl, ea, eb, ec, ed⟩ | ⟨hpo, hfi, ht, rfl, ea, eb, ec, g, cap, ed, hq⟩
    all_goals
      obtain ⟨rfl, rfl, rfl⟩ := sl_inj ea
      obtain ⟨rfl, rfl, rfl⟩ := sl_inj eb
      obtain ⟨rfl, rfl, rfl⟩ := sl_inj ec
      obtain ⟨rfl, rfl, rfl⟩ := sl_inj ed
      clear ea eb ec ed
    · have HF := Lib.hid hf
      have hkz := (HBZ.out.block _ (block_lt HKR.out)).trans HKR.out
      have hky := (HBZ.out.block _ (block_lt HKS.out)).trans HKS.out
      obtain ⟨w5, w6, s1, s2, ⟨c0', f0⟩, ⟨c1', f1⟩, hx4, hxk, HZ5, hxb⟩ := set2 wz w2.heap.size 44 _ _ (.int .i64 0) (.int .i64 0) hkz
      obtain ⟨w7, w8, s3, s4, ⟨c2', f2⟩, ⟨c3', f3⟩, hx5, hxl, HZ6, hxc⟩ := set2 w6 w3.heap.size 44 _ _ (.int .i64 0) (.int .i64 0) ((hxk w3.heap.size (by have := HZ.out; omega)).trans hky)
      obtain ⟨r0, r1⟩ := cells2 ((hxl w2.heap.size (by have := HZ.out; omega)).trans hx4)
      obtain ⟨r2, r3⟩ := cells2 hx5
      have HBB := Lib.hid (hxc w w.heap.size (by have := HZ.out; omega) (hxb w w.heap.size (by have := HZ.out; omega) (HB.out.trans (HBZ.out.mono HB.out.size))))
      clear hx4 hx5 hxk hxl hxb hxc hkz hky hf
      go_wp2
      refine bodyPost_ret (v := .tuple #[.agg #[.int .i64 0, .int .i64 0], .agg #[.int .i64 0, .int .i64 0], .int .i64 2]) ?_ rfl ⟨?_, HBB.out⟩
      · simp [results, Tryz.results28, go_sem, r0, r1, r2, r3]
      · rw [err_bad HF.out, ok_bad _ HF.out, ok_bad _ HF.out, ok_bad _ HF.out, ok_bad _ HF.out]
    · have HF := Lib.hid (And.intro hf ht)
      have hkz := (HBZ.out.block _ (block_lt HKR.out)).trans HKR.out
      have hky := (HBZ.out.block _ (block_lt HKS.out)).trans HKS.out
      obtain ⟨w5, w6, s1, s2, ⟨c0', f0⟩, ⟨c1', f1⟩, hx4, hxk, HZ5, hxb⟩ := set2 wz w2.heap.size 44 _ _ (.int .i64 0) (.int .i64 0) hkz
      obtain ⟨w7, w8, s3, s4, ⟨c2', f2⟩, ⟨c3', f3⟩, hx5, hxl, HZ6, hxc⟩ := set2 w6 w3.heap.size 44 _ _ (.int .i64 0) (.int .i64 0) ((hxk w3.heap.size (by have := HZ.out; omega)).trans hky)
      obtain ⟨r0, r1⟩ := cells2 ((hxl w2.heap.size (by have := HZ.out; omega)).trans hx4)
      obtain ⟨r2, r3⟩ := cells2 hx5
      have HBB := Lib.hid (hxc w w.heap.size (by have := HZ.out; omega) (hxb w w.heap.size (by have := HZ.out; omega) (HB.out.trans (HBZ.out.mono HB.out.size))))
      clear hx4 hx5 hxk hxl hxb hxc hkz hky hf ht
      go_wp2
      refine bodyPost_ret (v := .tuple #[.agg #[.int .i64 0, .int .i64 0], .agg #[.int .i64 0, .int .i64 0], .int .i64 7]) ?_ rfl ⟨?_, HBB.out⟩
      · simp [results, Tryz.results28, go_sem, r0, r1, r2, r3]
      · rw [err_rule HF.out.1 HF.out.2, ok_rule _ HF.out.1 HF.out.2, ok_rule _ HF.out.1 HF.out.2, ok_rule _ HF.out.1 HF.out.2, ok_rule _ HF.out.1 HF.out.2]
    · obtain ⟨a, rfl⟩ : ∃ a : Nat, n = (a : Int) := ⟨n.toNat, by have := inB_iff.1 hfi; omega⟩
      have ha := inB_iff.1 hfi
      obtain ⟨ha1, ha2⟩ : 1 ≤ a ∧ a ≤ p.ms.length := by omega
      have hT := truths_le hpo
      have hn0 := (HBZ.out.cell (lt_of_cellq HN0.out)).trans HN0.out
      have hov : ∀ (i pi : Nat) (W0 : World), i < 2 → Below wz.heap.size wz W0 → W0.cell? ⟨pi, 0, none⟩ = some (.int .i64 (i : Int)) → Calls Tryz.prog 62 #[.agg #[.slice pm p.ms.length cm, .slice pv p.mv.length cv, .slice pr p.rs.length cr, .slice (some ⟨g, 0, none⟩) (truthsF p).length cap], .func (.func 69) #[] #[.pointer (some ⟨w1.heap.size, 0, none⟩), .pointer (some ⟨pi, 0, none⟩)]] W0 fun e w' =>
          e = .returned (.agg #[.int .i64 (ovF p (lostF p a i)).1, .int .i64 (ovF p (lostF p a i)).2]) ∧ Below W0.heap.size W0 w' := by
        intro i pi W0 hi hb0 hki
        have h := over_gen 69 #[.pointer (some ⟨w1.heap.size, 0, none⟩), .pointer (some ⟨pi, 0, none⟩)] (enters_of Tryz.func69 (by kernel_rfl) rfl) pm pv pr cm cv cr p (some ⟨g, 0, none⟩) cap (truthsF p) W0 (lostF p a i) (hq.below hb0) (by omega) (fun W k p1 p2 c1 c2 hb hk hl1 h1 h2 hl2 hcc hpp =>
          c1_lost p (gl (truthsF p) k) p1 p2 c1 c2 w1.heap.size pi a i W hpo (truth_plays hpo (gl_mem hk)) h1 h2 hl2 hcc ((hb.cell (lt_of_cellq ((hb0.cell (lt_of_cellq hn0)).trans hn0))).trans ((hb0.cell (lt_of_cellq hn0)).trans hn0)) ((hb.cell (lt_of_cellq hki)).trans hki) ha1 ha2 hi)
        rw [ovTo_all] at h
        exact h
      have HOV := Lib.hid hov
      have HF := Lib.hid (And.intro (pieceB_iff.2 hpo) (And.intro hfi ht))
      obtain ⟨S0, hS0⟩ : ∃ S, ovF p (lostF p a 0) = S := ⟨_, rfl⟩
      obtain ⟨S1, hS1⟩ : ∃ S, ovF p (lostF p a 1) = S := ⟨_, rfl⟩
      have HS0 := Lib.hid (show lostOn p (a : Int).toNat = S0 from hS0)
      have HS1' := Lib.hid (show lostBack p (a : Int).toNat = S1 from hS1)
      have HO0 := Lib.hid (hS0 ▸ fun (pi : Nat) (W0 : World) => hov 0 pi W0 (by omega))
      have HO1 := Lib.hid (hS1 ▸ fun (pi : Nat) (W0 : World) => hov 1 pi W0 (by omega))
      have HBY := Lib.hid (HB.out.trans (HBZ.out.mono HB.out.size))
      have HKZ := Lib.hid ((HBZ.out.block _ (block_lt HKR.out)).trans HKR.out)
      have HKY := Lib.hid ((HBZ.out.block _ (block_lt HKS.out)).trans HKS.out)
      obtain ⟨x0, x1, x2, x3⟩ := cells4 HX.out
      have ko := alloc_new wz (.cells #[.int .i64 0, .int .i64 0, .int .i64 0, .int .i64 0] 105)
      obtain ⟨w5, e5, HS5, _, _, _, _, b5⟩ := box4 wz (.int .i64 0) (.int .i64 0) (.int .i64 0) (.int .i64 0) 105
      rw [e5] at ko
      have HKO := Lib.hid ko
      have HB5 := Lib.hid b5
      have x0 := (b5.cell (lt_of_cellq x0)).trans x0
      have x1 := (b5.cell (lt_of_cellq x1)).trans x1
      have x2 := (b5.cell (lt_of_cellq x2)).trans x2
      have x3 := (b5.cell (lt_of_cellq x3)).trans x3
      have HX4 := Lib.hid (And.intro x0 (And.intro x1 (And.intro x2 x3)))
      have HXL := Lib.hid (block_lt HX.out)
      clear hov hq hpo hfi ht ha hT hn0 hS0 hS1 ko b5 HSB HPW x0 x1 x2 x3
      go_wp2
      clear e5
      go_loopw [10, 24] (fun _ i wr => ∃ (k : Nat) (x y z u : Int), k ≤ 2 ∧ i = .int .i64 k ∧ Hid (wr.heap[wz.heap.size]? = some (.cells #[.int .i64 x, .int .i64 y, .int .i64 z, .int .i64 u] 105 (0, 0))) ∧ Hid ((1 ≤ k → x = S0.1 ∧ y = S0.2) ∧ (2 ≤ k → z = S1.1 ∧ u = S1.2)) ∧ Hid (BelX (fun x => x = wz.heap.size) w5.heap.size w5 wr)) (fun _ i _ => 2 - (intOf i).toNat)
      case atStart => exact ⟨0, 0, 0, 0, 0, by omega, rfl, HKO, Lib.hid ⟨fun h => by omega, fun h => by omega⟩, Lib.hid (BelX.refl _ _ _)⟩
      case round =>
      obtain ⟨k, x, y, z, u, hk, rfl, HXO, HXY, HY⟩ := hrel
      have hz := HZ.out
      have hBr : Below wz.heap.size wz wr := ((belX_of (X := fun x => x = wz.heap.size) HB5.out).trans (HY.out.mono (HB5.out.size))).below (B' := wz.heap.size) (Nat.le_refl _) (fun x hx => by subst hx; exact Nat.le_refl _)
      have y0 := (HY.out.cell (p := ⟨bx, 0, none⟩) (Nat.lt_of_lt_of_le HXL.out HB5.out.size) (by have := HXL.out; show ¬ bx = _; omega)).trans HX4.out.1
      have y1 := (HY.out.cell (p := ⟨bx, 1, none⟩) (Nat.lt_of_lt_of_le HXL.out HB5.out.size) (by have := HXL.out; show ¬ bx = _; omega)).trans HX4.out.2.1
      have y2 := (HY.out.cell (p := ⟨bx, 2, none⟩) (Nat.lt_of_lt_of_le HXL.out HB5.out.size) (by have := HXL.out; show ¬ bx = _; omega)).trans HX4.out.2.2.1
      have y3 := (HY.out.cell (p := ⟨bx, 3, none⟩) (Nat.lt_of_lt_of_le HXL.out HB5.out.size) (by have := HXL.out; show ¬ bx = _; omega)).trans HX4.out.2.2.2
      have kn := alloc_new wr (.cells #[.int .i64 0] 3)
      obtain ⟨w6, e6, HS6, n0', nf', b6⟩ := box1 wr (.int .i64 0) 3
      rw [e6] at kn
      have nf := nf'.out
      rcases (show k = 0 ∨ k = 1 ∨ k = 2 by omega) with hk0 | hk0 | hk0
      · subst hk0
        have n0 : w6.cell? ⟨wr.heap.size, 0, none⟩ = some (.int .i64 0) := n0'
        obtain ⟨w7, s7⟩ : ∃ w7, w6.setCell ⟨wr.heap.size, 0, none⟩ (.int .i64 0) = w7 := ⟨_, rfl⟩
        have kn7 : w7.heap[wr.heap.size]? = some (.cells #[.int .i64 0] 3 (0, 0)) := by rw [← s7, heap_setCell_same w6 wr.heap.size 0 _ _ _ kn]; rfl
        have ki : w7.cell? ⟨wr.heap.size, 0, none⟩ = some (.int .i64 0) := by rw [cell_of_row _ _ _ _ _ _ kn7]; rfl
        have b7 : Below wr.heap.size wr w7 := by rw [← s7]; exact b6.setCell (Nat.le_refl _) _
        have hB7 : Below wz.heap.size wz w7 := hBr.trans (b7.mono hBr.size)
        have y0 := (b7.cell (lt_of_cellq y0)).trans y0
        have y1 := (b7.cell (lt_of_cellq y1)).trans y1
        have y2 := (b7.cell (lt_of_cellq y2)).trans y2
        have y3 := (b7.cell (lt_of_cellq y3)).trans y3
        have HB7 := Lib.hid hB7
        have HX7 := Lib.hid ((b7.block _ (block_lt HXO.out)).trans HXO.out)
        have HY7 := Lib.hid (HY.out.trans ((belX_of b7).mono HY.out.size))
        have hix := ixP0 wz.heap.size
        have HKI := Lib.hid ki
        clear b6 b7 hB7 hBr kn7 kn hz
        go_upto_region 8 with (fail)
        clear e6 s7
        refine wp_region_below_tail 5 (by kernel_rfl) (by kernel_rfl) ?_; simp only [List.take_succ_cons, List.take_zero, List.drop_succ_cons, List.drop_zero]; (repeat (first | ((with_reducible first | apply wq_fg faP0 | apply wq_fg faP1 | apply wq_fg faP2 | apply wq_fg faM0 | apply wq_fg faS0 | apply wq_fg faS1 | apply wq_fg faR0 | apply wq_fg faR1 | apply wq_fg faR2 | apply wq_fg faR3 | apply wq_fg faT0 | apply wq_fg faT1 | apply wq_fg faQ0 | apply wq_fg faQ1 | apply wq_fg faH0 | apply wq_fg faH1 | apply wq_fg faH2 | apply wq_fg faH3); (focus rfl); (focus rfl); go_frame) | ((with_reducible refine wq_lda agQ szQ ?_ ?_ ?_ (fun _ hbq => bcells4 y0 y1 y2 y3 hbq) ?_); (focus rfl); (focus rfl); (focus rfl); go_frame) | ((with_reducible apply wq_mkf); (focus rfl); (focus rfl); (focus rfl); go_frame) | ((with_reducible apply wq_ixp hix); (focus rfl); (focus rfl); (focus rfl); go_frame) | ((with_reducible first | apply wq_ix Tryz.underlying23 szI | apply wq_ix Tryz.underlying34 szSp | apply wq_ix Tryz.underlying22 szM | apply wq_ix Tryz.underlying24 szR | apply wq_ix Tryz.underlying30 szL | apply wq_ix Tryz.underlying94 szT); (focus rfl); (focus rfl); (focus rfl); (focus omega); (try simp only [Nat.mul_one]); go_frame) | ((with_reducible first | apply wq_ld agI | apply wq_ld agB | apply wq_ld agLI | apply wq_ld agLS | apply wq_ld agLM | apply wq_ld agLR | apply wq_ld agLL | apply wq_ld agLT); (focus rfl); (focus rfl); (focus (intro _ hbq; first | exact (hbq.cell (lt_of_cellq ki)).trans ki)); go_frame) | ((with_reducible first | apply wq_add | apply wq_sub | apply wq_mul | apply wq_rem); (focus rfl); (focus rfl); (focus rfl); (focus omega); (focus omega); go_frame) | ((with_reducible first | apply wq_eql | apply wq_neq | apply wq_lss | apply wq_leq | apply wq_gtr | apply wq_geq | apply wq_max2 | apply wq_min2); (focus rfl); (focus rfl); (focus rfl); go_frame) | ((with_reducible first | apply wq_max3 | apply wq_min3); (focus rfl); (focus rfl); (focus rfl); (focus rfl); go_frame) | go_big_quiet_step ((intro hbq; exact calls_below hbq (HO0.out wr.heap.size _ (HB7.out.trans (hbq.mono HB7.out.size)) ((hbq.cell (lt_of_cellq HKI.out)).trans HKI.out)))))); refine wpQuiet_nil ?_; intro wq hbq
        have hxo := (hbq.block _ (block_lt HX7.out)).trans HX7.out
        have o0 : wq.cell? ⟨wz.heap.size, 0, none⟩ = some (.int .i64 x) := by rw [cell_of_row _ _ _ _ _ _ hxo]; rfl
        have g0 : wq.frozen? ⟨wz.heap.size, 0, none⟩ = false := frozen_of_row _ _ _ _ _ hxo
        obtain ⟨wa, sa⟩ : ∃ wa, wq.setCell ⟨wz.heap.size, 0, none⟩ (.int .i64 S0.1) = wa := ⟨_, rfl⟩
        have hxa : wa.heap[wz.heap.size]? = some (.cells #[.int .i64 S0.1, .int .i64 y, .int .i64 z, .int .i64 u] 105 (0, 0)) := by rw [← sa, heap_setCell_same wq wz.heap.size 0 _ _ _ hxo]; rfl
        have o1 : wa.cell? ⟨wz.heap.size, 1, none⟩ = some (.int .i64 y) := by rw [cell_of_row _ _ _ _ _ _ hxa]; rfl
        have g1 : wa.frozen? ⟨wz.heap.size, 1, none⟩ = false := frozen_of_row _ _ _ _ _ hxa
        obtain ⟨wb, sb⟩ : ∃ wb, wa.setCell ⟨wz.heap.size, 1, none⟩ (.int .i64 S0.2) = wb := ⟨_, rfl⟩
        have HXB := Lib.hid (show wb.heap[wz.heap.size]? = some (.cells #[.int .i64 S0.1, .int .i64 S0.2, .int .i64 z, .int .i64 u] 105 (0, 0)) by rw [← sb, heap_setCell_same wa wz.heap.size 1 _ _ _ hxa]; rfl)
        have HYB := Lib.hid (show BelX (fun x => x = wz.heap.size) w5.heap.size w5 wb by
          have g2 := HY7.out.trans ((belX_of hbq).mono HY7.out.size)
          have g3 := (g2.setCell (p := ⟨wz.heap.size, 0, none⟩) (.inl rfl) (.int .i64 S0.1)).setCell (p := ⟨wz.heap.size, 1, none⟩) (.inl rfl) (.int .i64 S0.2)
          rw [sa, sb] at g3
          exact g3)
        clear hxo hxa hbq
        go_wp2
        go_roundw
        case rel => exact ⟨1, S0.1, S0.2, z, u, by omega, rfl, HXB, Lib.hid ⟨fun _ => ⟨rfl, rfl⟩, fun h => by omega⟩, HYB⟩
        case measure => simp [intOf]
      · subst hk0
        have n0 : w6.cell? ⟨wr.heap.size, 0, none⟩ = some (.int .i64 0) := n0'
        obtain ⟨w7, s7⟩ : ∃ w7, w6.setCell ⟨wr.heap.size, 0, none⟩ (.int .i64 1) = w7 := ⟨_, rfl⟩
        have kn7 : w7.heap[wr.heap.size]? = some (.cells #[.int .i64 1] 3 (0, 0)) := by rw [← s7, heap_setCell_same w6 wr.heap.size 0 _ _ _ kn]; rfl
        have ki : w7.cell? ⟨wr.heap.size, 0, none⟩ = some (.int .i64 1) := by rw [cell_of_row _ _ _ _ _ _ kn7]; rfl
        have b7 : Below wr.heap.size wr w7 := by rw [← s7]; exact b6.setCell (Nat.le_refl _) _
        have hB7 : Below wz.heap.size wz w7 := hBr.trans (b7.mono hBr.size)
        have y0 := (b7.cell (lt_of_cellq y0)).trans y0
        have y1 := (b7.cell (lt_of_cellq y1)).trans y1
        have y2 := (b7.cell (lt_of_cellq y2)).trans y2
        have y3 := (b7.cell (lt_of_cellq y3)).trans y3
        have HB7 := Lib.hid hB7
        have HX7 := Lib.hid ((b7.block _ (block_lt HXO.out)).trans HXO.out)
        have HY7 := Lib.hid (HY.out.trans ((belX_of b7).mono HY.out.size))
        have hix := ixP1 wz.heap.size
        have HKI := Lib.hid ki
        clear b6 b7 hB7 hBr kn7 kn hz
        go_upto_region 8 with (fail)
        clear e6 s7
        refine wp_region_below_tail 5 (by kernel_rfl) (by kernel_rfl) ?_; simp only [List.take_succ_cons, List.take_zero, List.drop_succ_cons, List.drop_zero]; (repeat (first | ((with_reducible first | apply wq_fg faP0 | apply wq_fg faP1 | apply wq_fg faP2 | apply wq_fg faM0 | apply wq_fg faS0 | apply wq_fg faS1 | apply wq_fg faR0 | apply wq_fg faR1 | apply wq_fg faR2 | apply wq_fg faR3 | apply wq_fg faT0 | apply wq_fg faT1 | apply wq_fg faQ0 | apply wq_fg faQ1 | apply wq_fg faH0 | apply wq_fg faH1 | apply wq_fg faH2 | apply wq_fg faH3); (focus rfl); (focus rfl); go_frame) | ((with_reducible refine wq_lda agQ szQ ?_ ?_ ?_ (fun _ hbq => bcells4 y0 y1 y2 y3 hbq) ?_); (focus rfl); (focus rfl); (focus rfl); go_frame) | ((with_reducible apply wq_mkf); (focus rfl); (focus rfl); (focus rfl); go_frame) | ((with_reducible apply wq_ixp hix); (focus rfl); (focus rfl); (focus rfl); go_frame) | ((with_reducible first | apply wq_ix Tryz.underlying23 szI | apply wq_ix Tryz.underlying34 szSp | apply wq_ix Tryz.underlying22 szM | apply wq_ix Tryz.underlying24 szR | apply wq_ix Tryz.underlying30 szL | apply wq_ix Tryz.underlying94 szT); (focus rfl); (focus rfl); (focus rfl); (focus omega); (try simp only [Nat.mul_one]); go_frame) | ((with_reducible first | apply wq_ld agI | apply wq_ld agB | apply wq_ld agLI | apply wq_ld agLS | apply wq_ld agLM | apply wq_ld agLR | apply wq_ld agLL | apply wq_ld agLT); (focus rfl); (focus rfl); (focus (intro _ hbq; first | exact (hbq.cell (lt_of_cellq ki)).trans ki)); go_frame) | ((with_reducible first | apply wq_add | apply wq_sub | apply wq_mul | apply wq_rem); (focus rfl); (focus rfl); (focus rfl); (focus omega); (focus omega); go_frame) | ((with_reducible first | apply wq_eql | apply wq_neq | apply wq_lss | apply wq_leq | apply wq_gtr | apply wq_geq | apply wq_max2 | apply wq_min2); (focus rfl); (focus rfl); (focus rfl); go_frame) | ((with_reducible first | apply wq_max3 | apply wq_min3); (focus rfl); (focus rfl); (focus rfl); (focus rfl); go_frame) | go_big_quiet_step ((intro hbq; exact calls_below hbq (HO1.out wr.heap.size _ (HB7.out.trans (hbq.mono HB7.out.size)) ((hbq.cell (lt_of_cellq HKI.out)).trans HKI.out)))))); refine wpQuiet_nil ?_; intro wq hbq
        have hxo := (hbq.block _ (block_lt HX7.out)).trans HX7.out
        have o0 : wq.cell? ⟨wz.heap.size, 2, none⟩ = some (.int .i64 z) := by rw [cell_of_row _ _ _ _ _ _ hxo]; rfl
        have g0 : wq.frozen? ⟨wz.heap.size, 2, none⟩ = false := frozen_of_row _ _ _ _ _ hxo
        obtain ⟨wa, sa⟩ : ∃ wa, wq.setCell ⟨wz.heap.size, 2, none⟩ (.int .i64 S1.1) = wa := ⟨_, rfl⟩
        have hxa : wa.heap[wz.heap.size]? = some (.cells #[.int .i64 x, .int .i64 y, .int .i64 S1.1, .int .i64 u] 105 (0, 0)) := by rw [← sa, heap_setCell_same wq wz.heap.size 2 _ _ _ hxo]; rfl
        have o1 : wa.cell? ⟨wz.heap.size, 3, none⟩ = some (.int .i64 u) := by rw [cell_of_row _ _ _ _ _ _ hxa]; rfl
        have g1 : wa.frozen? ⟨wz.heap.size, 3, none⟩ = false := frozen_of_row _ _ _ _ _ hxa
        obtain ⟨wb, sb⟩ : ∃ wb, wa.setCell ⟨wz.heap.size, 3, none⟩ (.int .i64 S1.2) = wb := ⟨_, rfl⟩
        have HXB := Lib.hid (show wb.heap[wz.heap.size]? = some (.cells #[.int .i64 x, .int .i64 y, .int .i64 S1.1, .int .i64 S1.2] 105 (0, 0)) by rw [← sb, heap_setCell_same wa wz.heap.size 3 _ _ _ hxa]; rfl)
        have HYB := Lib.hid (show BelX (fun x => x = wz.heap.size) w5.heap.size w5 wb by
          have g2 := HY7.out.trans ((belX_of hbq).mono HY7.out.size)
          have g3 := (g2.setCell (p := ⟨wz.heap.size, 2, none⟩) (.inl rfl) (.int .i64 S1.1)).setCell (p := ⟨wz.heap.size, 3, none⟩) (.inl rfl) (.int .i64 S1.2)
          rw [sa, sb] at g3
          exact g3)
        clear hxo hxa hbq
        go_wp2
        go_roundw
        case rel => exact ⟨2, x, y, S1.1, S1.2, by omega, rfl, HXB, Lib.hid ⟨fun _ => HXY.out.1 (by omega), fun _ => ⟨rfl, rfl⟩⟩, HYB⟩
        case measure => simp [intOf]
      · subst hk0
        obtain ⟨rfl, rfl⟩ := HXY.out.1 (by omega)
        obtain ⟨rfl, rfl⟩ := HXY.out.2 (by omega)
        obtain ⟨o0, o1, o2, o3⟩ := cells4 HXO.out
        have hkz := (hBr.block _ (block_lt HKZ.out)).trans HKZ.out
        have hky := (hBr.block _ (block_lt HKY.out)).trans HKY.out
        have HKC := Lib.hid (And.intro hkz hky)
        have HBR := Lib.hid hBr
        have hi0 := ixP0 wz.heap.size
        have hi1 := ixP1 wz.heap.size
        clear hkz hky hBr hz e6 kn n0' nf nf' b6
        go_wp2
        go_upto_region 10 with (fail)
        have HOO := Lib.hid HXO.out
        have HRR := Lib.hid HKC.out.1
        have HQQ := Lib.hid HKC.out.2
        obtain ⟨hz1, hz2, hz3, hz4⟩ := HZ.out
        have hz5 : w4.heap.size ≤ wz.heap.size := HBZ.out.size
        have hl_r : w.heap.size ≤ w2.heap.size := by omega
        have hl_q : w.heap.size ≤ w3.heap.size := by omega
        have hl_o : w.heap.size ≤ wz.heap.size := by omega
        have hn_r_q : w2.heap.size ≠ w3.heap.size := by omega
        have hn_o_r : wz.heap.size ≠ w2.heap.size := by omega
        have hn_o_q : wz.heap.size ≠ w3.heap.size := by omega
        clear hz1 hz2 hz3 hz4 hz5
        obtain ⟨b_r, hbr⟩ : ∃ b, w2.heap.size = b := ⟨_, rfl⟩
        obtain ⟨b_q, hbq'⟩ : ∃ b, w3.heap.size = b := ⟨_, rfl⟩
        obtain ⟨b_o, hbo⟩ : ∃ b, wz.heap.size = b := ⟨_, rfl⟩
        rw [hbr] at HRR hl_r hn_r_q hn_o_r ⊢
        rw [hbq'] at HQQ hl_q hn_r_q hn_o_q ⊢
        rw [hbo] at HOO hl_o hn_o_r hn_o_q hi0 hi1 ⊢
        clear o0 o1 o2 o3
        refine wp_region_held_drew (S := (fun w' => w'.cell? ⟨b_o, 0, none⟩ = some (.int .i64 S0.1) ∧ w'.cell? ⟨b_o, 1, none⟩ = some (.int .i64 S0.2) ∧ w'.cell? ⟨b_o, 2, none⟩ = some (.int .i64 S1.1) ∧ w'.cell? ⟨b_o, 3, none⟩ = some (.int .i64 S1.2))) (by kernel_rfl) (by (try dsimp only); exact cells4 HOO.out) (fun hHeld => ?_)
        refine wpAnyH_gen (fun W0 hW0 => ?_)
        have HB0 : Below w.heap.size w W0 := by rw [hW0]; exact (HBY.out.trans (HBR.out.mono HBY.out.size)).drew
        have hx_o : W0.heap[b_o]? = some (.cells #[.int .i64 S0.1, .int .i64 S0.2, .int .i64 S1.1, .int .i64 S1.2] 105 (0, 0)) := by rw [hW0]; exact HOO.out
        have hx_r : W0.heap[b_r]? = some (.cells #[.int .i64 0, .int .i64 0] 44) := by rw [hW0]; exact HRR.out
        have hx_q : W0.heap[b_q]? = some (.cells #[.int .i64 0, .int .i64 0] 44) := by rw [hW0]; exact HQQ.out
        clear hW0 hHeld
        refine tk 0 rfl (by exact cells4 hx_o) ?_
        try simp only [Act.put, ptL]
        refine tk 1 rfl (by exact cells4 hx_o) ?_
        try simp only [Act.put, ptL]
        refine tk 2 rfl (by exact cells4 hx_o) ?_
        try simp only [Act.put, ptL]
        refine wpAnyH_ready (rs := [3, 4]) (by kernel_rfl) (by simp) ?_
        refine AllReadyH.cons rfl (fun K hK => ?_) (AllReadyH.cons rfl (fun K hK => ?_) AllReadyH.nil)
        · obtain ⟨o0, o1, o2, o3⟩ := cells4 hx_o
          go_simp
          refine hK.out _ _ (by (try dsimp only); exact cells4 hx_o) (fun hHeld => ?_)
          clear hK K hHeld
          try simp only [Act.put, ptL]
          refine wpAnyH_ready (rs := [4]) (by kernel_rfl) (by simp) ?_
          refine AllReadyH.cons rfl (fun K hK => ?_) AllReadyH.nil
          refine set2K W0 b_r 44 _ _ (.int .i64 S0.1) (.int .i64 S0.2) hx_r (fun wa57 W57 sa sb ca0 fa0 ca1 fa1 hx4 hxk HZs hxb => ?_)
          have HB57 : Below w.heap.size w W57 := hxb w w.heap.size hl_r HB0
          have hx_o := (hxk b_o (by first | exact hn_o_r | exact Ne.symm hn_r_o)).trans hx_o
          have hx_q := (hxk b_q (by first | exact hn_q_r | exact Ne.symm hn_r_q)).trans hx_q
          have hx_r := hx4
          clear hx4 hxk hxb HZs
          go_simp
          refine hK.out _ _ (by (try dsimp only); exact cells4 hx_o) (fun hHeld => ?_)
          clear hK K hHeld
          try simp only [Act.put, ptL]
          clear ca0 fa0 ca1 fa1 sa sb HB0
          refine wpAnyH_ready (rs := [5]) (by kernel_rfl) (by simp) ?_
          refine AllReadyH.cons rfl (fun K hK => ?_) AllReadyH.nil
          refine set2K W57 b_q 44 _ _ (.int .i64 S1.1) (.int .i64 S1.2) hx_q (fun wa58 W58 sa sb ca0 fa0 ca1 fa1 hx4 hxk HZs hxb => ?_)
          have HB58 : Below w.heap.size w W58 := hxb w w.heap.size hl_q HB57
          have hx_o := (hxk b_o (by first | exact hn_o_q | exact Ne.symm hn_q_o)).trans hx_o
          have hx_r := (hxk b_r (by first | exact hn_r_q | exact Ne.symm hn_q_r)).trans hx_r
          have hx_q := hx4
          clear hx4 hxk hxb HZs
          go_simp
          refine hK.out _ _ (by (try dsimp only); exact cells4 hx_o) (fun hHeld => ?_)
          clear hK K hHeld
          try simp only [Act.put, ptL]
          clear ca0 fa0 ca1 fa1 sa sb HB57
          refine tk 6 rfl (by exact cells4 hx_o) ?_
          try simp only [Act.put, ptL]
          try go_simp
          refine wpAnyH_done (by kernel_rfl) ?_ _
          obtain ⟨wz, hwz⟩ : ∃ wz, wz = W58 := ⟨_, rfl⟩
          subst hwz
          have HBZ := HB58
          clear HB58
          obtain ⟨r0, r1⟩ := cells2 hx_r
          obtain ⟨r2, r3⟩ := cells2 hx_q
          have HBB := Lib.hid HBZ
          clear hx_o hx_r hx_q HBZ
          go_wp2
          refine bodyPost_ret (v := .tuple #[.agg #[.int .i64 S0.1, .int .i64 S0.2], .agg #[.int .i64 S1.1, .int .i64 S1.2], .int .i64 0]) ?_ rfl ⟨?_, HBB.out⟩
          · simp [results, Tryz.results28, go_sem, r0, r1, r2, r3]
          · rw [err_good HF.out.1 HF.out.2.1 HF.out.2.2, ok_good _ HF.out.1 HF.out.2.1 HF.out.2.2, ok_good _ HF.out.1 HF.out.2.1 HF.out.2.2, ok_good _ HF.out.1 HF.out.2.1 HF.out.2.2, ok_good _ HF.out.1 HF.out.2.1 HF.out.2.2, HS0.out, HS1'.out]
        · refine set2K W0 b_r 44 _ _ (.int .i64 S0.1) (.int .i64 S0.2) hx_r (fun wa60 W60 sa sb ca0 fa0 ca1 fa1 hx4 hxk HZs hxb => ?_)
          have HB60 : Below w.heap.size w W60 := hxb w w.heap.size hl_r HB0
          have hx_o := (hxk b_o (by first | exact hn_o_r | exact Ne.symm hn_r_o)).trans hx_o
          have hx_q := (hxk b_q (by first | exact hn_q_r | exact Ne.symm hn_r_q)).trans hx_q
          have hx_r := hx4
          clear hx4 hxk hxb HZs
          go_simp
          refine hK.out _ _ (by (try dsimp only); exact cells4 hx_o) (fun hHeld => ?_)
          clear hK K hHeld
          try simp only [Act.put, ptL]
          clear ca0 fa0 ca1 fa1 sa sb HB0
          refine wpAnyH_ready (rs := [3]) (by kernel_rfl) (by simp) ?_
          refine AllReadyH.cons rfl (fun K hK => ?_) AllReadyH.nil
          obtain ⟨o0, o1, o2, o3⟩ := cells4 hx_o
          go_simp
          refine hK.out _ _ (by (try dsimp only); exact cells4 hx_o) (fun hHeld => ?_)
          clear hK K hHeld
          try simp only [Act.put, ptL]
          refine wpAnyH_ready (rs := [5]) (by kernel_rfl) (by simp) ?_
          refine AllReadyH.cons rfl (fun K hK => ?_) AllReadyH.nil
          refine set2K W60 b_q 44 _ _ (.int .i64 S1.1) (.int .i64 S1.2) hx_q (fun wa62 W62 sa sb ca0 fa0 ca1 fa1 hx4 hxk HZs hxb => ?_)
          have HB62 : Below w.heap.size w W62 := hxb w w.heap.size hl_q HB60
          have hx_o := (hxk b_o (by first | exact hn_o_q | exact Ne.symm hn_q_o)).trans hx_o
          have hx_r := (hxk b_r (by first | exact hn_r_q | exact Ne.symm hn_q_r)).trans hx_r
          have hx_q := hx4
          clear hx4 hxk hxb HZs
          go_simp
          refine hK.out _ _ (by (try dsimp only); exact cells4 hx_o) (fun hHeld => ?_)
          clear hK K hHeld
          try simp only [Act.put, ptL]
          clear ca0 fa0 ca1 fa1 sa sb HB60
          refine tk 6 rfl (by exact cells4 hx_o) ?_
          try simp only [Act.put, ptL]
          try go_simp
          refine wpAnyH_done (by kernel_rfl) ?_ _
          obtain ⟨wz, hwz⟩ : ∃ wz, wz = W62 := ⟨_, rfl⟩
          subst hwz
          have HBZ := HB62
          clear HB62
          obtain ⟨r0, r1⟩ := cells2 hx_r
          obtain ⟨r2, r3⟩ := cells2 hx_q
          have HBB := Lib.hid HBZ
          clear hx_o hx_r hx_q HBZ
          go_wp2
          refine bodyPost_ret (v := .tuple #[.agg #[.int .i64 S0.1, .int .i64 S0.2], .agg #[.int .i64 S1.1, .int .i64 S1.2], .int .i64 0]) ?_ rfl ⟨?_, HBB.out⟩
          · simp [results, Tryz.results28, go_sem, r0, r1, r2, r3]
          · rw [err_good HF.out.1 HF.out.2.1 HF.out.2.2, ok_good _ HF.out.1 HF.out.2.1 HF.out.2.2, ok_good _ HF.out.1 HF.out.2.1 HF.out.2.2, ok_good _ HF.out.1 HF.out.2.1 HF.out.2.2, ok_good _ HF.out.1 HF.out.2.1 HF.out.2.2, HS0.out, HS1'.out]
end Go.Proofs.YtlednchfifphgaaGreatDoor
end
