/-
  Look: contract, all arguments (printed by slkask.py)
-/
import Derived.Test.YtbknfddaoolagaaGreatDoorGH
import Derived.Test.YtbknfddaoolagaaGreatDoorGT
import Derived.Test.YtbknfddaoolagaaGreatDoorGW
section
namespace Go.Proofs.YtbknfddaoolagaaGreatDoor
set_option linter.unusedSimpArgs false
open Go Go.RowKit Go.Proofs
set_option linter.unusedVariables false
attribute [local go_sem] imax2 imin2

theorem infLk : (Tryz.prog.info? 126).map (fun i => (i.zero, i.size, i.bytes)) = some (some (.agg #[.int .i64 0, .int .i64 0]), 2, 16) := by kernel_rfl
theorem c_inB' (x lo hi : Int) (w : World) : Calls Tryz.prog 73 #[.int .i64 x, .int .i64 lo, .int .i64 hi] w fun e w' => e = .returned (.bool (inB x lo hi)) ∧ Below w.heap.size w w' :=
  (c_in x lo hi w).mono fun e w' h => ⟨h.1, h.2 ▸ Below.refl _ _⟩
def lookL (p : Pc) (o : Int) (k : Nat) : List (Int × Int) := (List.range k).map fun j => (((j + 1 : Nat) : Int), ((leftF p (j + 1) o : Nat) : Int))
theorem lookL_len (p : Pc) (o : Int) (k : Nat) : (lookL p o k).length = k := by simp [lookL]
theorem lookL_succ (p : Pc) (o : Int) (k : Nat) : lookL p o (k + 1) = lookL p o k ++ [(((k + 1 : Nat) : Int), ((leftF p (k + 1) o : Nat) : Int))] := by
  unfold lookL; rw [List.range_succ, List.map_append]; rfl
theorem lookL_gm (p : Pc) (o : Int) {n k : Nat} (hk : k < n) : gm (lookL p o n) k = (((k + 1 : Nat) : Int), ((leftF p (k + 1) o : Nat) : Int)) := by
  unfold gm lookL; simp [hk]
theorem bst_look (p : Pc) (o : Int) (n : Nat) : ∀ k, k ≤ n → bstTo (lookL p o n) k = (((lookTo p o k).1 : Int), ((lookTo p o k).2 : Int)) := by
  intro k
  induction k with
  | zero => intro _; rfl
  | succ k ih =>
    intro hk; rw [bstTo, lookTo, ih (by omega), lookL_gm p o (by omega)]
    have hz : k = 0 ↔ (lookTo p o k).1 = 0 := by
      constructor
      · rintro rfl; rfl
      · intro h
        rcases Nat.eq_zero_or_pos k with h0 | h0
        · exact h0
        · have := (look_law p o k h0).1; omega
    by_cases hc : (lookTo p o k).1 = 0 ∨ leftF p (k + 1) o < (lookTo p o k).2
    · rw [if_pos hc, if_pos (by rcases hc with h | h; exact .inl (hz.2 h); exact .inr (by dsimp only; omega))]
    · rw [if_neg hc, if_neg (by rintro (h | h); exact hc (.inl (hz.1 h)); exact hc (.inr (by dsimp only at h; omega)))]
def lookErr (p : Pc) (o : Int) : Int := if errF p (inB o 0 50) = 0 then (if (truthsF p).length = 1 then 5 else 0) else errF p (inB o 0 50)
def LookPost (p : Pc) (o : Int) (w : World) (e : Ending) (w' : World) : Prop :=
  e = .returned (.tuple #[.int .i64 (if lookErr p o = 0 then ((lookF p o).1 : Int) else 0), .int .i64 (if lookErr p o = 0 then ((lookF p o).2 : Int) else 0), .int .i64 (lookErr p o)]) ∧ Below w.heap.size w w'
set_option maxHeartbeats 6400000 in
set_option maxRecDepth 100000 in
theorem c_Look (pm pv pr : Option Addr) (cm cv cr : Nat) (p : Pc) (o : Int) (w : World) (hp : RdP w pm pv pr p) (hl : LenOk p) :
    Calls Tryz.prog 34 #[.agg #[.slice pm p.ms.length cm, .slice pv p.mv.length cv, .slice pr p.rs.length cr], .int .i64 o] w (LookPost p o w) := by
  obtain ⟨i0, hi0, hzz0, hzz1, hzz2⟩ := info_parts infLk; obtain ⟨w1, e1, HS1, k0, k1, k2, b1⟩ := box3 w (.slice pm p.ms.length cm) (.slice pv p.mv.length cv) (.slice pr p.rs.length cr) 27; have HPW := Lib.hid (fun (W : World) (hb : Below w1.heap.size w1 W) => (hp.below b1).below hb); have HL := Lib.hid hl; have HB := Lib.hid b1; have HSB := Lib.hid (show ∀ W, Below w1.heap.size w1 W → (fun w' => (w'.cell? ⟨w.heap.size, 0, none⟩ = some (.slice pm p.ms.length cm) ∧ w'.cell? ⟨w.heap.size, 1, none⟩ = some (.slice pv p.mv.length cv) ∧ w'.cell? ⟨w.heap.size, 2, none⟩ = some (.slice pr p.rs.length cr))) W from fun W hb => ⟨(hb.cell (lt_of_cellq k0)).trans k0, (hb.cell (lt_of_cellq k1)).trans k1, (hb.cell (lt_of_cellq k2)).trans k2⟩); clear hp hl b1
  go_enter Tryz.func34, Tryz.ntmps34
  go_upto_region 1 with (fail); clear e1 k0 k1 k2; refine Code.wp_mono (Q := fun e a wz => e = .normal ∧ ∃ (bx : Nat) (qa : Option Addr) (na ca : Nat) (qb : Option Addr) (nb cb : Nat) (qc : Option Addr) (nc cc : Nat) (qd : Option Addr) (nd cd : Nat) (er : Int), a = { tmps := #[.agg #[.slice pm p.ms.length cm, .slice pv p.mv.length cv, .slice pr p.rs.length cr], .int .i64 o, .pointer (some ⟨w.heap.size, 0, none⟩), undef, .int .i64 0, .int .i64 0, .int .i64 0, .pointer (some ⟨bx, 0, none⟩), .int .i64 er, undef, undef, undef, .tuple #[.agg #[.slice qa na ca, .slice qb nb cb, .slice qc nc cc, .slice qd nd cd], .int .i64 er], .agg #[.slice pm p.ms.length cm, .slice pv p.mv.length cv, .slice pr p.rs.length cr], .int .i64 o, .bool (inB o 0 50), .tuple #[.agg #[.slice qa na ca, .slice qb nb cb, .slice qc nc cc, .slice qd nd cd], .int .i64 er], .agg #[.slice qa na ca, .slice qb nb cb, .slice qc nc cc, .slice qd nd cd], .int .i64 er, undef, undef, undef, undef, undef, undef, undef, undef, undef, undef, undef, undef, undef, undef, undef, undef, undef, undef, undef, undef, undef, undef, undef, undef, undef, undef, undef, undef, undef, undef, undef, undef], defers := [] } ∧ Hid (wz.heap[bx]? = some (.cells #[.slice qa na ca, .slice qb nb cb, .slice qc nc cc, .slice qd nd cd] 93 (0, 0))) ∧ Hid (AskZ pm pv pr cm cv cr p (inB o 0 50) (.slice qa na ca) (.slice qb nb cb) (.slice qc nc cc) (.slice qd nd cd) er wz) ∧ Hid (Below w1.heap.size w1 wz) ∧ Hid (w1.heap.size ≤ bx)) ?imp ?reg
  case reg =>
    refine wp_region_held_drew (S := (fun w' => (w'.cell? ⟨w.heap.size, 0, none⟩ = some (.slice pm p.ms.length cm) ∧ w'.cell? ⟨w.heap.size, 1, none⟩ = some (.slice pv p.mv.length cv) ∧ w'.cell? ⟨w.heap.size, 2, none⟩ = some (.slice pr p.rs.length cr)))) (by kernel_rfl) (by (try dsimp only); exact HSB.out _ (Below.refl _ _).drew) (fun hHeld => ?_); refine wpAnyH_gen (fun W0 hW0 => ?_); have HB0 : Below w1.heap.size w1 W0 := by rw [hW0]; exact (Below.refl _ _).drew
    clear hW0 hHeld; refine tk 0 rfl (by exact HSB.out _ HB0) ?_; (try simp only [Act.put, ptL]); refine tk 1 rfl (by exact HSB.out _ HB0) ?_; (try simp only [Act.put, ptL]); refine rz2 2 7 rfl rfl (fun K hK => ?_) (fun K hK => ?_)
    · go_simp
      (with_reducible refine (c_inB' o 0 50 W0).mono ?_)
      rintro e W29 ⟨rfl, hbn⟩; have HB29 : Below w1.heap.size w1 W29 := HB0.trans (hbn.mono HB0.size); clear hbn; go_simp; refine kz hK (by exact HSB.out _ HB29) ?_; clear hK K; (try simp only [Act.put, ptL]); clear HB0; refine rz2 3 7 rfl rfl (fun K hK => ?_) (fun K hK => ?_)
      · go_simp
        obtain ⟨WA, hWA⟩ : ∃ WA, WA = W29 := ⟨_, rfl⟩
        (with_reducible refine (c_askedG pm pv pr cm cv cr p (inB o 0 50) W29 (HPW.out _ HB29) HL.out).mono ?_)
        rintro e W30 ⟨qa, na, ca, qb, nb, cb, qc, nc, cc, qd, nd, cd, er, rfl, hmk, hbn⟩; obtain ⟨WB, hWB⟩ : ∃ WB, WB = W30 := ⟨_, rfl⟩; have HQ : ∀ k, WA.heap.size ≤ k → k < WB.heap.size → W30.heap[k]? = WB.heap[k]? := fun k _ _ => by rw [hWB]
        have hqs : WB.heap.size ≤ W30.heap.size := by rw [hWB]; exact Nat.le_refl _
        rw [← hWA, ← hWB] at hmk; clear hWA hWB; have HB30 : Below w1.heap.size w1 W30 := HB29.trans (hbn.mono HB29.size); clear hbn; go_simp; refine kz hK (by exact HSB.out _ HB30) ?_; clear hK K; (try simp only [Act.put, ptL]); clear HB29; refine tk 4 rfl (by exact HSB.out _ HB30) ?_; (try simp only [Act.put, ptL]); refine tk 5 rfl (by exact HSB.out _ HB30) ?_; (try simp only [Act.put, ptL]); refine tk 6 rfl (by exact HSB.out _ HB30) ?_; (try simp only [Act.put, ptL]); refine rz1 7 rfl (fun K hK => ?_); go_simp; refine kz hK (by exact HSB.out _ (HB30.alloc HB30.size _)) ?_; clear hK K; (try simp only [Act.put, ptL]); refine wpAnyH_gen (fun W34 hWn => ?_); have HB34 : Below w1.heap.size w1 W34 := by rw [hWn]; exact HB30.alloc HB30.size _
        have HQ : ∀ k, WA.heap.size ≤ k → k < WB.heap.size → W34.heap[k]? = WB.heap[k]? := fun k h1 h2 => by rw [hWn, Below.heap_alloc _ _ _ (Nat.lt_of_lt_of_le h2 hqs)]; exact HQ k h1 h2
        have hq_x : WB.heap.size ≤ W30.heap.size := hqs; have hqs : WB.heap.size ≤ W34.heap.size := by rw [hWn]; simp; omega
        have hx_x : W34.heap[W30.heap.size]? = some (.cells #[.slice none 0 0, .slice none 0 0, .slice none 0 0, .slice none 0 0] 93) := by rw [hWn]; exact alloc_new _ _
        have hl_x : w1.heap.size ≤ W30.heap.size := HB30.size; clear hWn; obtain ⟨b_x, hb_x⟩ : ∃ b, W30.heap.size = b := ⟨_, rfl⟩; rw [hb_x] at hx_x hl_x hq_x ⊢; clear HB30 hb_x; refine rz1 8 rfl (fun K hK => ?_); refine set4K W34 b_x 93 _ _ _ _ (.slice qa na ca) (.slice qb nb cb) (.slice qc nc cc) (.slice qd nd cd) hx_x (fun wa35 wb35 wc35 W35 sa sb sc sd ca0 fa0 ca1 fa1 ca2 fa2 ca3 fa3 hx4 hxk HZs hxb => ?_); have HB35 : Below w1.heap.size w1 W35 := hxb w1 w1.heap.size hl_x HB34; have hx_x := hx4; have HQ : ∀ k, WA.heap.size ≤ k → k < WB.heap.size → W35.heap[k]? = WB.heap[k]? := fun k h1 h2 => (hxk k (by omega)).trans (HQ k h1 h2)
        have hqs : WB.heap.size ≤ W35.heap.size := by rw [HZs.out]; exact hqs
        clear hx4 hxk hxb HZs; go_simp; refine kz hK (by exact HSB.out _ HB35) ?_; clear hK K; (try simp only [Act.put, ptL]); clear ca0 ca1 ca2 ca3 fa0 fa1 fa2 fa3 sa sb sc sd HB34; refine tk 9 rfl (by exact HSB.out _ HB35) ?_; (try simp only [Act.put, ptL]); refine wpAnyH_done (by kernel_rfl) ?_ _; obtain ⟨wz, hwz⟩ : ∃ wz, wz = W35 := ⟨_, rfl⟩; subst hwz; have HBZ := HB35; clear HB35; exact ⟨rfl, _, _, _, _, _, _, _, _, _, _, _, _, _, _, rfl, Lib.hid hx_x, Lib.hid (by exact hmk.out.at HQ), Lib.hid HBZ, Lib.hid hl_x⟩
      · go_simp
        refine kz hK (by exact HSB.out _ (HB29.alloc HB29.size _)) ?_; clear hK K; (try simp only [Act.put, ptL]); refine wpAnyH_gen (fun W37 hWn => ?_); have HB37 : Below w1.heap.size w1 W37 := by rw [hWn]; exact HB29.alloc HB29.size _
        have hx_x : W37.heap[W29.heap.size]? = some (.cells #[.slice none 0 0, .slice none 0 0, .slice none 0 0, .slice none 0 0] 93) := by rw [hWn]; exact alloc_new _ _
        have hl_x : w1.heap.size ≤ W29.heap.size := HB29.size; clear hWn; obtain ⟨b_x, hb_x⟩ : ∃ b, W29.heap.size = b := ⟨_, rfl⟩; rw [hb_x] at hx_x hl_x ⊢; clear HB29 hb_x; refine rz1 3 rfl (fun K hK => ?_); go_simp; obtain ⟨WA, hWA⟩ : ∃ WA, WA = W37 := ⟨_, rfl⟩; have hq_x : b_x < WA.heap.size := by rw [hWA]; exact block_lt hx_x
        (with_reducible refine (c_askedG pm pv pr cm cv cr p (inB o 0 50) W37 (HPW.out _ HB37) HL.out).mono ?_)
        rintro e W38 ⟨qa, na, ca, qb, nb, cb, qc, nc, cc, qd, nd, cd, er, rfl, hmk, hbn⟩; obtain ⟨WB, hWB⟩ : ∃ WB, WB = W38 := ⟨_, rfl⟩; have HQ : ∀ k, WA.heap.size ≤ k → k < WB.heap.size → W38.heap[k]? = WB.heap[k]? := fun k _ _ => by rw [hWB]
        have hqs : WB.heap.size ≤ W38.heap.size := by rw [hWB]; exact Nat.le_refl _
        rw [← hWA, ← hWB] at hmk; clear hWA hWB; have HB38 : Below w1.heap.size w1 W38 := HB37.trans (hbn.mono HB37.size); have hx_x : W38.heap[b_x]? = some (.cells #[.slice none 0 0, .slice none 0 0, .slice none 0 0, .slice none 0 0] 93) := (hbn.block _ (block_lt hx_x)).trans hx_x; clear hbn; go_simp; refine kz hK (by exact HSB.out _ HB38) ?_; clear hK K; (try simp only [Act.put, ptL]); clear HB37; refine tk 4 rfl (by exact HSB.out _ HB38) ?_; (try simp only [Act.put, ptL]); refine tk 5 rfl (by exact HSB.out _ HB38) ?_; (try simp only [Act.put, ptL]); refine tk 6 rfl (by exact HSB.out _ HB38) ?_; (try simp only [Act.put, ptL]); refine rz1 8 rfl (fun K hK => ?_); refine set4K W38 b_x 93 _ _ _ _ (.slice qa na ca) (.slice qb nb cb) (.slice qc nc cc) (.slice qd nd cd) hx_x (fun wa42 wb42 wc42 W42 sa sb sc sd ca0 fa0 ca1 fa1 ca2 fa2 ca3 fa3 hx4 hxk HZs hxb => ?_); have HB42 : Below w1.heap.size w1 W42 := hxb w1 w1.heap.size hl_x HB38
        have hx_x := hx4; have HQ : ∀ k, WA.heap.size ≤ k → k < WB.heap.size → W42.heap[k]? = WB.heap[k]? := fun k h1 h2 => (hxk k (by omega)).trans (HQ k h1 h2)
        have hqs : WB.heap.size ≤ W42.heap.size := by rw [HZs.out]; exact hqs
        clear hx4 hxk hxb HZs; go_simp; refine kz hK (by exact HSB.out _ HB42) ?_; clear hK K; (try simp only [Act.put, ptL]); clear ca0 ca1 ca2 ca3 fa0 fa1 fa2 fa3 sa sb sc sd HB38; refine tk 9 rfl (by exact HSB.out _ HB42) ?_; (try simp only [Act.put, ptL]); refine wpAnyH_done (by kernel_rfl) ?_ _; obtain ⟨wz, hwz⟩ : ∃ wz, wz = W42 := ⟨_, rfl⟩; subst hwz; have HBZ := HB42; clear HB42; exact ⟨rfl, _, _, _, _, _, _, _, _, _, _, _, _, _, _, rfl, Lib.hid hx_x, Lib.hid (by exact hmk.out.at HQ), Lib.hid HBZ, Lib.hid hl_x⟩
    · go_simp
      refine kz hK (by exact HSB.out _ (HB0.alloc HB0.size _)) ?_; clear hK K; (try simp only [Act.put, ptL]); refine wpAnyH_gen (fun W44 hWn => ?_); have HB44 : Below w1.heap.size w1 W44 := by rw [hWn]; exact HB0.alloc HB0.size _
      have hx_x : W44.heap[W0.heap.size]? = some (.cells #[.slice none 0 0, .slice none 0 0, .slice none 0 0, .slice none 0 0] 93) := by rw [hWn]; exact alloc_new _ _
      have hl_x : w1.heap.size ≤ W0.heap.size := HB0.size; clear hWn; obtain ⟨b_x, hb_x⟩ : ∃ b, W0.heap.size = b := ⟨_, rfl⟩; rw [hb_x] at hx_x hl_x ⊢; clear HB0 hb_x; refine rz1 2 rfl (fun K hK => ?_); go_simp
      (with_reducible refine (c_inB' o 0 50 W44).mono ?_)
      rintro e W45 ⟨rfl, hbn⟩; have HB45 : Below w1.heap.size w1 W45 := HB44.trans (hbn.mono HB44.size); have hx_x : W45.heap[b_x]? = some (.cells #[.slice none 0 0, .slice none 0 0, .slice none 0 0, .slice none 0 0] 93) := (hbn.block _ (block_lt hx_x)).trans hx_x; clear hbn; go_simp; refine kz hK (by exact HSB.out _ HB45) ?_; clear hK K; (try simp only [Act.put, ptL]); clear HB44; refine rz1 3 rfl (fun K hK => ?_); go_simp; obtain ⟨WA, hWA⟩ : ∃ WA, WA = W45 := ⟨_, rfl⟩; have hq_x : b_x < WA.heap.size := by rw [hWA]; exact block_lt hx_x
      (with_reducible refine (c_askedG pm pv pr cm cv cr p (inB o 0 50) W45 (HPW.out _ HB45) HL.out).mono ?_)
      rintro e W46 ⟨qa, na, ca, qb, nb, cb, qc, nc, cc, qd, nd, cd, er, rfl, hmk, hbn⟩; obtain ⟨WB, hWB⟩ : ∃ WB, WB = W46 := ⟨_, rfl⟩; have HQ : ∀ k, WA.heap.size ≤ k → k < WB.heap.size → W46.heap[k]? = WB.heap[k]? := fun k _ _ => by rw [hWB]
      have hqs : WB.heap.size ≤ W46.heap.size := by rw [hWB]; exact Nat.le_refl _
      rw [← hWA, ← hWB] at hmk; clear hWA hWB; have HB46 : Below w1.heap.size w1 W46 := HB45.trans (hbn.mono HB45.size); have hx_x : W46.heap[b_x]? = some (.cells #[.slice none 0 0, .slice none 0 0, .slice none 0 0, .slice none 0 0] 93) := (hbn.block _ (block_lt hx_x)).trans hx_x; clear hbn; go_simp; refine kz hK (by exact HSB.out _ HB46) ?_; clear hK K; (try simp only [Act.put, ptL]); clear HB45; refine tk 4 rfl (by exact HSB.out _ HB46) ?_; (try simp only [Act.put, ptL]); refine tk 5 rfl (by exact HSB.out _ HB46) ?_; (try simp only [Act.put, ptL]); refine tk 6 rfl (by exact HSB.out _ HB46) ?_; (try simp only [Act.put, ptL]); refine rz1 8 rfl (fun K hK => ?_); refine set4K W46 b_x 93 _ _ _ _ (.slice qa na ca) (.slice qb nb cb) (.slice qc nc cc) (.slice qd nd cd) hx_x (fun wa50 wb50 wc50 W50 sa sb sc sd ca0 fa0 ca1 fa1 ca2 fa2 ca3 fa3 hx4 hxk HZs hxb => ?_); have HB50 : Below w1.heap.size w1 W50 := hxb w1 w1.heap.size hl_x HB46
      have hx_x := hx4; have HQ : ∀ k, WA.heap.size ≤ k → k < WB.heap.size → W50.heap[k]? = WB.heap[k]? := fun k h1 h2 => (hxk k (by omega)).trans (HQ k h1 h2)
      have hqs : WB.heap.size ≤ W50.heap.size := by rw [HZs.out]; exact hqs
      clear hx4 hxk hxb HZs; go_simp; refine kz hK (by exact HSB.out _ HB50) ?_; clear hK K; (try simp only [Act.put, ptL]); clear ca0 ca1 ca2 ca3 fa0 fa1 fa2 fa3 sa sb sc sd HB46; refine tk 9 rfl (by exact HSB.out _ HB50) ?_; (try simp only [Act.put, ptL]); refine wpAnyH_done (by kernel_rfl) ?_ _; obtain ⟨wz, hwz⟩ : ∃ wz, wz = W50 := ⟨_, rfl⟩; subst hwz; have HBZ := HB50; clear HB50; exact ⟨rfl, _, _, _, _, _, _, _, _, _, _, _, _, _, _, rfl, Lib.hid hx_x, Lib.hid (by exact hmk.out.at HQ), Lib.hid HBZ, Lib.hid hl_x⟩
  case imp =>
    rintro e a wz ⟨rfl, bx, qa, na, ca, qb, nb, cb, qc, nc, cc, qd, nd, cd, er, rfl, HX, HAZ, HBZ, HLX⟩
    rcases HAZ.out with ⟨hf, rfl, ea, eb, ec, ed⟩ | ⟨hf, ht, rfl, ea, eb, ec, ed⟩ | ⟨hpo, hfi, ht, rfl, ea, eb, ec, g, cap, ed, hq⟩
    all_goals
      obtain ⟨rfl, rfl, rfl⟩ := sl_inj ea; obtain ⟨rfl, rfl, rfl⟩ := sl_inj eb; obtain ⟨rfl, rfl, rfl⟩ := sl_inj ec; obtain ⟨rfl, rfl, rfl⟩ := sl_inj ed; clear ea eb ec ed
    · have HF := Lib.hid hf
      have HBB := Lib.hid (HB.out.trans (HBZ.out.mono HB.out.size)); clear hf; go_wp2; refine bodyPost_ret (v := .tuple #[.int .i64 0, .int .i64 0, .int .i64 2]) (by simp [results, Tryz.results34, go_sem]) rfl ⟨?_, HBB.out⟩; have hle : lookErr p o = 2 := by unfold lookErr; rw [err_bad HF.out, if_neg (by decide)]
      rw [hle, if_neg (by decide), if_neg (by decide)]
    · have HF := Lib.hid (And.intro hf ht)
      have HBB := Lib.hid (HB.out.trans (HBZ.out.mono HB.out.size)); clear hf ht; go_wp2; refine bodyPost_ret (v := .tuple #[.int .i64 0, .int .i64 0, .int .i64 7]) (by simp [results, Tryz.results34, go_sem]) rfl ⟨?_, HBB.out⟩; have hle : lookErr p o = 7 := by unfold lookErr; rw [err_rule HF.out.1 HF.out.2, if_neg (by decide)]
      rw [hle, if_neg (by decide), if_neg (by decide)]
    · have hir := inB_iff.1 hfi
      have HE := Lib.hid (err_good (pieceB_iff.2 hpo) hfi ht); have HBY := Lib.hid (HB.out.trans (HBZ.out.mono HB.out.size)); have hml := (piece_len hpo).1; obtain ⟨x0, x1, x2, x3⟩ := cells4 HX.out; have HLF := Lib.hid (fun (W : World) (hb : Below wz.heap.size wz W) (k : Nat) (hk : k + 1 ≤ p.ms.length) => c_left pm pv pr cm cv cr p (some ⟨g, 0, none⟩) cap (k + 1) o W (hq.below hb) hpo hk hir); have HXC := Lib.hid (cells4 HX.out); have HT := Lib.hid (truths_le hpo); clear hq hpo ht hfi hir HSB HPW HL
      by_cases h1 : (truthsF p).length = 1
      · have hb1 : (((truthsF p).length : Int) == 1) = true := by rw [h1]; rfl
        have H1 := Lib.hid h1; clear h1; go_wp2; refine bodyPost_ret (v := .tuple #[.int .i64 0, .int .i64 0, .int .i64 5]) (by simp [results, Tryz.results34, go_sem]) rfl ⟨?_, HBY.out⟩; have hle : lookErr p o = 5 := by unfold lookErr; rw [if_pos HE.out, if_pos H1.out]
        rw [hle, if_neg (by decide), if_neg (by decide)]
      · have hb1 : (((truthsF p).length : Int) == 1) = false := by rw [beq_eq_false_iff_ne]; omega
        have H1 := Lib.hid h1; clear h1; go_wp2; clear x0 x1 x2 x3
        go_loopw [9, 30] (fun v i wr => ∃ k : Nat, k ≤ p.ms.length ∧ i = .int .i64 k ∧ Hid (wr.ownsRow wz.heap.size 126 2 v k (spV (lookL p o k))) ∧ Hid (Below wz.heap.size wz wr)) (fun _ i _ => p.ms.length - (intOf i).toNat)
        case atStart => exact ⟨0, by omega, rfl, Lib.hid (World.ownsRow_nil _ _ _ _), Lib.hid (Below.refl _ _)⟩
        case round =>
        obtain ⟨k, hk, rfl, HV, HY⟩ := hrel
        by_cases hlt : k < p.ms.length
        · have hki : (k : Int) < (p.ms.length : Int) := by omega
          have hwk : IntKind.i64.wrap ((k : Int) + 1) = (k : Int) + 1 := w64 _ (by omega) (by omega); have hcl : Calls Tryz.prog 81 #[.agg #[.slice pm p.ms.length cm, .slice pv p.mv.length cv, .slice pr p.rs.length cr, .slice (some ⟨g, 0, none⟩) (truthsF p).length cap], .int .i64 ((k : Int) + 1), .int .i64 o] wr fun e w' => e = .returned (.int .i64 (leftF p (k + 1) o : Nat)) ∧ Below wr.heap.size wr w' := HLF.out wr HY.out k hlt
          obtain ⟨x0, x1, x2, x3⟩ := HXC.out; have y0 := (HY.out.cell (lt_of_cellq x0)).trans x0; have y1 := (HY.out.cell (lt_of_cellq x1)).trans x1; have y2 := (HY.out.cell (lt_of_cellq x2)).trans x2; have y3 := (HY.out.cell (lt_of_cellq x3)).trans x3; have HKB := Lib.hid (show k ≤ 4 by omega); clear x0 x1 x2 x3; go_wp2_with fail; refine hcl.mono ?_; clear hcl; rintro e w6 ⟨rfl, b6⟩; have HVo := Lib.hid (own_kept HV.out b6); have HYo := Lib.hid (HY.out.trans (b6.mono HY.out.size)); clear b6 y0 y1 y2 y3; go_wp2_with (at_builtin; refine wpList_append_own _ rfl _ _ 124 rfl wz.heap.size 126 i0 _ 2 16 Tryz.underlying124 hi0 hzz0 hzz1 hzz2 rfl (by decide) _ _ _ rfl (HVo.out.alloc _) ⟨w6.heap.size, 0, none⟩ 1 1 [.int .i64 ((k : Int) + 1), .int .i64 (leftF p (k + 1) o : Nat)] rfl rfl ?c1 ?c2 ?c3 ?c4 ?c5 ?_)
          case c1 => exact news_of _ _ _
          case c2 => intro u hu; simp at hu; rcases hu with rfl | rfl <;> rfl
          case c3 => have := HKB.out; unfold maxLen; omega
          case c4 => have := HKB.out; omega
          case c5 => have := HYo.out.size; simp; omega
          intro v' w11 hown' hgrow _; have HV11 := Lib.hid hown'; have HY11 := Lib.hid ((HYo.out.alloc HYo.out.size _).grown hgrow (by have := HYo.out.size; simp; omega) (fun j hj => (HVo.out.lt j hj).1)); clear hown' hgrow; go_wp2; go_roundw
          case rel =>
            refine ⟨k + 1, by omega, by go_num, Lib.hid ?_, HY11⟩; rw [lookL_succ, spV_append, spV_one]; exact HV11.out
          case measure => simp [intOf]; omega
        · obtain rfl : k = p.ms.length := by omega
          have hki : ¬ ((p.ms.length : Nat) : Int) < (p.ms.length : Int) := by omega
          obtain ⟨q, cq, rfl, hrs⟩ := rds_of_own (ss := lookL p o p.ms.length) (by rw [lookL_len]; exact HV.out); have hbl := c_bestLook q cq (lookL p o p.ms.length) wr hrs (by rw [lookL_len]; omega); rw [lookL_len] at hbl ⊢; rw [bst_look p o _ _ (Nat.le_refl _)] at hbl; obtain ⟨A, hA⟩ : ∃ A, (lookTo p o p.ms.length).1 = A := ⟨_, rfl⟩; obtain ⟨B, hB⟩ : ∃ B, (lookTo p o p.ms.length).2 = B := ⟨_, rfl⟩; have HAB := Lib.hid (show (lookF p o).1 = A ∧ (lookF p o).2 = B from ⟨hA, hB⟩); rw [hA, hB] at hbl; clear hA hB hrs; go_wp2_with fail; refine hbl.mono ?_; clear hbl; rintro e w6 ⟨rfl, b6⟩; obtain ⟨w7, e7, HS7, y0, y1, b7⟩ := box2 w6 (.int .i64 A) (.int .i64 B) 126; have HBB := Lib.hid (HBY.out.trans ((HY.out.trans ((b6.trans (b7.mono b6.size)).mono HY.out.size)).mono HBY.out.size)); clear b6 b7; go_upto_region 13 with (fail); clear e7; refine wp_region_quiet_lit (by kernel_rfl) (by kernel_rfl) ?_; (repeat (first | ((with_reducible first | apply wq_ix Tryz.underlying24 szI | apply wq_ix Tryz.underlying38 szSp | apply wq_ix Tryz.underlying23 szM | apply wq_ix Tryz.underlying25 szR | apply wq_ix Tryz.underlying51 szL | apply wq_ix Tryz.underlying91 szT); (focus rfl); (focus rfl); (focus rfl); (focus omega); (try simp only [Nat.mul_one]); go_frame) | ((with_reducible first | apply wq_ld agI | apply wq_ld agB | apply wq_ld agLI | apply wq_ld agLS | apply wq_ld agLM | apply wq_ld agLR | apply wq_ld agLL | apply wq_ld agLT); (focus rfl); (focus rfl); (focus (rintro _ ⟨_, rfl⟩; first | exact y0 | exact y1)); go_frame) | ((with_reducible first | apply wq_add | apply wq_sub | apply wq_mul | apply wq_rem); (focus rfl); (focus rfl); (focus rfl); (focus omega); (focus omega); go_frame) | ((with_reducible first | apply wq_eql | apply wq_neq | apply wq_lss | apply wq_leq | apply wq_gtr | apply wq_geq | apply wq_max2 | apply wq_min2); (focus rfl); (focus rfl); (focus rfl); go_frame) | ((with_reducible first | apply wq_max3 | apply wq_min3); (focus rfl); (focus rfl); (focus rfl); (focus rfl); go_frame) | go_big_quiet_step (fail))); refine wpQuiet_nil ?_; rintro _ ⟨nq, rfl⟩
          go_wp2; refine bodyPost_ret (v := .tuple #[.int .i64 A, .int .i64 B, .int .i64 0]) (by simp [results, Tryz.results34, go_sem]) rfl ⟨?_, below_drewN HBB.out _⟩; have hle : lookErr p o = 0 := by unfold lookErr; rw [if_pos HE.out, if_neg H1.out]
          rw [hle, if_pos rfl, if_pos rfl, HAB.out.1, HAB.out.2]
end Go.Proofs.YtbknfddaoolagaaGreatDoor
end
