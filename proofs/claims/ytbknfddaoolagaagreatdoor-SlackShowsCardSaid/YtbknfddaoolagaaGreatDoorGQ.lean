/-
  asked, in one ending for all arguments.
  Shows: contract, all arguments (printed by slkask.py)
  Whether an arbor surely is near to a place after a move: contract.
-/
import Derived.Test.YtbknfddaoolagaaGreatDoorGP
import Derived.Test.YtbknfddaoolagaaGreatDoorGH
section
namespace Go.Proofs.YtbknfddaoolagaaGreatDoor
open Go Go.RowKit Go.Proofs
set_option linter.unusedVariables false
attribute [local go_sem] imax2 imin2

def AskR (pm pv pr : Option Addr) (cm cv cr : Nat) (p : Pc) (fine : Bool) (a b c d : Value) (er : Int) (w w' : World) : Prop :=
  ((pieceB p && fine) = false ∧ er = 2 ∧ a = .slice none 0 0 ∧ b = .slice none 0 0 ∧ c = .slice none 0 0 ∧ d = .slice none 0 0) ∨ ((pieceB p && fine) = true ∧ truthsF p = [] ∧ er = 7 ∧ a = .slice none 0 0 ∧ b = .slice none 0 0 ∧ c = .slice none 0 0 ∧ d = .slice none 0 0) ∨
   ((pieceB p && fine) = true ∧ truthsF p ≠ [] ∧ er = 0 ∧ a = .slice pm p.ms.length cm ∧ b = .slice pv p.mv.length cv ∧ c = .slice pr p.rs.length cr ∧ ∃ g cap, d = .slice (some ⟨g, 0, none⟩) (truthsF p).length cap ∧ ∀ W : World, (∀ k, w.heap.size ≤ k → k < w'.heap.size → W.heap[k]? = w'.heap[k]?) → RdQ W (some ⟨g, 0, none⟩) p (truthsF p))
def AskZ (pm pv pr : Option Addr) (cm cv cr : Nat) (p : Pc) (fine : Bool) (a b c d : Value) (er : Int) (W : World) : Prop :=
  ((pieceB p && fine) = false ∧ er = 2 ∧ a = .slice none 0 0 ∧ b = .slice none 0 0 ∧ c = .slice none 0 0 ∧ d = .slice none 0 0) ∨ ((pieceB p && fine) = true ∧ truthsF p = [] ∧ er = 7 ∧ a = .slice none 0 0 ∧ b = .slice none 0 0 ∧ c = .slice none 0 0 ∧ d = .slice none 0 0) ∨
   (PieceOk p ∧ fine = true ∧ truthsF p ≠ [] ∧ er = 0 ∧ a = .slice pm p.ms.length cm ∧ b = .slice pv p.mv.length cv ∧ c = .slice pr p.rs.length cr ∧ ∃ g cap, d = .slice (some ⟨g, 0, none⟩) (truthsF p).length cap ∧ RdQ W (some ⟨g, 0, none⟩) p (truthsF p))
theorem AskR.at {pm pv pr : Option Addr} {cm cv cr : Nat} {p : Pc} {fine : Bool} {a b c d : Value} {er : Int} {w w' W : World} (h : AskR pm pv pr cm cv cr p fine a b c d er w w') (hW : ∀ k, w.heap.size ≤ k → k < w'.heap.size → W.heap[k]? = w'.heap[k]?) : AskZ pm pv pr cm cv cr p fine a b c d er W := by
  rcases h with h | h | ⟨h1, h2, h3, h4, h5, h6, g, cap, h7, h8⟩
  · exact .inl h
  · exact .inr (.inl h)
  · rw [Bool.and_eq_true] at h1
    exact .inr (.inr ⟨pieceB_iff.1 h1.1, h1.2, h2, h3, h4, h5, h6, g, cap, h7, h8 W hW⟩)
theorem sl_inj {a a' : Option Addr} {n n' c c' : Nat} (h : Value.slice a n c = .slice a' n' c') : a' = a ∧ n' = n ∧ c' = c := by
  injection h with h1 h2 h3
  exact ⟨h1.symm, h2.symm, h3.symm⟩
theorem c_askedG (pm pv pr : Option Addr) (cm cv cr : Nat) (p : Pc) (fine : Bool) (w : World) (hp : RdP w pm pv pr p) (hl : LenOk p) :
    Calls Tryz.prog 49 #[.agg #[.slice pm p.ms.length cm, .slice pv p.mv.length cv, .slice pr p.rs.length cr], .bool fine] w fun e w' => ∃ (qa : Option Addr) (na ca : Nat) (qb : Option Addr) (nb cb : Nat) (qc : Option Addr) (nc cc : Nat) (qd : Option Addr) (nd cd : Nat) (er : Int), e = .returned (.tuple #[.agg #[.slice qa na ca, .slice qb nb cb, .slice qc nc cc, .slice qd nd cd], .int .i64 er]) ∧ Hid (AskR pm pv pr cm cv cr p fine (.slice qa na ca) (.slice qb nb cb) (.slice qc nc cc) (.slice qd nd cd) er w w') ∧ Below w.heap.size w w' := by
  refine (c_asked pm pv pr cm cv cr p fine w hp hl).mono ?_; rintro e w' ⟨⟨h1, rfl⟩ | ⟨h1, h2, rfl⟩ | ⟨h1, h2, g, cap, rfl, h3⟩, hb⟩
  · exact ⟨_, _, _, _, _, _, _, _, _, _, _, _, _, rfl, Lib.hid (.inl ⟨h1, rfl, rfl, rfl, rfl, rfl⟩), hb⟩
  · exact ⟨_, _, _, _, _, _, _, _, _, _, _, _, _, rfl, Lib.hid (.inr (.inl ⟨h1, h2, rfl, rfl, rfl, rfl, rfl⟩)), hb⟩
  · exact ⟨_, _, _, _, _, _, _, _, _, _, _, _, _, rfl, Lib.hid (.inr (.inr ⟨h1, h2, rfl, rfl, rfl, rfl, g, cap, rfl, h3⟩)), hb⟩
end Go.Proofs.YtbknfddaoolagaaGreatDoor
end

section
namespace Go.Proofs.YtbknfddaoolagaaGreatDoor
set_option linter.unusedSimpArgs false
open Go Go.RowKit Go.Proofs
set_option linter.unusedVariables false
attribute [local go_sem] imax2 imin2

def errF (p : Pc) (fine : Bool) : Int := if (pieceB p && fine) = false then 2 else if truthsF p = [] then 7 else 0
def okI (p : Pc) (fine : Bool) (x : Int) : Int := if errF p fine = 0 then x else 0
def AnsS (p : Pc) (fine : Bool) (S : Int × Int) : Ending := .returned (.tuple #[.agg #[.int .i64 (okI p fine S.1), .int .i64 (okI p fine S.2)], .int .i64 (errF p fine)])
def SpanPost (p : Pc) (fine : Bool) (S : Int × Int) (w : World) (e : Ending) (w' : World) : Prop := e = AnsS p fine S ∧ Below w.heap.size w w'
theorem err_bad {p : Pc} {fine : Bool} (h : (pieceB p && fine) = false) : errF p fine = 2 := by unfold errF; rw [if_pos h]
theorem err_rule {p : Pc} {fine : Bool} (h : (pieceB p && fine) = true) (ht : truthsF p = []) : errF p fine = 7 := by unfold errF; rw [if_neg (by rw [h]; decide), if_pos ht]
theorem err_good {p : Pc} {fine : Bool} (h1 : pieceB p = true) (h2 : fine = true) (ht : truthsF p ≠ []) : errF p fine = 0 := by unfold errF; rw [if_neg (by rw [h1, h2]; decide), if_neg ht]
theorem ok_bad {p : Pc} {fine : Bool} (x : Int) (h : (pieceB p && fine) = false) : okI p fine x = 0 := by unfold okI; rw [err_bad h]; rfl
theorem ok_rule {p : Pc} {fine : Bool} (x : Int) (h : (pieceB p && fine) = true) (ht : truthsF p = []) : okI p fine x = 0 := by unfold okI; rw [err_rule h ht]; rfl
theorem ok_good {p : Pc} {fine : Bool} (x : Int) (h1 : pieceB p = true) (h2 : fine = true) (ht : truthsF p ≠ []) : okI p fine x = x := by unfold okI; rw [err_good h1 h2 ht]; rfl
theorem ans_bad {p : Pc} {fine : Bool} {S : Int × Int} (h : (pieceB p && fine) = false) : (Ending.returned (.tuple #[.agg #[.int .i64 0, .int .i64 0], .int .i64 2])) = AnsS p fine S := by unfold AnsS; rw [err_bad h, ok_bad _ h, ok_bad _ h]
theorem ans_rule {p : Pc} {fine : Bool} {S : Int × Int} (h : (pieceB p && fine) = true) (ht : truthsF p = []) : (Ending.returned (.tuple #[.agg #[.int .i64 0, .int .i64 0], .int .i64 7])) = AnsS p fine S := by unfold AnsS; rw [err_rule h ht, ok_rule _ h ht, ok_rule _ h ht]
theorem ans_good {p : Pc} {fine : Bool} {S : Int × Int} (h1 : pieceB p = true) (h2 : fine = true) (ht : truthsF p ≠ []) : (Ending.returned (.tuple #[.agg #[.int .i64 S.1, .int .i64 S.2], .int .i64 0])) = AnsS p fine S := by unfold AnsS; rw [err_good h1 h2 ht, ok_good _ h1 h2 ht, ok_good _ h1 h2 ht]
theorem gl_mem {ts : List (List Int)} {k : Nat} (h : k < ts.length) : gl ts k ∈ ts := by
  have e : gl ts k = ts[k] := by unfold gl; simp [h]
  rw [e]; exact List.getElem_mem h

set_option maxHeartbeats 3200000 in
set_option maxRecDepth 100000 in
theorem c_Shows (pm pv pr : Option Addr) (cm cv cr : Nat) (p : Pc) (h : Hd) (pe : Option Addr) (ce : Nat) (w : World) (hp : RdP w pm pv pr p) (hl : LenOk p) (hh : RdS w pe h.er) (hle : h.er.length ≤ 1000000) :
    Calls Tryz.prog 14 #[.agg #[.slice pm p.ms.length cm, .slice pv p.mv.length cv, .slice pr p.rs.length cr], hdV h pe ce] w (SpanPost p (handB p.ms.length h) (showsF p h) w) := by
  have hc := fun w hh => c_isHand pm pv pr cm cv cr p h pe ce w hh hle
  unfold hdV at hc ⊢; obtain ⟨w1, e1, HS1, k0, k1, k2, b1⟩ := box3 w (.slice pm p.ms.length cm) (.slice pv p.mv.length cv) (.slice pr p.rs.length cr) 27; obtain ⟨w2, e2, HS2, q0, q1, q2, q3, b2⟩ := box4 w1 (.int .i64 h.arb) (.int .i64 h.num) (.int .i64 h.den) (.slice pe h.er.length ce) 40; have kr := alloc_new w2 (.cells #[.int .i64 0, .int .i64 0] 44); obtain ⟨w3, e3, HS3, _, _, b3⟩ := box2 w2 (.int .i64 0) (.int .i64 0) 44; rw [e3] at kr; have b23 := b2.trans (b3.mono b2.size); have b13 := b1.trans (b23.mono b1.size); have k0 := (b23.cell (lt_of_cellq k0)).trans k0; have k1 := (b23.cell (lt_of_cellq k1)).trans k1; have k2 := (b23.cell (lt_of_cellq k2)).trans k2; have q0 := (b3.cell (lt_of_cellq q0)).trans q0; have q1 := (b3.cell (lt_of_cellq q1)).trans q1; have q2 := (b3.cell (lt_of_cellq q2)).trans q2; have q3 := (b3.cell (lt_of_cellq q3)).trans q3; have HPW := Lib.hid (fun (W : World) (hb : Below w3.heap.size w3 W) => (hp.below b13).below hb)
  have HEW := Lib.hid (fun (W : World) (hb : Below w3.heap.size w3 W) => (hh.below b13).below hb); have HL := Lib.hid hl; have HC := Lib.hid hc; have HB := Lib.hid b13; have HKR := Lib.hid kr; have HZ := Lib.hid (show w.heap.size < w1.heap.size ∧ w1.heap.size < w2.heap.size ∧ w2.heap.size < w3.heap.size from ⟨by have := HS1.out; omega, by have := HS2.out; omega, by have := HS3.out; omega⟩); have HRH := Lib.hid (fun (W : World) (hb : Below w3.heap.size w3 W) => (⟨(hb.cell (lt_of_cellq q0)).trans q0, (hb.cell (lt_of_cellq q1)).trans q1, (hb.cell (lt_of_cellq q2)).trans q2, (hb.cell (lt_of_cellq q3)).trans q3, (hh.below b13).below hb⟩ : RdH W w1.heap.size h pe ce)); have HSB := Lib.hid (show ∀ W, Below w3.heap.size w3 W → (fun w' => (w'.cell? ⟨w.heap.size, 0, none⟩ = some (.slice pm p.ms.length cm) ∧ w'.cell? ⟨w.heap.size, 1, none⟩ = some (.slice pv p.mv.length cv) ∧ w'.cell? ⟨w.heap.size, 2, none⟩ = some (.slice pr p.rs.length cr)) ∧ w'.cell? ⟨w1.heap.size, 0, none⟩ = some (.int .i64 h.arb) ∧ w'.cell? ⟨w1.heap.size, 1, none⟩ = some (.int .i64 h.num) ∧ w'.cell? ⟨w1.heap.size, 2, none⟩ = some (.int .i64 h.den) ∧ w'.cell? ⟨w1.heap.size, 3, none⟩ = some (.slice pe h.er.length ce)) W from fun W hb => ⟨⟨(hb.cell (lt_of_cellq k0)).trans k0, (hb.cell (lt_of_cellq k1)).trans k1, (hb.cell (lt_of_cellq k2)).trans k2⟩, (hb.cell (lt_of_cellq q0)).trans q0, (hb.cell (lt_of_cellq q1)).trans q1, (hb.cell (lt_of_cellq q2)).trans q2, (hb.cell (lt_of_cellq q3)).trans q3⟩)
  clear hp hh hl hc b1 b2 b3 b23 b13 kr
  go_enter Tryz.func14, Tryz.ntmps14
  go_upto_region 1 with (fail); clear e1 e2 e3 k0 k1 k2 q0 q1 q2 q3; refine Code.wp_mono (Q := fun e a wz => e = .normal ∧ ∃ (bx : Nat) (qa : Option Addr) (na ca : Nat) (qb : Option Addr) (nb cb : Nat) (qc : Option Addr) (nc cc : Nat) (qd : Option Addr) (nd cd : Nat) (er : Int), a = { tmps := #[.agg #[.slice pm p.ms.length cm, .slice pv p.mv.length cv, .slice pr p.rs.length cr], .agg #[.int .i64 h.arb, .int .i64 h.num, .int .i64 h.den, .slice pe h.er.length ce], .pointer (some ⟨w.heap.size, 0, none⟩), .pointer (some ⟨w1.heap.size, 0, none⟩), .pointer (some ⟨w2.heap.size, 0, none⟩), .int .i64 0, .pointer (some ⟨bx, 0, none⟩), .int .i64 er, .tuple #[.agg #[.slice qa na ca, .slice qb nb cb, .slice qc nc cc, .slice qd nd cd], .int .i64 er], .agg #[.slice pm p.ms.length cm, .slice pv p.mv.length cv, .slice pr p.rs.length cr], .agg #[.slice pm p.ms.length cm, .slice pv p.mv.length cv, .slice pr p.rs.length cr], .agg #[.int .i64 h.arb, .int .i64 h.num, .int .i64 h.den, .slice pe h.er.length ce], .bool (handB p.ms.length h), .tuple #[.agg #[.slice qa na ca, .slice qb nb cb, .slice qc nc cc, .slice qd nd cd], .int .i64 er], .agg #[.slice qa na ca, .slice qb nb cb, .slice qc nc cc, .slice qd nd cd], .int .i64 er, undef, undef, undef, undef, undef, undef, undef], defers := [] } ∧ Hid (wz.heap[bx]? = some (.cells #[.slice qa na ca, .slice qb nb cb, .slice qc nc cc, .slice qd nd cd] 93 (0, 0))) ∧ Hid (AskZ pm pv pr cm cv cr p (handB p.ms.length h) (.slice qa na ca) (.slice qb nb cb) (.slice qc nc cc) (.slice qd nd cd) er wz) ∧ Hid (Below w3.heap.size w3 wz) ∧ Hid (w3.heap.size ≤ bx)) ?imp ?reg
  case reg =>
    refine wp_region_held_drew (S := (fun w' => (w'.cell? ⟨w.heap.size, 0, none⟩ = some (.slice pm p.ms.length cm) ∧ w'.cell? ⟨w.heap.size, 1, none⟩ = some (.slice pv p.mv.length cv) ∧ w'.cell? ⟨w.heap.size, 2, none⟩ = some (.slice pr p.rs.length cr)) ∧ w'.cell? ⟨w1.heap.size, 0, none⟩ = some (.int .i64 h.arb) ∧ w'.cell? ⟨w1.heap.size, 1, none⟩ = some (.int .i64 h.num) ∧ w'.cell? ⟨w1.heap.size, 2, none⟩ = some (.int .i64 h.den) ∧ w'.cell? ⟨w1.heap.size, 3, none⟩ = some (.slice pe h.er.length ce))) (by kernel_rfl) (by (try dsimp only); exact HSB.out _ (Below.refl _ _).drew) (fun hHeld => ?_); refine wpAnyH_gen (fun W0 hW0 => ?_); have HB0 : Below w3.heap.size w3 W0 := by rw [hW0]; exact (Below.refl _ _).drew
    clear hW0 hHeld; refine tj 0 rfl (by exact HSB.out _ HB0) ?_; simp only [Act.put, ptL]; refine tj 1 rfl (by exact HSB.out _ HB0) ?_; simp only [Act.put, ptL]; refine tj 2 rfl (by exact HSB.out _ HB0) ?_; simp only [Act.put, ptL]; refine rz2 3 8 rfl rfl ?_ ?_
    · intro K hK
      go_simp
      (with_reducible refine (HC.out W0 (HEW.out _ HB0)).mono ?_)
      rintro e W4 ⟨rfl, hbn⟩; have HB4 : Below w3.heap.size w3 W4 := HB0.trans (hbn.mono HB0.size); clear hbn; go_simp; refine kz hK (by exact HSB.out _ HB4) ?_; clear hK K; (try simp only [Act.put, ptL]); clear HB0; refine rz2 4 8 rfl rfl ?_ ?_
      · intro K hK
        go_simp; obtain ⟨WA, hWA⟩ : ∃ WA, WA = W4 := ⟨_, rfl⟩
        (with_reducible refine (c_askedG pm pv pr cm cv cr p (handB p.ms.length h) W4 (HPW.out _ HB4) HL.out).mono ?_)
        rintro e W5 ⟨qa, na, ca, qb, nb, cb, qc, nc, cc, qd, nd, cd, er, rfl, hmk, hbn⟩; obtain ⟨WB, hWB⟩ : ∃ WB, WB = W5 := ⟨_, rfl⟩; have HQ : ∀ k, WA.heap.size ≤ k → k < WB.heap.size → W5.heap[k]? = WB.heap[k]? := fun k _ _ => by rw [hWB]
        have hqs : WB.heap.size ≤ W5.heap.size := by rw [hWB]; exact Nat.le_refl _
        rw [← hWA, ← hWB] at hmk; clear hWA hWB; have HB5 : Below w3.heap.size w3 W5 := HB4.trans (hbn.mono HB4.size); clear hbn; go_simp; refine kz hK (by exact HSB.out _ HB5) ?_; clear hK K; (try simp only [Act.put, ptL]); clear HB4; refine tj 5 rfl (by exact HSB.out _ HB5) ?_; simp only [Act.put, ptL]; refine tj 6 rfl (by exact HSB.out _ HB5) ?_; simp only [Act.put, ptL]; refine tj 7 rfl (by exact HSB.out _ HB5) ?_; simp only [Act.put, ptL]; refine rz1 8 rfl ?_; intro K hK; go_simp; refine kz hK (by exact HSB.out _ (HB5.alloc HB5.size _)) ?_; clear hK K; (try simp only [Act.put, ptL]); refine wpAnyH_gen (fun W9 hWn => ?_); have HB9 : Below w3.heap.size w3 W9 := by rw [hWn]; exact HB5.alloc HB5.size _
        have HQ : ∀ k, WA.heap.size ≤ k → k < WB.heap.size → W9.heap[k]? = WB.heap[k]? := fun k h1 h2 => by rw [hWn, Below.heap_alloc _ _ _ (Nat.lt_of_lt_of_le h2 hqs)]; exact HQ k h1 h2
        have hq_x : WB.heap.size ≤ W5.heap.size := hqs; have hqs : WB.heap.size ≤ W9.heap.size := by rw [hWn]; simp; omega
        have hx_x : W9.heap[W5.heap.size]? = some (.cells #[.slice none 0 0, .slice none 0 0, .slice none 0 0, .slice none 0 0] 93) := by rw [hWn]; exact alloc_new _ _
        have hl_x : w3.heap.size ≤ W5.heap.size := HB5.size; clear hWn; obtain ⟨b_x, hb_x⟩ : ∃ b, W5.heap.size = b := ⟨_, rfl⟩; rw [hb_x] at hx_x hl_x hq_x ⊢; clear HB5 hb_x; refine rz1 9 rfl ?_; intro K hK; refine set4K W9 b_x 93 _ _ _ _ (.slice qa na ca) (.slice qb nb cb) (.slice qc nc cc) (.slice qd nd cd) hx_x (fun wa10 wb10 wc10 W10 sa sb sc sd ca0 fa0 ca1 fa1 ca2 fa2 ca3 fa3 hx4 hxk HZs hxb => ?_); have HB10 : Below w3.heap.size w3 W10 := hxb w3 w3.heap.size hl_x HB9; have hx_x := hx4; have HQ : ∀ k, WA.heap.size ≤ k → k < WB.heap.size → W10.heap[k]? = WB.heap[k]? := fun k h1 h2 => (hxk k (by omega)).trans (HQ k h1 h2)
        have hqs : WB.heap.size ≤ W10.heap.size := by rw [HZs.out]; exact hqs
        clear hx4 hxk hxb HZs; go_simp; refine kz hK (by exact HSB.out _ HB10) ?_; clear hK K; (try simp only [Act.put, ptL]); clear ca0 ca1 ca2 ca3 fa0 fa1 fa2 fa3 sa sb sc sd HB9; refine tj 10 rfl (by exact HSB.out _ HB10) ?_; simp only [Act.put, ptL]; refine wpAnyH_done (by kernel_rfl) ?_ _; obtain ⟨wz, hwz⟩ : ∃ wz, wz = W10 := ⟨_, rfl⟩; subst hwz; have HBZ := HB10; clear HB10; exact ⟨rfl, _, _, _, _, _, _, _, _, _, _, _, _, _, _, rfl, Lib.hid hx_x, Lib.hid (by exact hmk.out.at HQ), Lib.hid HBZ, Lib.hid hl_x⟩
      · intro K hK
        go_simp; refine kz hK (by exact HSB.out _ (HB4.alloc HB4.size _)) ?_; clear hK K; (try simp only [Act.put, ptL]); refine wpAnyH_gen (fun W12 hWn => ?_); have HB12 : Below w3.heap.size w3 W12 := by rw [hWn]; exact HB4.alloc HB4.size _
        have hx_x : W12.heap[W4.heap.size]? = some (.cells #[.slice none 0 0, .slice none 0 0, .slice none 0 0, .slice none 0 0] 93) := by rw [hWn]; exact alloc_new _ _
        have hl_x : w3.heap.size ≤ W4.heap.size := HB4.size; clear hWn; obtain ⟨b_x, hb_x⟩ : ∃ b, W4.heap.size = b := ⟨_, rfl⟩; rw [hb_x] at hx_x hl_x ⊢; clear HB4 hb_x; refine rz1 4 rfl ?_; intro K hK; go_simp; obtain ⟨WA, hWA⟩ : ∃ WA, WA = W12 := ⟨_, rfl⟩; have hq_x : b_x < WA.heap.size := by rw [hWA]; exact block_lt hx_x
        (with_reducible refine (c_askedG pm pv pr cm cv cr p (handB p.ms.length h) W12 (HPW.out _ HB12) HL.out).mono ?_)
        rintro e W13 ⟨qa, na, ca, qb, nb, cb, qc, nc, cc, qd, nd, cd, er, rfl, hmk, hbn⟩; obtain ⟨WB, hWB⟩ : ∃ WB, WB = W13 := ⟨_, rfl⟩; have HQ : ∀ k, WA.heap.size ≤ k → k < WB.heap.size → W13.heap[k]? = WB.heap[k]? := fun k _ _ => by rw [hWB]
        have hqs : WB.heap.size ≤ W13.heap.size := by rw [hWB]; exact Nat.le_refl _
        rw [← hWA, ← hWB] at hmk; clear hWA hWB; have HB13 : Below w3.heap.size w3 W13 := HB12.trans (hbn.mono HB12.size); have hx_x : W13.heap[b_x]? = some (.cells #[.slice none 0 0, .slice none 0 0, .slice none 0 0, .slice none 0 0] 93) := (hbn.block _ (block_lt hx_x)).trans hx_x; clear hbn; go_simp; refine kz hK (by exact HSB.out _ HB13) ?_; clear hK K; (try simp only [Act.put, ptL]); clear HB12; refine tj 5 rfl (by exact HSB.out _ HB13) ?_; simp only [Act.put, ptL]; refine tj 6 rfl (by exact HSB.out _ HB13) ?_; simp only [Act.put, ptL]; refine tj 7 rfl (by exact HSB.out _ HB13) ?_; simp only [Act.put, ptL]; refine rz1 9 rfl ?_; intro K hK; refine set4K W13 b_x 93 _ _ _ _ (.slice qa na ca) (.slice qb nb cb) (.slice qc nc cc) (.slice qd nd cd) hx_x (fun wa17 wb17 wc17 W17 sa sb sc sd ca0 fa0 ca1 fa1 ca2 fa2 ca3 fa3 hx4 hxk HZs hxb => ?_); have HB17 : Below w3.heap.size w3 W17 := hxb w3 w3.heap.size hl_x HB13
        have hx_x := hx4; have HQ : ∀ k, WA.heap.size ≤ k → k < WB.heap.size → W17.heap[k]? = WB.heap[k]? := fun k h1 h2 => (hxk k (by omega)).trans (HQ k h1 h2)
        have hqs : WB.heap.size ≤ W17.heap.size := by rw [HZs.out]; exact hqs
        clear hx4 hxk hxb HZs; go_simp; refine kz hK (by exact HSB.out _ HB17) ?_; clear hK K; (try simp only [Act.put, ptL]); clear ca0 ca1 ca2 ca3 fa0 fa1 fa2 fa3 sa sb sc sd HB13; refine tj 10 rfl (by exact HSB.out _ HB17) ?_; simp only [Act.put, ptL]; refine wpAnyH_done (by kernel_rfl) ?_ _; obtain ⟨wz, hwz⟩ : ∃ wz, wz = W17 := ⟨_, rfl⟩; subst hwz; have HBZ := HB17; clear HB17; exact ⟨rfl, _, _, _, _, _, _, _, _, _, _, _, _, _, _, rfl, Lib.hid hx_x, Lib.hid (by exact hmk.out.at HQ), Lib.hid HBZ, Lib.hid hl_x⟩
    · intro K hK
      go_simp; refine kz hK (by exact HSB.out _ (HB0.alloc HB0.size _)) ?_; clear hK K; (try simp only [Act.put, ptL]); refine wpAnyH_gen (fun W19 hWn => ?_); have HB19 : Below w3.heap.size w3 W19 := by rw [hWn]; exact HB0.alloc HB0.size _
      have hx_x : W19.heap[W0.heap.size]? = some (.cells #[.slice none 0 0, .slice none 0 0, .slice none 0 0, .slice none 0 0] 93) := by rw [hWn]; exact alloc_new _ _
      have hl_x : w3.heap.size ≤ W0.heap.size := HB0.size; clear hWn; obtain ⟨b_x, hb_x⟩ : ∃ b, W0.heap.size = b := ⟨_, rfl⟩; rw [hb_x] at hx_x hl_x ⊢; clear HB0 hb_x; refine rz1 3 rfl ?_; intro K hK; go_simp
      (with_reducible refine (HC.out W19 (HEW.out _ HB19)).mono ?_)
      rintro e W20 ⟨rfl, hbn⟩; have HB20 : Below w3.heap.size w3 W20 := HB19.trans (hbn.mono HB19.size); have hx_x : W20.heap[b_x]? = some (.cells #[.slice none 0 0, .slice none 0 0, .slice none 0 0, .slice none 0 0] 93) := (hbn.block _ (block_lt hx_x)).trans hx_x; clear hbn; go_simp; refine kz hK (by exact HSB.out _ HB20) ?_; clear hK K; (try simp only [Act.put, ptL]); clear HB19; refine rz1 4 rfl ?_; intro K hK; go_simp; obtain ⟨WA, hWA⟩ : ∃ WA, WA = W20 := ⟨_, rfl⟩; have hq_x : b_x < WA.heap.size := by rw [hWA]; exact block_lt hx_x
      (with_reducible refine (c_askedG pm pv pr cm cv cr p (handB p.ms.length h) W20 (HPW.out _ HB20) HL.out).mono ?_)
      rintro e W21 ⟨qa, na, ca, qb, nb, cb, qc, nc, cc, qd, nd, cd, er, rfl, hmk, hbn⟩; obtain ⟨WB, hWB⟩ : ∃ WB, WB = W21 := ⟨_, rfl⟩; have HQ : ∀ k, WA.heap.size ≤ k → k < WB.heap.size → W21.heap[k]? = WB.heap[k]? := fun k _ _ => by rw [hWB]
      have hqs : WB.heap.size ≤ W21.heap.size := by rw [hWB]; exact Nat.le_refl _
      rw [← hWA, ← hWB] at hmk; clear hWA hWB; have HB21 : Below w3.heap.size w3 W21 := HB20.trans (hbn.mono HB20.size); have hx_x : W21.heap[b_x]? = some (.cells #[.slice none 0 0, .slice none 0 0, .slice none 0 0, .slice none 0 0] 93) := (hbn.block _ (block_lt hx_x)).trans hx_x; clear hbn; go_simp; refine kz hK (by exact HSB.out _ HB21) ?_; clear hK K; (try simp only [Act.put, ptL]); clear HB20; refine tj 5 rfl (by exact HSB.out _ HB21) ?_; simp only [Act.put, ptL]; refine tj 6 rfl (by exact HSB.out _ HB21) ?_; simp only [Act.put, ptL]; refine tj 7 rfl (by exact HSB.out _ HB21) ?_; simp only [Act.put, ptL]; refine rz1 9 rfl ?_; intro K hK; refine set4K W21 b_x 93 _ _ _ _ (.slice qa na ca) (.slice qb nb cb) (.slice qc nc cc) (.slice qd nd cd) hx_x (fun wa25 wb25 wc25 W25 sa sb sc sd ca0 fa0 ca1 fa1 ca2 fa2 ca3 fa3 hx4 hxk HZs hxb => ?_); have HB25 : Below w3.heap.size w3 W25 := hxb w3 w3.heap.size hl_x HB21
      have hx_x := hx4; have HQ : ∀ k, WA.heap.size ≤ k → k < WB.heap.size → W25.heap[k]? = WB.heap[k]? := fun k h1 h2 => (hxk k (by omega)).trans (HQ k h1 h2)
      have hqs : WB.heap.size ≤ W25.heap.size := by rw [HZs.out]; exact hqs
      clear hx4 hxk hxb HZs; go_simp; refine kz hK (by exact HSB.out _ HB25) ?_; clear hK K; (try simp only [Act.put, ptL]); clear ca0 ca1 ca2 ca3 fa0 fa1 fa2 fa3 sa sb sc sd HB21; refine tj 10 rfl (by exact HSB.out _ HB25) ?_; simp only [Act.put, ptL]; refine wpAnyH_done (by kernel_rfl) ?_ _; obtain ⟨wz, hwz⟩ : ∃ wz, wz = W25 := ⟨_, rfl⟩; subst hwz; have HBZ := HB25; clear HB25; exact ⟨rfl, _, _, _, _, _, _, _, _, _, _, _, _, _, _, rfl, Lib.hid hx_x, Lib.hid (by exact hmk.out.at HQ), Lib.hid HBZ, Lib.hid hl_x⟩
  case imp =>
    rintro e a wz ⟨rfl, bx, qa, na, ca, qb, nb, cb, qc, nc, cc, qd, nd, cd, er, rfl, HX, HAZ, HBZ, HLX⟩
    rcases HAZ.out with ⟨hf, rfl, ea, eb, ec, ed⟩ | ⟨hf, ht, rfl, ea, eb, ec, ed⟩ | ⟨hpo, hfi, ht, rfl, ea, eb, ec, g, cap, ed, hq⟩
    all_goals
      obtain ⟨rfl, rfl, rfl⟩ := sl_inj ea; obtain ⟨rfl, rfl, rfl⟩ := sl_inj eb; obtain ⟨rfl, rfl, rfl⟩ := sl_inj ec; obtain ⟨rfl, rfl, rfl⟩ := sl_inj ed; clear ea eb ec ed
    · have HF := Lib.hid hf
      have hkz := (HBZ.out.block _ (block_lt HKR.out)).trans HKR.out; obtain ⟨w4, w5, s1, s2, ⟨c0', f0⟩, ⟨c1', f1⟩, hx4, hxk, HZ5, hxb⟩ := set2 wz w2.heap.size 44 _ _ (.int .i64 0) (.int .i64 0) hkz; obtain ⟨r0, r1⟩ := cells2 hx4; have HBB := Lib.hid (hxb w w.heap.size (by have := HZ.out; omega) (HB.out.trans (HBZ.out.mono HB.out.size))); clear hx4 hxk hxb hkz hf; go_wp2; refine bodyPost_ret (v := .tuple #[.agg #[.int .i64 0, .int .i64 0], .int .i64 2]) ?_ rfl ⟨?_, HBB.out⟩
      · simp [results, Tryz.results14, go_sem, r0, r1]
      · exact ans_bad HF.out
    · have HF := Lib.hid (And.intro hf ht)
      have hkz := (HBZ.out.block _ (block_lt HKR.out)).trans HKR.out; obtain ⟨w4, w5, s1, s2, ⟨c0', f0⟩, ⟨c1', f1⟩, hx4, hxk, HZ5, hxb⟩ := set2 wz w2.heap.size 44 _ _ (.int .i64 0) (.int .i64 0) hkz; obtain ⟨r0, r1⟩ := cells2 hx4; have HBB := Lib.hid (hxb w w.heap.size (by have := HZ.out; omega) (HB.out.trans (HBZ.out.mono HB.out.size))); clear hx4 hxk hxb hkz hf ht; go_wp2; refine bodyPost_ret (v := .tuple #[.agg #[.int .i64 0, .int .i64 0], .int .i64 7]) ?_ rfl ⟨?_, HBB.out⟩
      · simp [results, Tryz.results14, go_sem, r0, r1]
      · exact ans_rule HF.out.1 HF.out.2
    · have hHO := handB_iff.1 hfi
      have hT := truths_le hpo; obtain ⟨x0, x1, x2, x3⟩ := cells4 HX.out
      have hov := over_gen 51 #[.pointer (some ⟨w1.heap.size, 0, none⟩)] (enters_of Tryz.func51 (by kernel_rfl) rfl) pm pv pr cm cv cr p (some ⟨g, 0, none⟩) cap (truthsF p) wz (shF p h) hq (by omega) (fun W k p1 p2 c1 c2 hb hk hl1 h1 h2 hl2 hcc hpp =>
        c1_shows p (gl (truthsF p) k) p1 p2 c1 c2 w1.heap.size h pe ce W hpo (truth_plays hpo (gl_mem hk)) h2 hHO ((HRH.out wz HBZ.out).below hb))
      rw [ovTo_all] at hov; have HF := Lib.hid (And.intro (pieceB_iff.2 hpo) (And.intro hfi ht)); have HBY := Lib.hid (HB.out.trans (HBZ.out.mono HB.out.size)); have HKZ := Lib.hid ((HBZ.out.block _ (block_lt HKR.out)).trans HKR.out); clear hq hpo hfi ht hHO hT HRH HSB HPW HEW HC; go_wp2_with fail; refine hov.mono ?_; clear hov; rintro e w6 ⟨rfl, b6⟩; have hkz := (b6.block _ (block_lt HKZ.out)).trans HKZ.out; obtain ⟨w7, w8, s1, s2, ⟨c0', f0⟩, ⟨c1', f1⟩, hx4, hxk, HZ5, hxb⟩ := set2 w6 w2.heap.size 44 _ _ (.int .i64 (ovF p (shF p h)).1) (.int .i64 (ovF p (shF p h)).2) hkz; obtain ⟨r0, r1⟩ := cells2 hx4; have HBB := Lib.hid (hxb w w.heap.size (by have := HZ.out; omega) (HBY.out.trans (b6.mono HBY.out.size))); clear hx4 hxk hxb hkz b6; go_wp2; refine bodyPost_ret (v := .tuple #[.agg #[.int .i64 (ovF p (shF p h)).1, .int .i64 (ovF p (shF p h)).2], .int .i64 0]) ?_ rfl ⟨?_, HBB.out⟩
      · simp [results, Tryz.results14, go_sem, r0, r1]
      · exact ans_good HF.out.1 HF.out.2.1 HF.out.2.2
end Go.Proofs.YtbknfddaoolagaaGreatDoor
end

section
namespace Go.Proofs.YtbknfddaoolagaaGreatDoor
open Go Go.RowKit Go.Proofs
set_option linter.unusedVariables false
attribute [local go_sem] imax2 imin2

set_option maxHeartbeats 800000 in
set_option maxRecDepth 100000 in
theorem c_aimed (pm pv pr : Option Addr) (cm cv cr : Nat) (p : Pc) (aq : Option Addr) (ca a : Nat) (m want lim : Int) (w : World) (hq : RdQ w aq p (truthsF p)) (hpo : PieceOk p) (ht : truthsF p ≠ []) (ha : a ≤ p.ms.length) (hm : -300 ≤ m ∧ m ≤ 300) (hwl : -5000 ≤ want ∧ want ≤ 5000 ∧ 0 ≤ lim ∧ lim ≤ 5000) :
    Calls Tryz.prog 70 #[.agg #[.slice pm p.ms.length cm, .slice pv p.mv.length cv, .slice pr p.rs.length cr, .slice aq (truthsF p).length ca], .int .i64 m, .int .i64 a, .int .i64 want, .int .i64 lim] w fun e w' => e = .returned (.bool (aimedB p a want lim m)) ∧ Below w.heap.size w w' := by
  obtain ⟨w1, e1, HS1, k0, k1, k2, k3, b1⟩ := box4 w (.slice pm p.ms.length cm) (.slice pv p.mv.length cv) (.slice pr p.rs.length cr) (.slice aq (truthsF p).length ca) 93; obtain ⟨w2, e2, HS2, m0, mf, b2⟩ := box1 w1 (.int .i64 m) 3; obtain ⟨w3, e3, HS3, a0, af, b3⟩ := box1 w2 (.int .i64 (a : Int)) 3; have b23 := b2.trans (b3.mono b2.size); have b13 := b1.trans (b23.mono b1.size); have k0 := (b23.cell (lt_of_cellq k0)).trans k0; have k1 := (b23.cell (lt_of_cellq k1)).trans k1; have k2 := (b23.cell (lt_of_cellq k2)).trans k2; have k3 := (b23.cell (lt_of_cellq k3)).trans k3; have m0 := (b3.cell (lt_of_cellq m0)).trans m0; have hT := truths_le hpo
  have hov := over_gen 119 #[.pointer (some ⟨w1.heap.size, 0, none⟩), .pointer (some ⟨w2.heap.size, 0, none⟩)] (enters_of Tryz.func119 (by kernel_rfl) rfl) pm pv pr cm cv cr p aq ca (truthsF p) w3 (aimV p a m) (hq.below b13) (by omega) (fun W k p1 p2 c1 c2 hb hk hl1 h1 h2 hl2 hcc hpp =>
    c1_aimed p (gl (truthsF p) k) p1 p2 c1 c2 w1.heap.size w2.heap.size a m W hpo (truth_plays hpo (gl_mem hk)) h1 h2 hpp ((hb.cell (lt_of_cellq m0)).trans m0) ((hb.cell (lt_of_cellq a0)).trans a0) ha hm)
  rw [ovTo_all] at hov; have hsp : ovF p (aimV p a m) = aimSp p a m := rfl
  have hran : -200000 ≤ (aimSp p a m).1 ∧ (aimSp p a m).1 ≤ (aimSp p a m).2 ∧ (aimSp p a m).2 ≤ 200000 := by
    refine ovF_in _ _ _ ht fun pl hpl => ?_
    have hpy := truth_plays hpo hpl; have h1 := place_range hpo hpy p.mv.length a (Nat.le_refl _) (by rw [hpy.len]; exact ha); have h0 := place_range hpo hpy p.mv.length 0 (Nat.le_refl _) (Nat.zero_le _); have h3 := plays_range hpo hpy a (by rw [hpy.len]; exact ha)
    have hv : -200000 ≤ gi (mvF pl (endF p pl) m) a ∧ gi (mvF pl (endF p pl) m) a ≤ 200000 := by
      show -200000 ≤ gi (mvF pl (runF pl p.mv p.mv.length) m) a ∧ gi (mvF pl (runF pl p.mv p.mv.length) m) a ≤ 200000
      by_cases hm0 : 0 ≤ m
      · rw [mvF_on hm0 a (by rw [hpy.len]; exact ha)]; omega
      · rw [mvF_back hm0 a (by rw [hpy.len]; exact ha)]; omega
    exact ⟨hv.1, Int.le_refl _, hv.2⟩
  have hab : aimedB p a want lim m = (decide (want - lim ≤ (aimSp p a m).1) && decide ((aimSp p a m).2 ≤ want + lim)) := rfl; rw [hsp] at hov; obtain ⟨lo, hlo⟩ : ∃ x, (aimSp p a m).1 = x := ⟨_, rfl⟩; obtain ⟨hi, hhi⟩ : ∃ x, (aimSp p a m).2 = x := ⟨_, rfl⟩; rw [hlo, hhi] at hran hab hov; obtain ⟨hw1, hw2, hw3, hw4⟩ := hwl; have g1 : IntKind.i64.wrap (want - lim) = want - lim := w64 _ (by omega) (by omega); have g2 : IntKind.i64.wrap (want + lim) = want + lim := w64 _ (by omega) (by omega); have HAB := Lib.hid hab; have HB := Lib.hid b13; clear hq hpo ht ha hm b1 b2 b3 b23 b13 hT hsp hran hab hlo hhi
  by_cases h1 : want - lim ≤ lo
  · go_enter Tryz.func70, Tryz.ntmps70
    go_wp2_with fail; refine hov.mono ?_; clear hov; rintro e w6 ⟨rfl, b6⟩; obtain ⟨w7, e7, HS7, y0, y1, b7⟩ := box2 w6 (.int .i64 lo) (.int .i64 hi) 44; have HBB := Lib.hid (HB.out.trans ((b6.trans (b7.mono b6.size)).mono HB.out.size)); clear e1 e2 e3 b6 b7; go_wp2; go_ret; exact ⟨by rw [HAB.out, decide_eq_true h1]; rfl, HBB.out⟩
  · go_enter Tryz.func70, Tryz.ntmps70
    go_wp2_with fail; refine hov.mono ?_; clear hov; rintro e w6 ⟨rfl, b6⟩; obtain ⟨w7, e7, HS7, y0, y1, b7⟩ := box2 w6 (.int .i64 lo) (.int .i64 hi) 44; have HBB := Lib.hid (HB.out.trans ((b6.trans (b7.mono b6.size)).mono HB.out.size)); clear e1 e2 e3 b6 b7; go_wp2; go_ret; exact ⟨by rw [HAB.out, decide_eq_false (by omega : ¬ want - lim ≤ lo)]; rfl, HBB.out⟩
end Go.Proofs.YtbknfddaoolagaaGreatDoor
end
