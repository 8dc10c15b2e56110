/-
  What the program answers to the chapter's examples: contracts.
  The laws' own run: contract.
  The laws' own look at the chapter's examples (known): it always says yes (printed by slkex.py).
-/
import Derived.Test.YtlednchfifphgaaGreatDoorGL
import Derived.Test.YtlednchfifphgaaGreatDoorGV
import Derived.Test.YtlednchfifphgaaGreatDoorGX
import Derived.Test.YtlednchfifphgaaGreatDoorGN
import Derived.Test.YtlednchfifphgaaGreatDoorGE
import Derived.Test.YtlednchfifphgaaGreatDoorGM
import Derived.Test.YtlednchfifphgaaGreatDoorGG
import Derived.Test.YtlednchfifphgaaGreatDoorGH
section
namespace Go.Proofs.YtlednchfifphgaaGreatDoor
open Go Go.RowKit Go.Proofs Go.Shelf
set_option linter.unusedVariables false
set_option linter.unusedSimpArgs false

theorem rdLs_of {w : World} {B g n cap : Nat} {css : List (List Int)} {hs : List Value} (h : w.ownsRow B 23 1 (.slice (some ⟨g, 0, none⟩) n cap) n hs) (he : ElC w B css hs) : RdLs w (some ⟨g, 0, none⟩) css := by
  refine .inr ⟨g, 0, rfl, fun i hi => ?_⟩
  obtain ⟨gk, ck, e1, e2⟩ := he.2 i hi
  have h1 := h.cells (g := g) rfl i _ e1
  rw [add_new] at h1
  exact ⟨_, _, by rw [Nat.zero_add]; exact h1, rd_of_own0 e2⟩
def pvE (ga gb : Nat) : Value := .agg #[.slice (some ⟨ga, 0, none⟩) 3 3, .slice (some ⟨gb, 0, none⟩) 3 3, .slice none 0 0]
def qvE (ga gb gc : Nat) : Value := .agg #[.slice (some ⟨ga, 0, none⟩) 3 3, .slice (some ⟨gb, 0, none⟩) 3 3, .slice (some ⟨gc, 0, none⟩) 2 2]
def runE : List (List Int) := [[0, -10, -15, -35], [100, 90, 85, 65], [70, 70, 70, 65], [78, 70, 70, 65]]
def knoE : List (Int × Int) := [(78, 78), (70, 70), (70, 70), (59, 65)]
def plaE : List (Int × Int) := [(11, 11), (5, 5), (21, 23)]
theorem lenP : LenOk exP := ⟨by decide, by decide, by decide⟩
theorem lenQ : LenOk exQ := ⟨by decide, by decide, by decide⟩
theorem errP {fine : Bool} (h : fine = true) : errF exP fine = 0 := err_good ex_piece.1 h ex_some.1
theorem k_Run (ga gb : Nat) (q : Option Addr) (w : World) (hp : RdP w (some ⟨ga, 0, none⟩) (some ⟨gb, 0, none⟩) none exP) (hq : RdI w q [10, 5, 20]) :
    Calls Tryz.prog 41 #[pvE ga gb, .slice q 3 3] w fun e w' => (∃ g c, e = .returned (.tuple #[.slice (some ⟨g, 0, none⟩) 4 c, .int .i64 0]) ∧ RdLs w' (some ⟨g, 0, none⟩) runE) ∧ Below w.heap.size w w' := by
  refine (c_Run _ _ _ 3 3 0 exP q 3 [10, 5, 20] w hp lenP hq (by decide)).mono ?_
  rintro e w' ⟨⟨_, g, cap, hs, rfl, ho, he⟩ | ⟨h, _⟩, hb⟩
  · rw [ex_run] at he
    exact ⟨⟨g, cap, rfl, rdLs_of ho he⟩, hb⟩
  · rw [ex_fit] at h; cases h
theorem k_Truths (ga gb gc : Nat) (w : World) (hp : RdP w (some ⟨ga, 0, none⟩) (some ⟨gb, 0, none⟩) (some ⟨gc, 0, none⟩) exQ) :
    Calls Tryz.prog 36 #[qvE ga gb gc] w fun e w' => e = .returned (.tuple #[.int .i64 3, .int .i64 0]) ∧ Below w.heap.size w w' := by
  refine (c_Truths _ _ _ 3 3 2 exQ w hp lenQ).mono ?_
  rintro e w' ⟨rfl, hb⟩
  rw [if_pos ex_piece.2, if_pos ex_piece.2, ex_truths]
  exact ⟨rfl, hb⟩
theorem k_Known (ga gb : Nat) (w : World) (hp : RdP w (some ⟨ga, 0, none⟩) (some ⟨gb, 0, none⟩) none exP) :
    Calls Tryz.prog 22 #[pvE ga gb] w fun e w' => (∃ q c, e = .returned (.tuple #[.slice q 4 c, .int .i64 0]) ∧ RdS w' q knoE) ∧ Below w.heap.size w w' := by
  refine (c_Known _ _ _ 3 3 0 exP w hp lenP).mono ?_
  rintro e w' ⟨⟨h, _⟩ | ⟨_, h, _⟩ | ⟨_, _, g, cap, rfl, ho⟩, hb⟩
  · rw [ex_piece.1] at h; cases h
  · exact absurd h ex_some.1
  · rw [ex_known] at ho ⊢
    exact ⟨⟨_, _, rfl, rdS_at ho rfl⟩, hb⟩
theorem k_Plays (ga gb gc : Nat) (w : World) (hp : RdP w (some ⟨ga, 0, none⟩) (some ⟨gb, 0, none⟩) (some ⟨gc, 0, none⟩) exQ) :
    Calls Tryz.prog 23 #[qvE ga gb gc] w fun e w' => (∃ q c, e = .returned (.tuple #[.slice q 3 c, .int .i64 0]) ∧ RdS w' q plaE) ∧ Below w.heap.size w w' := by
  refine (c_Plays _ _ _ 3 3 2 exQ w hp lenQ).mono ?_
  rintro e w' ⟨⟨h, _⟩ | ⟨_, h, _⟩ | ⟨_, _, g, cap, rfl, ho⟩, hb⟩
  · rw [ex_piece.2] at h; cases h
  · exact absurd h ex_some.2
  · rw [ex_plays] at ho ⊢
    exact ⟨⟨_, _, rfl, rdS_at ho rfl⟩, hb⟩
theorem k_Lost (ga gb : Nat) (w : World) (hp : RdP w (some ⟨ga, 0, none⟩) (some ⟨gb, 0, none⟩) none exP) :
    Calls Tryz.prog 28 #[pvE ga gb, .int .i64 3] w fun e w' => e = .returned (.tuple #[.agg #[.int .i64 22, .int .i64 22], .agg #[.int .i64 13, .int .i64 19], .int .i64 0]) ∧ Below w.heap.size w w' := by
  refine (c_Lost _ _ _ 3 3 0 exP 3 w hp lenP).mono ?_
  rintro e w' ⟨rfl, hb⟩
  have h := errP (fine := inB 3 1 exP.ms.length) (by decide)
  unfold okI
  rw [h, if_pos rfl, if_pos rfl, if_pos rfl, if_pos rfl, show (3 : Int).toNat = 3 from rfl, ex_lost.1, ex_lost.2]
  exact ⟨rfl, hb⟩
theorem k_Shows (ga gb gh : Nat) (w : World) (hp : RdP w (some ⟨ga, 0, none⟩) (some ⟨gb, 0, none⟩) none exP) (hh : RdS w (some ⟨gh, 0, none⟩) exA.er) :
    Calls Tryz.prog 53 #[pvE ga gb, .agg #[.int .i64 3, .int .i64 3, .int .i64 2, .slice (some ⟨gh, 0, none⟩) 4 4]] w fun e w' => e = .returned (.tuple #[.agg #[.int .i64 87, .int .i64 99], .int .i64 0]) ∧ Below w.heap.size w w' := by
  refine (c_Shows _ _ _ 3 3 0 exP exA _ 4 w hp lenP hh (by decide)).mono ?_
  rintro e w' ⟨rfl, hb⟩
  unfold AnsS okI
  rw [errP ex_shows.1, if_pos rfl, if_pos rfl, ex_shows.2.2]
  exact ⟨rfl, hb⟩
theorem k_Apart (ga gb gh gk : Nat) (w : World) (hp : RdP w (some ⟨ga, 0, none⟩) (some ⟨gb, 0, none⟩) none exP) (hk : RdS w (some ⟨gk, 0, none⟩) exB.er) (hh : RdS w (some ⟨gh, 0, none⟩) exA.er) :
    Calls Tryz.prog 55 #[pvE ga gb, .agg #[.int .i64 1, .int .i64 1, .int .i64 1, .slice (some ⟨gk, 0, none⟩) 1 1], .agg #[.int .i64 3, .int .i64 3, .int .i64 2, .slice (some ⟨gh, 0, none⟩) 4 4]] w fun e w' => e = .returned (.tuple #[.agg #[.int .i64 (-29), .int .i64 (-17)], .int .i64 0]) ∧ Below w.heap.size w w' := by
  refine (c_Apart _ _ _ 3 3 0 exP exB exA _ _ 1 4 w hp lenP hk (by decide) hh (by decide)).mono ?_
  rintro e w' ⟨rfl, hb⟩
  unfold AnsS okI
  rw [errP (by rw [ex_shows.1, ex_shows.2.1]; rfl), if_pos rfl, if_pos rfl, ex_apart]
  exact ⟨rfl, hb⟩
theorem k_Aim (ga gb : Nat) (w : World) (hp : RdP w (some ⟨ga, 0, none⟩) (some ⟨gb, 0, none⟩) none exP) :
    Calls Tryz.prog 57 #[pvE ga gb, .int .i64 3, .int .i64 90, .int .i64 3] w fun e w' => e = .returned (.tuple #[.int .i64 50, .int .i64 0]) ∧ Below w.heap.size w w' := by
  refine (c_Aim _ _ _ 3 3 0 exP 3 90 3 w hp lenP).mono ?_
  rintro e w' ⟨rfl, hb⟩
  have h := errP (fine := (inB 3 1 exP.ms.length && inB 90 (-5000) 5000) && inB 3 0 5000) (by decide)
  unfold aimOut aimErr
  rw [h, if_pos rfl, if_pos rfl, show (3 : Int).toNat = 3 from rfl, ex_aim, if_neg (by decide)]
  exact ⟨rfl, hb⟩
theorem k_Renew (ga gb : Nat) (q : Option Addr) (w : World) (hp : RdP w (some ⟨ga, 0, none⟩) (some ⟨gb, 0, none⟩) none exP) (hq : RdI w q [5, 3, 9]) :
    Calls Tryz.prog 58 #[pvE ga gb, .slice q 3 3, .int .i64 24] w fun e w' => (∃ g c, e = .returned (.tuple #[.slice g 2 c, .int .i64 8, .int .i64 0]) ∧ RdI w' g [0, 1]) ∧ Below w.heap.size w w' := by
  refine (c_Renew _ _ _ 3 3 0 exP q 3 [5, 3, 9] 24 w hp lenP hq (by decide)).mono ?_
  rintro e w' ⟨h, hb⟩
  have h0 := errP (fine := renewFine exP [5, 3, 9] 24) (by decide)
  rw [h0, ex_renew.1, ex_renew.2] at h
  rcases h with ⟨h, _⟩ | ⟨_, g, c, rfl, hr⟩
  · exact absurd rfl h
  · exact ⟨⟨g, c, rfl, hr⟩, hb⟩
theorem k_Look (ga gb : Nat) (w : World) (hp : RdP w (some ⟨ga, 0, none⟩) (some ⟨gb, 0, none⟩) none exP) :
    Calls Tryz.prog 59 #[pvE ga gb, .int .i64 1] w fun e w' => e = .returned (.tuple #[.int .i64 3, .int .i64 9, .int .i64 0]) ∧ Below w.heap.size w w' := by
  refine (c_Look _ _ _ 3 3 0 exP 1 w hp lenP).mono ?_
  rintro e w' ⟨rfl, hb⟩
  have h := errP (fine := inB 1 0 50) (by decide)
  have hl : lookErr exP 1 = 0 := by unfold lookErr; rw [h, if_pos rfl, ex_many, if_neg (by decide)]
  rw [hl, if_pos rfl, if_pos rfl, ex_look]
  exact ⟨rfl, hb⟩
theorem k_Read (m : Int) (w : World) (hm : MaxL m w) (hI : ItoaG w) :
    Calls Tryz.prog 46 #[.string exT] w fun e w' => (∃ pm cm pv cv pr cr, e = .returned (.tuple #[.agg #[.slice pm 1 cm, .slice pv 0 cv, .slice pr 0 cr], .int .i64 0]) ∧ RdP w' pm pv pr exY) ∧ Below w.heap.size w w' := by
  refine (c_Read exT m w (by decide) hm hI).mono ?_
  rintro e w' ⟨⟨q, pm, cm, pv, cv, pr, cr, er, rfl, hr, hrr⟩, hb⟩
  obtain ⟨rfl, rfl⟩ := ex_read hrr
  exact ⟨⟨pm, cm, pv, cv, pr, cr, rfl, hr⟩, hb⟩
end Go.Proofs.YtlednchfifphgaaGreatDoor
end

section
namespace Go.Proofs.YtlednchfifphgaaGreatDoor
open Go Go.RowKit Go.Proofs
set_option linter.unusedVariables false
set_option linter.unusedSimpArgs false
attribute [local go_sem] imax2 imin2

theorem allF_rows (pl mv : List Int) (hp : Pos pl) (k i : Nat) (h : i ≤ k) : (gl (allF pl mv k) i).length = pl.length + 1 := by rw [allF_at _ _ _ _ h]; exact (runF_chain hp mv i).len
/-- where all arbors are, laid so -/
def LRunPost (p : Pc) (pl : List Int) (w : World) (e : Ending) (w' : World) : Prop :=
  (∃ g c, e = .returned (.slice (some ⟨g, 0, none⟩) (p.mv.length + 1) c) ∧ RdLs w' (some ⟨g, 0, none⟩) (allF pl p.mv p.mv.length)) ∧ Below w.heap.size w w'
set_option maxHeartbeats 1600000 in
set_option maxRecDepth 100000 in
theorem c_lrun (pm pv pr : Option Addr) (cm cv cr : Nat) (p : Pc) (q : Option Addr) (cq : Nat) (pl : List Int) (w : World) (hp : RdP w pm pv pr p) (hq : RdI w q pl) (hok : (pieceB p && playsB p pl && withinB p pl) = true) :
    Calls Tryz.prog 20 #[.agg #[.slice pm p.ms.length cm, .slice pv p.mv.length cv, .slice pr p.rs.length cr], .slice q pl.length cq] w (LRunPost p pl w) := by
  obtain ⟨w1, e1, HS1, k0, k1, k2, b1⟩ := box3 w (.slice pm p.ms.length cm) (.slice pv p.mv.length cv) (.slice pr p.rs.length cr) 26
  have HOK := Lib.hid hok
  rw [Bool.and_eq_true, Bool.and_eq_true] at hok
  have hpo := pieceB_iff.1 hok.1.1
  have hpp := playsB_iff.1 hok.1.2
  have hlen := piece_len hpo
  have hpn := hpp.len
  have hrun := c_Run pm pv pr cm cv cr p q cq pl w1 (hp.below b1) ⟨by omega, by omega, by omega⟩ (hq.below b1) (by omega)
  have HPO := Lib.hid (And.intro hpo hpp)
  have HB := Lib.hid b1
  have hm8 := hlen.2.1
  have hp4 : pl.length ≤ 4 := by omega
  clear hok hpo hpp hlen hpn b1 hp hq
  go_enter Tryz.func20, Tryz.ntmps20
  go_wp2_with fail
  refine hrun.mono ?_
  clear hrun
  rintro e w2 ⟨⟨_, g, cap, hs, rfl, ho, he⟩ | ⟨h, _⟩, b2⟩
  · have hls := rdLs_of ho he
    have HL := Lib.hid hls
    have HB2 := Lib.hid (HB.out.trans (b2.mono HB.out.size))
    have k1 := (b2.cell (lt_of_cellq k1)).trans k1
    clear ho he b2 hls
    have hwn : IntKind.i64.wrap ((p.mv.length : Int) + 1) = (p.mv.length : Int) + 1 := w64 _ (by omega) (by omega)
    have hcs : ((((p.mv.length : Nat) : Int) + 1) != ((p.mv.length : Nat) : Int) + 1) = false := by simp
    go_wp2
    clear e1 hwn hcs
    obtain ⟨L, hL⟩ : ∃ L, allF pl p.mv p.mv.length = L := ⟨_, rfl⟩
    have HLL := Lib.hid hL
    have HLN := Lib.hid (show L.length = p.mv.length + 1 by rw [← hL, allF_len])
    have HRW := Lib.hid (show ∀ i, i < p.mv.length + 1 → (gl L i).length = pl.length + 1 from fun i hi => by rw [← hL]; exact allF_rows pl p.mv HPO.out.2.pos _ _ (by omega))
    have HRG := Lib.hid (show ∀ i k, i < p.mv.length + 1 → k < pl.length + 1 → -2800 ≤ gi (gl L i) k ∧ gi (gl L i) k ≤ 2400 from fun i k hi hk => by
      rw [← hL, allF_at _ _ _ _ (by omega)]
      exact place_range HPO.out.1 HPO.out.2 i k (by omega) (by omega))
    rw [hL] at HL
    clear hL
    obtain ⟨n, hn⟩ : ∃ n, p.mv.length = n := ⟨_, rfl⟩
    have HN := Lib.hid hn
    rw [hn] at HLN HRW HRG hm8 ⊢
    clear hn k0 k1 k2
    go_loopw [7] (fun i wr => ∃ k : Nat, k ≤ n + 1 ∧ i = .int .i64 k ∧ wr = w2) (fun i _ => n + 1 - (intOf i).toNat)
    case atStart => exact ⟨0, Nat.zero_le _, rfl, rfl⟩
    case round =>
      obtain ⟨i, hi, rfl, rfl⟩ := hrel
      by_cases hlt : i < n + 1
      · have hki : (i : Int) < (n : Int) + 1 := by omega
        obtain ⟨b, off, hb, hc⟩ := HL.out.at (by rw [HLN.out]; exact hlt)
        cases hb
        obtain ⟨a1, c1, d0, hr⟩ := hc i (by rw [HLN.out]; exact hlt)
        rw [HRW.out i hlt, Nat.zero_add] at d0
        have HR := Lib.hid hr
        have hwp : IntKind.i64.wrap ((pl.length : Int) + 1) = (pl.length : Int) + 1 := w64 _ (by omega) (by omega)
        have hcs : ((((pl.length : Nat) : Int) + 1) != ((pl.length : Nat) : Int) + 1) = false := by simp
        clear hc hr
        obtain ⟨wn, rfl⟩ : ∃ wn : World, wn = wr := ⟨_, rfl⟩
        go_wp2
        clear hcs hwp
        go_loopw [8] (fun j wr => ∃ k : Nat, k ≤ pl.length + 1 ∧ j = .int .i64 k ∧ wr = wn) (fun j _ => pl.length + 1 - (intOf j).toNat)
        case atStart => exact ⟨0, Nat.zero_le _, rfl, rfl⟩
        case round =>
          obtain ⟨k, hk, rfl, rfl⟩ := hrel
          by_cases hkl : k < pl.length + 1
          · have hkk : (k : Int) < (pl.length : Int) + 1 := by omega
            obtain ⟨b2, off2, rfl, hc2⟩ := HR.out.at (i := k) (by rw [HRW.out i hlt]; exact hkl)
            have d1 := hc2 k (by rw [HRW.out i hlt]; exact hkl)
            have hrg := HRG.out i k hlt hkl
            obtain ⟨x, hx⟩ : ∃ x, gi (gl L i) k = x := ⟨_, rfl⟩
            rw [hx] at d1 hrg
            have g1 : ¬ x < -5000 := by omega
            have g2 : ¬ x > 5000 := by omega
            clear hc2 hx
            go_wp2
            go_roundw
            case rel => exact ⟨k + 1, by omega, by go_num, by first | rfl | trivial⟩
            case measure => simp [intOf]; omega
          · obtain rfl : k = pl.length + 1 := by omega
            have hkk : ¬ (((pl.length + 1 : Nat)) : Int) < (pl.length : Int) + 1 := by omega
            go_wp2
            go_roundw
            case rel => exact ⟨i + 1, by omega, by go_num, by first | rfl | trivial⟩
            case measure => simp [intOf]; omega
      · obtain rfl : i = n + 1 := by omega
        have hki : ¬ (((n + 1 : Nat)) : Int) < (n : Int) + 1 := by omega
        go_wp2
        go_ret
        exact ⟨⟨g, cap, by rw [HN.out]; rfl, by rw [HLL.out]; exact HL.out⟩, HB2.out⟩
  · rw [HOK.out] at h; cases h
end Go.Proofs.YtlednchfifphgaaGreatDoor
end

section
namespace Go.Proofs.YtlednchfifphgaaGreatDoor
open Go Go.RowKit Go.Proofs Go.Shelf
set_option linter.unusedVariables false
set_option linter.unusedSimpArgs false
attribute [local go_sem] imax2 imin2

theorem wan {b : Bool} {p q : Prop} (hb : b = true) (h : p) : if b = true then p else q := by rw [if_pos hb]; exact h
theorem rdLs_lit4 {w : World} {g g1 g2 g3 g4 : Nat} {a b c d : List Int} (t : TypeId) (hg : w.heap[g]? = some (.cells #[.slice (some ⟨g1, 0, none⟩) a.length a.length, .slice (some ⟨g2, 0, none⟩) b.length b.length, .slice (some ⟨g3, 0, none⟩) c.length c.length, .slice (some ⟨g4, 0, none⟩) d.length d.length] t (0, 0)))
    (h1 : RdI w (some ⟨g1, 0, none⟩) a) (h2 : RdI w (some ⟨g2, 0, none⟩) b) (h3 : RdI w (some ⟨g3, 0, none⟩) c) (h4 : RdI w (some ⟨g4, 0, none⟩) d) : RdLs w (some ⟨g, 0, none⟩) [a, b, c, d] := by
  obtain ⟨c0, c1, c2, c3⟩ := cells4 hg
  refine .inr ⟨g, 0, rfl, fun i hi => ?_⟩
  match i, hi with
  | 0, _ => exact ⟨_, _, c0, h1⟩
  | 1, _ => exact ⟨_, _, c1, h2⟩
  | 2, _ => exact ⟨_, _, c2, h3⟩
  | 3, _ => exact ⟨_, _, c3, h4⟩
set_option maxHeartbeats 6400000 in
set_option maxRecDepth 100000 in
theorem c_known (m : Int) (w : World) (hm : MaxL m w) (hi : ItoaG w) : Calls Tryz.prog 19 #[] w fun e w' => e = .returned (.bool true) ∧ Below w.heap.size w w' := by
  have HM := Lib.hid hm
  have HI := Lib.hid hi
  have HB := Lib.hid (Below.refl w.heap.size w)
  clear hm hi
  go_enter Tryz.func19, Tryz.ntmps19
  go_wp2_with fail
  refine (c_P w).mono ?_
  rintro e v1 ⟨⟨ga1, gb1, _, _, rfl, hp1⟩, b_v1⟩
  have HP1 := Lib.hid hp1
  replace HM := Lib.hid (HM.out.below b_v1)
  replace HI := Lib.hid (HI.out.below b_v1)
  replace HB := Lib.hid (HB.out.trans (b_v1.mono HB.out.size))
  clear b_v1
  obtain ⟨v2, e_v2⟩ : ∃ x, v1.alloc (.cells #[.int .i64 10, .int .i64 5, .int .i64 20] 3) = x := ⟨_, rfl⟩
  have b_v2 : Below v1.heap.size v1 v2 := by rw [← e_v2]; exact below_alloc1 _ _
  have hq : RdI v2 (some ⟨v1.heap.size, 0, none⟩) [10, 5, 20] := by rw [← e_v2]; exact rd_lit v1 [10, 5, 20] 3
  have hc := k_Run ga1 gb1 _ v2 (HP1.out.below b_v2) hq
  replace HM := Lib.hid (HM.out.below b_v2)
  replace HI := Lib.hid (HI.out.below b_v2)
  replace HB := Lib.hid (HB.out.trans (b_v2.mono HB.out.size))
  clear hq b_v2
  unfold pvE at hc
  go_wp2_with fail
  refine (hc).mono ?_
  rintro e v3 ⟨⟨gr, cr, rfl, hrl⟩, b_v3⟩
  replace HM := Lib.hid (HM.out.below b_v3)
  replace HI := Lib.hid (HI.out.below b_v3)
  replace HB := Lib.hid (HB.out.trans (b_v3.mono HB.out.size))
  have RL := Lib.hid hrl
  clear b_v3
  clear hc e_v2
  go_wp2_with fail
  refine (c_Q v3).mono ?_
  rintro e v4 ⟨⟨ga4, gb4, gc4, rfl, hp4⟩, b_v4⟩
  have HP4 := Lib.hid hp4
  replace HM := Lib.hid (HM.out.below b_v4)
  replace HI := Lib.hid (HI.out.below b_v4)
  replace HB := Lib.hid (HB.out.trans (b_v4.mono HB.out.size))
  replace RL := Lib.hid (RL.out.below b_v4)
  clear b_v4
  have hc := k_Truths ga4 gb4 gc4 v4 HP4.out
  unfold qvE at hc
  go_wp2_with fail
  refine (hc).mono ?_
  rintro e v5 ⟨rfl, b_v5⟩
  replace HM := Lib.hid (HM.out.below b_v5)
  replace HI := Lib.hid (HI.out.below b_v5)
  replace HB := Lib.hid (HB.out.trans (b_v5.mono HB.out.size))
  replace RL := Lib.hid (RL.out.below b_v5)
  clear b_v5
  clear hc
  go_wp2_with fail
  refine (c_P v5).mono ?_
  rintro e v6 ⟨⟨ga6, gb6, _, _, rfl, hp6⟩, b_v6⟩
  have HP6 := Lib.hid hp6
  replace HM := Lib.hid (HM.out.below b_v6)
  replace HI := Lib.hid (HI.out.below b_v6)
  replace HB := Lib.hid (HB.out.trans (b_v6.mono HB.out.size))
  replace RL := Lib.hid (RL.out.below b_v6)
  clear b_v6
  have hc := k_Known ga6 gb6 v6 HP6.out
  unfold pvE at hc
  go_wp2_with fail
  refine (hc).mono ?_
  rintro e v7 ⟨⟨gk, ck, rfl, hk⟩, b_v7⟩
  replace HM := Lib.hid (HM.out.below b_v7)
  replace HI := Lib.hid (HI.out.below b_v7)
  replace HB := Lib.hid (HB.out.trans (b_v7.mono HB.out.size))
  replace RL := Lib.hid (RL.out.below b_v7)
  have RK := Lib.hid hk
  clear b_v7
  clear hc
  go_wp2_with fail
  refine (c_Q v7).mono ?_
  rintro e v8 ⟨⟨ga8, gb8, gc8, rfl, hp8⟩, b_v8⟩
  have HP8 := Lib.hid hp8
  replace HM := Lib.hid (HM.out.below b_v8)
  replace HI := Lib.hid (HI.out.below b_v8)
  replace HB := Lib.hid (HB.out.trans (b_v8.mono HB.out.size))
  replace RL := Lib.hid (RL.out.below b_v8)
  replace RK := Lib.hid (RK.out.below b_v8)
  clear b_v8
  have hc := k_Plays ga8 gb8 gc8 v8 HP8.out
  unfold qvE at hc
  go_wp2_with fail
  refine (hc).mono ?_
  rintro e v9 ⟨⟨gl, cl, rfl, hk⟩, b_v9⟩
  replace HM := Lib.hid (HM.out.below b_v9)
  replace HI := Lib.hid (HI.out.below b_v9)
  replace HB := Lib.hid (HB.out.trans (b_v9.mono HB.out.size))
  replace RL := Lib.hid (RL.out.below b_v9)
  replace RK := Lib.hid (RK.out.below b_v9)
  have RP := Lib.hid hk
  clear b_v9
  clear hc
  go_wp2_with fail
  refine (c_P v9).mono ?_
  rintro e v10 ⟨⟨ga10, gb10, _, _, rfl, hp10⟩, b_v10⟩
  have HP10 := Lib.hid hp10
  replace HM := Lib.hid (HM.out.below b_v10)
  replace HI := Lib.hid (HI.out.below b_v10)
  replace HB := Lib.hid (HB.out.trans (b_v10.mono HB.out.size))
  replace RL := Lib.hid (RL.out.below b_v10)
  replace RK := Lib.hid (RK.out.below b_v10)
  replace RP := Lib.hid (RP.out.below b_v10)
  clear b_v10
  have hc := k_Lost ga10 gb10 v10 HP10.out
  unfold pvE at hc
  go_wp2_with fail
  refine (hc).mono ?_
  rintro e v11 ⟨rfl, b_v11⟩
  replace HM := Lib.hid (HM.out.below b_v11)
  replace HI := Lib.hid (HI.out.below b_v11)
  replace HB := Lib.hid (HB.out.trans (b_v11.mono HB.out.size))
  replace RL := Lib.hid (RL.out.below b_v11)
  replace RK := Lib.hid (RK.out.below b_v11)
  replace RP := Lib.hid (RP.out.below b_v11)
  clear b_v11
  clear hc
  have ka := alloc_new v11 (.cells #[.int .i64 0, .int .i64 0] 44)
  obtain ⟨v12, ea, HSa, _, _, ba⟩ := box2 v11 (.int .i64 0) (.int .i64 0) 44
  rw [ea] at ka
  have kb := alloc_new v12 (.cells #[.int .i64 0, .int .i64 0] 44)
  obtain ⟨v13, eb, HSb, _, _, bb⟩ := box2 v12 (.int .i64 0) (.int .i64 0) 44
  rw [eb] at kb
  obtain ⟨x1, v14, s1, s2, ⟨c1, f1⟩, ⟨c2, f2⟩, hx4, hxk, HZa, hxb⟩ := set2 v13 v11.heap.size 44 _ _ (.int .i64 22) (.int .i64 22) ((bb.block _ (block_lt ka)).trans ka)
  obtain ⟨x2, v15, s3, s4, ⟨c3, f3⟩, ⟨c4, f4⟩, hy4, hyk, HZb, hyb⟩ := set2 v14 v12.heap.size 44 _ _ (.int .i64 13) (.int .i64 19) ((hxk _ (by have := HSa.out; omega)).trans kb)
  have bz : Below v11.heap.size v11 v15 := hyb v11 v11.heap.size (by have := HSa.out; omega) (hxb v11 v11.heap.size (Nat.le_refl _) (ba.trans (bb.mono ba.size)))
  have Con := Lib.hid ((hyk v11.heap.size (by have := HSa.out; omega)).trans hx4)
  have Cba := Lib.hid hy4
  replace HM := Lib.hid (HM.out.below bz)
  replace HI := Lib.hid (HI.out.below bz)
  replace HB := Lib.hid (HB.out.trans (bz.mono HB.out.size))
  replace RL := Lib.hid (RL.out.below bz)
  replace RK := Lib.hid (RK.out.below bz)
  replace RP := Lib.hid (RP.out.below bz)
  clear ka kb ba bb bz hx4 hxk hxb hy4 hyk hyb
  go_upto_region 6 with (fail)
  clear ea eb s1 s2 s3 s4 c1 c2 c3 c4 f1 f2 f3 f4
  obtain ⟨Bon, hBon⟩ : ∃ B, v11.heap.size = B := ⟨_, rfl⟩
  obtain ⟨Bba, hBba⟩ : ∃ B, v12.heap.size = B := ⟨_, rfl⟩
  rw [hBon, hBba]
  rw [hBon] at Con
  rw [hBba] at Cba
  clear hBon hBba
  go_wp2_with fail
  refine (c_P v15).mono ?_
  rintro e v16 ⟨⟨ga16, gb16, _, _, rfl, hp16⟩, b_v16⟩
  have HP16 := Lib.hid hp16
  replace HM := Lib.hid (HM.out.below b_v16)
  replace HI := Lib.hid (HI.out.below b_v16)
  replace HB := Lib.hid (HB.out.trans (b_v16.mono HB.out.size))
  replace RL := Lib.hid (RL.out.below b_v16)
  replace RK := Lib.hid (RK.out.below b_v16)
  replace RP := Lib.hid (RP.out.below b_v16)
  replace Con := Lib.hid ((b_v16.block _ (block_lt Con.out)).trans Con.out)
  replace Cba := Lib.hid ((b_v16.block _ (block_lt Cba.out)).trans Cba.out)
  clear b_v16
  replace HP16 := Lib.hid HP16.out
  go_wp2_with fail
  refine (c_A v16).mono ?_
  rintro e v17 ⟨⟨gh17, rfl, hh17⟩, b_v17⟩
  replace HM := Lib.hid (HM.out.below b_v17)
  replace HI := Lib.hid (HI.out.below b_v17)
  replace HB := Lib.hid (HB.out.trans (b_v17.mono HB.out.size))
  replace RL := Lib.hid (RL.out.below b_v17)
  replace RK := Lib.hid (RK.out.below b_v17)
  replace RP := Lib.hid (RP.out.below b_v17)
  replace Con := Lib.hid ((b_v17.block _ (block_lt Con.out)).trans Con.out)
  replace Cba := Lib.hid ((b_v17.block _ (block_lt Cba.out)).trans Cba.out)
  replace HP16 := Lib.hid (HP16.out.below b_v17)
  have RA := Lib.hid hh17
  clear b_v17
  have hc := k_Shows ga16 gb16 gh17 v17 HP16.out RA.out
  unfold pvE at hc
  go_wp2_with fail
  refine (hc).mono ?_
  rintro e v18 ⟨rfl, b_v18⟩
  replace HM := Lib.hid (HM.out.below b_v18)
  replace HI := Lib.hid (HI.out.below b_v18)
  replace HB := Lib.hid (HB.out.trans (b_v18.mono HB.out.size))
  replace RL := Lib.hid (RL.out.below b_v18)
  replace RK := Lib.hid (RK.out.below b_v18)
  replace RP := Lib.hid (RP.out.below b_v18)
  replace Con := Lib.hid ((b_v18.block _ (block_lt Con.out)).trans Con.out)
  replace Cba := Lib.hid ((b_v18.block _ (block_lt Cba.out)).trans Cba.out)
  replace HP16 := Lib.hid (HP16.out.below b_v18)
  replace RA := Lib.hid (RA.out.below b_v18)
  clear b_v18
  clear hc
  clear HP16 RA
  have k_v19 := alloc_new v18 (.cells #[.int .i64 87, .int .i64 99] 44)
  obtain ⟨v19, e_v19, _, _, _, b_v19⟩ := box2 v18 (.int .i64 87) (.int .i64 99) 44
  rw [e_v19] at k_v19
  replace HM := Lib.hid (HM.out.below b_v19)
  replace HI := Lib.hid (HI.out.below b_v19)
  replace HB := Lib.hid (HB.out.trans (b_v19.mono HB.out.size))
  replace RL := Lib.hid (RL.out.below b_v19)
  replace RK := Lib.hid (RK.out.below b_v19)
  replace RP := Lib.hid (RP.out.below b_v19)
  replace Con := Lib.hid ((b_v19.block _ (block_lt Con.out)).trans Con.out)
  replace Cba := Lib.hid ((b_v19.block _ (block_lt Cba.out)).trans Cba.out)
  have Csh := Lib.hid k_v19
  clear k_v19 b_v19
  go_upto_region 7 with (fail)
  clear e_v19
  obtain ⟨Bsh, hBsh⟩ : ∃ B, v18.heap.size = B := ⟨_, rfl⟩
  rw [hBsh]
  rw [hBsh] at Csh
  clear hBsh
  go_wp2_with fail
  refine (c_P v19).mono ?_
  rintro e v20 ⟨⟨ga20, gb20, _, _, rfl, hp20⟩, b_v20⟩
  have HP20 := Lib.hid hp20
  replace HM := Lib.hid (HM.out.below b_v20)
  replace HI := Lib.hid (HI.out.below b_v20)
  replace HB := Lib.hid (HB.out.trans (b_v20.mono HB.out.size))
  replace RL := Lib.hid (RL.out.below b_v20)
  replace RK := Lib.hid (RK.out.below b_v20)
  replace RP := Lib.hid (RP.out.below b_v20)
  replace Con := Lib.hid ((b_v20.block _ (block_lt Con.out)).trans Con.out)
  replace Cba := Lib.hid ((b_v20.block _ (block_lt Cba.out)).trans Cba.out)
  replace Csh := Lib.hid ((b_v20.block _ (block_lt Csh.out)).trans Csh.out)
  clear b_v20
  go_wp2_with fail
  refine (c_B v20).mono ?_
  rintro e v21 ⟨⟨gh21, rfl, hh21⟩, b_v21⟩
  replace HM := Lib.hid (HM.out.below b_v21)
  replace HI := Lib.hid (HI.out.below b_v21)
  replace HB := Lib.hid (HB.out.trans (b_v21.mono HB.out.size))
  replace RL := Lib.hid (RL.out.below b_v21)
  replace RK := Lib.hid (RK.out.below b_v21)
  replace RP := Lib.hid (RP.out.below b_v21)
  replace Con := Lib.hid ((b_v21.block _ (block_lt Con.out)).trans Con.out)
  replace Cba := Lib.hid ((b_v21.block _ (block_lt Cba.out)).trans Cba.out)
  replace Csh := Lib.hid ((b_v21.block _ (block_lt Csh.out)).trans Csh.out)
  replace HP20 := Lib.hid (HP20.out.below b_v21)
  have RB := Lib.hid hh21
  clear b_v21
  go_wp2_with fail
  refine (c_A v21).mono ?_
  rintro e v22 ⟨⟨gh22, rfl, hh22⟩, b_v22⟩
  replace HM := Lib.hid (HM.out.below b_v22)
  replace HI := Lib.hid (HI.out.below b_v22)
  replace HB := Lib.hid (HB.out.trans (b_v22.mono HB.out.size))
  replace RL := Lib.hid (RL.out.below b_v22)
  replace RK := Lib.hid (RK.out.below b_v22)
  replace RP := Lib.hid (RP.out.below b_v22)
  replace Con := Lib.hid ((b_v22.block _ (block_lt Con.out)).trans Con.out)
  replace Cba := Lib.hid ((b_v22.block _ (block_lt Cba.out)).trans Cba.out)
  replace Csh := Lib.hid ((b_v22.block _ (block_lt Csh.out)).trans Csh.out)
  replace HP20 := Lib.hid (HP20.out.below b_v22)
  replace RB := Lib.hid (RB.out.below b_v22)
  have RA := Lib.hid hh22
  clear b_v22
  have hc := k_Apart ga20 gb20 gh22 gh21 v22 HP20.out RB.out RA.out
  unfold pvE at hc
  go_wp2_with fail
  refine (hc).mono ?_
  rintro e v23 ⟨rfl, b_v23⟩
  replace HM := Lib.hid (HM.out.below b_v23)
  replace HI := Lib.hid (HI.out.below b_v23)
  replace HB := Lib.hid (HB.out.trans (b_v23.mono HB.out.size))
  replace RL := Lib.hid (RL.out.below b_v23)
  replace RK := Lib.hid (RK.out.below b_v23)
  replace RP := Lib.hid (RP.out.below b_v23)
  replace Con := Lib.hid ((b_v23.block _ (block_lt Con.out)).trans Con.out)
  replace Cba := Lib.hid ((b_v23.block _ (block_lt Cba.out)).trans Cba.out)
  replace Csh := Lib.hid ((b_v23.block _ (block_lt Csh.out)).trans Csh.out)
  replace HP20 := Lib.hid (HP20.out.below b_v23)
  replace RB := Lib.hid (RB.out.below b_v23)
  replace RA := Lib.hid (RA.out.below b_v23)
  clear b_v23
  clear hc
  clear HP20 RB RA
  have k_v24 := alloc_new v23 (.cells #[.int .i64 (-29), .int .i64 (-17)] 44)
  obtain ⟨v24, e_v24, _, _, _, b_v24⟩ := box2 v23 (.int .i64 (-29)) (.int .i64 (-17)) 44
  rw [e_v24] at k_v24
  replace HM := Lib.hid (HM.out.below b_v24)
  replace HI := Lib.hid (HI.out.below b_v24)
  replace HB := Lib.hid (HB.out.trans (b_v24.mono HB.out.size))
  replace RL := Lib.hid (RL.out.below b_v24)
  replace RK := Lib.hid (RK.out.below b_v24)
  replace RP := Lib.hid (RP.out.below b_v24)
  replace Con := Lib.hid ((b_v24.block _ (block_lt Con.out)).trans Con.out)
  replace Cba := Lib.hid ((b_v24.block _ (block_lt Cba.out)).trans Cba.out)
  replace Csh := Lib.hid ((b_v24.block _ (block_lt Csh.out)).trans Csh.out)
  have Cap := Lib.hid k_v24
  clear k_v24 b_v24
  go_upto_region 8 with (fail)
  clear e_v24
  obtain ⟨Bap, hBap⟩ : ∃ B, v23.heap.size = B := ⟨_, rfl⟩
  rw [hBap]
  rw [hBap] at Cap
  clear hBap
  go_wp2_with fail
  refine (c_P v24).mono ?_
  rintro e v25 ⟨⟨ga25, gb25, _, _, rfl, hp25⟩, b_v25⟩
  have HP25 := Lib.hid hp25
  replace HM := Lib.hid (HM.out.below b_v25)
  replace HI := Lib.hid (HI.out.below b_v25)
  replace HB := Lib.hid (HB.out.trans (b_v25.mono HB.out.size))
  replace RL := Lib.hid (RL.out.below b_v25)
  replace RK := Lib.hid (RK.out.below b_v25)
  replace RP := Lib.hid (RP.out.below b_v25)
  replace Con := Lib.hid ((b_v25.block _ (block_lt Con.out)).trans Con.out)
  replace Cba := Lib.hid ((b_v25.block _ (block_lt Cba.out)).trans Cba.out)
  replace Csh := Lib.hid ((b_v25.block _ (block_lt Csh.out)).trans Csh.out)
  replace Cap := Lib.hid ((b_v25.block _ (block_lt Cap.out)).trans Cap.out)
  clear b_v25
  have hc := k_Aim ga25 gb25 v25 HP25.out
  unfold pvE at hc
  go_wp2_with fail
  refine (hc).mono ?_
  rintro e v26 ⟨rfl, b_v26⟩
  replace HM := Lib.hid (HM.out.below b_v26)
  replace HI := Lib.hid (HI.out.below b_v26)
  replace HB := Lib.hid (HB.out.trans (b_v26.mono HB.out.size))
  replace RL := Lib.hid (RL.out.below b_v26)
  replace RK := Lib.hid (RK.out.below b_v26)
  replace RP := Lib.hid (RP.out.below b_v26)
  replace Con := Lib.hid ((b_v26.block _ (block_lt Con.out)).trans Con.out)
  replace Cba := Lib.hid ((b_v26.block _ (block_lt Cba.out)).trans Cba.out)
  replace Csh := Lib.hid ((b_v26.block _ (block_lt Csh.out)).trans Csh.out)
  replace Cap := Lib.hid ((b_v26.block _ (block_lt Cap.out)).trans Cap.out)
  clear b_v26
  clear hc
  go_wp2_with fail
  refine (c_P v26).mono ?_
  rintro e v27 ⟨⟨ga27, gb27, _, _, rfl, hp27⟩, b_v27⟩
  have HP27 := Lib.hid hp27
  replace HM := Lib.hid (HM.out.below b_v27)
  replace HI := Lib.hid (HI.out.below b_v27)
  replace HB := Lib.hid (HB.out.trans (b_v27.mono HB.out.size))
  replace RL := Lib.hid (RL.out.below b_v27)
  replace RK := Lib.hid (RK.out.below b_v27)
  replace RP := Lib.hid (RP.out.below b_v27)
  replace Con := Lib.hid ((b_v27.block _ (block_lt Con.out)).trans Con.out)
  replace Cba := Lib.hid ((b_v27.block _ (block_lt Cba.out)).trans Cba.out)
  replace Csh := Lib.hid ((b_v27.block _ (block_lt Csh.out)).trans Csh.out)
  replace Cap := Lib.hid ((b_v27.block _ (block_lt Cap.out)).trans Cap.out)
  clear b_v27
  obtain ⟨v28, e_v28⟩ : ∃ x, v27.alloc (.cells #[.int .i64 5, .int .i64 3, .int .i64 9] 3) = x := ⟨_, rfl⟩
  have b_v28 : Below v27.heap.size v27 v28 := by rw [← e_v28]; exact below_alloc1 _ _
  have hq : RdI v28 (some ⟨v27.heap.size, 0, none⟩) [5, 3, 9] := by rw [← e_v28]; exact rd_lit v27 [5, 3, 9] 3
  have hc := k_Renew ga27 gb27 _ v28 (HP27.out.below b_v28) hq
  replace HM := Lib.hid (HM.out.below b_v28)
  replace HI := Lib.hid (HI.out.below b_v28)
  replace HB := Lib.hid (HB.out.trans (b_v28.mono HB.out.size))
  replace RL := Lib.hid (RL.out.below b_v28)
  replace RK := Lib.hid (RK.out.below b_v28)
  replace RP := Lib.hid (RP.out.below b_v28)
  replace Con := Lib.hid ((b_v28.block _ (block_lt Con.out)).trans Con.out)
  replace Cba := Lib.hid ((b_v28.block _ (block_lt Cba.out)).trans Cba.out)
  replace Csh := Lib.hid ((b_v28.block _ (block_lt Csh.out)).trans Csh.out)
  replace Cap := Lib.hid ((b_v28.block _ (block_lt Cap.out)).trans Cap.out)
  clear hq b_v28
  unfold pvE at hc
  go_wp2_with fail
  refine (hc).mono ?_
  rintro e v29 ⟨⟨gn, cn, rfl, hrn⟩, b_v29⟩
  replace HM := Lib.hid (HM.out.below b_v29)
  replace HI := Lib.hid (HI.out.below b_v29)
  replace HB := Lib.hid (HB.out.trans (b_v29.mono HB.out.size))
  replace RL := Lib.hid (RL.out.below b_v29)
  replace RK := Lib.hid (RK.out.below b_v29)
  replace RP := Lib.hid (RP.out.below b_v29)
  replace Con := Lib.hid ((b_v29.block _ (block_lt Con.out)).trans Con.out)
  replace Cba := Lib.hid ((b_v29.block _ (block_lt Cba.out)).trans Cba.out)
  replace Csh := Lib.hid ((b_v29.block _ (block_lt Csh.out)).trans Csh.out)
  replace Cap := Lib.hid ((b_v29.block _ (block_lt Cap.out)).trans Cap.out)
  have RN := Lib.hid hrn
  clear b_v29
  clear hc e_v28
  go_wp2_with fail
  refine (c_P v29).mono ?_
  rintro e v30 ⟨⟨ga30, gb30, _, _, rfl, hp30⟩, b_v30⟩
  have HP30 := Lib.hid hp30
  replace HM := Lib.hid (HM.out.below b_v30)
  replace HI := Lib.hid (HI.out.below b_v30)
  replace HB := Lib.hid (HB.out.trans (b_v30.mono HB.out.size))
  replace RL := Lib.hid (RL.out.below b_v30)
  replace RK := Lib.hid (RK.out.below b_v30)
  replace RP := Lib.hid (RP.out.below b_v30)
  replace Con := Lib.hid ((b_v30.block _ (block_lt Con.out)).trans Con.out)
  replace Cba := Lib.hid ((b_v30.block _ (block_lt Cba.out)).trans Cba.out)
  replace Csh := Lib.hid ((b_v30.block _ (block_lt Csh.out)).trans Csh.out)
  replace Cap := Lib.hid ((b_v30.block _ (block_lt Cap.out)).trans Cap.out)
  replace RN := Lib.hid (RN.out.below b_v30)
  clear b_v30
  have hc := k_Look ga30 gb30 v30 HP30.out
  unfold pvE at hc
  go_wp2_with fail
  refine (hc).mono ?_
  rintro e v31 ⟨rfl, b_v31⟩
  replace HM := Lib.hid (HM.out.below b_v31)
  replace HI := Lib.hid (HI.out.below b_v31)
  replace HB := Lib.hid (HB.out.trans (b_v31.mono HB.out.size))
  replace RL := Lib.hid (RL.out.below b_v31)
  replace RK := Lib.hid (RK.out.below b_v31)
  replace RP := Lib.hid (RP.out.below b_v31)
  replace Con := Lib.hid ((b_v31.block _ (block_lt Con.out)).trans Con.out)
  replace Cba := Lib.hid ((b_v31.block _ (block_lt Cba.out)).trans Cba.out)
  replace Csh := Lib.hid ((b_v31.block _ (block_lt Csh.out)).trans Csh.out)
  replace Cap := Lib.hid ((b_v31.block _ (block_lt Cap.out)).trans Cap.out)
  replace RN := Lib.hid (RN.out.below b_v31)
  clear b_v31
  clear hc
  have hc := k_Read m v31 HM.out HI.out
  unfold exT at hc
  go_wp2_with fail
  refine (hc).mono ?_
  rintro e v32 ⟨⟨pm, cm, pv, cv, pr, cr', rfl, hry⟩, b_v32⟩
  replace HM := Lib.hid (HM.out.below b_v32)
  replace HI := Lib.hid (HI.out.below b_v32)
  replace HB := Lib.hid (HB.out.trans (b_v32.mono HB.out.size))
  replace RL := Lib.hid (RL.out.below b_v32)
  replace RK := Lib.hid (RK.out.below b_v32)
  replace RP := Lib.hid (RP.out.below b_v32)
  replace Con := Lib.hid ((b_v32.block _ (block_lt Con.out)).trans Con.out)
  replace Cba := Lib.hid ((b_v32.block _ (block_lt Cba.out)).trans Cba.out)
  replace Csh := Lib.hid ((b_v32.block _ (block_lt Csh.out)).trans Csh.out)
  replace Cap := Lib.hid ((b_v32.block _ (block_lt Cap.out)).trans Cap.out)
  replace RN := Lib.hid (RN.out.below b_v32)
  have RY := Lib.hid hry
  clear b_v32
  clear hc
  have k_v33 := alloc_new v32 (.cells #[.slice pm 1 cm, .slice pv 0 cv, .slice pr 0 cr'] 26)
  obtain ⟨v33, e_v33, _, _, _, _, b_v33⟩ := box3 v32 (.slice pm 1 cm) (.slice pv 0 cv) (.slice pr 0 cr') 26
  rw [e_v33] at k_v33
  replace HM := Lib.hid (HM.out.below b_v33)
  replace HI := Lib.hid (HI.out.below b_v33)
  replace HB := Lib.hid (HB.out.trans (b_v33.mono HB.out.size))
  replace RL := Lib.hid (RL.out.below b_v33)
  replace RK := Lib.hid (RK.out.below b_v33)
  replace RP := Lib.hid (RP.out.below b_v33)
  replace Con := Lib.hid ((b_v33.block _ (block_lt Con.out)).trans Con.out)
  replace Cba := Lib.hid ((b_v33.block _ (block_lt Cba.out)).trans Cba.out)
  replace Csh := Lib.hid ((b_v33.block _ (block_lt Csh.out)).trans Csh.out)
  replace Cap := Lib.hid ((b_v33.block _ (block_lt Cap.out)).trans Cap.out)
  replace RN := Lib.hid (RN.out.below b_v33)
  replace RY := Lib.hid (RY.out.below b_v33)
  have Cy := Lib.hid k_v33
  clear k_v33 b_v33
  go_upto_region 14 with (fail)
  clear e_v33
  obtain ⟨By, hBy⟩ : ∃ B, v32.heap.size = B := ⟨_, rfl⟩
  rw [hBy]
  rw [hBy] at Cy
  clear hBy
  obtain ⟨v34, e_v34⟩ : ∃ x, v33.alloc (.cells #[.int .i64 0, .int .i64 (-10), .int .i64 (-15), .int .i64 (-35)] 3) = x := ⟨_, rfl⟩
  have b_v34 : Below v33.heap.size v33 v34 := by rw [← e_v34]; exact below_alloc1 _ _
  have hr_v34 : RdI v34 (some ⟨v33.heap.size, 0, none⟩) [0, -10, -15, -35] := by rw [← e_v34]; exact rd_lit v33 [0, -10, -15, -35] 3
  replace HM := Lib.hid (HM.out.below b_v34)
  replace HI := Lib.hid (HI.out.below b_v34)
  replace HB := Lib.hid (HB.out.trans (b_v34.mono HB.out.size))
  replace RL := Lib.hid (RL.out.below b_v34)
  replace RK := Lib.hid (RK.out.below b_v34)
  replace RP := Lib.hid (RP.out.below b_v34)
  replace Con := Lib.hid ((b_v34.block _ (block_lt Con.out)).trans Con.out)
  replace Cba := Lib.hid ((b_v34.block _ (block_lt Cba.out)).trans Cba.out)
  replace Csh := Lib.hid ((b_v34.block _ (block_lt Csh.out)).trans Csh.out)
  replace Cap := Lib.hid ((b_v34.block _ (block_lt Cap.out)).trans Cap.out)
  replace RN := Lib.hid (RN.out.below b_v34)
  replace RY := Lib.hid (RY.out.below b_v34)
  replace Cy := Lib.hid ((b_v34.block _ (block_lt Cy.out)).trans Cy.out)
  obtain ⟨v35, e_v35⟩ : ∃ x, v34.alloc (.cells #[.int .i64 100, .int .i64 90, .int .i64 85, .int .i64 65] 3) = x := ⟨_, rfl⟩
  have b_v35 : Below v34.heap.size v34 v35 := by rw [← e_v35]; exact below_alloc1 _ _
  have hr_v35 : RdI v35 (some ⟨v34.heap.size, 0, none⟩) [100, 90, 85, 65] := by rw [← e_v35]; exact rd_lit v34 [100, 90, 85, 65] 3
  have hr_v34 := hr_v34.below b_v35
  replace HM := Lib.hid (HM.out.below b_v35)
  replace HI := Lib.hid (HI.out.below b_v35)
  replace HB := Lib.hid (HB.out.trans (b_v35.mono HB.out.size))
  replace RL := Lib.hid (RL.out.below b_v35)
  replace RK := Lib.hid (RK.out.below b_v35)
  replace RP := Lib.hid (RP.out.below b_v35)
  replace Con := Lib.hid ((b_v35.block _ (block_lt Con.out)).trans Con.out)
  replace Cba := Lib.hid ((b_v35.block _ (block_lt Cba.out)).trans Cba.out)
  replace Csh := Lib.hid ((b_v35.block _ (block_lt Csh.out)).trans Csh.out)
  replace Cap := Lib.hid ((b_v35.block _ (block_lt Cap.out)).trans Cap.out)
  replace RN := Lib.hid (RN.out.below b_v35)
  replace RY := Lib.hid (RY.out.below b_v35)
  replace Cy := Lib.hid ((b_v35.block _ (block_lt Cy.out)).trans Cy.out)
  obtain ⟨v36, e_v36⟩ : ∃ x, v35.alloc (.cells #[.int .i64 70, .int .i64 70, .int .i64 70, .int .i64 65] 3) = x := ⟨_, rfl⟩
  have b_v36 : Below v35.heap.size v35 v36 := by rw [← e_v36]; exact below_alloc1 _ _
  have hr_v36 : RdI v36 (some ⟨v35.heap.size, 0, none⟩) [70, 70, 70, 65] := by rw [← e_v36]; exact rd_lit v35 [70, 70, 70, 65] 3
  have hr_v34 := hr_v34.below b_v36
  have hr_v35 := hr_v35.below b_v36
  replace HM := Lib.hid (HM.out.below b_v36)
  replace HI := Lib.hid (HI.out.below b_v36)
  replace HB := Lib.hid (HB.out.trans (b_v36.mono HB.out.size))
  replace RL := Lib.hid (RL.out.below b_v36)
  replace RK := Lib.hid (RK.out.below b_v36)
  replace RP := Lib.hid (RP.out.below b_v36)
  replace Con := Lib.hid ((b_v36.block _ (block_lt Con.out)).trans Con.out)
  replace Cba := Lib.hid ((b_v36.block _ (block_lt Cba.out)).trans Cba.out)
  replace Csh := Lib.hid ((b_v36.block _ (block_lt Csh.out)).trans Csh.out)
  replace Cap := Lib.hid ((b_v36.block _ (block_lt Cap.out)).trans Cap.out)
  replace RN := Lib.hid (RN.out.below b_v36)
  replace RY := Lib.hid (RY.out.below b_v36)
  replace Cy := Lib.hid ((b_v36.block _ (block_lt Cy.out)).trans Cy.out)
  obtain ⟨v37, e_v37⟩ : ∃ x, v36.alloc (.cells #[.int .i64 78, .int .i64 70, .int .i64 70, .int .i64 65] 3) = x := ⟨_, rfl⟩
  have b_v37 : Below v36.heap.size v36 v37 := by rw [← e_v37]; exact below_alloc1 _ _
  have hr_v37 : RdI v37 (some ⟨v36.heap.size, 0, none⟩) [78, 70, 70, 65] := by rw [← e_v37]; exact rd_lit v36 [78, 70, 70, 65] 3
  have hr_v34 := hr_v34.below b_v37
  have hr_v35 := hr_v35.below b_v37
  have hr_v36 := hr_v36.below b_v37
  replace HM := Lib.hid (HM.out.below b_v37)
  replace HI := Lib.hid (HI.out.below b_v37)
  replace HB := Lib.hid (HB.out.trans (b_v37.mono HB.out.size))
  replace RL := Lib.hid (RL.out.below b_v37)
  replace RK := Lib.hid (RK.out.below b_v37)
  replace RP := Lib.hid (RP.out.below b_v37)
  replace Con := Lib.hid ((b_v37.block _ (block_lt Con.out)).trans Con.out)
  replace Cba := Lib.hid ((b_v37.block _ (block_lt Cba.out)).trans Cba.out)
  replace Csh := Lib.hid ((b_v37.block _ (block_lt Csh.out)).trans Csh.out)
  replace Cap := Lib.hid ((b_v37.block _ (block_lt Cap.out)).trans Cap.out)
  replace RN := Lib.hid (RN.out.below b_v37)
  replace RY := Lib.hid (RY.out.below b_v37)
  replace Cy := Lib.hid ((b_v37.block _ (block_lt Cy.out)).trans Cy.out)
  have kl := alloc_new v37 (.cells #[.slice (some ⟨v33.heap.size, 0, none⟩) 4 4, .slice (some ⟨v34.heap.size, 0, none⟩) 4 4, .slice (some ⟨v35.heap.size, 0, none⟩) 4 4, .slice (some ⟨v36.heap.size, 0, none⟩) 4 4] 23)
  obtain ⟨v38, e_v38, _, _, _, _, _, b_v38⟩ := box4 v37 (.slice (some ⟨v33.heap.size, 0, none⟩) 4 4) (.slice (some ⟨v34.heap.size, 0, none⟩) 4 4) (.slice (some ⟨v35.heap.size, 0, none⟩) 4 4) (.slice (some ⟨v36.heap.size, 0, none⟩) 4 4) 23
  rw [e_v38] at kl
  have hls : RdLs v38 (some ⟨v37.heap.size, 0, none⟩) runE := rdLs_lit4 _ kl (hr_v34.below b_v38) (hr_v35.below b_v38) (hr_v36.below b_v38) (hr_v37.below b_v38)
  replace HM := Lib.hid (HM.out.below b_v38)
  replace HI := Lib.hid (HI.out.below b_v38)
  replace HB := Lib.hid (HB.out.trans (b_v38.mono HB.out.size))
  replace RL := Lib.hid (RL.out.below b_v38)
  replace RK := Lib.hid (RK.out.below b_v38)
  replace RP := Lib.hid (RP.out.below b_v38)
  replace Con := Lib.hid ((b_v38.block _ (block_lt Con.out)).trans Con.out)
  replace Cba := Lib.hid ((b_v38.block _ (block_lt Cba.out)).trans Cba.out)
  replace Csh := Lib.hid ((b_v38.block _ (block_lt Csh.out)).trans Csh.out)
  replace Cap := Lib.hid ((b_v38.block _ (block_lt Cap.out)).trans Cap.out)
  replace RN := Lib.hid (RN.out.below b_v38)
  replace RY := Lib.hid (RY.out.below b_v38)
  replace Cy := Lib.hid ((b_v38.block _ (block_lt Cy.out)).trans Cy.out)
  have hc := c_sameLists (some ⟨gr, 0, none⟩) cr runE (some ⟨v37.heap.size, 0, none⟩) 4 runE v38 RL.out hls (by decide) (by decide)
  rw [decide_eq_true rfl] at hc
  have hc2 : Calls Tryz.prog 43 #[.slice (some ⟨gr, 0, none⟩) 4 cr, .slice (some ⟨v37.heap.size, 0, none⟩) 4 4] v38 fun e w' => e = .returned (.bool true) ∧ Below v38.heap.size v38 w' := hc.mono fun e w' h => ⟨h.1, by obtain ⟨n, hn⟩ := h.2; rw [hn]; exact below_drewN (Below.refl _ _) n⟩
  clear hc kl hls hr_v34 b_v34 hr_v35 b_v35 hr_v36 b_v36 hr_v37 b_v37 b_v38 RL
  go_wp2_with fail
  refine (hc2).mono ?_
  rintro e v39 ⟨rfl, b_v39⟩
  replace HM := Lib.hid (HM.out.below b_v39)
  replace HI := Lib.hid (HI.out.below b_v39)
  replace HB := Lib.hid (HB.out.trans (b_v39.mono HB.out.size))
  replace RK := Lib.hid (RK.out.below b_v39)
  replace RP := Lib.hid (RP.out.below b_v39)
  replace Con := Lib.hid ((b_v39.block _ (block_lt Con.out)).trans Con.out)
  replace Cba := Lib.hid ((b_v39.block _ (block_lt Cba.out)).trans Cba.out)
  replace Csh := Lib.hid ((b_v39.block _ (block_lt Csh.out)).trans Csh.out)
  replace Cap := Lib.hid ((b_v39.block _ (block_lt Cap.out)).trans Cap.out)
  replace RN := Lib.hid (RN.out.below b_v39)
  replace RY := Lib.hid (RY.out.below b_v39)
  replace Cy := Lib.hid ((b_v39.block _ (block_lt Cy.out)).trans Cy.out)
  clear b_v39
  clear hc2 e_v34 e_v35 e_v36 e_v37 e_v38
  go_wp2_with fail
  refine (c_span 78 78 v39).mono ?_
  rintro e v40 ⟨rfl, b_v40⟩
  replace HM := Lib.hid (HM.out.below b_v40)
  replace HI := Lib.hid (HI.out.below b_v40)
  replace HB := Lib.hid (HB.out.trans (b_v40.mono HB.out.size))
  replace RK := Lib.hid (RK.out.below b_v40)
  replace RP := Lib.hid (RP.out.below b_v40)
  replace Con := Lib.hid ((b_v40.block _ (block_lt Con.out)).trans Con.out)
  replace Cba := Lib.hid ((b_v40.block _ (block_lt Cba.out)).trans Cba.out)
  replace Csh := Lib.hid ((b_v40.block _ (block_lt Csh.out)).trans Csh.out)
  replace Cap := Lib.hid ((b_v40.block _ (block_lt Cap.out)).trans Cap.out)
  replace RN := Lib.hid (RN.out.below b_v40)
  replace RY := Lib.hid (RY.out.below b_v40)
  replace Cy := Lib.hid ((b_v40.block _ (block_lt Cy.out)).trans Cy.out)
  clear b_v40
  go_wp2_with fail
  refine (c_span 70 70 v40).mono ?_
  rintro e v41 ⟨rfl, b_v41⟩
  replace HM := Lib.hid (HM.out.below b_v41)
  replace HI := Lib.hid (HI.out.below b_v41)
  replace HB := Lib.hid (HB.out.trans (b_v41.mono HB.out.size))
  replace RK := Lib.hid (RK.out.below b_v41)
  replace RP := Lib.hid (RP.out.below b_v41)
  replace Con := Lib.hid ((b_v41.block _ (block_lt Con.out)).trans Con.out)
  replace Cba := Lib.hid ((b_v41.block _ (block_lt Cba.out)).trans Cba.out)
  replace Csh := Lib.hid ((b_v41.block _ (block_lt Csh.out)).trans Csh.out)
  replace Cap := Lib.hid ((b_v41.block _ (block_lt Cap.out)).trans Cap.out)
  replace RN := Lib.hid (RN.out.below b_v41)
  replace RY := Lib.hid (RY.out.below b_v41)
  replace Cy := Lib.hid ((b_v41.block _ (block_lt Cy.out)).trans Cy.out)
  clear b_v41
  go_wp2_with fail
  refine (c_span 70 70 v41).mono ?_
  rintro e v42 ⟨rfl, b_v42⟩
  replace HM := Lib.hid (HM.out.below b_v42)
  replace HI := Lib.hid (HI.out.below b_v42)
  replace HB := Lib.hid (HB.out.trans (b_v42.mono HB.out.size))
  replace RK := Lib.hid (RK.out.below b_v42)
  replace RP := Lib.hid (RP.out.below b_v42)
  replace Con := Lib.hid ((b_v42.block _ (block_lt Con.out)).trans Con.out)
  replace Cba := Lib.hid ((b_v42.block _ (block_lt Cba.out)).trans Cba.out)
  replace Csh := Lib.hid ((b_v42.block _ (block_lt Csh.out)).trans Csh.out)
  replace Cap := Lib.hid ((b_v42.block _ (block_lt Cap.out)).trans Cap.out)
  replace RN := Lib.hid (RN.out.below b_v42)
  replace RY := Lib.hid (RY.out.below b_v42)
  replace Cy := Lib.hid ((b_v42.block _ (block_lt Cy.out)).trans Cy.out)
  clear b_v42
  go_wp2_with fail
  refine (c_span 59 65 v42).mono ?_
  rintro e v43 ⟨rfl, b_v43⟩
  replace HM := Lib.hid (HM.out.below b_v43)
  replace HI := Lib.hid (HI.out.below b_v43)
  replace HB := Lib.hid (HB.out.trans (b_v43.mono HB.out.size))
  replace RK := Lib.hid (RK.out.below b_v43)
  replace RP := Lib.hid (RP.out.below b_v43)
  replace Con := Lib.hid ((b_v43.block _ (block_lt Con.out)).trans Con.out)
  replace Cba := Lib.hid ((b_v43.block _ (block_lt Cba.out)).trans Cba.out)
  replace Csh := Lib.hid ((b_v43.block _ (block_lt Csh.out)).trans Csh.out)
  replace Cap := Lib.hid ((b_v43.block _ (block_lt Cap.out)).trans Cap.out)
  replace RN := Lib.hid (RN.out.below b_v43)
  replace RY := Lib.hid (RY.out.below b_v43)
  replace Cy := Lib.hid ((b_v43.block _ (block_lt Cy.out)).trans Cy.out)
  clear b_v43
  obtain ⟨v44, e_v44⟩ : ∃ x, v43.alloc (.cells #[.int .i64 78, .int .i64 78, .int .i64 70, .int .i64 70, .int .i64 70, .int .i64 70, .int .i64 59, .int .i64 65] 44) = x := ⟨_, rfl⟩
  have b_v44 : Below v43.heap.size v43 v44 := by rw [← e_v44]; exact below_alloc1 _ _
  have hs2 : RdS v44 (some ⟨v43.heap.size, 0, none⟩) knoE := by rw [← e_v44]; exact rds_lit v43 knoE 44
  replace HM := Lib.hid (HM.out.below b_v44)
  replace HI := Lib.hid (HI.out.below b_v44)
  replace HB := Lib.hid (HB.out.trans (b_v44.mono HB.out.size))
  replace RK := Lib.hid (RK.out.below b_v44)
  replace RP := Lib.hid (RP.out.below b_v44)
  replace Con := Lib.hid ((b_v44.block _ (block_lt Con.out)).trans Con.out)
  replace Cba := Lib.hid ((b_v44.block _ (block_lt Cba.out)).trans Cba.out)
  replace Csh := Lib.hid ((b_v44.block _ (block_lt Csh.out)).trans Csh.out)
  replace Cap := Lib.hid ((b_v44.block _ (block_lt Cap.out)).trans Cap.out)
  replace RN := Lib.hid (RN.out.below b_v44)
  replace RY := Lib.hid (RY.out.below b_v44)
  replace Cy := Lib.hid ((b_v44.block _ (block_lt Cy.out)).trans Cy.out)
  have hc := c_sameSpans gk ck knoE (some ⟨v43.heap.size, 0, none⟩) 4 knoE v44 RK.out hs2 (by decide)
  rw [decide_eq_true rfl] at hc
  have hc2 : Calls Tryz.prog 25 #[.slice gk 4 ck, .slice (some ⟨v43.heap.size, 0, none⟩) 4 4] v44 fun e w' => e = .returned (.bool true) ∧ Below v44.heap.size v44 w' := hc.mono fun e w' h => ⟨h.1, by obtain ⟨n, hn⟩ := h.2; rw [hn]; exact below_drewN (Below.refl _ _) n⟩
  clear hc hs2 b_v44 RK
  go_wp2_with fail
  refine (hc2).mono ?_
  rintro e v45 ⟨rfl, b_v45⟩
  replace HM := Lib.hid (HM.out.below b_v45)
  replace HI := Lib.hid (HI.out.below b_v45)
  replace HB := Lib.hid (HB.out.trans (b_v45.mono HB.out.size))
  replace RP := Lib.hid (RP.out.below b_v45)
  replace Con := Lib.hid ((b_v45.block _ (block_lt Con.out)).trans Con.out)
  replace Cba := Lib.hid ((b_v45.block _ (block_lt Cba.out)).trans Cba.out)
  replace Csh := Lib.hid ((b_v45.block _ (block_lt Csh.out)).trans Csh.out)
  replace Cap := Lib.hid ((b_v45.block _ (block_lt Cap.out)).trans Cap.out)
  replace RN := Lib.hid (RN.out.below b_v45)
  replace RY := Lib.hid (RY.out.below b_v45)
  replace Cy := Lib.hid ((b_v45.block _ (block_lt Cy.out)).trans Cy.out)
  clear b_v45
  clear hc2 e_v44
  go_wp2_with fail
  refine (c_span 11 11 v45).mono ?_
  rintro e v46 ⟨rfl, b_v46⟩
  replace HM := Lib.hid (HM.out.below b_v46)
  replace HI := Lib.hid (HI.out.below b_v46)
  replace HB := Lib.hid (HB.out.trans (b_v46.mono HB.out.size))
  replace RP := Lib.hid (RP.out.below b_v46)
  replace Con := Lib.hid ((b_v46.block _ (block_lt Con.out)).trans Con.out)
  replace Cba := Lib.hid ((b_v46.block _ (block_lt Cba.out)).trans Cba.out)
  replace Csh := Lib.hid ((b_v46.block _ (block_lt Csh.out)).trans Csh.out)
  replace Cap := Lib.hid ((b_v46.block _ (block_lt Cap.out)).trans Cap.out)
  replace RN := Lib.hid (RN.out.below b_v46)
  replace RY := Lib.hid (RY.out.below b_v46)
  replace Cy := Lib.hid ((b_v46.block _ (block_lt Cy.out)).trans Cy.out)
  clear b_v46
  go_wp2_with fail
  refine (c_span 5 5 v46).mono ?_
  rintro e v47 ⟨rfl, b_v47⟩
  replace HM := Lib.hid (HM.out.below b_v47)
  replace HI := Lib.hid (HI.out.below b_v47)
  replace HB := Lib.hid (HB.out.trans (b_v47.mono HB.out.size))
  replace RP := Lib.hid (RP.out.below b_v47)
  replace Con := Lib.hid ((b_v47.block _ (block_lt Con.out)).trans Con.out)
  replace Cba := Lib.hid ((b_v47.block _ (block_lt Cba.out)).trans Cba.out)
  replace Csh := Lib.hid ((b_v47.block _ (block_lt Csh.out)).trans Csh.out)
  replace Cap := Lib.hid ((b_v47.block _ (block_lt Cap.out)).trans Cap.out)
  replace RN := Lib.hid (RN.out.below b_v47)
  replace RY := Lib.hid (RY.out.below b_v47)
  replace Cy := Lib.hid ((b_v47.block _ (block_lt Cy.out)).trans Cy.out)
  clear b_v47
  go_wp2_with fail
  refine (c_span 21 23 v47).mono ?_
  rintro e v48 ⟨rfl, b_v48⟩
  replace HM := Lib.hid (HM.out.below b_v48)
  replace HI := Lib.hid (HI.out.below b_v48)
  replace HB := Lib.hid (HB.out.trans (b_v48.mono HB.out.size))
  replace RP := Lib.hid (RP.out.below b_v48)
  replace Con := Lib.hid ((b_v48.block _ (block_lt Con.out)).trans Con.out)
  replace Cba := Lib.hid ((b_v48.block _ (block_lt Cba.out)).trans Cba.out)
  replace Csh := Lib.hid ((b_v48.block _ (block_lt Csh.out)).trans Csh.out)
  replace Cap := Lib.hid ((b_v48.block _ (block_lt Cap.out)).trans Cap.out)
  replace RN := Lib.hid (RN.out.below b_v48)
  replace RY := Lib.hid (RY.out.below b_v48)
  replace Cy := Lib.hid ((b_v48.block _ (block_lt Cy.out)).trans Cy.out)
  clear b_v48
  obtain ⟨v49, e_v49⟩ : ∃ x, v48.alloc (.cells #[.int .i64 11, .int .i64 11, .int .i64 5, .int .i64 5, .int .i64 21, .int .i64 23] 44) = x := ⟨_, rfl⟩
  have b_v49 : Below v48.heap.size v48 v49 := by rw [← e_v49]; exact below_alloc1 _ _
  have hs2 : RdS v49 (some ⟨v48.heap.size, 0, none⟩) plaE := by rw [← e_v49]; exact rds_lit v48 plaE 44
  replace HM := Lib.hid (HM.out.below b_v49)
  replace HI := Lib.hid (HI.out.below b_v49)
  replace HB := Lib.hid (HB.out.trans (b_v49.mono HB.out.size))
  replace RP := Lib.hid (RP.out.below b_v49)
  replace Con := Lib.hid ((b_v49.block _ (block_lt Con.out)).trans Con.out)
  replace Cba := Lib.hid ((b_v49.block _ (block_lt Cba.out)).trans Cba.out)
  replace Csh := Lib.hid ((b_v49.block _ (block_lt Csh.out)).trans Csh.out)
  replace Cap := Lib.hid ((b_v49.block _ (block_lt Cap.out)).trans Cap.out)
  replace RN := Lib.hid (RN.out.below b_v49)
  replace RY := Lib.hid (RY.out.below b_v49)
  replace Cy := Lib.hid ((b_v49.block _ (block_lt Cy.out)).trans Cy.out)
  have hc := c_sameSpans gl cl plaE (some ⟨v48.heap.size, 0, none⟩) 3 plaE v49 RP.out hs2 (by decide)
  rw [decide_eq_true rfl] at hc
  have hc2 : Calls Tryz.prog 25 #[.slice gl 3 cl, .slice (some ⟨v48.heap.size, 0, none⟩) 3 3] v49 fun e w' => e = .returned (.bool true) ∧ Below v49.heap.size v49 w' := hc.mono fun e w' h => ⟨h.1, by obtain ⟨n, hn⟩ := h.2; rw [hn]; exact below_drewN (Below.refl _ _) n⟩
  clear hc hs2 b_v49 RP
  go_wp2_with fail
  refine (hc2).mono ?_
  rintro e v50 ⟨rfl, b_v50⟩
  replace HM := Lib.hid (HM.out.below b_v50)
  replace HI := Lib.hid (HI.out.below b_v50)
  replace HB := Lib.hid (HB.out.trans (b_v50.mono HB.out.size))
  replace Con := Lib.hid ((b_v50.block _ (block_lt Con.out)).trans Con.out)
  replace Cba := Lib.hid ((b_v50.block _ (block_lt Cba.out)).trans Cba.out)
  replace Csh := Lib.hid ((b_v50.block _ (block_lt Csh.out)).trans Csh.out)
  replace Cap := Lib.hid ((b_v50.block _ (block_lt Cap.out)).trans Cap.out)
  replace RN := Lib.hid (RN.out.below b_v50)
  replace RY := Lib.hid (RY.out.below b_v50)
  replace Cy := Lib.hid ((b_v50.block _ (block_lt Cy.out)).trans Cy.out)
  clear b_v50
  clear hc2 e_v49
  go_upto_region 16 with (fail)
  obtain ⟨on0, on1⟩ := cells2 Con.out
  obtain ⟨ba0, ba1⟩ := cells2 Cba.out
  obtain ⟨sh0, sh1⟩ := cells2 Csh.out
  obtain ⟨ap0, ap1⟩ := cells2 Cap.out
  have HSB := Lib.hid (show ∀ W, Below v50.heap.size v50 W → (fun w' => w'.cell? ⟨Bon, 0, none⟩ = some (.int .i64 22) ∧ w'.cell? ⟨Bon, 1, none⟩ = some (.int .i64 22) ∧ w'.cell? ⟨Bba, 0, none⟩ = some (.int .i64 13) ∧ w'.cell? ⟨Bba, 1, none⟩ = some (.int .i64 19) ∧ w'.cell? ⟨Bsh, 0, none⟩ = some (.int .i64 87) ∧ w'.cell? ⟨Bsh, 1, none⟩ = some (.int .i64 99) ∧ w'.cell? ⟨Bap, 0, none⟩ = some (.int .i64 (-29)) ∧ w'.cell? ⟨Bap, 1, none⟩ = some (.int .i64 (-17))) W from fun W hb => ⟨(hb.cell (lt_of_cellq on0)).trans on0, (hb.cell (lt_of_cellq on1)).trans on1, (hb.cell (lt_of_cellq ba0)).trans ba0, (hb.cell (lt_of_cellq ba1)).trans ba1, (hb.cell (lt_of_cellq sh0)).trans sh0, (hb.cell (lt_of_cellq sh1)).trans sh1, (hb.cell (lt_of_cellq ap0)).trans ap0, (hb.cell (lt_of_cellq ap1)).trans ap1⟩)
  have HSAME := Lib.hid (show ∀ (W : World) (b : Nat), Below v50.heap.size v50 W → W.heap[b]? = some (.cells #[.int .i64 0, .int .i64 1] 3 (0, 0)) → Calls Tryz.prog 21 #[.slice gn 2 cn, .slice (some ⟨b, 0, none⟩) 2 2] W fun e w' => e = .returned (.bool true) ∧ Below W.heap.size W w' from fun W b hb hx => by
    obtain ⟨x0, x1⟩ := cells2 hx
    have hr : RdI W (some ⟨b, 0, none⟩) [0, 1] := .inr ⟨b, 0, rfl, fun i hi => by
      match i, hi with
      | 0, _ => exact x0
      | 1, _ => exact x1⟩
    have h := c_same gn cn [0, 1] (some ⟨b, 0, none⟩) 2 [0, 1] W (RN.out.below hb) hr (by decide)
    rw [decide_eq_true rfl] at h
    exact h.mono fun e w' h => ⟨h.1, by obtain ⟨n, hn⟩ := h.2; rw [hn]; exact below_drewN (Below.refl _ _) n⟩)
  clear on0 on1 ba0 ba1 sh0 sh1 ap0 ap1
  refine wp_region_held_drew (S := (fun w' => w'.cell? ⟨Bon, 0, none⟩ = some (.int .i64 22) ∧ w'.cell? ⟨Bon, 1, none⟩ = some (.int .i64 22) ∧ w'.cell? ⟨Bba, 0, none⟩ = some (.int .i64 13) ∧ w'.cell? ⟨Bba, 1, none⟩ = some (.int .i64 19) ∧ w'.cell? ⟨Bsh, 0, none⟩ = some (.int .i64 87) ∧ w'.cell? ⟨Bsh, 1, none⟩ = some (.int .i64 99) ∧ w'.cell? ⟨Bap, 0, none⟩ = some (.int .i64 (-29)) ∧ w'.cell? ⟨Bap, 1, none⟩ = some (.int .i64 (-17)))) (by kernel_rfl) (by (try dsimp only); exact HSB.out _ (Below.refl _ _).drew) (fun hHeld => ?_)
  refine wpAnyH_gen (fun W0 hW0 => ?_)
  have HB0 : Below v50.heap.size v50 W0 := by rw [hW0]; exact (Below.refl _ _).drew
  clear hW0 hHeld
  refine wpAnyH_take (i := 0) (v := ?v1) rfl (by kernel_rfl) (by kernel_rfl) (by kernel_rfl) (fun _ _ _ h => by first | (exact absurd h.1 (by intro hh; cases hh)) | exact h) (Or.inl ⟨by kernel_rfl, ?hy1⟩) (by (try dsimp only); exact HSB.out _ HB0) ?rest1
  case hy1 => (intro w hSw; (try dsimp only at hSw); go_simp <;> (try with_reducible rfl))
  simp only [Act.put, ptL]
  refine wpAnyH_ready (rs := [1]) (by kernel_rfl) (by simp) ?_
  refine AllReadyH.cons rfl ?_ AllReadyH.nil
  intro K hK
  go_simp
  (with_reducible refine (c_span 22 22 W0).mono ?_)
  rintro e W2 ⟨rfl, hbn⟩
  have HB2 : Below v50.heap.size v50 W2 := HB0.trans (hbn.mono HB0.size)
  clear hbn
  go_simp
  refine hK.out _ _ (by (try dsimp only); exact HSB.out _ HB2) (fun hHeld => ?_)
  clear hK K hHeld
  try simp only [Act.put, ptL]
  clear HB0
  refine wpAnyH_take (i := 2) (v := .bool false) rfl (by kernel_rfl) (by kernel_rfl) (by kernel_rfl) (fun _ _ _ h => by first | (exact absurd h.1 (by intro hh; cases hh)) | exact h) (Or.inl ⟨by kernel_rfl, ?hy3⟩) (by (try dsimp only); exact HSB.out _ HB2) ?rest3
  case hy3 => (intro w hSw; (try dsimp only at hSw); go_simp <;> (try with_reducible rfl) <;> (first | rfl | simp | decide))
  simp only [Act.put, ptL]
  refine wpAnyH_take (i := 3) (v := .bool false) rfl (by kernel_rfl) (by kernel_rfl) (by kernel_rfl) (fun _ _ _ h => by first | (exact absurd h.1 (by intro hh; cases hh)) | exact h) (Or.inl ⟨by kernel_rfl, ?hy4⟩) (by (try dsimp only); exact HSB.out _ HB2) ?rest4
  case hy4 => (intro w hSw; (try dsimp only at hSw); go_simp <;> (try with_reducible rfl) <;> (first | rfl | simp | decide))
  simp only [Act.put, ptL]
  refine wpAnyH_take (i := 4) (v := ?v5) rfl (by kernel_rfl) (by kernel_rfl) (by kernel_rfl) (fun _ _ _ h => by first | (exact absurd h.1 (by intro hh; cases hh)) | exact h) (Or.inl ⟨by kernel_rfl, ?hy5⟩) (by (try dsimp only); exact HSB.out _ HB2) ?rest5
  case hy5 => (intro w hSw; (try dsimp only at hSw); go_simp <;> (try with_reducible rfl))
  simp only [Act.put, ptL]
  refine wpAnyH_ready (rs := [5]) (by kernel_rfl) (by simp) ?_
  refine AllReadyH.cons rfl ?_ AllReadyH.nil
  intro K hK
  with_reducible refine wan ?hb6 ?hq6
  case hb6 => kernel_rfl
  go_simp
  (with_reducible refine (c_span 13 19 W2).mono ?_)
  rintro e W6 ⟨rfl, hbn⟩
  have HB6 : Below v50.heap.size v50 W6 := HB2.trans (hbn.mono HB2.size)
  clear hbn
  go_simp
  refine hK.out _ _ (by (try dsimp only); exact HSB.out _ HB6) (fun hHeld => ?_)
  clear hK K hHeld
  try simp only [Act.put, ptL]
  clear HB2
  refine wpAnyH_take (i := 6) (v := .bool false) rfl (by kernel_rfl) (by kernel_rfl) (by kernel_rfl) (fun _ _ _ h => by first | (exact absurd h.1 (by intro hh; cases hh)) | exact h) (Or.inl ⟨by kernel_rfl, ?hy7⟩) (by (try dsimp only); exact HSB.out _ HB6) ?rest7
  case hy7 => (intro w hSw; (try dsimp only at hSw); go_simp <;> (try with_reducible rfl) <;> (first | rfl | simp | decide))
  simp only [Act.put, ptL]
  refine wpAnyH_take (i := 7) (v := .bool false) rfl (by kernel_rfl) (by kernel_rfl) (by kernel_rfl) (fun _ _ _ h => by first | (exact absurd h.1 (by intro hh; cases hh)) | exact h) (Or.inl ⟨by kernel_rfl, ?hy8⟩) (by (try dsimp only); exact HSB.out _ HB6) ?rest8
  case hy8 => (intro w hSw; (try dsimp only at hSw); go_simp <;> (try with_reducible rfl) <;> (first | rfl | simp | decide))
  simp only [Act.put, ptL]
  refine wpAnyH_take (i := 8) (v := .bool false) rfl (by kernel_rfl) (by kernel_rfl) (by kernel_rfl) (fun _ _ _ h => by first | (exact absurd h.1 (by intro hh; cases hh)) | exact h) (Or.inl ⟨by kernel_rfl, ?hy9⟩) (by (try dsimp only); exact HSB.out _ HB6) ?rest9
  case hy9 => (intro w hSw; (try dsimp only at hSw); go_simp <;> (try with_reducible rfl) <;> (first | rfl | simp | decide))
  simp only [Act.put, ptL]
  refine wpAnyH_take (i := 9) (v := ?v10) rfl (by kernel_rfl) (by kernel_rfl) (by kernel_rfl) (fun _ _ _ h => by first | (exact absurd h.1 (by intro hh; cases hh)) | exact h) (Or.inl ⟨by kernel_rfl, ?hy10⟩) (by (try dsimp only); exact HSB.out _ HB6) ?rest10
  case hy10 => (intro w hSw; (try dsimp only at hSw); go_simp <;> (try with_reducible rfl))
  simp only [Act.put, ptL]
  refine wpAnyH_ready (rs := [10]) (by kernel_rfl) (by simp) ?_
  refine AllReadyH.cons rfl ?_ AllReadyH.nil
  intro K hK
  with_reducible refine wan ?hb11 ?hq11
  case hb11 => kernel_rfl
  go_simp
  (with_reducible refine (c_span 87 99 W6).mono ?_)
  rintro e W11 ⟨rfl, hbn⟩
  have HB11 : Below v50.heap.size v50 W11 := HB6.trans (hbn.mono HB6.size)
  clear hbn
  go_simp
  refine hK.out _ _ (by (try dsimp only); exact HSB.out _ HB11) (fun hHeld => ?_)
  clear hK K hHeld
  try simp only [Act.put, ptL]
  clear HB6
  refine wpAnyH_take (i := 11) (v := .bool false) rfl (by kernel_rfl) (by kernel_rfl) (by kernel_rfl) (fun _ _ _ h => by first | (exact absurd h.1 (by intro hh; cases hh)) | exact h) (Or.inl ⟨by kernel_rfl, ?hy12⟩) (by (try dsimp only); exact HSB.out _ HB11) ?rest12
  case hy12 => (intro w hSw; (try dsimp only at hSw); go_simp <;> (try with_reducible rfl) <;> (first | rfl | simp | decide))
  simp only [Act.put, ptL]
  refine wpAnyH_take (i := 12) (v := .bool false) rfl (by kernel_rfl) (by kernel_rfl) (by kernel_rfl) (fun _ _ _ h => by first | (exact absurd h.1 (by intro hh; cases hh)) | exact h) (Or.inl ⟨by kernel_rfl, ?hy13⟩) (by (try dsimp only); exact HSB.out _ HB11) ?rest13
  case hy13 => (intro w hSw; (try dsimp only at hSw); go_simp <;> (try with_reducible rfl) <;> (first | rfl | simp | decide))
  simp only [Act.put, ptL]
  refine wpAnyH_take (i := 13) (v := .bool false) rfl (by kernel_rfl) (by kernel_rfl) (by kernel_rfl) (fun _ _ _ h => by first | (exact absurd h.1 (by intro hh; cases hh)) | exact h) (Or.inl ⟨by kernel_rfl, ?hy14⟩) (by (try dsimp only); exact HSB.out _ HB11) ?rest14
  case hy14 => (intro w hSw; (try dsimp only at hSw); go_simp <;> (try with_reducible rfl) <;> (first | rfl | simp | decide))
  simp only [Act.put, ptL]
  refine wpAnyH_take (i := 14) (v := ?v15) rfl (by kernel_rfl) (by kernel_rfl) (by kernel_rfl) (fun _ _ _ h => by first | (exact absurd h.1 (by intro hh; cases hh)) | exact h) (Or.inl ⟨by kernel_rfl, ?hy15⟩) (by (try dsimp only); exact HSB.out _ HB11) ?rest15
  case hy15 => (intro w hSw; (try dsimp only at hSw); go_simp <;> (try with_reducible rfl))
  simp only [Act.put, ptL]
  refine wpAnyH_ready (rs := [15]) (by kernel_rfl) (by simp) ?_
  refine AllReadyH.cons rfl ?_ AllReadyH.nil
  intro K hK
  with_reducible refine wan ?hb16 ?hq16
  case hb16 => kernel_rfl
  go_simp
  (with_reducible refine (c_span (-29) (-17) W11).mono ?_)
  rintro e W16 ⟨rfl, hbn⟩
  have HB16 : Below v50.heap.size v50 W16 := HB11.trans (hbn.mono HB11.size)
  clear hbn
  go_simp
  refine hK.out _ _ (by (try dsimp only); exact HSB.out _ HB16) (fun hHeld => ?_)
  clear hK K hHeld
  try simp only [Act.put, ptL]
  clear HB11
  refine wpAnyH_take (i := 16) (v := .bool false) rfl (by kernel_rfl) (by kernel_rfl) (by kernel_rfl) (fun _ _ _ h => by first | (exact absurd h.1 (by intro hh; cases hh)) | exact h) (Or.inl ⟨by kernel_rfl, ?hy17⟩) (by (try dsimp only); exact HSB.out _ HB16) ?rest17
  case hy17 => (intro w hSw; (try dsimp only at hSw); go_simp <;> (try with_reducible rfl) <;> (first | rfl | simp | decide))
  simp only [Act.put, ptL]
  refine wpAnyH_take (i := 17) (v := .bool false) rfl (by kernel_rfl) (by kernel_rfl) (by kernel_rfl) (fun _ _ _ h => by first | (exact absurd h.1 (by intro hh; cases hh)) | exact h) (Or.inl ⟨by kernel_rfl, ?hy18⟩) (by (try dsimp only); exact HSB.out _ HB16) ?rest18
  case hy18 => (intro w hSw; (try dsimp only at hSw); go_simp <;> (try with_reducible rfl) <;> (first | rfl | simp | decide))
  simp only [Act.put, ptL]
  refine wpAnyH_take (i := 18) (v := .bool false) rfl (by kernel_rfl) (by kernel_rfl) (by kernel_rfl) (fun _ _ _ h => by first | (exact absurd h.1 (by intro hh; cases hh)) | exact h) (Or.inl ⟨by kernel_rfl, ?hy19⟩) (by (try dsimp only); exact HSB.out _ HB16) ?rest19
  case hy19 => (intro w hSw; (try dsimp only at hSw); go_simp <;> (try with_reducible rfl) <;> (first | rfl | simp | decide))
  simp only [Act.put, ptL]
  refine wpAnyH_take (i := 19) (v := ?v20) rfl (by kernel_rfl) (by kernel_rfl) (by kernel_rfl) (fun _ _ _ h => by first | (exact absurd h.1 (by intro hh; cases hh)) | exact h) (Or.inl ⟨by kernel_rfl, ?hy20⟩) (by (try dsimp only); exact HSB.out _ HB16) ?rest20
  case hy20 => (intro w hSw; (try dsimp only at hSw); go_simp <;> (try with_reducible rfl))
  simp only [Act.put, ptL]
  refine wpAnyH_take (i := 20) (v := .bool false) rfl (by kernel_rfl) (by kernel_rfl) (by kernel_rfl) (fun _ _ _ h => by first | (exact absurd h.1 (by intro hh; cases hh)) | exact h) (Or.inl ⟨by kernel_rfl, ?hy21⟩) (by (try dsimp only); exact HSB.out _ HB16) ?rest21
  case hy21 => (intro w hSw; (try dsimp only at hSw); go_simp <;> (try with_reducible rfl) <;> (first | rfl | simp | decide))
  simp only [Act.put, ptL]
  refine wpAnyH_take (i := 21) (v := .bool false) rfl (by kernel_rfl) (by kernel_rfl) (by kernel_rfl) (fun _ _ _ h => by first | (exact absurd h.1 (by intro hh; cases hh)) | exact h) (Or.inl ⟨by kernel_rfl, ?hy22⟩) (by (try dsimp only); exact HSB.out _ HB16) ?rest22
  case hy22 => (intro w hSw; (try dsimp only at hSw); go_simp <;> (try with_reducible rfl) <;> (first | rfl | simp | decide))
  simp only [Act.put, ptL]
  refine wpAnyH_take (i := 22) (v := .bool false) rfl (by kernel_rfl) (by kernel_rfl) (by kernel_rfl) (fun _ _ _ h => by first | (exact absurd h.1 (by intro hh; cases hh)) | exact h) (Or.inl ⟨by kernel_rfl, ?hy23⟩) (by (try dsimp only); exact HSB.out _ HB16) ?rest23
  case hy23 => (intro w hSw; (try dsimp only at hSw); go_simp <;> (try with_reducible rfl) <;> (first | rfl | simp | decide))
  simp only [Act.put, ptL]
  refine wpAnyH_take (i := 23) (v := ?v24) rfl (by kernel_rfl) (by kernel_rfl) (by kernel_rfl) (fun _ _ _ h => by first | (exact absurd h.1 (by intro hh; cases hh)) | exact h) (Or.inl ⟨by kernel_rfl, ?hy24⟩) (by (try dsimp only); exact HSB.out _ HB16) ?rest24
  case hy24 => (intro w hSw; (try dsimp only at hSw); go_simp <;> (try with_reducible rfl))
  simp only [Act.put, ptL]
  refine wpAnyH_ready (rs := [24]) (by kernel_rfl) (by simp) ?_
  refine AllReadyH.cons rfl ?_ AllReadyH.nil
  intro K hK
  with_reducible refine wan ?hb25 ?hq25
  case hb25 => kernel_rfl
  go_simp
  refine hK.out _ _ (by (try dsimp only); exact HSB.out _ (HB16.alloc HB16.size _)) (fun hHeld => ?_)
  clear hK K hHeld
  try simp only [Act.put, ptL]
  refine wpAnyH_gen (fun W25 hWn => ?_)
  have HB25 : Below v50.heap.size v50 W25 := by rw [hWn]; exact HB16.alloc HB16.size _
  have hx_lt : W25.heap[W16.heap.size]? = some (.cells #[.int .i64 0, .int .i64 1] 3) := by rw [hWn]; exact alloc_new _ _
  have hl_lt : v50.heap.size ≤ W16.heap.size := HB16.size
  clear hWn
  obtain ⟨b_lt, hb_lt⟩ : ∃ b, W16.heap.size = b := ⟨_, rfl⟩
  rw [hb_lt] at hx_lt hl_lt ⊢
  clear HB16 hb_lt 
  refine wpAnyH_ready (rs := [25]) (by kernel_rfl) (by simp) ?_
  refine AllReadyH.cons rfl ?_ AllReadyH.nil
  intro K hK
  with_reducible refine wan ?hb26 ?hq26
  case hb26 => kernel_rfl
  go_simp
  (with_reducible refine (HSAME.out _ _ HB25 hx_lt).mono ?_)
  rintro e W26 ⟨rfl, hbn⟩
  have HB26 : Below v50.heap.size v50 W26 := HB25.trans (hbn.mono HB25.size)
  have hx_lt : W26.heap[b_lt]? = some (.cells #[.int .i64 0, .int .i64 1] 3) := (hbn.block _ (block_lt hx_lt)).trans hx_lt
  clear hbn
  go_simp
  refine hK.out _ _ (by (try dsimp only); exact HSB.out _ HB26) (fun hHeld => ?_)
  clear hK K hHeld
  try simp only [Act.put, ptL]
  clear HB25
  refine wpAnyH_take (i := 26) (v := .bool false) rfl (by kernel_rfl) (by kernel_rfl) (by kernel_rfl) (fun _ _ _ h => by first | (exact absurd h.1 (by intro hh; cases hh)) | exact h) (Or.inl ⟨by kernel_rfl, ?hy27⟩) (by (try dsimp only); exact HSB.out _ HB26) ?rest27
  case hy27 => (intro w hSw; (try dsimp only at hSw); go_simp <;> (try with_reducible rfl) <;> (first | rfl | simp | decide))
  simp only [Act.put, ptL]
  refine wpAnyH_take (i := 27) (v := .bool false) rfl (by kernel_rfl) (by kernel_rfl) (by kernel_rfl) (fun _ _ _ h => by first | (exact absurd h.1 (by intro hh; cases hh)) | exact h) (Or.inl ⟨by kernel_rfl, ?hy28⟩) (by (try dsimp only); exact HSB.out _ HB26) ?rest28
  case hy28 => (intro w hSw; (try dsimp only at hSw); go_simp <;> (try with_reducible rfl) <;> (first | rfl | simp | decide))
  simp only [Act.put, ptL]
  refine wpAnyH_take (i := 28) (v := .bool false) rfl (by kernel_rfl) (by kernel_rfl) (by kernel_rfl) (fun _ _ _ h => by first | (exact absurd h.1 (by intro hh; cases hh)) | exact h) (Or.inl ⟨by kernel_rfl, ?hy29⟩) (by (try dsimp only); exact HSB.out _ HB26) ?rest29
  case hy29 => (intro w hSw; (try dsimp only at hSw); go_simp <;> (try with_reducible rfl) <;> (first | rfl | simp | decide))
  simp only [Act.put, ptL]
  refine wpAnyH_take (i := 29) (v := ?v30) rfl (by kernel_rfl) (by kernel_rfl) (by kernel_rfl) (fun _ _ _ h => by first | (exact absurd h.1 (by intro hh; cases hh)) | exact h) (Or.inl ⟨by kernel_rfl, ?hy30⟩) (by (try dsimp only); exact HSB.out _ HB26) ?rest30
  case hy30 => (intro w hSw; (try dsimp only at hSw); go_simp <;> (try with_reducible rfl))
  simp only [Act.put, ptL]
  refine wpAnyH_take (i := 30) (v := .bool false) rfl (by kernel_rfl) (by kernel_rfl) (by kernel_rfl) (fun _ _ _ h => by first | (exact absurd h.1 (by intro hh; cases hh)) | exact h) (Or.inl ⟨by kernel_rfl, ?hy31⟩) (by (try dsimp only); exact HSB.out _ HB26) ?rest31
  case hy31 => (intro w hSw; (try dsimp only at hSw); go_simp <;> (try with_reducible rfl) <;> (first | rfl | simp | decide))
  simp only [Act.put, ptL]
  refine wpAnyH_take (i := 31) (v := .bool false) rfl (by kernel_rfl) (by kernel_rfl) (by kernel_rfl) (fun _ _ _ h => by first | (exact absurd h.1 (by intro hh; cases hh)) | exact h) (Or.inl ⟨by kernel_rfl, ?hy32⟩) (by (try dsimp only); exact HSB.out _ HB26) ?rest32
  case hy32 => (intro w hSw; (try dsimp only at hSw); go_simp <;> (try with_reducible rfl) <;> (first | rfl | simp | decide))
  simp only [Act.put, ptL]
  try go_simp
  refine wpAnyH_done (by kernel_rfl) ?_ _
  obtain ⟨wz, hwz⟩ : ∃ wz, wz = W26 := ⟨_, rfl⟩
  subst hwz
  have HBZ := HB26
  clear HB26
  clear HSB HSAME
  clear Con
  clear Cba
  clear Csh
  clear Cap
  clear RN
  replace HM := Lib.hid (HM.out.below HBZ)
  replace HI := Lib.hid (HI.out.below HBZ)
  replace HB := Lib.hid (HB.out.trans (HBZ.mono HB.out.size))
  replace RY := Lib.hid (RY.out.below HBZ)
  replace Cy := Lib.hid ((HBZ.block _ (block_lt Cy.out)).trans Cy.out)
  obtain ⟨y0, y1, y2⟩ := cells3 Cy.out
  obtain ⟨v51, e_v51⟩ : ∃ x, wz.alloc (.cells #[.int .i64 0, .int .i64 0] 81) = x := ⟨_, rfl⟩
  have b_v51 : Below wz.heap.size wz v51 := by rw [← e_v51]; exact below_alloc1 _ _
  have hms : RdS v51 (some ⟨wz.heap.size, 0, none⟩) [(0, 0)] := by rw [← e_v51]; exact rds_lit wz [(0, 0)] 81
  have hc : Calls Tryz.prog 48 #[.agg #[.slice pm 1 cm, .slice pv 0 cv, .slice pr 0 cr'], .agg #[.slice (some ⟨wz.heap.size, 0, none⟩) 1 1, .slice none 0 0, .slice none 0 0]] v51 fun e w' => BoolIs (exY = exY) e ∧ Below v51.heap.size v51 w' := c_samePieces pm pv pr cm cv cr' exY (some ⟨wz.heap.size, 0, none⟩) none none 1 0 0 exY v51 (RY.out.below b_v51) ⟨hms, .inl rfl, .inl rfl⟩ ⟨by decide, by decide, by decide⟩
  replace HM := Lib.hid (HM.out.below b_v51)
  replace HI := Lib.hid (HI.out.below b_v51)
  replace HB := Lib.hid (HB.out.trans (b_v51.mono HB.out.size))
  replace RY := Lib.hid (RY.out.below b_v51)
  replace Cy := Lib.hid ((b_v51.block _ (block_lt Cy.out)).trans Cy.out)
  clear hms b_v51 Cy RY
  go_wp2_with fail
  refine hc.mono ?_
  clear hc
  rintro e vz ⟨⟨bb, rfl, hbb⟩, bz⟩
  obtain rfl : bb = true := hbb.2 (by first | trivial | rfl)
  have HF := Lib.hid (HB.out.trans (bz.mono HB.out.size))
  clear bz hbb
  go_wp2
  go_ret
  exact ⟨rfl, HF.out⟩
end Go.Proofs.YtlednchfifphgaaGreatDoor
end
