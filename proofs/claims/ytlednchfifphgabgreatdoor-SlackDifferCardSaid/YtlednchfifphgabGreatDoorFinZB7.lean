/-
  Plain laws of chains of arbors (no program in sight): where all arbors are before the first move, and after a move.
  Plain laws of bounds, of lost motion, and of a crank that is turned on and back (no program in sight).
  Plain laws of hands, and of aims (no program in sight).
  What the references do, step by step: hulls, all plays mesh by mesh, lists of meshes; no program in sight.
  What a hand reads as.
  What is a hand, in the document's words; a number rounded down: contracts.
  A move made in two parts: what the moves are then, and where the arbors are (no program in sight).
  A negation in a quiet walk.
  A drawn region whose cells are known: its beginning, in short words.
  The document's move of all arbors, and where all arbors are: contracts.
  The document's places before the first move and after each one: contract.
  Whether plays are a truth, in the document's words: contract.
  All truths, in the document's words: contract.
  Where all arbors are after all moves, in each of some truths: contract.
  How many truths are left, and which arbor should be read, in the document's words: contracts.
  The least and the greatest number at each place of some lists: contracts.
  What a hand shows, in the document's words: contracts (printed by ref.py).
  Whether a hand has a short list, in the law's words: contract.
  What the laws ask: a piece's truths, or its error; contracts.
  By how much the crank can be turned before an arbor moves (the walk).
  A piece with some moves more, or with one reading more, in the document's words: contracts.
  The theorem of lost motion (the walk).
  A drawn region with eleven to fourteen cells: its beginning.
  The theorem of two hands (the walk; printed by ref.py).
  The law SlackDiffer: its card. Conditions: none of the input; the tables of the library that the row lists are as the program lays them (the tie is given).
-/
import Derived.Test.YtlednchfifphgabGreatDoorGA
import Derived.Test.YtlednchfifphgabGreatDoorGC
import Derived.Test.YtlednchfifphgabGreatDoorGZ
import Derived.Test.YtlednchfifphgabGreatDoorGO
import Derived.Test.YtlednchfifphgabGreatDoorGG
import Derived.Test.YtlednchfifphgabGreatDoorGH
import Derived.Test.YtlednchfifphgabGreatDoorGL
import Derived.Test.YtlednchfifphgabGreatDoorGD
import Derived.Deep.Upon
import Derived.Deep.AppendLies
import Derived.Deep.RegionLaw
import Derived.StillTailTactics
import Derived.OwnWalk
import Derived.Maps.AppendAt
import Derived.Test.YtlednchfifphgabGreatDoorGJ
import Derived.Test.YtlednchfifphgabGreatDoorGM
import Derived.Test.YtlednchfifphgabGreatDoorGN
import Derived.Test.YtlednchfifphgabGreatDoorGP
import Derived.Test.YtlednchfifphgabGreatDoorGQ
import Derived.BigQuiet
import Derived.Test.YtlednchfifphgabGreatDoorGX2
import Derived.Test.YtlednchfifphgabGreatDoorGR
import Derived.Test.YtlednchfifphgabGreatDoorGY
import Derived.Test.YtlednchfifphgabGreatDoorCards
section
namespace Go.Proofs.YtlednchfifphgabGreatDoor

theorem mvF_stepBack {pl pc : List Int} {m : Int} (hc : Chain pl pc) (hm : ¬ 0 ≤ m) (k : Nat) (h : k < pl.length) : gi (mvF pl pc m) (k + 1) = min (gi pc (k + 1)) (gi (mvF pl pc m) k) := by
  rw [mvF_back hm k (by omega), mvF_back hm (k + 1) (by omega)]; have := hc.le k h; omega
theorem mvF_stepRef {pl pc : List Int} {m : Int} (hp : Pos pl) (hc : Chain pl pc) (k : Nat) (h : k < pl.length) : gi (mvF pl pc m) (k + 1) = min (gi (mvF pl pc m) k) (max (gi (mvF pl pc m) k - gi pl k) (gi pc (k + 1))) := by
  have h3 := (mvF_chain hp hc m).le k h; have h4 := hp k h
  by_cases hm : 0 ≤ m
  · rw [mvF_stepOn hc hm k h] at h3 ⊢; omega
  · have h5 := hc.ge k h
    have h6 := mvF_back hm k (pc := pc) (pl := pl) (by omega); rw [mvF_stepBack hc hm k h] at h3 ⊢; omega
end Go.Proofs.YtlednchfifphgabGreatDoor
end

section
namespace Go.Proofs.YtlednchfifphgabGreatDoor
set_option linter.unusedVariables false

theorem ne_of_mem {α : Type} {l : List α} {x : α} (h : x ∈ l) : l ≠ [] := by rintro rfl; cases h
end Go.Proofs.YtlednchfifphgabGreatDoor
end

section
namespace Go.Proofs.YtlednchfifphgabGreatDoor
set_option linter.unusedVariables false

theorem sh_plain {p : Pc} (hp : PieceOk p) {h : Hd} (hh : HandOk p.ms.length h) {pl : List Int} (hpl : pl ∈ truthsF p) : -280030 ≤ (shF p h pl).1 ∧ (shF p h pl).1 ≤ (shF p h pl).2 ∧ (shF p h pl).2 ≤ 240030 := by
  have hk := truth_plays hp hpl; refine shown_plain hh (place_range hp hk p.mv.length h.arb.toNat (Nat.le_refl _) ?_); have := hh.arb; have := hk.len; omega
theorem shows_plain {p : Pc} (hp : PieceOk p) {h : Hd} (hh : HandOk p.ms.length h) (ht : truthsF p ≠ []) : -280030 ≤ (showsF p h).1 ∧ (showsF p h).1 ≤ (showsF p h).2 ∧ (showsF p h).2 ≤ 240030 := ovF_in _ _ _ ht fun pl hpl => sh_plain hp hh hpl
theorem apart_turn {p : Pc} (ht : truthsF p ≠ []) (h k : Hd) : (apartF p h k).1 = -(apartF p k h).2 ∧ (apartF p h k).2 = -(apartF p k h).1 := by
  obtain ⟨a, ha, ea⟩ := ovF_low (apF p h k) ht; obtain ⟨b, hb, eb⟩ := ovF_high (apF p h k) ht; obtain ⟨c, hc, ec⟩ := ovF_low (apF p k h) ht; obtain ⟨d, hd, ed⟩ := ovF_high (apF p k h) ht; have a1 := ovF_mem (apF p k h) ha; have b1 := ovF_mem (apF p k h) hb; have c1 := ovF_mem (apF p h k) hc; have d1 := ovF_mem (apF p h k) hd; unfold apF at ea eb ec ed a1 b1 c1 d1; unfold apartF apF; simp only at *; omega
theorem apart_within {p : Pc} (ht : truthsF p ≠ []) (h k : Hd) : (showsF p h).1 - (showsF p k).2 ≤ (apartF p h k).1 ∧ (apartF p h k).2 ≤ (showsF p h).2 - (showsF p k).1 := by
  obtain ⟨a, ha, ea⟩ := ovF_low (apF p h k) ht; obtain ⟨b, hb, eb⟩ := ovF_high (apF p h k) ht; have a1 := ovF_mem (shF p h) ha; have a2 := ovF_mem (shF p k) ha; have b1 := ovF_mem (shF p h) hb; have b2 := ovF_mem (shF p k) hb; have e1 : (ovF p (apF p h k)).1 = (shF p h a).1 - (shF p k a).2 := ea; have e2 : (ovF p (apF p h k)).2 = (shF p h b).2 - (shF p k b).1 := eb; unfold apartF showsF; omega
theorem apart_true {p : Pc} {pl : List Int} (hpl : pl ∈ truthsF p) (h k : Hd) : (apartF p h k).1 ≤ (shF p h pl).1 - (shF p k pl).2 ∧ (shF p h pl).2 - (shF p k pl).1 ≤ (apartF p h k).2 := ovF_mem (apF p h k) hpl
theorem apart_plain {p : Pc} (hp : PieceOk p) {h k : Hd} (hh : HandOk p.ms.length h) (hk : HandOk p.ms.length k) (ht : truthsF p ≠ []) : -600000 ≤ (apartF p h k).1 ∧ (apartF p h k).1 ≤ (apartF p h k).2 ∧ (apartF p h k).2 ≤ 600000 := by
  refine ovF_in _ _ _ ht fun pl hpl => ?_
  have h1 := sh_plain hp hh hpl; have h2 := sh_plain hp hk hpl; unfold apF; simp only; omega

end Go.Proofs.YtlednchfifphgabGreatDoor
end

section
namespace Go.Proofs.YtlednchfifphgabGreatDoor
set_option linter.unusedVariables false

theorem down_ediv (n b : Int) (hb : 0 < b) : (if n.tdiv b * b > n then n.tdiv b - 1 else n.tdiv b) = n / b := by
  have e2 : (n / b) * b + n % b = n := by have := Int.emod_add_mul_ediv n b; rw [Int.mul_comm (n / b) b]; omega
  have h1 := Int.emod_nonneg n (show b ≠ 0 by omega); have h2 := Int.emod_lt_of_pos n hb
  rcases Int.le_total 0 n with h | h
  · rw [Int.tdiv_eq_ediv_of_nonneg h, if_neg (by omega)]
  · rw [Int.tdiv_eq_ediv]
    by_cases hd : 0 ≤ n ∨ b ∣ n
    · rw [if_pos hd, Int.add_zero, if_neg (by omega)]
    · rw [if_neg hd, Int.sign_eq_one_of_pos hb]
      have hne : n % b ≠ 0 := fun hc => hd (.inr (Int.dvd_of_emod_eq_zero hc))
      rw [if_pos (by rw [Int.add_mul, Int.one_mul]; omega)]; omega

end Go.Proofs.YtlednchfifphgabGreatDoor
end

section
namespace Go.Proofs.YtlednchfifphgabGreatDoor
open Go Go.ChangeShapes Go.WideShapes Go.ChangeAt Go.RowKit Go.Proofs
set_option linter.unusedVariables false
theorem tc_span : Tryz.prog.cellsOf 36 = 2 := by kernel_rfl
theorem tc_hand : Tryz.prog.cellsOf 29 = 4 := by kernel_rfl
section
variable {H : Type} {enc : TypeId × Value → H} {W : World}
set_option maxRecDepth 100000 in
theorem rd_spansT {fuel : Nat} {v : Value} {x : DataW H × List MemPlace} (h : DataW.trod enc Tryz.prog W 0 (fun _ => true) true fuel 27 [v] = some x) :
    ∃ p cap, ∃ xs : List (Int × Int), v = .slice p xs.length cap ∧ RdS W p xs ∧ xs.length ≤ maxLen := by
  rcases Deep.open_slice Tryz.underlying27 h with ⟨hcs, _⟩ | ⟨a, l, c, m, n, D, Pl, hcs, _, hl, hm, hmm, _, hx⟩
  · exact ⟨none, 0, [], by simpa using hcs, .inl rfl, by simp⟩
  · obtain rfl : v = .slice (some a) l c := by simpa using hcs
    simp only [if_true] at hmm; subst hmm; rw [tc_span] at hx
    have each : ∀ i, i < l → ∃ g : Int × Int, W.cell? (a.add (i * 2)) = some (.int .i64 g.1) ∧ W.cell? ((a.add (i * 2)).add 1) = some (.int .i64 g.2) := by
      intro i hi; obtain ⟨cs', h1, h2⟩ := hx i (by omega); obtain ⟨_, hlen, hcell⟩ := World.cells?_some h1; obtain ⟨y0, y1, k, _, _, t0, t1⟩ := trod_struct2 Tryz.underlying36 h2
      match cs', hlen with
      | [c0, c1], _ =>
        simp only [tc_int] at t0 t1; obtain ⟨x0, rfl, _⟩ := int_ofT (v := c0) t0; obtain ⟨x1, rfl, _⟩ := int_ofT (v := c1) t1; refine ⟨(x0, x1), ?_, ?_⟩
        · have := hcell 0 (by omega)
          simpa [Addr.add] using this
        · exact hcell 1 (by omega)
    obtain ⟨gs, h1, h2⟩ := list_of (0, 0) (fun i g => W.cell? (a.add (i * 2)) = some (.int .i64 g.1) ∧ W.cell? ((a.add (i * 2)).add 1) = some (.int .i64 g.2)) l each; refine ⟨some a, _, gs, by rw [h1], ?_, by omega⟩
    rcases Nat.eq_zero_or_pos l with h0 | h0
    · left; exact List.length_eq_zero_iff.1 (by omega)
    · obtain ⟨b, off, spot⟩ := a
      have hc := (h2 0 h0).1; have hspot : spot = none := by simpa [Addr.add] using World.cell?_spot hc
      subst hspot; refine .inr ⟨b, off, rfl, fun i hi => ?_⟩; have := h2 i (by omega); rw [add_plainT, add_plainT] at this; exact this
set_option maxRecDepth 100000 in
theorem op_hand {base : Nat} {v : Value} {d : DataW H} {ps : List MemPlace} (hv : Value.okWide Tryz.prog W .any base 29 v) (h : DataW.Trod enc Tryz.prog W 0 (fun _ => true) true 29 v d ps) :
    ∃ (g : Hd) (pe : Option Addr) (ce : Nat), v = hdV g pe ce ∧ RdS W pe g.er := by
  obtain ⟨v0, v1, v2, v3, y0, y1, y2, y3, n, rfl, _, _, h0, h1, h2, h3⟩ := Joins.open_agg4 Tryz.underlying29 (by kernel_rfl) tc_hand hv h; obtain ⟨a, rfl, _⟩ := int_ofT h0; obtain ⟨b, rfl, _⟩ := int_ofT h1; obtain ⟨c, rfl, _⟩ := int_ofT h2; obtain ⟨pe, ce, er, rfl, r3, _⟩ := rd_spansT h3; exact ⟨⟨a, b, c, er⟩, pe, ce, rfl, r3⟩
end
end Go.Proofs.YtlednchfifphgabGreatDoor
end

section
namespace Go.Proofs.YtlednchfifphgabGreatDoor
open Go Go.RowKit Go.Proofs
set_option linter.unusedVariables false
set_option linter.unusedSimpArgs false
attribute [local go_sem] imax2 imin2

set_option maxHeartbeats 1600000 in
set_option maxRecDepth 100000 in
theorem r_Hand (pm pv pr : Option Addr) (cm cv cr : Nat) (p : Pc) (h : Hd) (pe : Option Addr) (ce : Nat) (w : World) (hh : RdS w pe h.er) (hl : h.er.length ≤ 1000000) :
    Calls Tryz.prog 21 #[.agg #[.slice pm p.ms.length cm, .slice pv p.mv.length cv, .slice pr p.rs.length cr], hdV h pe ce] w fun e w' => e = .returned (.bool (handB p.ms.length h)) ∧ Below w.heap.size w w' := by
  unfold hdV; obtain ⟨w0, e0, HS0, k0, k1, k2, b0⟩ := box3 w (.slice pm p.ms.length cm) (.slice pv p.mv.length cv) (.slice pr p.rs.length cr) 26; obtain ⟨w1, e1, HS1, q0, q1, q2, q3, b1⟩ := box4 w0 (.int .i64 h.arb) (.int .i64 h.num) (.int .i64 h.den) (.slice pe h.er.length ce) 29; have HE := Lib.hid ((hh.below b0).below b1); have HB := Lib.hid (b0.trans (b1.mono b0.size)); have k0 := (b1.cell (lt_of_cellq k0)).trans k0; have HQ := Lib.hid (handB_parts p.ms.length h); have HKK := Lib.hid (And.intro k0 (And.intro q0 (And.intro q1 (And.intro q2 q3)))); clear b0 b1 hh k0 k1 k2 q0 q1 q2
  go_enter Tryz.func21, Tryz.ntmps21
  go_wp2; clear e0 e1 q3
  go_loopw [5] (fun i wr => ∃ k : Nat, k ≤ h.er.length ∧ i = .int .i64 k ∧ Hid (∀ j, j < k → errB (gm h.er j) = true) ∧ Hid (Below w1.heap.size w1 wr)) (fun i _ => h.er.length - (intOf i).toNat)
  case atStart => exact ⟨0, Nat.zero_le _, rfl, Lib.hid (fun j hj => by omega), Lib.hid (Below.refl _ _)⟩
  case round =>
    obtain ⟨k, hk, rfl, HK, HY⟩ := hrel; have HBB := Lib.hid (HB.out.trans (HY.out.mono HB.out.size)); have q3 := (HY.out.cell (lt_of_cellq HKK.out.2.2.2.2)).trans HKK.out.2.2.2.2
    by_cases hlt : k < h.er.length
    · have hki : (k : Int) < (h.er.length : Int) := by omega
      obtain ⟨b, off, rfl, hc⟩ := (HE.out.below HY.out).at hlt; obtain ⟨d0, d1⟩ := hc k hlt; have HBAD := Lib.hid (show errB (gm h.er k) = false → handB p.ms.length h = false from fun g => by rw [HQ.out, all_badP (0, 0) hlt (show errB (h.er.getD k (0, 0)) = false from g)]; simp); have HNX := Lib.hid (show errB (gm h.er k) = true → ∀ j, j < k + 1 → errB (gm h.er j) = true from upto_succ HK.out); obtain ⟨M, hM⟩ : ∃ M, gm h.er k = M := ⟨_, rfl⟩; rw [hM] at d0 d1 HBAD HNX; obtain ⟨lo, hi⟩ := M; obtain ⟨w4, e4, HS4, y0, y1, b4⟩ := box2 wr (.int .i64 lo) (.int .i64 hi) 36; have HB4 := Lib.hid (HBB.out.trans (b4.mono HBB.out.size)); have HY4 := Lib.hid (HY.out.trans (b4.mono HY.out.size)); clear hc hM b4
      by_cases g1 : lo < -30
      · have H := Lib.hid (HBAD.out (by unfold errB; simp; omega))
        go_wp2; go_ret; exact ⟨by rw [H.out]; rfl, HB4.out⟩
      by_cases g2 : lo > hi
      · have H := Lib.hid (HBAD.out (by unfold errB; simp; omega))
        go_wp2; go_ret; exact ⟨by rw [H.out]; rfl, HB4.out⟩
      by_cases g3 : hi > 30
      · have H := Lib.hid (HBAD.out (by unfold errB; simp; omega))
        go_wp2; go_ret; exact ⟨by rw [H.out]; rfl, HB4.out⟩
      · have H := Lib.hid (HNX.out (by unfold errB; simp; omega))
        go_wp2; go_roundw
        case rel => exact ⟨k + 1, by omega, by go_num, H, HY4⟩
        case measure => simp [intOf]; omega
    · obtain rfl : k = h.er.length := by omega
      have hki : ¬ (h.er.length : Int) < (h.er.length : Int) := by omega
      have HMS := Lib.hid (show h.er.all errB = true from (all_at (0, 0) h.er).2 HK.out); have k0 := (HY.out.cell (lt_of_cellq HKK.out.1)).trans HKK.out.1; have q0 := (HY.out.cell (lt_of_cellq HKK.out.2.1)).trans HKK.out.2.1; have q1 := (HY.out.cell (lt_of_cellq HKK.out.2.2.1)).trans HKK.out.2.2.1; have q2 := (HY.out.cell (lt_of_cellq HKK.out.2.2.2.1)).trans HKK.out.2.2.2.1; clear HK
      rcases h1 : inB h.arb 0 p.ms.length with _ | _
      · have H := Lib.hid (show handB p.ms.length h = false by rw [HQ.out]; simp [h1])
        go_wp2_with fail; refine (r_in _ _ _ _).mono ?_; rw [h1]; rintro e wn ⟨rfl, rfl⟩; go_wp2; go_ret; exact ⟨by rw [H.out]; rfl, HBB.out⟩
      rcases h2 : inB h.num 1 100 with _ | _
      · have H := Lib.hid (show handB p.ms.length h = false by rw [HQ.out]; simp [h1, h2])
        go_wp2_with fail; refine (r_in _ _ _ _).mono ?_; rw [h1]; rintro e wn ⟨rfl, rfl⟩; go_wp2_with fail; refine (r_in _ _ _ _).mono ?_; rw [h2]; rintro e wn ⟨rfl, rfl⟩; go_wp2; go_ret; exact ⟨by rw [H.out]; rfl, HBB.out⟩
      rcases h3 : inB h.den 1 100 with _ | _
      · have H := Lib.hid (show handB p.ms.length h = false by rw [HQ.out]; simp [h1, h2, h3])
        go_wp2_with fail; refine (r_in _ _ _ _).mono ?_; rw [h1]; rintro e wn ⟨rfl, rfl⟩; go_wp2_with fail; refine (r_in _ _ _ _).mono ?_; rw [h2]; rintro e wn ⟨rfl, rfl⟩; go_wp2_with fail; refine (r_in _ _ _ _).mono ?_; rw [h3]; rintro e wn ⟨rfl, rfl⟩; go_wp2; go_ret; exact ⟨by rw [H.out]; rfl, HBB.out⟩
      have H := Lib.hid (show handB p.ms.length h = inB (h.er.length : Int) 1 8 by rw [HQ.out, HMS.out, h1, h2, h3]; simp); go_wp2_with fail; refine (r_in _ _ _ _).mono ?_; rw [h1]; rintro e wn ⟨rfl, rfl⟩; go_wp2_with fail; refine (r_in _ _ _ _).mono ?_; rw [h2]; rintro e wn ⟨rfl, rfl⟩; go_wp2_with fail; refine (r_in _ _ _ _).mono ?_; rw [h3]; rintro e wn ⟨rfl, rfl⟩; go_wp2_with fail; refine (r_in _ _ _ _).mono ?_; rintro e wn ⟨rfl, rfl⟩; go_wp2; go_ret; exact ⟨by rw [H.out]; rfl, HBB.out⟩

set_option maxRecDepth 100000 in
theorem r_down (a b : Int) (w : World) (hb : 0 < b) (hb2 : b ≤ 100000) (ha : -1000000000 ≤ a ∧ a ≤ 1000000000) :
    Calls Tryz.prog 81 #[.int .i64 a, .int .i64 b] w fun e w' => e = .returned (.int .i64 (a / b)) ∧ w = w' := by
  obtain ⟨ha1, ha2⟩ := ha; have hb0 : ¬ b = 0 := by omega
  have HD := Lib.hid (down_ediv a b hb); have h2 := Int.tmod_lt_of_pos a hb; have h2b := Int.lt_tmod_of_pos a hb; have h5 := Int.mul_tdiv_add_tmod a b; have h6 : a.tdiv b * b = b * a.tdiv b := Int.mul_comm _ _
  have h3 : -1000000000 ≤ a.tdiv b ∧ a.tdiv b ≤ 1000000000 := by
    have h7 : (a.tdiv b).natAbs ≤ a.natAbs := by rw [Int.natAbs_tdiv]; exact Nat.div_le_self _ _
    omega
  obtain ⟨h31, h32⟩ := h3; obtain ⟨D, hD⟩ : ∃ D, a.tdiv b = D := ⟨_, rfl⟩; obtain ⟨E, hE⟩ : ∃ E, D * b = E := ⟨_, rfl⟩; rw [hD] at HD h5 h6 h31 h32; rw [hE] at HD h6; have w1 : IntKind.i64.wrap D = D := w64 _ (by omega) (by omega); have w2 : IntKind.i64.wrap E = E := w64 _ (by omega) (by omega); have w3 : IntKind.i64.wrap (D - 1) = D - 1 := w64 _ (by omega) (by omega); clear h5 h6 h31 h32 h2 h2b
  by_cases h : E > a
  · have H := Lib.hid (show a / b = D - 1 by rw [← HD.out, if_pos h])
    go_enter Tryz.func81, Tryz.ntmps81
    go_wp2; go_ret; exact ⟨by rw [H.out]; rfl, rfl⟩
  · have H := Lib.hid (show a / b = D by rw [← HD.out, if_neg h])
    go_enter Tryz.func81, Tryz.ntmps81
    go_wp2; go_ret; exact ⟨by rw [H.out]; rfl, rfl⟩
end Go.Proofs.YtlednchfifphgabGreatDoor
end

section
namespace Go.Proofs.YtlednchfifphgabGreatDoor
set_option linter.unusedVariables false

theorem gi_take (a : List Int) (k i : Nat) (h : i < k) : gi (a.take k) i = gi a i := by
  unfold gi; rw [List.getD_eq_getElem?_getD, List.getElem?_take, if_pos h, ← List.getD_eq_getElem?_getD]
end Go.Proofs.YtlednchfifphgabGreatDoor
end

section
namespace Go.Proofs.YtlednchfifphgabGreatDoor
open Go Go.RowKit
set_option linter.unusedVariables false
theorem wq_not {P : Program} {C : World → Prop} {ops : Array Oper} {Q : Act → Prop} {rest : List Oper} {a : Act} {d : Nat} {t ty : TypeId} {x : Operand} {pos : String} {af : Array Edge} {g : Option (Nat × Bool)} {b : Bool}
    (hw : Region.wanted ⟨some d, .unOp .not t x, ty, pos, af, g⟩ (yielded ops a.tmps) = true) (hx : a.eval x = .bool b)
    (hk : wpQuiet P ops C Q rest (a.put (some d) (.bool (!b)))) : wpQuiet P ops C Q (⟨some d, .unOp .not t x, ty, pos, af, g⟩ :: rest) a :=
  wq hw (q_val (o := ⟨some d, .unOp .not t x, ty, pos, af, g⟩) (.bool (!b)) (fun w _ => by unfold execOp; dsimp only; rw [hx]; simp [go_sem]) hk)
end Go.Proofs.YtlednchfifphgabGreatDoor
end

section
namespace Go.Proofs.YtlednchfifphgabGreatDoor
open Go Go.RowKit
set_option linter.unusedVariables false
section
variable {P : Program} {ops : Array Oper} {Q : Exit → Act → World → Prop} {id : Nat} {a : Act} {w : World}
theorem cl1 {a0 : Addr} {v0 : Value} (h0 : w.cell? a0 = some v0) : ∀ w', Below w.heap.size w w' → w'.cell? a0 = some v0 := fun w' hb => (hb.cell (lt_of_cellq h0)).trans h0
theorem held1 {a0 : Addr} {v0 : Value} (h0 : w.cell? a0 = some v0)
    (k : ∀ W0, Below w.heap.size w W0 → wpAnyH P .any ops Q (fun w' => w'.cell? a0 = some v0) ops.size (Array.replicate ops.size false) a W0)
    (hm : P.follows .mixedOrders = true := by kernel_rfl) : (Code.region id ops true).wp P Q a w :=
  wp_region_held_drew (S := fun w' => w'.cell? a0 = some v0) hm (cl1 h0 _ (Below.refl _ _).drew) (fun _ => k _ (Below.refl _ _).drew)
theorem cl2 {a0 a1 : Addr} {v0 v1 : Value} (h0 : w.cell? a0 = some v0) (h1 : w.cell? a1 = some v1) : ∀ w', Below w.heap.size w w' → w'.cell? a0 = some v0 ∧ w'.cell? a1 = some v1 := fun w' hb => ⟨(hb.cell (lt_of_cellq h0)).trans h0, (hb.cell (lt_of_cellq h1)).trans h1⟩
theorem held2 {a0 a1 : Addr} {v0 v1 : Value} (h0 : w.cell? a0 = some v0) (h1 : w.cell? a1 = some v1)
    (k : ∀ W0, Below w.heap.size w W0 → wpAnyH P .any ops Q (fun w' => w'.cell? a0 = some v0 ∧ w'.cell? a1 = some v1) ops.size (Array.replicate ops.size false) a W0)
    (hm : P.follows .mixedOrders = true := by kernel_rfl) : (Code.region id ops true).wp P Q a w :=
  wp_region_held_drew (S := fun w' => w'.cell? a0 = some v0 ∧ w'.cell? a1 = some v1) hm (cl2 h0 h1 _ (Below.refl _ _).drew) (fun _ => k _ (Below.refl _ _).drew)
theorem cl3 {a0 a1 a2 : Addr} {v0 v1 v2 : Value} (h0 : w.cell? a0 = some v0) (h1 : w.cell? a1 = some v1) (h2 : w.cell? a2 = some v2) : ∀ w', Below w.heap.size w w' → w'.cell? a0 = some v0 ∧ w'.cell? a1 = some v1 ∧ w'.cell? a2 = some v2 := fun w' hb => ⟨(hb.cell (lt_of_cellq h0)).trans h0, (hb.cell (lt_of_cellq h1)).trans h1, (hb.cell (lt_of_cellq h2)).trans h2⟩
theorem held3 {a0 a1 a2 : Addr} {v0 v1 v2 : Value} (h0 : w.cell? a0 = some v0) (h1 : w.cell? a1 = some v1) (h2 : w.cell? a2 = some v2)
    (k : ∀ W0, Below w.heap.size w W0 → wpAnyH P .any ops Q (fun w' => w'.cell? a0 = some v0 ∧ w'.cell? a1 = some v1 ∧ w'.cell? a2 = some v2) ops.size (Array.replicate ops.size false) a W0)
    (hm : P.follows .mixedOrders = true := by kernel_rfl) : (Code.region id ops true).wp P Q a w :=
  wp_region_held_drew (S := fun w' => w'.cell? a0 = some v0 ∧ w'.cell? a1 = some v1 ∧ w'.cell? a2 = some v2) hm (cl3 h0 h1 h2 _ (Below.refl _ _).drew) (fun _ => k _ (Below.refl _ _).drew)
theorem cl8 {a0 a1 a2 a3 a4 a5 a6 a7 : Addr} {v0 v1 v2 v3 v4 v5 v6 v7 : Value} (h0 : w.cell? a0 = some v0) (h1 : w.cell? a1 = some v1) (h2 : w.cell? a2 = some v2) (h3 : w.cell? a3 = some v3) (h4 : w.cell? a4 = some v4) (h5 : w.cell? a5 = some v5) (h6 : w.cell? a6 = some v6) (h7 : w.cell? a7 = some v7) : ∀ w', Below w.heap.size w w' → w'.cell? a0 = some v0 ∧ w'.cell? a1 = some v1 ∧ w'.cell? a2 = some v2 ∧ w'.cell? a3 = some v3 ∧ w'.cell? a4 = some v4 ∧ w'.cell? a5 = some v5 ∧ w'.cell? a6 = some v6 ∧ w'.cell? a7 = some v7 := fun w' hb => ⟨(hb.cell (lt_of_cellq h0)).trans h0, (hb.cell (lt_of_cellq h1)).trans h1, (hb.cell (lt_of_cellq h2)).trans h2, (hb.cell (lt_of_cellq h3)).trans h3, (hb.cell (lt_of_cellq h4)).trans h4, (hb.cell (lt_of_cellq h5)).trans h5, (hb.cell (lt_of_cellq h6)).trans h6, (hb.cell (lt_of_cellq h7)).trans h7⟩
end
end Go.Proofs.YtlednchfifphgabGreatDoor
end

section
namespace Go.Proofs.YtlednchfifphgabGreatDoor
open Go Go.RowKit Go.Proofs
set_option linter.unusedVariables false
set_option linter.unusedSimpArgs false
attribute [local go_sem] imax2 imin2

theorem append_keeps {P : Program} (w : World) (t ty e : TypeId) (i : TypeInfo) (z : Value) (base size bytes : Nat) (ht : P.underlying t = some (.slice e)) (hi : P.info? e = some i) (hz : i.zero = some z) (hsize : i.size = size) (hby : i.bytes = bytes)
    (g n cap : Nat) (xs : List Value) (hown : w.ownsRow base e size (.slice (some ⟨g, 0, none⟩) n cap) n xs)
    (ad : Addr) (m c : Nat) (news : List Value) (hl : news.length = m * size) (hnews : ∀ j u, news[j]? = some u → w.cell? (ad.add j) = some u) (h1 : ∀ u ∈ news, u.oneCell' = true)
    (h63 : n + m ≤ maxLen) (hbytes : (n + m) * bytes ≤ 140737488355328) {v' : Value} {w' : World}
    (hr : (Builtin.append_ #[t, t] ty #[.slice (some ⟨g, 0, none⟩) n cap, .slice (some ad) m c]).run P w = .ok v' w') : ∀ j u, xs[j]? = some u → w'.cell? ⟨g, j, none⟩ = some u := by
  subst hsize; subst hby
  have holds := hown.cells (g := g) rfl
  have hlt : g < w.heap.size := by
    obtain ⟨g', _, h, _, h2⟩ := (show ∃ g' cap', (Value.slice (some ⟨g, 0, none⟩) n cap) = .slice (some ⟨g', 0, none⟩) n cap' ∧ base ≤ g' ∧ g' < w.heap.size from by
      rcases hown.2 with ⟨h, _⟩ | ⟨g', cap', cur, h, hbg, hg, _⟩
      · cases h
      · refine ⟨g', cap', h, hbg, ?_⟩
        rcases Nat.lt_or_ge g' w.heap.size with h1 | h1
        · exact h1
        · rw [Array.getElem?_eq_none h1] at hg; cases hg)
    cases h; exact h2
  rcases hown.2 with ⟨h, _⟩ | ⟨g', cap', cur, h, hbg, hg, hnc, hcm, hcs, htake⟩
  · cases h
  · cases h
    by_cases hroom : n + m ≤ cap
    · have hfit : n * i.size + news.length ≤ cur.size := by rw [hl, hcs, ← Nat.add_mul]; exact Nat.mul_le_mul_right _ hroom
      rw [run_append_room (P := P) w t ty e i ht hi g n cap cur hg ad m c news hl hnews h1 hroom hfit] at hr
      cases hr
      intro j u hj; rw [cell_of_row _ g j _ e (0, 0) (setRow_heap w g cur _ e _ hg), htake]; have hj' : j < xs.length := (List.getElem?_eq_some_iff.1 hj).1; simp only [List.getElem?_toArray]; rw [List.append_assoc, List.getElem?_append_left hj']; exact hj
    · have hsmall : n + m ≤ 9223372036854775807 := by simp only [maxLen] at h63; omega
      rw [run_append_grow (P := P) w t ty e i z ht hi hz ⟨g, 0, none⟩ n cap xs hown.1 holds ad m c news hl hnews (by omega) (by omega) (growslice_fits (by omega) hbytes)] at hr
      cases hr
      intro j u hj; have h := holds j u hj; rw [add_new] at h; rw [World.cell?_alloc_lt _ _ _ (by simpa using hlt)]; exact h
theorem step_append_keep {P : Program} (w : World) {ops : Array Oper} {o : Oper} {a : Act} {K : Act → World → Prop} {Q : Exit → Act → World → Prop} {E : Prop} (hgd : o.guard = none) (s x : Operand) (t : TypeId)
    (ho : o.op = .call { callee := .builtin .append, args := #[s, x], argTypes := #[t, t] })
    (base : Nat) (e : TypeId) (i : TypeInfo) (z : Value) (size bytes : Nat) (ht : P.underlying t = some (.slice e)) (hi : P.info? e = some i) (hz : i.zero = some z)
    (hsize : i.size = size) (hby : i.bytes = bytes) (hzs : z.cells.size = size) (hsz : 0 < size)
    (g n cap : Nat) (xs : List Value) (hs : a.eval s = .slice (some ⟨g, 0, none⟩) n cap) (hown : w.ownsRow base e size (.slice (some ⟨g, 0, none⟩) n cap) n xs)
    (ad : Addr) (m c : Nat) (news : List Value) (hx : a.eval x = .slice (some ad) m c) (hl : news.length = m * size) (hnews : ∀ j u, news[j]? = some u → w.cell? (ad.add j) = some u) (h1 : ∀ u ∈ news, u.oneCell' = true)
    (h63 : n + m ≤ maxLen) (hbytes : (n + m) * bytes ≤ 140737488355328) (hbase : base ≤ w.heap.size)
    (h : ∀ v' w', w'.ownsRow base e size v' (n + m) (xs ++ news) → w.grownBy w' (some g) → (∀ j u, xs[j]? = some u → w'.cell? ⟨g, j, none⟩ = some u) → K (a.put o.dst v') w') :
    if Region.wanted o (yielded ops a.tmps) = true then Oper.wp P o a w K Q else E := by
  have hw : Region.wanted o (yielded ops a.tmps) = true := by simp [Region.wanted, hgd]
  rw [if_pos hw]; obtain ⟨v', w', hr, h2, h3, _, h5⟩ := run_append_own_at (P := P) w base t o.type e i z size bytes ht hi hz hsize hby hzs hsz _ n xs hown ad m c news hl hnews h1 h63 hbytes hbase; have hk := append_keeps w t o.type e i z base size bytes ht hi hz hsize hby g n cap xs hown ad m c news hl hnews h1 h63 hbytes hr; unfold Oper.wp execOp; simp only [ho, resolve, invoke, builtin, Sem.run_bind, Sem.run_pure, Result.andThen_ok, List.map_toArray, List.map_cons, List.map_nil, hs, hx, hr]; exact h v' w' h2 h3 hk

def IntsPost (xs : List Int) (w : World) (e : Ending) (w' : World) : Prop :=
  ∃ g cap, e = .returned (.slice (some ⟨g, 0, none⟩) xs.length cap) ∧ w'.ownsRow w.heap.size 3 1 (.slice (some ⟨g, 0, none⟩) xs.length cap) xs.length (inV xs) ∧ Below w.heap.size w w'
theorem mv_range {pl pc : List Int} (hp : PlOk pl) (hch : Chain pl pc) (hr : ∀ i, i < pc.length → -100000 ≤ gi pc i ∧ gi pc i ≤ 100000) {m : Int} (hm : -100000 ≤ m ∧ m ≤ 100000) : ∀ k, k ≤ pl.length → -300000 ≤ gi (mvF pl pc m) k ∧ gi (mvF pl pc m) k ≤ 300000 := by
  intro k hk; have hpos : Pos pl := fun i hi => (hp.in' i hi).1
  have h1 := (mvF_chain hpos hch m).top k hk; have h2 := (mvF_chain hpos hch m).low k hk; have h3 := hp.sum k hk; rw [mvF_zero] at h1 h2; have h4 := hr 0 (by rw [hch.len]; omega); omega
set_option maxHeartbeats 800000 in
set_option maxRecDepth 100000 in
theorem r_Moved (pp : Option Addr) (cp n : Nat) (pc : List Int) (q : Option Addr) (cq : Nat) (pl : List Int) (m : Int) (w : World) (hpc : RdI w pp pc) (hn : pc.length = n) (hq : RdI w q pl) (hp : PlOk pl) (hch : Chain pl pc) (hr : ∀ i, i < pc.length → -100000 ≤ gi pc i ∧ gi pc i ≤ 100000) (hm : -100000 ≤ m ∧ m ≤ 100000) :
    Calls Tryz.prog 126 #[.slice pp n cp, .slice q pl.length cq, .int .i64 m] w (IntsPost (mvF pl pc m) w) := by
  obtain ⟨i0, hi0, hz0, hz1, hz2⟩ := info_parts infI; have hpos : Pos pl := fun i hi => (hp.in' i hi).1
  have hlen := hch.len; obtain ⟨b, off, rfl, hc⟩ := hpc.at (i := 0) (by rw [hlen]; omega); have d0 := hc 0 (by rw [hlen]; omega); rw [Nat.add_zero] at d0; have h0 := hr 0 (by rw [hlen]; omega); have hz := mvF_zero pl pc m; have HM := Lib.hid (show (mvF pl pc m).length = pl.length + 1 from mvF_len pl pc m); have HST := Lib.hid (fun (k : Nat) (hk : k < pl.length) => (mvF_stepRef (m := m) hpos hch k hk)); have HRM := Lib.hid (mv_range hp hch hr hm); have HC := Lib.hid (show ∀ i, i < pl.length + 1 → w.cell? ⟨b, off + i, none⟩ = some (.int .i64 (gi pc i)) from fun i hi => hc i (by rw [hlen]; exact hi)); have HR := Lib.hid (show ∀ i, i < pl.length + 1 → -100000 ≤ gi pc i ∧ gi pc i ≤ 100000 from fun i hi => hr i (by rw [hlen]; exact hi)); have HP := Lib.hid hp; have HQ := Lib.hid hq; obtain rfl : n = pl.length + 1 := by rw [← hn, hlen]
  obtain ⟨M, hMe⟩ : ∃ M, mvF pl pc m = M := ⟨_, rfl⟩; rw [hMe] at HM HST HRM hz ⊢; obtain ⟨X0, hX0⟩ : ∃ x, gi pc 0 = x := ⟨_, rfl⟩; rw [hX0] at d0 h0 hz; have hw0 : IntKind.i64.wrap (X0 + m) = X0 + m := w64 _ (by omega) (by omega); have hrow := World.ownsRow_lit (base := w.heap.size) (e := 3) (size := 1) w #[.int .i64 (X0 + m)] 1 (Nat.le_refl _) (by unfold maxLen; omega) (by simp); obtain ⟨w2, e2, HS2, _, _, b2⟩ := box1 w (.int .i64 (X0 + m)) 3; rw [e2] at hrow
  have HO0 := Lib.hid (show w2.ownsRow w.heap.size 3 1 (.slice (some ⟨w.heap.size, 0, none⟩) 1 1) 1 (inV (M.take 1)) by
    have : M.take 1 = [X0 + m] := by
      rw [show (1 : Nat) = 0 + 1 by rfl, List.take_succ_eq_append_getElem (by rw [HM.out]; omega), ← gi_get M 0 (by rw [HM.out]; omega), hz]; rfl
    rw [this]; exact hrow)
  have HB2 := Lib.hid b2; have hlP := hp.len; clear hpc hq hp hc hr hn hch hpos hMe hX0 hrow b2 hz hlen
  go_enter Tryz.func126, Tryz.ntmps126
  go_wp2; clear e2
  go_loopw [7, 8] (fun v i wr => ∃ k : Nat, k ≤ pl.length ∧ i = .int .i64 k ∧ (∃ g cap, v = .slice (some ⟨g, 0, none⟩) (k + 1) cap ∧ Hid (wr.ownsRow w.heap.size 3 1 (.slice (some ⟨g, 0, none⟩) (k + 1) cap) (k + 1) (inV (M.take (k + 1))))) ∧ Hid (Below w.heap.size w wr)) (fun _ i _ => pl.length - (intOf i).toNat)
  case atStart => exact ⟨0, Nat.zero_le _, rfl, ⟨_, _, rfl, HO0⟩, HB2⟩
  case round =>
    obtain ⟨k, hk, rfl, ⟨g, cap, rfl, HO⟩, HN⟩ := hrel
    by_cases hlt : k < pl.length
    · have hki : (k : Int) < (pl.length : Int) := by omega
      obtain ⟨bq, oq, rfl, hcq⟩ := HQ.out.at hlt; have HQB := Lib.hid (show bq < w.heap.size from lt_of_cellq (hcq k hlt)); have HPB := Lib.hid (show b < w.heap.size from lt_of_cellq (HC.out (k + 1) (by omega))); have HGB := Lib.hid (show w.heap.size ≤ g from (HO.out.lt g rfl).1); have e1 := (HN.out.cell (lt_of_cellq (hcq k hlt))).trans (hcq k hlt)
      have e2 : wr.cell? ⟨g, k, none⟩ = some (.int .i64 (gi M k)) := by
        have h := own_cell HO.out (j := k) (by rw [List.length_take, HM.out]; omega); rw [gi_take _ _ _ (by omega)] at h; exact h
      have h0k : (0 : Int) ≤ (k : Int) := by omega
      have hkk : (k : Int) < (k : Int) + 1 := by omega
      have hkk1 : (0 : Int) ≤ (k : Int) + 1 := by omega
      have hkk2 : (k : Int) + 1 < (pl.length : Int) + 1 := by omega
      have e3 := (HN.out.cell (lt_of_cellq (HC.out (k + 1) (by omega)))).trans (HC.out (k + 1) (by omega)); have hst := HST.out k hlt; have hr1 := HRM.out k hk; have hr2 := HR.out (k + 1) (by omega); have hr3 := HP.out.in' k hlt
      have HT := Lib.hid (show inV (M.take (k + 1 + 1)) = inV (M.take (k + 1)) ++ [.int .i64 (gi M (k + 1))] by
        rw [List.take_succ_eq_append_getElem (by rw [HM.out]; omega), inV_append, gi_get M (k + 1) (by rw [HM.out]; omega)]; rfl)
      obtain ⟨A, hA⟩ : ∃ A, gi M k = A := ⟨_, rfl⟩; obtain ⟨X, hX⟩ : ∃ X, gi pc (k + 1) = X := ⟨_, rfl⟩; obtain ⟨Y, hY⟩ : ∃ Y, gi M (k + 1) = Y := ⟨_, rfl⟩; obtain ⟨P, hP⟩ : ∃ P, gi pl k = P := ⟨_, rfl⟩; have HMA := Lib.hid hA; rw [hA] at e2 hst hr1; rw [hX] at e3 hst hr2; rw [hY] at hst HT; rw [hP] at e1 hst hr3; have HSQ := Lib.hid hst; have hw1 : IntKind.i64.wrap (A - P) = A - P := w64 _ (by omega) (by omega); have hw2 : IntKind.i64.wrap ((k : Int) + 1) = (k : Int) + 1 := w64 _ (by omega) (by omega); have HKS := Lib.hid (show (k : Int) + 1 = ((k + 1 : Nat) : Int) by omega); clear hcq hA hX hY hP hst; go_wp2; have HSB := Lib.hid (cl3 e1 e2 e3); refine held3 e1 e2 e3 (fun W0 HB0 => ?_); refine tk 0 rfl (by exact HSB.out _ HB0) ?_; (try simp only [Act.put, ptL]); refine tk 1 rfl (by exact HSB.out _ HB0) ?_; (try simp only [Act.put, ptL]); refine tk 2 rfl (by exact HSB.out _ HB0) ?_; (try simp only [Act.put, ptL]); refine tk 3 rfl (by exact HSB.out _ HB0) ?_; (try simp only [Act.put, ptL]); refine tk 4 rfl (by exact HSB.out _ HB0) ?_; (try simp only [Act.put, ptL]); refine tk 5 rfl (by exact HSB.out _ HB0) ?_; (try simp only [Act.put, ptL]); refine tk 6 rfl (by exact HSB.out _ HB0) ?_; (try simp only [Act.put, ptL]); refine tk 7 rfl (by exact HSB.out _ HB0) ?_; (try simp only [Act.put, ptL]); refine tk 8 rfl (by exact HSB.out _ HB0) ?_; (try simp only [Act.put, ptL]); refine tk 9 rfl (by exact HSB.out _ HB0) ?_; (try simp only [Act.put, ptL]); refine tk 10 rfl (by exact HSB.out _ HB0) ?_; (try simp only [Act.put, ptL]); refine tk 11 rfl (by exact HSB.out _ HB0) ?_; (try simp only [Act.put, ptL]); refine tk 12 rfl (by exact HSB.out _ HB0) ?_; (try simp only [Act.put, ptL]); refine tk 13 rfl (by exact HSB.out _ HB0) ?_; (try simp only [Act.put, ptL]); refine tk 14 rfl (by exact HSB.out _ HB0) ?_; (try simp only [Act.put, ptL]); refine tk 15 rfl (by exact HSB.out _ HB0) ?_; (try simp only [Act.put, ptL]); refine tk 16 rfl (by exact HSB.out _ HB0) ?_; (try simp only [Act.put, ptL]); refine tk 17 rfl (by exact HSB.out _ HB0) ?_; (try simp only [Act.put, ptL]); refine tk 18 rfl (by exact HSB.out _ HB0) ?_; (try simp only [Act.put, ptL]); refine tk 19 rfl (by exact HSB.out _ HB0) ?_; (try simp only [Act.put, ptL]); refine tk 20 rfl (by exact HSB.out _ HB0) ?_; (try simp only [Act.put, ptL])
      refine rz1 21 rfl ?_; intro K hK; go_simp; refine kz hK (by exact HSB.out _ (HB0.alloc HB0.size _)) ?_; clear hK K; (try simp only [Act.put, ptL]); have hO1 := (own_kept HO.out HB0).alloc (.cells #[.int .i64 (min A (max (A - P) X))] 3); have hB1 := HB0.alloc HB0.size (.cells #[.int .i64 (min A (max (A - P) X))] 3); refine rz1 22 rfl ?_; intro K hK; refine step_append_keep _ rfl _ _ 23 rfl w.heap.size 3 i0 _ 1 8 Tryz.underlying23 hi0 hz0 hz1 hz2 rfl (by decide) g (k + 1) cap _ rfl hO1 ⟨W0.heap.size, 0, none⟩ 1 1 [.int .i64 (min A (max (A - P) X))] rfl rfl (news_of W0 _ _) (by intro u hu; simp at hu; subst hu; rfl) (by unfold maxLen; omega) (by omega) (by have := HN.out.size; have := hB1.size; omega) ?_; intro v' w3 hown' hgrow hkeep; have hB3 := (HN.out.trans (hB1.mono HN.out.size)).grown hgrow (by have := HN.out.size; have := hB1.size; omega) (fun j hj => (hO1.lt j hj).1); have f2 := hkeep k (.int .i64 A) (by rw [inV_get _ _ (by rw [List.length_take, HM.out]; omega), gi_take _ _ _ (by omega), HMA.out])
      have f1 := (hgrow.cell_far ⟨bq, oq + k, none⟩ (lt_of_cellq ((hB1.cell (lt_of_cellq e1)).trans e1)) (by have := HQB.out; have := HGB.out; simp; omega)).trans ((hB1.cell (lt_of_cellq e1)).trans e1); have f3 := (hgrow.cell_far ⟨b, off + (k + 1), none⟩ (lt_of_cellq ((hB1.cell (lt_of_cellq e3)).trans e3)) (by have := HPB.out; have := HGB.out; simp; omega)).trans ((hB1.cell (lt_of_cellq e3)).trans e3); refine kz hK (by exact ⟨f1, f2, f3⟩) ?_; clear hK K; (try simp only [Act.put, ptL]); obtain ⟨g', cap', rfl⟩ := own_form hown'; refine tk 23 rfl (by exact ⟨f1, f2, f3⟩) ?_; (try simp only [Act.put, ptL]); refine wpAnyH_done (by kernel_rfl) ?_ _; have HO' := Lib.hid hown'; have HN' := Lib.hid hB3; clear hown' hgrow hkeep f1 f2 f3 hO1 hB1 hB3 HB0 HSB e1 e2 e3; go_wp2; go_roundw
      case rel =>
        refine ⟨k + 1, by omega, by go_num, ⟨g', cap', rfl, Lib.hid ?_⟩, HN'⟩; rw [HT.out, HSQ.out]; exact HO'.out
      case measure => simp [intOf]; omega
    · obtain rfl : k = pl.length := by omega
      have hki : ¬ (pl.length : Int) < (pl.length : Int) := by omega
      go_wp2; go_ret; refine ⟨g, cap, by rw [HM.out]; rfl, ?_, HN.out⟩; have h := HO.out; rw [List.take_of_length_le (by rw [HM.out]; exact Nat.le_refl _)] at h; rw [HM.out]; exact h
def ElV (w : World) (B : Nat) (css : List (List Int)) (hs : List Value) : Prop := hs.length = css.length ∧ ∀ i, i < css.length → ∃ v, hs[i]? = some v ∧ w.ownsRow B 3 1 v (gl css i).length (inV (gl css i))
theorem ElV.below {w w' : World} {B : Nat} {css : List (List Int)} {hs : List Value} (h : ElV w B css hs) (hb : Below w.heap.size w w') : ElV w' B css hs := by
  refine ⟨h.1, fun i hi => ?_⟩; obtain ⟨v, e1, e2⟩ := h.2 i hi; exact ⟨v, e1, own_kept e2 hb⟩
theorem ElV.mono {w : World} {B B' : Nat} {css : List (List Int)} {hs : List Value} (h : ElV w B css hs) (hB : B' ≤ B) : ElV w B' css hs := by
  refine ⟨h.1, fun i hi => ?_⟩; obtain ⟨v, e1, e2⟩ := h.2 i hi; exact ⟨v, e1, own_mono e2 hB⟩
theorem ElV.grown {w w' : World} {B B' n size e : Nat} {css : List (List Int)} {hs xs : List Value} {v : Value} (h : ElV w B css hs) (ho : w.ownsRow B' e size v n xs) (he : e ≠ 3) (hg : w.grownBy w' v.ownBlock) : ElV w' B css hs := by
  refine ⟨h.1, fun i hi => ?_⟩; obtain ⟨u, e1, e2⟩ := h.2 i hi; exact ⟨u, e1, e2.kept hg (own_apart e2 ho (Ne.symm he))⟩
theorem ElV.snoc {w : World} {B : Nat} {css : List (List Int)} {hs : List Value} {x : List Int} {v : Value} (h : ElV w B css hs) (hx : w.ownsRow B 3 1 v x.length (inV x)) : ElV w B (css ++ [x]) (hs ++ [v]) := by
  refine ⟨by simp [h.1], fun i hi => ?_⟩; rw [List.length_append, List.length_singleton] at hi; rw [gl_snoc]
  by_cases h1 : i < css.length
  · obtain ⟨u, e1, e2⟩ := h.2 i h1
    rw [if_pos h1]; exact ⟨u, by rw [List.getElem?_append_left (by rw [h.1]; omega)]; exact e1, e2⟩
  · obtain rfl : i = css.length := by omega
    rw [if_neg h1, if_pos rfl]; exact ⟨v, by rw [← h.1]; simp, hx⟩
def OwLs (w : World) (B : Nat) (v : Value) (ls : List (List Int)) : Prop := ∃ hs, w.ownsRow B 23 1 v ls.length hs ∧ ElV w B ls hs
theorem OwLs.below {w w' : World} {B : Nat} {v : Value} {ls : List (List Int)} (h : OwLs w B v ls) (hb : Below w.heap.size w w') : OwLs w' B v ls := by
  obtain ⟨hs, h1, h2⟩ := h; exact ⟨hs, own_kept h1 hb, h2.below hb⟩
theorem OwLs.mono {w : World} {B B' : Nat} {v : Value} {ls : List (List Int)} (h : OwLs w B v ls) (hB : B' ≤ B) : OwLs w B' v ls := by
  obtain ⟨hs, h1, h2⟩ := h; exact ⟨hs, own_mono h1 hB, h2.mono hB⟩
theorem OwLs.read {w : World} {B : Nat} {v : Value} {ls : List (List Int)} (h : OwLs w B v ls) : ∃ q c, v = .slice q ls.length c ∧ RdLs w q ls := by
  obtain ⟨hs, h1, h2⟩ := h
  rcases h1.2 with ⟨rfl, h0⟩ | ⟨g, cap, cur, rfl, hrest⟩
  · have : ls = [] := List.length_eq_zero_iff.1 h0
    subst this; exact ⟨none, 0, rfl, .inl rfl⟩
  · refine ⟨some ⟨g, 0, none⟩, cap, rfl, .inr ⟨g, 0, rfl, fun i hi => ?_⟩⟩
    obtain ⟨u, e1, e2⟩ := h2.2 i hi; obtain ⟨q, c, hu, hr⟩ := rd_of_own e2; subst hu; have h3 := h1.cells (g := g) rfl i _ e1; rw [add_new] at h3; exact ⟨q, c, by rw [Nat.zero_add]; exact h3, hr⟩
def LsPost (ls : List (List Int)) (w : World) (e : Ending) (w' : World) : Prop := (∃ v, e = .returned v ∧ OwLs w' w.heap.size v ls) ∧ Below w.heap.size w w'
end Go.Proofs.YtlednchfifphgabGreatDoor
end

section
namespace Go.Proofs.YtlednchfifphgabGreatDoor
open Go Go.RowKit Go.Proofs
set_option linter.unusedVariables false
set_option linter.unusedSimpArgs false
attribute [local go_sem] imax2 imin2

set_option maxHeartbeats 1600000 in
set_option maxRecDepth 100000 in
theorem r_Run (pm pv pr : Option Addr) (cm cv cr : Nat) (p : Pc) (q : Option Addr) (cq : Nat) (pl : List Int) (w : World) (hp : RdP w pm pv pr p) (hq : RdI w q pl) (hpo : PieceOk p) (hpl : PlaysOk p pl) :
    Calls Tryz.prog 80 #[.agg #[.slice pm p.ms.length cm, .slice pv p.mv.length cv, .slice pr p.rs.length cr], .slice q pl.length cq] w (LsPost (allF pl p.mv p.mv.length) w) := by
  obtain ⟨i0, hi0, hz0, hz1, hz2⟩ := info_parts infI; obtain ⟨j0, hj0, hy0, hy1, hy2⟩ := info_parts infL; obtain ⟨w1, e1, HS1, k0, k1, k2, b1⟩ := box3 w (.slice pm p.ms.length cm) (.slice pv p.mv.length cv) (.slice pr p.rs.length cr) 26; have hpk := hpl.plok hpo
  have hrow : (w1.alloc (.cells #[.int .i64 0] 3)).ownsRow w1.heap.size 3 1 (.slice (some ⟨w1.heap.size, 0, none⟩) 1 1) 1 (inV (begTo pl 0)) := by
    rw [begTo_zero]; exact World.ownsRow_lit w1 #[.int .i64 0] 1 (Nat.le_refl _) (by unfold maxLen; omega) (by simp)
  obtain ⟨w2, e2, HS2, _, _, b2⟩ := box1 w1 (.int .i64 0) 3; rw [e2] at hrow; have HO0 := Lib.hid hrow; have HB2 := Lib.hid b2; have HB1 := Lib.hid b1; have HV := Lib.hid (hp.mv.below b1); have HQ := Lib.hid (hq.below b1); have HP := Lib.hid hpk; have HPO := Lib.hid hpo; have HPL := Lib.hid hpl; have K1 := Lib.hid k1; have hl := hpk.len; clear hp hq hpo hpl hpk hrow b1 b2 k0 k1 k2
  go_enter Tryz.func80, Tryz.ntmps80
  go_wp2; clear e1 e2
  go_loopw [5, 6] (fun v i wr => ∃ k : Nat, k ≤ pl.length ∧ i = .int .i64 k ∧ (∃ g cap, v = .slice (some ⟨g, 0, none⟩) (k + 1) cap ∧ Hid (wr.ownsRow w1.heap.size 3 1 (.slice (some ⟨g, 0, none⟩) (k + 1) cap) (k + 1) (inV (begTo pl k)))) ∧ Below w1.heap.size w1 wr) (fun _ i _ => pl.length - (intOf i).toNat)
  case atStart => exact ⟨0, by omega, rfl, ⟨w1.heap.size, 1, rfl, HO0⟩, HB2.out⟩
  case round =>
    obtain ⟨k, hk, rfl, ⟨g, cap, rfl, HO⟩, hnx⟩ := hrel; have HN := Lib.hid hnx
    by_cases hlt : k < pl.length
    · have hki : (k : Int) < (pl.length : Int) := by omega
      have h0k : (0 : Int) ≤ (k : Int) := by omega
      have hkk : (k : Int) < (k : Int) + 1 := by omega
      obtain ⟨b, off, rfl, hc⟩ := HQ.out.at hlt; have HQB := Lib.hid (show b < w1.heap.size from lt_of_cellq (hc k hlt)); have HGB := Lib.hid (show w1.heap.size ≤ g from (HO.out.lt g rfl).1); have e1 := (HN.out.cell (lt_of_cellq (hc k hlt))).trans (hc k hlt); have e2 := own_cell HO.out (j := k) (by rw [begTo_len]; omega); have hsk := HP.out.sum k (by omega); have hsp := HP.out.in' k hlt; have HE := Lib.hid (begTo_at pl k k (Nat.le_refl _)); have hw : IntKind.i64.wrap (gi (begTo pl k) k - gi pl k) = gi (begTo pl k) k - gi pl k := by rw [HE.out]; exact w64 _ (by omega) (by omega)
      have HT := Lib.hid (begTo_succ pl k); have HBL := Lib.hid (begTo_len pl k); obtain ⟨A, hA⟩ : ∃ A, gi (begTo pl k) k = A := ⟨_, rfl⟩; obtain ⟨P, hP⟩ : ∃ P, gi pl k = P := ⟨_, rfl⟩; have HMA := Lib.hid hA; rw [hA] at e2 hw HT; rw [hP] at e1 hw HT; clear hc hnx hsk hsp hA hP HE; go_wp2; have HSB := Lib.hid (cl2 e1 e2); refine held2 e1 e2 (fun W0 HB0 => ?_); refine tk 0 rfl (by exact HSB.out _ HB0) ?_; (try simp only [Act.put, ptL]); refine tk 1 rfl (by exact HSB.out _ HB0) ?_; (try simp only [Act.put, ptL]); refine tk 2 rfl (by exact HSB.out _ HB0) ?_; (try simp only [Act.put, ptL]); refine tk 3 rfl (by exact HSB.out _ HB0) ?_; (try simp only [Act.put, ptL]); refine tk 4 rfl (by exact HSB.out _ HB0) ?_; (try simp only [Act.put, ptL]); refine tk 5 rfl (by exact HSB.out _ HB0) ?_; (try simp only [Act.put, ptL]); refine tk 6 rfl (by exact HSB.out _ HB0) ?_; (try simp only [Act.put, ptL]); refine tk 7 rfl (by exact HSB.out _ HB0) ?_; (try simp only [Act.put, ptL]); refine tk 8 rfl (by exact HSB.out _ HB0) ?_; (try simp only [Act.put, ptL]); refine tk 9 rfl (by exact HSB.out _ HB0) ?_; (try simp only [Act.put, ptL])
      refine rz1 10 rfl ?_; intro K hK; go_simp; refine kz hK (by exact HSB.out _ (HB0.alloc HB0.size _)) ?_; clear hK K; (try simp only [Act.put, ptL]); have hO1 := (own_kept HO.out HB0).alloc (.cells #[.int .i64 (A - P)] 3); have hB1 := HB0.alloc HB0.size (.cells #[.int .i64 (A - P)] 3); refine rz1 11 rfl ?_; intro K hK; refine step_append_keep _ rfl _ _ 23 rfl w1.heap.size 3 i0 _ 1 8 Tryz.underlying23 hi0 hz0 hz1 hz2 rfl (by decide) g (k + 1) cap _ rfl hO1 ⟨W0.heap.size, 0, none⟩ 1 1 [.int .i64 (A - P)] rfl rfl (news_of W0 _ _) (by intro u hu; simp at hu; subst hu; rfl) (by unfold maxLen; omega) (by omega) (by have := HN.out.size; have := hB1.size; omega) ?_; intro v' w3 hown' hgrow hkeep; have hB3 := (HN.out.trans (hB1.mono HN.out.size)).grown hgrow (by have := HN.out.size; have := hB1.size; omega) (fun j hj => (hO1.lt j hj).1); have f2 := hkeep k (.int .i64 A) (by rw [inV_get _ _ (by rw [HBL.out]; omega), HMA.out])
      have f1 := (hgrow.cell_far ⟨b, off + k, none⟩ (lt_of_cellq ((hB1.cell (lt_of_cellq e1)).trans e1)) (by have := HQB.out; have := HGB.out; simp; omega)).trans ((hB1.cell (lt_of_cellq e1)).trans e1); refine kz hK (by exact ⟨f1, f2⟩) ?_; clear hK K; (try simp only [Act.put, ptL]); obtain ⟨g', cap', rfl⟩ := own_form hown'; refine tk 12 rfl (by exact ⟨f1, f2⟩) ?_; (try simp only [Act.put, ptL]); refine wpAnyH_done (by kernel_rfl) ?_ _; have HO' := Lib.hid hown'; have HN' := Lib.hid hB3; clear hown' hgrow hkeep f1 f2 hO1 hB1 hB3 HB0 HSB e1 e2; go_wp2; go_roundw
      case rel =>
        refine ⟨k + 1, by omega, by go_num, ⟨g', cap', rfl, Lib.hid ?_⟩, HN'.out⟩; rw [HT.out, inV_append]; exact HO'.out
      case measure => simp [intOf]; omega
    · obtain rfl : k = pl.length := by omega
      obtain ⟨wn, rfl⟩ : ∃ wn : World, wn = wr := ⟨_, rfl⟩; obtain ⟨w3, e3, HS3, _, _, b3⟩ := box1 wn (.slice (some ⟨g, 0, none⟩) (pl.length + 1) cap) 23; have hrow3 := World.ownsRow_lit (base := w1.heap.size) (e := 23) (size := 1) wn #[.slice (some ⟨g, 0, none⟩) (pl.length + 1) cap] 1 hnx.size (by unfold maxLen; omega) (by simp); rw [e3] at hrow3; have ho3 := own_kept HO.out b3; rw [begTo_all] at ho3; have HOW := Lib.hid (show w3.ownsRow w1.heap.size 23 1 (.slice (some ⟨wn.heap.size, 0, none⟩) (0 + 1) 1) (0 + 1) [.slice (some ⟨g, 0, none⟩) (pl.length + 1) cap] from hrow3)
      have HEL := Lib.hid (show ElC w3 w1.heap.size (allF pl p.mv 0) [.slice (some ⟨g, 0, none⟩) (pl.length + 1) cap] by
        rw [allF_zero]; refine ⟨rfl, fun i hi => ?_⟩; obtain rfl : i = 0 := by simp at hi; exact hi
        have e : (gl [begF pl] 0).length = pl.length + 1 := begF_len pl; rw [e]; exact ⟨g, cap, rfl, ho3⟩)
      have HR0 := Lib.hid (show RdI w3 (some ⟨g, 0, none⟩) (runF pl p.mv 0) from rd_of_own0 ho3); have HB3 := Lib.hid (show Below w1.heap.size w1 w3 from hnx.trans (b3.mono hnx.size)); clear hnx hlt b3 hrow3 ho3 HO HO0; go_wp2; clear e3
      go_loopw [5, 7, 8] (fun v o i wr => ∃ (k g1 c1 g cap : Nat) (hs : List Value), k ≤ p.mv.length ∧ i = .int .i64 k ∧ v = .slice (some ⟨g1, 0, none⟩) (pl.length + 1) c1 ∧ Hid (RdI wr (some ⟨g1, 0, none⟩) (runF pl p.mv k)) ∧ o = .slice (some ⟨g, 0, none⟩) (k + 1) cap ∧ Hid (wr.ownsRow w1.heap.size 23 1 (.slice (some ⟨g, 0, none⟩) (k + 1) cap) (k + 1) hs) ∧ Hid (ElC wr w1.heap.size (allF pl p.mv k) hs) ∧ Hid (Below w1.heap.size w1 wr)) (fun _ _ i _ => p.mv.length - (intOf i).toNat)
      case atStart => exact ⟨0, g, cap, wn.heap.size, 1, [.slice (some ⟨g, 0, none⟩) (pl.length + 1) cap], by omega, rfl, rfl, HR0, rfl, HOW, HEL, HB3⟩
      case round =>
        obtain ⟨k, g1, c1, g, cap, hs, hk, rfl, rfl, HRN, rfl, HO, HE, HN⟩ := hrel; have k1 := (HN.out.cell (lt_of_cellq K1.out)).trans K1.out
        by_cases hlt : k < p.mv.length
        · have hki : (k : Int) < (p.mv.length : Int) := by omega
          obtain ⟨b, off, rfl, hc⟩ := (HV.out.below HN.out).at hlt; have e1 := hc k hlt; have hm := HPO.out.move k hlt; have hch := runF_chain HPL.out.pos p.mv k
          have HCL := Lib.hid (r_Moved (some ⟨g1, 0, none⟩) c1 (pl.length + 1) (runF pl p.mv k) q cq pl (gi p.mv k) wr HRN.out hch.len (HQ.out.below HN.out) HP.out hch (fun i hi => by
            have := place_range HPO.out HPL.out k i (by omega) (by have := hch.len; omega); omega) (by omega))
          have hm8 := (piece_len HPO.out).2.1; clear hc hm hch; go_wp2_with fail; refine HCL.out.mono ?_; rintro e w4 ⟨g2, c2, he, ho4, b4⟩; rw [mvF_len] at he ho4; subst he; have HO4 := Lib.hid (own_kept HO.out b4); have HE4 := Lib.hid (HE.out.below b4); have HX4 := Lib.hid (own_mono ho4 HN.out.size); have HN4 := Lib.hid (HN.out.trans (b4.mono HN.out.size)); clear ho4 b4; go_wp2_with (at_builtin; refine wpList_append_own _ rfl _ _ 43 rfl w1.heap.size 23 j0 _ 1 24 Tryz.underlying43 hj0 hy0 hy1 hy2 rfl (by decide) _ _ _ rfl (HO4.out.alloc _) ⟨w4.heap.size, 0, none⟩ 1 1 [.slice (some ⟨g2, 0, none⟩) (pl.length + 1) c2] rfl rfl ?c1 ?c2 ?c3 ?c4 ?c5 ?_)
          case c1 => exact news_of _ _ _
          case c2 => intro u hu; simp at hu; subst hu; rfl
          case c3 => unfold maxLen; omega
          case c4 => omega
          case c5 => have := HN4.out.size; simp; omega
          intro v' w7 hown' hgrow _; obtain ⟨g', cap', rfl⟩ := own_form hown'; have HO7 := Lib.hid hown'; have HN7 := Lib.hid ((HN4.out.alloc HN4.out.size _).grown hgrow (by have := HN4.out.size; simp; omega) (fun j hj => (HO4.out.lt j hj).1)); have h3 := own_kept HX4.out (below_alloc1 w4 (.cells #[.slice (some ⟨g2, 0, none⟩) (pl.length + 1) c2] 23)); have h2 := h3.kept hgrow (own_apart h3 (HO4.out.alloc _) (by decide)); have HR7 := Lib.hid (show RdI w7 (some ⟨g2, 0, none⟩) (runF pl p.mv (k + 1)) from rd_of_own0 h2)
          have HE7 := Lib.hid (show ElC w7 w1.heap.size (allF pl p.mv (k + 1)) (hs ++ [.slice (some ⟨g2, 0, none⟩) (pl.length + 1) c2]) by
            have h1 := (HE4.out.below (below_alloc1 w4 (.cells #[.slice (some ⟨g2, 0, none⟩) (pl.length + 1) c2] 23))).grown (HO4.out.alloc _) (by decide) hgrow; have hl : (runF pl p.mv (k + 1)).length = pl.length + 1 := mvF_len _ _ _; rw [allF_succ, ← hl]; refine h1.snoc ?_; rw [hl]; exact h2)
          clear hown' hgrow h2 h3; go_wp2; go_roundw
          case rel => exact ⟨k + 1, g2, c2, g', cap', _, by omega, by go_num, rfl, HR7, rfl, HO7, HE7, HN7⟩
          case measure => simp [intOf]; omega
        · obtain rfl : k = p.mv.length := by omega
          have hki : ¬ (p.mv.length : Int) < (p.mv.length : Int) := by omega
          go_wp2; go_ret; refine ⟨⟨_, rfl, hs, ?_, ?_⟩, HB1.out.trans (HN.out.mono HB1.out.size)⟩
          · rw [allF_len]; exact own_mono HO.out HB1.out.size
          · refine ⟨HE.out.1, fun i hi => ?_⟩
            obtain ⟨u, c, h1, h2⟩ := HE.out.2 i hi; exact ⟨_, h1, own_mono h2 HB1.out.size⟩
end Go.Proofs.YtlednchfifphgabGreatDoor
end

section
namespace Go.Proofs.YtlednchfifphgabGreatDoor
open Go Go.RowKit Go.Proofs
set_option linter.unusedVariables false
set_option linter.unusedSimpArgs false
attribute [local go_sem] imax2 imin2

theorem fits_no {p : Pc} {pl : List Int} (h : withinB p pl = false) : fitsB p pl = false := by unfold fitsB; rw [h]; rfl
set_option maxHeartbeats 1600000 in
set_option maxRecDepth 100000 in
theorem r_Fits (pm pv pr : Option Addr) (cm cv cr : Nat) (p : Pc) (q : Option Addr) (cq : Nat) (pl : List Int) (w : World) (hp : RdP w pm pv pr p) (hq : RdI w q pl) (hpo : PieceOk p) (hpl : PlaysOk p pl) :
    Calls Tryz.prog 28 #[.agg #[.slice pm p.ms.length cm, .slice pv p.mv.length cv, .slice pr p.rs.length cr], .slice q pl.length cq] w fun e w' => e = .returned (.bool (fitsB p pl)) ∧ Below w.heap.size w w' := by
  obtain ⟨w1, e1, HS1, k0, k1, k2, b1⟩ := box3 w (.slice pm p.ms.length cm) (.slice pv p.mv.length cv) (.slice pr p.rs.length cr) 26; have HP := Lib.hid (hp.below b1); have HQ := Lib.hid (hq.below b1); have HB := Lib.hid b1; have HPO := Lib.hid hpo; have HPL := Lib.hid hpl; have HLN := Lib.hid (piece_len hpo); have HPN := Lib.hid hpl.len; have hrl6 : p.rs.length ≤ 1000 := by have := (piece_len hpo).2.2; omega
  clear hp hq b1 hpo hpl
  go_enter Tryz.func28, Tryz.ntmps28
  go_wp2_with fail; refine (r_Within pm pv pr cm cv cr p q cq pl _ HP.out.ms HQ.out (by rw [HPN.out]; exact Nat.le_refl _) (by have := HLN.out.1; omega)).mono ?_; clear e1
  rcases hw : withinB p pl with _ | _
  · have H := Lib.hid (fits_no hw)
    clear hw; rintro e wn ⟨rfl, bq⟩; have HBB := Lib.hid (HB.out.trans (bq.mono HB.out.size)); clear bq; go_wp2; go_ret; exact ⟨by rw [H.out]; rfl, HBB.out⟩
  have HW := Lib.hid hw; clear hw; rintro e wn ⟨rfl, bq⟩; replace HB := Lib.hid (HB.out.trans (bq.mono HB.out.size)); replace HP := Lib.hid (HP.out.below bq); replace HQ := Lib.hid (HQ.out.below bq); have k0 := (bq.cell (lt_of_cellq k0)).trans k0; have k1 := (bq.cell (lt_of_cellq k1)).trans k1; have k2 := (bq.cell (lt_of_cellq k2)).trans k2; clear bq; go_wp2_with fail; refine (r_Run pm pv pr cm cv cr p q cq pl _ HP.out HQ.out HPO.out HPL.out).mono ?_; rintro e w2 ⟨⟨v, rfl, ho⟩, bq⟩; obtain ⟨lq, lc, rfl, hls⟩ := ho.read; have HL := Lib.hid hls; rw [allF_len]; have k2 := (bq.cell (lt_of_cellq k2)).trans k2; have HR := Lib.hid (HP.out.rs.below bq); have HB2 := Lib.hid (HB.out.trans (bq.mono HB.out.size)); clear ho hls bq HP HQ k0 k1; go_wp2
  go_loopw [6] (fun v wr => ∃ k : Nat, k ≤ p.rs.length ∧ v = .int .i64 k ∧ Hid (∀ j, j < k → agreeB pl p.mv (gr p.rs j) = true) ∧ Hid (Below w2.heap.size w2 wr)) (fun v _ => p.rs.length - (intOf v).toNat)
  case atStart => exact ⟨0, Nat.zero_le _, rfl, Lib.hid (by intro j hj; omega), Lib.hid (Below.refl _ _)⟩
  case round =>
    obtain ⟨k, hk, rfl, HH, HN⟩ := hrel; have k2 := (HN.out.cell (lt_of_cellq k2)).trans k2
    by_cases hlt : k < p.rs.length
    · have hki : (k : Int) < (p.rs.length : Int) := by omega
      obtain ⟨b, off, rfl, hc⟩ := (HR.out.below HN.out).at hlt; obtain ⟨a0, a1, a2, a3⟩ := hc k hlt; obtain ⟨⟨ha1, ha2⟩, ⟨hb1, hb2⟩, ⟨hs1, hs2⟩, ho1, ho2⟩ := HPO.out.read k hlt; have HAG := Lib.hid (show agreeB pl p.mv (gr p.rs k) = inB (gi (runF pl p.mv (gr p.rs k).aft.toNat) (gr p.rs k).arb.toNat) ((gr p.rs k).seen - (gr p.rs k).off) ((gr p.rs k).seen + (gr p.rs k).off) from rfl)
      have HNO := Lib.hid (show agreeB pl p.mv (gr p.rs k) = false → fitsB p pl = false from fun h => by
        unfold fitsB; rw [HW.out, all_bad (f := agreeB pl p.mv) (d := rd0) (l := p.rs) hlt h]; rfl)
      obtain ⟨a, ha⟩ : ∃ a : Nat, (gr p.rs k).aft = (a : Int) := ⟨(gr p.rs k).aft.toNat, by omega⟩; obtain ⟨c, hcc⟩ : ∃ c : Nat, (gr p.rs k).arb = (c : Int) := ⟨(gr p.rs k).arb.toNat, by omega⟩; have HG := Lib.hid (show agreeB pl p.mv (gr p.rs k) = agreeB pl p.mv (gr p.rs k) from rfl); obtain ⟨S, hS⟩ : ∃ S, (gr p.rs k).seen = S := ⟨_, rfl⟩; obtain ⟨O, hO⟩ : ∃ O, (gr p.rs k).off = O := ⟨_, rfl⟩; obtain ⟨A, hA⟩ : ∃ A, agreeB pl p.mv (gr p.rs k) = A := ⟨_, rfl⟩; rw [hA] at HNO HAG HG; rw [hS] at a2 hs1 hs2 HAG; rw [hO] at a3 ho1 ho2 HAG; rw [ha] at a0 ha2 HAG; rw [hcc] at a1 hb2 HAG; rw [Int.toNat_natCast, Int.toNat_natCast] at HAG; have hpn := HPN.out; obtain ⟨bl, ol, rfl, hcl⟩ := (HL.out.below HN.out).at (i := a) (by rw [allF_len]; omega); obtain ⟨qa, ca, r0, hra⟩ := hcl a (by rw [allF_len]; omega); rw [allF_at _ _ _ _ (by omega)] at r0 hra; have hrl := (runF_chain HPL.out.pos p.mv a).len
      rw [hrl] at r0; obtain ⟨b1, o1, rfl, hc1⟩ := hra.at (i := c) (by rw [hrl]; omega); have r1 := hc1 c (by rw [hrl]; omega); obtain ⟨w4, e4, HS4, y0, y1, y2, y3, b4⟩ := box4 wr (.int .i64 (a : Int)) (.int .i64 (c : Int)) (.int .i64 S) (.int .i64 O) 116; have r0 := (b4.cell (lt_of_cellq r0)).trans r0; have r1 := (b4.cell (lt_of_cellq r1)).trans r1; have HN4 := Lib.hid (HN.out.trans (b4.mono HN.out.size)); have hw1 : IntKind.i64.wrap (S - O) = S - O := w64 _ (by omega) (by omega); have hw2 : IntKind.i64.wrap (S + O) = S + O := w64 _ (by omega) (by omega); have hai : (a : Int) < (p.mv.length : Int) + 1 := by omega
      have hci : (c : Int) < (pl.length : Int) + 1 := by omega
      clear hpn
      have HC := Lib.hid (fun W => show Calls Tryz.prog 76 #[.int .i64 (gi (runF pl p.mv a) c), .int .i64 (S - O), .int .i64 (S + O)] W fun e w' => e = .returned (.bool A) ∧ Below W.heap.size W w' by
        rw [HAG.out]; exact (r_in _ _ _ W).mono fun e w' h => ⟨h.1, h.2 ▸ Below.refl _ _⟩)
      have HST := Lib.hid (show A = true → ∀ j, j < k + 1 → agreeB pl p.mv (gr p.rs j) = true from fun h j hj => by
        rcases Nat.lt_or_ge j k with h' | h'
        · exact HH.out j h'
        · obtain rfl : j = k := by omega
          rw [hA]; exact h)
      clear hc hcl hra hc1 hrl b4 ha hcc hS hO hA; go_upto_region 8 with (fail); clear e4 a0 a1 a2 a3
      cases A with
      | false =>
        refine wp_region_quiet_below (by kernel_rfl) (by kernel_rfl) ?_; (repeat (first | ((with_reducible first | apply wq_fg faP0 | apply wq_fg faP1 | apply wq_fg faP2 | apply wq_fg faM0 | apply wq_fg faS0 | apply wq_fg faS1 | apply wq_fg faR0 | apply wq_fg faR1 | apply wq_fg faR2 | apply wq_fg faR3 | apply wq_fg faT0 | apply wq_fg faT1 | apply wq_fg faQ0 | apply wq_fg faQ1 | apply wq_fg faH0 | apply wq_fg faH1 | apply wq_fg faH2 | apply wq_fg faH3); (focus rfl); (focus rfl); go_frame) | ((with_reducible apply wq_not); (focus rfl); (focus rfl); go_frame) | ((with_reducible first | apply wq_ix Tryz.underlying23 szI | apply wq_ix Tryz.underlying27 szSp | apply wq_ix Tryz.underlying22 szM | apply wq_ix Tryz.underlying24 szR | apply wq_ix Tryz.underlying43 szL | apply wq_ix Tryz.underlying103 szT); (focus rfl); (focus rfl); (focus rfl); (focus omega); (try simp only [Nat.mul_one]); go_frame) | ((with_reducible first | apply wq_ld agI | apply wq_ld agB | apply wq_ld agLI | apply wq_ld agLS | apply wq_ld agLM | apply wq_ld agLR | apply wq_ld agLL | apply wq_ld agLT); (focus rfl); (focus rfl); (focus (intro _ hbq; first | exact (hbq.cell (lt_of_cellq y0)).trans y0 | exact (hbq.cell (lt_of_cellq y1)).trans y1 | exact (hbq.cell (lt_of_cellq y2)).trans y2 | exact (hbq.cell (lt_of_cellq y3)).trans y3 | exact (hbq.cell (lt_of_cellq r0)).trans r0 | exact (hbq.cell (lt_of_cellq r1)).trans r1)); go_frame) | ((with_reducible first | apply wq_add | apply wq_sub | apply wq_mul | apply wq_rem); (focus rfl); (focus rfl); (focus rfl); (focus omega); (focus omega); go_frame) | ((with_reducible first | apply wq_eql | apply wq_neq | apply wq_lss | apply wq_leq | apply wq_gtr | apply wq_geq | apply wq_max2 | apply wq_min2); (focus rfl); (focus rfl); (focus rfl); go_frame) | ((with_reducible first | apply wq_max3 | apply wq_min3); (focus rfl); (focus rfl); (focus rfl); (focus rfl); go_frame) | go_big_quiet_step ((intro hbq; exact calls_below hbq (HC.out _))))); refine wpQuiet_nil ?_; intro wq hbq
        have HN5 := Lib.hid (HN4.out.trans (hbq.mono HN4.out.size)); clear hbq y0 y1 y2 y3 r0 r1; go_wp2; go_ret; exact ⟨by rw [HNO.out trivial]; rfl, HB2.out.trans (HN5.out.mono HB2.out.size)⟩
      | true =>
        refine wp_region_quiet_below (by kernel_rfl) (by kernel_rfl) ?_; (repeat (first | ((with_reducible first | apply wq_fg faP0 | apply wq_fg faP1 | apply wq_fg faP2 | apply wq_fg faM0 | apply wq_fg faS0 | apply wq_fg faS1 | apply wq_fg faR0 | apply wq_fg faR1 | apply wq_fg faR2 | apply wq_fg faR3 | apply wq_fg faT0 | apply wq_fg faT1 | apply wq_fg faQ0 | apply wq_fg faQ1 | apply wq_fg faH0 | apply wq_fg faH1 | apply wq_fg faH2 | apply wq_fg faH3); (focus rfl); (focus rfl); go_frame) | ((with_reducible apply wq_not); (focus rfl); (focus rfl); go_frame) | ((with_reducible first | apply wq_ix Tryz.underlying23 szI | apply wq_ix Tryz.underlying27 szSp | apply wq_ix Tryz.underlying22 szM | apply wq_ix Tryz.underlying24 szR | apply wq_ix Tryz.underlying43 szL | apply wq_ix Tryz.underlying103 szT); (focus rfl); (focus rfl); (focus rfl); (focus omega); (try simp only [Nat.mul_one]); go_frame) | ((with_reducible first | apply wq_ld agI | apply wq_ld agB | apply wq_ld agLI | apply wq_ld agLS | apply wq_ld agLM | apply wq_ld agLR | apply wq_ld agLL | apply wq_ld agLT); (focus rfl); (focus rfl); (focus (intro _ hbq; first | exact (hbq.cell (lt_of_cellq y0)).trans y0 | exact (hbq.cell (lt_of_cellq y1)).trans y1 | exact (hbq.cell (lt_of_cellq y2)).trans y2 | exact (hbq.cell (lt_of_cellq y3)).trans y3 | exact (hbq.cell (lt_of_cellq r0)).trans r0 | exact (hbq.cell (lt_of_cellq r1)).trans r1)); go_frame) | ((with_reducible first | apply wq_add | apply wq_sub | apply wq_mul | apply wq_rem); (focus rfl); (focus rfl); (focus rfl); (focus omega); (focus omega); go_frame) | ((with_reducible first | apply wq_eql | apply wq_neq | apply wq_lss | apply wq_leq | apply wq_gtr | apply wq_geq | apply wq_max2 | apply wq_min2); (focus rfl); (focus rfl); (focus rfl); go_frame) | ((with_reducible first | apply wq_max3 | apply wq_min3); (focus rfl); (focus rfl); (focus rfl); (focus rfl); go_frame) | go_big_quiet_step ((intro hbq; exact calls_below hbq (HC.out _))))); refine wpQuiet_nil ?_; intro wq hbq
        have HN5 := Lib.hid (HN4.out.trans (hbq.mono HN4.out.size)); clear hbq y0 y1 y2 y3 r0 r1; go_wp2; go_roundw
        case rel => exact ⟨k + 1, by omega, by go_num, Lib.hid (HST.out rfl), HN5⟩
        case measure => simp [intOf]; omega
    · obtain rfl : k = p.rs.length := by omega
      have hki : ¬ (p.rs.length : Int) < (p.rs.length : Int) := by omega
      have H := Lib.hid (show fitsB p pl = true by
        unfold fitsB; rw [HW.out, all_ok (f := agreeB pl p.mv) (d := rd0) (l := p.rs) HH.out]; rfl)
      go_wp2; go_ret; exact ⟨by rw [H.out]; rfl, HB2.out.trans (HN.out.mono HB2.out.size)⟩
end Go.Proofs.YtlednchfifphgabGreatDoor
end

section
namespace Go.Proofs.YtlednchfifphgabGreatDoor
open Go Go.RowKit Go.Proofs
set_option linter.unusedVariables false
set_option linter.unusedSimpArgs false
attribute [local go_sem] imax2 imin2

def ElR (w : World) (css : List (List Int)) (hs : List Value) : Prop := hs.length = css.length ∧ ∀ i, i < css.length → ∃ q c, hs[i]? = some (.slice q (gl css i).length c) ∧ RdI w q (gl css i)
theorem ElR.snoc {w : World} {css : List (List Int)} {hs : List Value} {x : List Int} {q : Option Addr} {c : Nat} (h : ElR w css hs) (hx : RdI w q x) : ElR w (css ++ [x]) (hs ++ [.slice q x.length c]) := by
  refine ⟨by simp [h.1], fun i hi => ?_⟩; rw [List.length_append, List.length_singleton] at hi; rw [gl_snoc]
  by_cases h1 : i < css.length
  · obtain ⟨q', c', e1, e2⟩ := h.2 i h1
    rw [if_pos h1]; exact ⟨q', c', by rw [List.getElem?_append_left (by rw [h.1]; omega)]; exact e1, e2⟩
  · obtain rfl : i = css.length := by omega
    rw [if_neg h1, if_pos rfl]; exact ⟨q, c, by rw [← h.1]; simp, hx⟩
theorem ElR.read {w w' : World} {B : Nat} {v : Value} {css : List (List Int)} {hs : List Value} (h : ElR w css hs) (ho : w'.ownsRow B 23 1 v css.length hs) (hb : Below w.heap.size w w') : ∃ q c, v = .slice q css.length c ∧ RdLs w' q css := by
  rcases ho.2 with ⟨rfl, h0⟩ | ⟨g, cap, cur, rfl, hrest⟩
  · have : css = [] := List.length_eq_zero_iff.1 h0
    subst this; exact ⟨none, 0, rfl, .inl rfl⟩
  · refine ⟨some ⟨g, 0, none⟩, cap, rfl, .inr ⟨g, 0, rfl, fun i hi => ?_⟩⟩
    obtain ⟨q, c, e1, e2⟩ := h.2 i hi; have h3 := ho.cells (g := g) rfl i _ e1; rw [add_new] at h3; exact ⟨q, c, by rw [Nat.zero_add]; exact h3, e2.below hb⟩
end Go.Proofs.YtlednchfifphgabGreatDoor
end

section
namespace Go.Proofs.YtlednchfifphgabGreatDoor
open Go Go.RowKit Go.Proofs
set_option linter.unusedVariables false
set_option linter.unusedSimpArgs false
attribute [local go_sem] imax2 imin2

end Go.Proofs.YtlednchfifphgabGreatDoor
end

section
namespace Go.Proofs.YtlednchfifphgabGreatDoor
open Go Go.RowKit Go.Proofs
set_option linter.unusedVariables false
set_option linter.unusedSimpArgs false
attribute [local go_sem] imax2 imin2

end Go.Proofs.YtlednchfifphgabGreatDoor
end

section
namespace Go.Proofs.YtlednchfifphgabGreatDoor
open Go Go.RowKit Go.Proofs
set_option linter.unusedVariables false
set_option linter.unusedSimpArgs false
attribute [local go_sem] imax2 imin2

end Go.Proofs.YtlednchfifphgabGreatDoor
end

section
namespace Go.Proofs.YtlednchfifphgabGreatDoor
open Go Go.RowKit Go.Proofs
set_option linter.unusedVariables false
set_option linter.unusedSimpArgs false
attribute [local go_sem] imax2 imin2

def ShPost (s : Int × Int) (w : World) (e : Ending) (w' : World) : Prop := e = .returned (.agg #[.int .i64 s.1, .int .i64 s.2]) ∧ Below w.heap.size w w'
set_option maxHeartbeats 1600000 in
set_option maxRecDepth 100000 in
theorem r_Shown (h : Hd) (pe : Option Addr) (ce nn : Nat) (pc : Int) (w : World) (hE : RdS w pe h.er) (hh : HandOk nn h) (hr : -2800 ≤ pc ∧ pc ≤ 2400) :
    Calls Tryz.prog 30 #[hdV h pe ce, .int .i64 pc] w (ShPost (shownF h pc) w) := by
  unfold hdV; obtain ⟨w1, e1, HS1, q0, q1, q2, q3, b1⟩ := box4 w (.int .i64 h.arb) (.int .i64 h.num) (.int .i64 h.den) (.slice pe h.er.length ce) 29; have kb := alloc_new w1 (.cells #[.int .i64 0, .int .i64 0] 36); obtain ⟨w2, e2, HS2, _, _, b2⟩ := box2 w1 (.int .i64 0) (.int .i64 0) 36; rw [e2] at kb; have b12 := b1.trans (b2.mono b1.size); have q1 := (b2.cell (lt_of_cellq q1)).trans q1; have q2 := (b2.cell (lt_of_cellq q2)).trans q2; have q3 := (b2.cell (lt_of_cellq q3)).trans q3; obtain ⟨hr1, hr2⟩ := hr; obtain ⟨num, hnum⟩ : ∃ x : Int, h.num = x := ⟨_, rfl⟩; obtain ⟨den, hden⟩ : ∃ x : Int, h.den = x := ⟨_, rfl⟩; have hnu := hh.num; have hde := hh.den; have hle := hh.len; have har := atF_range hh (pc := pc) ⟨hr1, hr2⟩; have hsl := stepF_lt hh pc; have her := hh.err _ hsl
  have hst : (stepF h pc : Int) = (atF h pc % 21600 * h.er.length) / 21600 := by
    unfold stepF; refine Int.toNat_of_nonneg (Int.ediv_nonneg (Int.mul_nonneg (Int.emod_nonneg _ (by omega)) (by omega)) (by omega))
  have hatd : atF h pc = pc * num / den := by unfold atF; rw [hnum, hden]
  rw [hnum] at hnu q1; rw [hden] at hde q2
  have hp1 : -280000 ≤ pc * num := by
    have := Int.mul_le_mul_of_nonneg_right (a := -2800) (b := pc) (c := num) hr1 (by omega); omega
  have hp2 : pc * num ≤ 240000 := by
    have := Int.mul_le_mul_of_nonneg_right (a := pc) (b := 2400) (c := num) hr2 (by omega); omega
  obtain ⟨at_, hA⟩ : ∃ x : Int, atF h pc = x := ⟨_, rfl⟩; obtain ⟨s, hs⟩ : ∃ x : Nat, stepF h pc = x := ⟨_, rfl⟩; have HS := Lib.hid (show shownF h pc = (at_ + (gm h.er s).1, at_ + (gm h.er s).2) by unfold shownF; rw [hA, hs]); rw [hA] at har hst hatd; rw [hs] at hsl her hst; obtain ⟨bE, oE, rfl, hcE⟩ := (hE.below b12).at (i := s) hsl; obtain ⟨x0, x1⟩ := hcE s hsl; obtain ⟨L, hL⟩ : ∃ L : Nat, h.er.length = L := ⟨_, rfl⟩; rw [hL] at hsl hle hst q3 ⊢
  have HD1 := Lib.hid (fun W => show Calls Tryz.prog 81 #[.int .i64 (pc * num), .int .i64 den] W fun e w' => e = .returned (.int .i64 at_) ∧ W = w' by
    have h := r_down (pc * num) den W (by omega) (by omega) (by omega); rw [← hatd] at h; exact h)
  have hdm := Int.emod_add_mul_ediv at_ 21600; obtain ⟨D, hD⟩ : ∃ D : Int, at_ / 21600 = D := ⟨_, rfl⟩; obtain ⟨R, hR⟩ : ∃ R : Int, at_ % 21600 = R := ⟨_, rfl⟩; have hR0 : 0 ≤ R := by rw [← hR]; exact Int.emod_nonneg _ (by omega)
  have hR1 : R < 21600 := by rw [← hR]; exact Int.emod_lt_of_pos _ (by omega)
  have HD2 := Lib.hid (fun W => show Calls Tryz.prog 81 #[.int .i64 at_, .int .i64 21600] W fun e w' => e = .returned (.int .i64 D) ∧ W = w' by
    have h := r_down at_ 21600 W (by omega) (by omega) (by omega); rw [hD] at h; exact h)
  rw [hR] at hst hdm; rw [hD] at hdm; obtain ⟨E, hE2⟩ : ∃ E : Int, D * 21600 = E := ⟨_, rfl⟩; have hwE : IntKind.i64.wrap (D * 21600) = E := by rw [w64 _ (by omega) (by omega)]; exact hE2
  have hwR : IntKind.i64.wrap (at_ - E) = R := by rw [w64 _ (by omega) (by omega)]; omega
  have hRL0 : 0 ≤ R * (L : Int) := Int.mul_nonneg hR0 (by omega); have hRL1 : R * (L : Int) ≤ 21600 * (L : Int) := Int.mul_le_mul_of_nonneg_right (by omega) (by omega); have hwm : IntKind.i64.wrap (R * (L : Int)) = R * (L : Int) := w64 _ (by omega) (by omega); have hqd : (R * (L : Int)).tdiv 21600 = (s : Int) := by rw [Int.tdiv_eq_ediv_of_nonneg hRL0, hst]
  obtain ⟨lo, hlo⟩ : ∃ x : Int, (gm h.er s).1 = x := ⟨_, rfl⟩; obtain ⟨hi, hhi⟩ : ∃ x : Int, (gm h.er s).2 = x := ⟨_, rfl⟩; rw [hlo, hhi] at HS; rw [hlo] at x0 her; rw [hhi] at x1 her; have hw1 : IntKind.i64.wrap (at_ + lo) = at_ + lo := w64 _ (by omega) (by omega); have hw2 : IntKind.i64.wrap (at_ + hi) = at_ + hi := w64 _ (by omega) (by omega); have hsI : (s : Int) < (L : Int) := by omega
  have hws : IntKind.i64.wrap (s : Int) = (s : Int) := w64 _ (by omega) (by omega); have hs0 : (0 : Int) ≤ (s : Int) := by omega
  have hwp : IntKind.i64.wrap (pc * num) = pc * num := w64 _ (by omega) (by omega); have HRG := Lib.hid (show -280000 ≤ at_ ∧ at_ ≤ 240000 ∧ -30 ≤ lo ∧ lo ≤ hi ∧ hi ≤ 30 by omega); have HB := Lib.hid b12; have HKB := Lib.hid kb; have HZ := Lib.hid (show w.heap.size ≤ w1.heap.size ∧ w1.heap.size < w2.heap.size from ⟨b1.size, by have := HS2.out; omega⟩); rw [HS.out]; rw [hL] at e1; clear hatd hR kb b1 b2 b12 hcE hE hh hnum hden hA hs hL hlo hhi her hst har hde hle HS hr1 hr2 hR0 hR1 hRL0 hRL1 hnu hD hE2 hdm hp1 hp2 q0
  go_enter Tryz.func30, Tryz.ntmps30
  (go_wp2_with fail); refine (HD1.out _).mono ?_
  rintro e wn ⟨rfl, rfl⟩; clear e1 e2 q1 q2; go_wp2; have HSB := Lib.hid (cl1 q3); refine held1 q3 (fun W0 HB0 => ?_); refine tk 0 rfl (by exact HSB.out _ HB0) ?_; (try simp only [Act.put, ptL]); refine tk 1 rfl (by exact HSB.out _ HB0) ?_; (try simp only [Act.put, ptL]); refine tk 5 rfl (by exact HSB.out _ HB0) ?_; (try simp only [Act.put, ptL]); refine tk 6 rfl (by exact HSB.out _ HB0) ?_; (try simp only [Act.put, ptL]); refine tk 7 rfl (by exact HSB.out _ HB0) ?_; (try simp only [Act.put, ptL]); refine rz1 2 rfl ?_; intro K hK; go_simp; refine (HD2.out _).mono ?_; rintro e W1 ⟨rfl, rfl⟩; have HB1 := HB0; refine kz hK (by exact HSB.out _ HB1) ?_; clear hK K; (try simp only [Act.put, ptL]); refine tk 3 rfl (by exact HSB.out _ HB1) ?_; (try simp only [Act.put, ptL]); refine tk 4 rfl (by exact HSB.out _ HB1) ?_; (try simp only [Act.put, ptL]); refine tk 8 rfl (by exact HSB.out _ HB1) ?_; (try simp only [Act.put, ptL]); refine tk 9 rfl (by exact HSB.out _ HB1) ?_; (try simp only [Act.put, ptL]); refine tk 10 rfl (by exact HSB.out _ HB1) ?_; (try simp only [Act.put, ptL])
  refine wpAnyH_done (by kernel_rfl) ?_ _
  skip
  have q3 := (HB0.cell (lt_of_cellq q3)).trans q3; have x0 := (HB0.cell (lt_of_cellq x0)).trans x0; have x1 := (HB0.cell (lt_of_cellq x1)).trans x1; have HB02 := Lib.hid HB0; clear HSB HB0 HB1 hwE hwR hwm hqd hws hwp HD1 HD2; go_wp2; obtain ⟨g1, g2, g3, g4, g5⟩ := HRG.out; refine wp_region_below_tail 16 (by kernel_rfl) (by kernel_rfl) ?_; simp only [List.take_succ_cons, List.take_zero, List.drop_succ_cons, List.drop_zero]; (repeat (first | ((with_reducible first | apply wq_fg faP0 | apply wq_fg faP1 | apply wq_fg faP2 | apply wq_fg faM0 | apply wq_fg faS0 | apply wq_fg faS1 | apply wq_fg faR0 | apply wq_fg faR1 | apply wq_fg faR2 | apply wq_fg faR3 | apply wq_fg faT0 | apply wq_fg faT1 | apply wq_fg faQ0 | apply wq_fg faQ1 | apply wq_fg faH0 | apply wq_fg faH1 | apply wq_fg faH2 | apply wq_fg faH3); (focus rfl); (focus rfl); go_frame) | ((with_reducible first | apply wq_ix Tryz.underlying23 szI | apply wq_ix Tryz.underlying27 szSp | apply wq_ix Tryz.underlying22 szM | apply wq_ix Tryz.underlying24 szR | apply wq_ix Tryz.underlying43 szL | apply wq_ix Tryz.underlying103 szT); (focus rfl); (focus rfl); (focus rfl); (focus omega); (try simp only [Nat.mul_one]); go_frame) | ((with_reducible first | apply wq_ld agI | apply wq_ld agB | apply wq_ld agLI | apply wq_ld agLS | apply wq_ld agLM | apply wq_ld agLR | apply wq_ld agLL | apply wq_ld agLT); (focus rfl); (focus rfl); (focus (intro _ hbq; first | exact (hbq.cell (lt_of_cellq q3)).trans q3 | exact (hbq.cell (lt_of_cellq x0)).trans x0 | exact (hbq.cell (lt_of_cellq x1)).trans x1)); go_frame) | ((with_reducible first | apply wq_add | apply wq_sub | apply wq_mul | apply wq_rem); (focus rfl); (focus rfl); (focus rfl); (focus omega); (focus omega); go_frame) | ((with_reducible first | apply wq_eql | apply wq_neq | apply wq_lss | apply wq_leq | apply wq_gtr | apply wq_geq | apply wq_max2 | apply wq_min2); (focus rfl); (focus rfl); (focus rfl); go_frame) | ((with_reducible first | apply wq_max3 | apply wq_min3); (focus rfl); (focus rfl); (focus rfl); (focus rfl); go_frame) | go_big_quiet_step (fail))); refine wpQuiet_nil ?_; intro wq hbq
  have hb2 := HB02.out.trans (hbq.mono HB02.out.size); obtain ⟨w6, w7, s1, s2, ⟨c0', f0⟩, ⟨c1', f1⟩, hx4, hxk, HZ5, hxb⟩ := set2 wq w1.heap.size 36 _ _ (.int .i64 (at_ + lo)) (.int .i64 (at_ + hi)) ((hb2.block _ (block_lt HKB.out)).trans HKB.out); obtain ⟨r0, r1⟩ := cells2 hx4; have HBB := Lib.hid (hxb w w.heap.size HZ.out.1 (HB.out.trans (hb2.mono HB.out.size))); clear hx4 hxk hxb hb2 hbq; go_wp2; refine bodyPost_ret (v := .agg #[.int .i64 (at_ + lo), .int .i64 (at_ + hi)]) ?_ rfl ⟨rfl, HBB.out⟩; simp [results, Tryz.results30, go_sem, r0, r1]
end Go.Proofs.YtlednchfifphgabGreatDoor
end

section
namespace Go.Proofs.YtlednchfifphgabGreatDoor
open Go Go.RowKit Go.Proofs
set_option linter.unusedVariables false
set_option linter.unusedSimpArgs false

def briefB (h : Hd) : Bool := decide (h.er.length ≤ 10)
theorem l_brief (h : Hd) (pe : Option Addr) (ce : Nat) (w : World) : Calls Tryz.prog 15 #[hdV h pe ce] w fun e w' => e = .returned (.bool (briefB h)) ∧ Below w.heap.size w w' := by
  unfold hdV; obtain ⟨w1, e1, HS1, q0, q1, q2, q3, b1⟩ := box4 w (.int .i64 h.arb) (.int .i64 h.num) (.int .i64 h.den) (.slice pe h.er.length ce) 29; have HB := Lib.hid b1; have HD := Lib.hid (show decide ((h.er.length : Int) ≤ 10) = briefB h by unfold briefB; exact decide_eq_decide.2 (by omega)); clear b1
  by_cases hl : h.er.length ≤ 10
  · have h1 : decide ((h.er.length : Int) ≤ 10) = true := decide_eq_true (by omega)
    have H := Lib.hid (show briefB h = true from decide_eq_true hl); clear hl
    go_enter Tryz.func15, Tryz.ntmps15
    go_wp2; go_ret; exact ⟨by rw [H.out]; rfl, HB.out⟩
  · have h1 : decide ((h.er.length : Int) ≤ 10) = false := decide_eq_false (by omega)
    have H := Lib.hid (show briefB h = false from decide_eq_false hl); clear hl
    go_enter Tryz.func15, Tryz.ntmps15
    go_wp2; go_ret; exact ⟨by rw [H.out]; rfl, HB.out⟩
end Go.Proofs.YtlednchfifphgabGreatDoor
end

section
namespace Go.Proofs.YtlednchfifphgabGreatDoor
open Go Go.RowKit Go.Proofs
set_option linter.unusedVariables false
set_option linter.unusedSimpArgs false

end Go.Proofs.YtlednchfifphgabGreatDoor
end

section
namespace Go.Proofs.YtlednchfifphgabGreatDoor
open Go Go.RowKit Go.Proofs
set_option linter.unusedVariables false
set_option linter.unusedSimpArgs false
attribute [local go_sem] imax2 imin2

end Go.Proofs.YtlednchfifphgabGreatDoor
end

section
namespace Go.Proofs.YtlednchfifphgabGreatDoor
open Go Go.RowKit Go.Proofs
set_option linter.unusedVariables false
set_option linter.unusedSimpArgs false
attribute [local go_sem] imax2 imin2

end Go.Proofs.YtlednchfifphgabGreatDoor
end

section
namespace Go.Proofs.YtlednchfifphgabGreatDoor
open Go Go.RowKit Go.Proofs
set_option linter.unusedVariables false
set_option linter.unusedSimpArgs false
attribute [local go_sem] imax2 imin2

theorem within_of_fits {p : Pc} {pl : List Int} (h : fitsB p pl = true) : withinB p pl = true := by
  unfold fitsB at h; rw [Bool.and_eq_true] at h; exact h.1
end Go.Proofs.YtlednchfifphgabGreatDoor
end

section
namespace Go.Proofs.YtlednchfifphgabGreatDoor
open Go Go.RowKit
set_option linter.unusedVariables false
section
variable {P : Program} {ops : Array Oper} {Q : Exit → Act → World → Prop} {id : Nat} {a : Act} {w : World}
theorem cl12 {a0 a1 a2 a3 a4 a5 a6 a7 a8 a9 a10 a11 : Addr} {v0 v1 v2 v3 v4 v5 v6 v7 v8 v9 v10 v11 : Value} (h0 : w.cell? a0 = some v0) (h1 : w.cell? a1 = some v1) (h2 : w.cell? a2 = some v2) (h3 : w.cell? a3 = some v3) (h4 : w.cell? a4 = some v4) (h5 : w.cell? a5 = some v5) (h6 : w.cell? a6 = some v6) (h7 : w.cell? a7 = some v7) (h8 : w.cell? a8 = some v8) (h9 : w.cell? a9 = some v9) (h10 : w.cell? a10 = some v10) (h11 : w.cell? a11 = some v11) : ∀ w', Below w.heap.size w w' → w'.cell? a0 = some v0 ∧ w'.cell? a1 = some v1 ∧ w'.cell? a2 = some v2 ∧ w'.cell? a3 = some v3 ∧ w'.cell? a4 = some v4 ∧ w'.cell? a5 = some v5 ∧ w'.cell? a6 = some v6 ∧ w'.cell? a7 = some v7 ∧ w'.cell? a8 = some v8 ∧ w'.cell? a9 = some v9 ∧ w'.cell? a10 = some v10 ∧ w'.cell? a11 = some v11 := fun w' hb => ⟨(hb.cell (lt_of_cellq h0)).trans h0, (hb.cell (lt_of_cellq h1)).trans h1, (hb.cell (lt_of_cellq h2)).trans h2, (hb.cell (lt_of_cellq h3)).trans h3, (hb.cell (lt_of_cellq h4)).trans h4, (hb.cell (lt_of_cellq h5)).trans h5, (hb.cell (lt_of_cellq h6)).trans h6, (hb.cell (lt_of_cellq h7)).trans h7, (hb.cell (lt_of_cellq h8)).trans h8, (hb.cell (lt_of_cellq h9)).trans h9, (hb.cell (lt_of_cellq h10)).trans h10, (hb.cell (lt_of_cellq h11)).trans h11⟩
theorem held12 {a0 a1 a2 a3 a4 a5 a6 a7 a8 a9 a10 a11 : Addr} {v0 v1 v2 v3 v4 v5 v6 v7 v8 v9 v10 v11 : Value} (h0 : w.cell? a0 = some v0) (h1 : w.cell? a1 = some v1) (h2 : w.cell? a2 = some v2) (h3 : w.cell? a3 = some v3) (h4 : w.cell? a4 = some v4) (h5 : w.cell? a5 = some v5) (h6 : w.cell? a6 = some v6) (h7 : w.cell? a7 = some v7) (h8 : w.cell? a8 = some v8) (h9 : w.cell? a9 = some v9) (h10 : w.cell? a10 = some v10) (h11 : w.cell? a11 = some v11)
    (k : ∀ W0, Below w.heap.size w W0 → wpAnyH P .any ops Q (fun w' => w'.cell? a0 = some v0 ∧ w'.cell? a1 = some v1 ∧ w'.cell? a2 = some v2 ∧ w'.cell? a3 = some v3 ∧ w'.cell? a4 = some v4 ∧ w'.cell? a5 = some v5 ∧ w'.cell? a6 = some v6 ∧ w'.cell? a7 = some v7 ∧ w'.cell? a8 = some v8 ∧ w'.cell? a9 = some v9 ∧ w'.cell? a10 = some v10 ∧ w'.cell? a11 = some v11) ops.size (Array.replicate ops.size false) a W0)
    (hm : P.follows .mixedOrders = true := by kernel_rfl) : (Code.region id ops true).wp P Q a w :=
  wp_region_held_drew (S := fun w' => w'.cell? a0 = some v0 ∧ w'.cell? a1 = some v1 ∧ w'.cell? a2 = some v2 ∧ w'.cell? a3 = some v3 ∧ w'.cell? a4 = some v4 ∧ w'.cell? a5 = some v5 ∧ w'.cell? a6 = some v6 ∧ w'.cell? a7 = some v7 ∧ w'.cell? a8 = some v8 ∧ w'.cell? a9 = some v9 ∧ w'.cell? a10 = some v10 ∧ w'.cell? a11 = some v11) hm (cl12 h0 h1 h2 h3 h4 h5 h6 h7 h8 h9 h10 h11 _ (Below.refl _ _).drew) (fun _ => k _ (Below.refl _ _).drew)
end
end Go.Proofs.YtlednchfifphgabGreatDoor
end

section
namespace Go.Proofs.YtlednchfifphgabGreatDoor
open Go Go.RowKit Go.Proofs
set_option linter.unusedVariables false
set_option linter.unusedSimpArgs false
attribute [local go_sem] imax2 imin2

set_option maxHeartbeats 12800000 in
set_option maxRecDepth 100000 in
theorem law_Differ (pm pv pr : Option Addr) (cm cv cr : Nat) (p : Pc) (h : Hd) (pe : Option Addr) (ce : Nat) (k : Hd) (pf : Option Addr) (cf : Nat) (q : Option Addr) (cq : Nat) (pl : List Int) (m : Int) (w : World) (hp : RdP w pm pv pr p) (hE : RdS w pe h.er) (hF : RdS w pf k.er) (hq : RdI w q pl) (hm : MaxL m w) (hi : ItoaG w) :
    Calls Tryz.prog 6 #[.agg #[.slice pm p.ms.length cm, .slice pv p.mv.length cv, .slice pr p.rs.length cr], hdV h pe ce, hdV k pf cf, .slice q pl.length cq] w (LawPost w) := by
  obtain ⟨w1, e1, HS1, k0, k1, k2, b1⟩ := box3 w (.slice pm p.ms.length cm) (.slice pv p.mv.length cv) (.slice pr p.rs.length cr) 26; obtain ⟨w2, e2, HS2, q0, q1, q2, q3, b2⟩ := box4 w1 (.int .i64 h.arb) (.int .i64 h.num) (.int .i64 h.den) (.slice pe h.er.length ce) 29; obtain ⟨w3, e3, HS3, p0, p1, p2, p3, b3⟩ := box4 w2 (.int .i64 k.arb) (.int .i64 k.num) (.int .i64 k.den) (.slice pf k.er.length cf) 29; have b23 := b2.trans (b3.mono b2.size); have b13 := b1.trans (b23.mono b1.size); have k0 := (b23.cell (lt_of_cellq k0)).trans k0; have k1 := (b23.cell (lt_of_cellq k1)).trans k1; have k2 := (b23.cell (lt_of_cellq k2)).trans k2; have q0 := (b3.cell (lt_of_cellq q0)).trans q0; have q1 := (b3.cell (lt_of_cellq q1)).trans q1; have q2 := (b3.cell (lt_of_cellq q2)).trans q2; have q3 := (b3.cell (lt_of_cellq q3)).trans q3; have HP := Lib.hid (hp.below b13); have HE := Lib.hid (hE.below b13); have HF := Lib.hid (hF.below b13)
  have HQ := Lib.hid (hq.below b13); have HM := Lib.hid hm; have HI := Lib.hid hi; have HB := Lib.hid b13; have HLB := Lib.hid (l_brief h pe ce); have HLC := Lib.hid (l_brief k pf cf); have HKB := Lib.hid (fun W (h1 : RdP W pm pv pr p) hl (h2 : RdS W pe h.er) g2 (h3 : RdS W pf k.er) g3 => c_Apart pm pv pr cm cv cr p h k pe pf ce cf W h1 hl h2 g2 h3 g3); have HKT := Lib.hid (fun W (h1 : RdP W pm pv pr p) hl (h2 : RdS W pe h.er) g2 (h3 : RdS W pf k.er) g3 => c_Apart pm pv pr cm cv cr p k h pf pe cf ce W h1 hl h3 g3 h2 g2); have HKS := Lib.hid (fun W (h1 : RdP W pm pv pr p) hl (h2 : RdS W pe h.er) g2 => c_Shows pm pv pr cm cv cr p h pe ce W h1 hl h2 g2); have HKZ := Lib.hid (fun W (h1 : RdP W pm pv pr p) hl (h3 : RdS W pf k.er) g3 => c_Shows pm pv pr cm cv cr p k pf cf W h1 hl h3 g3); have HRH := Lib.hid (fun W (h2 : RdS W pe h.er) g2 => r_Hand pm pv pr cm cv cr p h pe ce W h2 g2); have HRK := Lib.hid (fun W (h3 : RdS W pf k.er) g3 => r_Hand pm pv pr cm cv cr p k pf cf W h3 g3)
  have HSW := Lib.hid (fun n pc W (h2 : RdS W pe h.er) (hh : HandOk n h) hr => r_Shown h pe ce n pc W h2 hh hr); have HSZ := Lib.hid (fun n pc W (h3 : RdS W pf k.er) (hk : HandOk n k) hr => r_Shown k pf cf n pc W h3 hk hr); clear hp hE hF hq hm hi b1 b2 b3 b23 b13; unfold hdV at HLB HLC HKB HKT HKS HKZ HRH HRK HSW HSZ; unfold hdV
  go_enter Tryz.func6, Tryz.ntmps6
  (go_wp2_with fail); refine (c_short pm pv pr cm cv cr p _).mono ?_
  clear e1 e2 e3
  rcases hs : shortB p with _ | _
  · rintro e wn ⟨rfl, bq⟩; replace HB := Lib.hid (HB.out.trans (bq.mono HB.out.size)); clear bq
    (go_wp2_with fail); refine (c_known m _ (HM.out.below HB.out) (HI.out.below HB.out)).mono ?_; rintro e wn ⟨rfl, bq⟩; have HFK := Lib.hid (HB.out.trans (bq.mono HB.out.size)); clear bq; go_wp2; go_ret; exact ⟨rfl, HFK.out⟩
  rintro e wn ⟨rfl, bq⟩; replace HB := Lib.hid (HB.out.trans (bq.mono HB.out.size)); replace HP := Lib.hid (HP.out.below bq); replace HE := Lib.hid (HE.out.below bq); replace HF := Lib.hid (HF.out.below bq); replace HQ := Lib.hid (HQ.out.below bq); have k0 := (bq.cell (lt_of_cellq k0)).trans k0; have k1 := (bq.cell (lt_of_cellq k1)).trans k1; have k2 := (bq.cell (lt_of_cellq k2)).trans k2; have q0 := (bq.cell (lt_of_cellq q0)).trans q0; have q1 := (bq.cell (lt_of_cellq q1)).trans q1; have q2 := (bq.cell (lt_of_cellq q2)).trans q2; have q3 := (bq.cell (lt_of_cellq q3)).trans q3; have p0 := (bq.cell (lt_of_cellq p0)).trans p0; have p1 := (bq.cell (lt_of_cellq p1)).trans p1; have p2 := (bq.cell (lt_of_cellq p2)).trans p2; have p3 := (bq.cell (lt_of_cellq p3)).trans p3; clear bq; have HLN := Lib.hid (short_len hs); clear hs
  (go_wp2_with fail); refine (HLB.out _).mono ?_
  rcases hl1 : briefB h with _ | _
  · rintro e wn ⟨rfl, bq⟩; replace HB := Lib.hid (HB.out.trans (bq.mono HB.out.size)); clear bq
    (go_wp2_with fail); refine (c_known m _ (HM.out.below HB.out) (HI.out.below HB.out)).mono ?_; rintro e wn ⟨rfl, bq⟩; have HFK := Lib.hid (HB.out.trans (bq.mono HB.out.size)); clear bq; go_wp2; go_ret; exact ⟨rfl, HFK.out⟩
  rintro e wn ⟨rfl, bq⟩; replace HB := Lib.hid (HB.out.trans (bq.mono HB.out.size)); replace HP := Lib.hid (HP.out.below bq); replace HE := Lib.hid (HE.out.below bq); replace HF := Lib.hid (HF.out.below bq); replace HQ := Lib.hid (HQ.out.below bq); have k0 := (bq.cell (lt_of_cellq k0)).trans k0; have k1 := (bq.cell (lt_of_cellq k1)).trans k1; have k2 := (bq.cell (lt_of_cellq k2)).trans k2; have q0 := (bq.cell (lt_of_cellq q0)).trans q0; have q1 := (bq.cell (lt_of_cellq q1)).trans q1; have q2 := (bq.cell (lt_of_cellq q2)).trans q2; have q3 := (bq.cell (lt_of_cellq q3)).trans q3; have p0 := (bq.cell (lt_of_cellq p0)).trans p0; have p1 := (bq.cell (lt_of_cellq p1)).trans p1; have p2 := (bq.cell (lt_of_cellq p2)).trans p2; have p3 := (bq.cell (lt_of_cellq p3)).trans p3; clear bq
  (go_wp2_with fail); refine (HLC.out _).mono ?_
  rcases hl2 : briefB k with _ | _
  · rintro e wn ⟨rfl, bq⟩; replace HB := Lib.hid (HB.out.trans (bq.mono HB.out.size)); clear bq
    (go_wp2_with fail); refine (c_known m _ (HM.out.below HB.out) (HI.out.below HB.out)).mono ?_; rintro e wn ⟨rfl, bq⟩; have HFK := Lib.hid (HB.out.trans (bq.mono HB.out.size)); clear bq; go_wp2; go_ret; exact ⟨rfl, HFK.out⟩
  rintro e wn ⟨rfl, bq⟩; replace HB := Lib.hid (HB.out.trans (bq.mono HB.out.size)); replace HP := Lib.hid (HP.out.below bq); replace HE := Lib.hid (HE.out.below bq); replace HF := Lib.hid (HF.out.below bq); replace HQ := Lib.hid (HQ.out.below bq); have k0 := (bq.cell (lt_of_cellq k0)).trans k0; have k1 := (bq.cell (lt_of_cellq k1)).trans k1; have k2 := (bq.cell (lt_of_cellq k2)).trans k2; have q0 := (bq.cell (lt_of_cellq q0)).trans q0; have q1 := (bq.cell (lt_of_cellq q1)).trans q1; have q2 := (bq.cell (lt_of_cellq q2)).trans q2; have q3 := (bq.cell (lt_of_cellq q3)).trans q3; have p0 := (bq.cell (lt_of_cellq p0)).trans p0; have p1 := (bq.cell (lt_of_cellq p1)).trans p1; have p2 := (bq.cell (lt_of_cellq p2)).trans p2; have p3 := (bq.cell (lt_of_cellq p3)).trans p3; clear bq; have hl1 : h.er.length ≤ 10 := of_decide_eq_true hl1; have hl2 : k.er.length ≤ 10 := of_decide_eq_true hl2; have HL1 := Lib.hid (show h.er.length ≤ 1000000 by omega)
  have HL2 := Lib.hid (show k.er.length ≤ 1000000 by omega); clear hl1 hl2
  by_cases h6 : pl.length ≤ 6
  case neg =>
    have h6' : (pl.length : Int) > 6 := by omega
    (go_wp2_with fail); refine (c_known m _ (HM.out.below HB.out) (HI.out.below HB.out)).mono ?_; rintro e wn ⟨rfl, bq⟩; have HFK := Lib.hid (HB.out.trans (bq.mono HB.out.size)); clear bq; go_wp2; go_ret; exact ⟨rfl, HFK.out⟩
  have h6' : decide ((pl.length : Int) > 6) = false := decide_eq_false (by omega)
  (go_wp2_with fail); refine (r_Piece pm pv pr cm cv cr p _ HP.out HLN.out).mono ?_
  rcases h1 : pieceB p with _ | _
  · rintro e wn ⟨rfl, bq⟩; replace HB := Lib.hid (HB.out.trans (bq.mono HB.out.size)); clear bq
    (go_wp2_with fail); refine (c_known m _ (HM.out.below HB.out) (HI.out.below HB.out)).mono ?_; rintro e wn ⟨rfl, bq⟩; have HFK := Lib.hid (HB.out.trans (bq.mono HB.out.size)); clear bq; go_wp2; go_ret; exact ⟨rfl, HFK.out⟩
  rintro e wn ⟨rfl, bq⟩; replace HB := Lib.hid (HB.out.trans (bq.mono HB.out.size)); replace HP := Lib.hid (HP.out.below bq); replace HE := Lib.hid (HE.out.below bq); replace HF := Lib.hid (HF.out.below bq); replace HQ := Lib.hid (HQ.out.below bq); have k0 := (bq.cell (lt_of_cellq k0)).trans k0; have k1 := (bq.cell (lt_of_cellq k1)).trans k1; have k2 := (bq.cell (lt_of_cellq k2)).trans k2; have q0 := (bq.cell (lt_of_cellq q0)).trans q0; have q1 := (bq.cell (lt_of_cellq q1)).trans q1; have q2 := (bq.cell (lt_of_cellq q2)).trans q2; have q3 := (bq.cell (lt_of_cellq q3)).trans q3; have p0 := (bq.cell (lt_of_cellq p0)).trans p0; have p1 := (bq.cell (lt_of_cellq p1)).trans p1; have p2 := (bq.cell (lt_of_cellq p2)).trans p2; have p3 := (bq.cell (lt_of_cellq p3)).trans p3; clear bq
  (go_wp2_with fail); refine (HRH.out _ HE.out HL1.out).mono ?_
  rcases h2 : handB p.ms.length h with _ | _
  · rintro e wn ⟨rfl, bq⟩; replace HB := Lib.hid (HB.out.trans (bq.mono HB.out.size)); clear bq
    (go_wp2_with fail); refine (c_known m _ (HM.out.below HB.out) (HI.out.below HB.out)).mono ?_; rintro e wn ⟨rfl, bq⟩; have HFK := Lib.hid (HB.out.trans (bq.mono HB.out.size)); clear bq; go_wp2; go_ret; exact ⟨rfl, HFK.out⟩
  rintro e wn ⟨rfl, bq⟩; replace HB := Lib.hid (HB.out.trans (bq.mono HB.out.size)); replace HP := Lib.hid (HP.out.below bq); replace HE := Lib.hid (HE.out.below bq); replace HF := Lib.hid (HF.out.below bq); replace HQ := Lib.hid (HQ.out.below bq); have k0 := (bq.cell (lt_of_cellq k0)).trans k0; have k1 := (bq.cell (lt_of_cellq k1)).trans k1; have k2 := (bq.cell (lt_of_cellq k2)).trans k2; have q0 := (bq.cell (lt_of_cellq q0)).trans q0; have q1 := (bq.cell (lt_of_cellq q1)).trans q1; have q2 := (bq.cell (lt_of_cellq q2)).trans q2; have q3 := (bq.cell (lt_of_cellq q3)).trans q3; have p0 := (bq.cell (lt_of_cellq p0)).trans p0; have p1 := (bq.cell (lt_of_cellq p1)).trans p1; have p2 := (bq.cell (lt_of_cellq p2)).trans p2; have p3 := (bq.cell (lt_of_cellq p3)).trans p3; clear bq
  (go_wp2_with fail); refine (HRK.out _ HF.out HL2.out).mono ?_
  rcases h3 : handB p.ms.length k with _ | _
  · rintro e wn ⟨rfl, bq⟩; replace HB := Lib.hid (HB.out.trans (bq.mono HB.out.size)); clear bq
    (go_wp2_with fail); refine (c_known m _ (HM.out.below HB.out) (HI.out.below HB.out)).mono ?_; rintro e wn ⟨rfl, bq⟩; have HFK := Lib.hid (HB.out.trans (bq.mono HB.out.size)); clear bq; go_wp2; go_ret; exact ⟨rfl, HFK.out⟩
  rintro e wn ⟨rfl, bq⟩; replace HB := Lib.hid (HB.out.trans (bq.mono HB.out.size)); replace HP := Lib.hid (HP.out.below bq); replace HE := Lib.hid (HE.out.below bq); replace HF := Lib.hid (HF.out.below bq); replace HQ := Lib.hid (HQ.out.below bq); have k0 := (bq.cell (lt_of_cellq k0)).trans k0; have k1 := (bq.cell (lt_of_cellq k1)).trans k1; have k2 := (bq.cell (lt_of_cellq k2)).trans k2; have q0 := (bq.cell (lt_of_cellq q0)).trans q0; have q1 := (bq.cell (lt_of_cellq q1)).trans q1; have q2 := (bq.cell (lt_of_cellq q2)).trans q2; have q3 := (bq.cell (lt_of_cellq q3)).trans q3; have p0 := (bq.cell (lt_of_cellq p0)).trans p0; have p1 := (bq.cell (lt_of_cellq p1)).trans p1; have p2 := (bq.cell (lt_of_cellq p2)).trans p2; have p3 := (bq.cell (lt_of_cellq p3)).trans p3; clear bq
  (go_wp2_with fail); refine (r_Plays pm pv pr cm cv cr p q cq pl _ HQ.out (by omega)).mono ?_
  rcases h4 : playsB p pl with _ | _
  · rintro e wn ⟨rfl, bq⟩; replace HB := Lib.hid (HB.out.trans (bq.mono HB.out.size)); clear bq
    (go_wp2_with fail); refine (c_known m _ (HM.out.below HB.out) (HI.out.below HB.out)).mono ?_; rintro e wn ⟨rfl, bq⟩; have HFK := Lib.hid (HB.out.trans (bq.mono HB.out.size)); clear bq; go_wp2; go_ret; exact ⟨rfl, HFK.out⟩
  rintro e wn ⟨rfl, bq⟩; replace HB := Lib.hid (HB.out.trans (bq.mono HB.out.size)); replace HP := Lib.hid (HP.out.below bq); replace HE := Lib.hid (HE.out.below bq); replace HF := Lib.hid (HF.out.below bq); replace HQ := Lib.hid (HQ.out.below bq); have k0 := (bq.cell (lt_of_cellq k0)).trans k0; have k1 := (bq.cell (lt_of_cellq k1)).trans k1; have k2 := (bq.cell (lt_of_cellq k2)).trans k2; have q0 := (bq.cell (lt_of_cellq q0)).trans q0; have q1 := (bq.cell (lt_of_cellq q1)).trans q1; have q2 := (bq.cell (lt_of_cellq q2)).trans q2; have q3 := (bq.cell (lt_of_cellq q3)).trans q3; have p0 := (bq.cell (lt_of_cellq p0)).trans p0; have p1 := (bq.cell (lt_of_cellq p1)).trans p1; have p2 := (bq.cell (lt_of_cellq p2)).trans p2; have p3 := (bq.cell (lt_of_cellq p3)).trans p3; clear bq; have HPO := Lib.hid (pieceB_iff.1 h1); have HP1 := Lib.hid h1; have HPL := Lib.hid (playsB_iff.1 h4); have HHO := Lib.hid (handB_iff.1 h2)
  have HKO := Lib.hid (handB_iff.1 h3); have HFN := Lib.hid (show (handB p.ms.length h && handB p.ms.length k) = true by rw [h2, h3]; rfl); have HFT := Lib.hid (show (handB p.ms.length k && handB p.ms.length h) = true by rw [h2, h3]; rfl); have HF1 := Lib.hid h2; have HF2 := Lib.hid h3
  (go_wp2_with fail); refine (r_Fits pm pv pr cm cv cr p q cq pl _ HP.out HQ.out HPO.out HPL.out).mono ?_
  rcases h5 : fitsB p pl with _ | _
  · rintro e wn ⟨rfl, bq⟩; replace HB := Lib.hid (HB.out.trans (bq.mono HB.out.size)); clear bq
    (go_wp2_with fail); refine (c_known m _ (HM.out.below HB.out) (HI.out.below HB.out)).mono ?_; rintro e wn ⟨rfl, bq⟩; have HFK := Lib.hid (HB.out.trans (bq.mono HB.out.size)); clear bq; go_wp2; go_ret; exact ⟨rfl, HFK.out⟩
  rintro e wn ⟨rfl, bq⟩; replace HB := Lib.hid (HB.out.trans (bq.mono HB.out.size)); replace HP := Lib.hid (HP.out.below bq); replace HE := Lib.hid (HE.out.below bq); replace HF := Lib.hid (HF.out.below bq); replace HQ := Lib.hid (HQ.out.below bq); have k0 := (bq.cell (lt_of_cellq k0)).trans k0; have k1 := (bq.cell (lt_of_cellq k1)).trans k1; have k2 := (bq.cell (lt_of_cellq k2)).trans k2; have q0 := (bq.cell (lt_of_cellq q0)).trans q0; have q1 := (bq.cell (lt_of_cellq q1)).trans q1; have q2 := (bq.cell (lt_of_cellq q2)).trans q2; have q3 := (bq.cell (lt_of_cellq q3)).trans q3; have p0 := (bq.cell (lt_of_cellq p0)).trans p0; have p1 := (bq.cell (lt_of_cellq p1)).trans p1; have p2 := (bq.cell (lt_of_cellq p2)).trans p2; have p3 := (bq.cell (lt_of_cellq p3)).trans p3; clear bq; have HMT := Lib.hid (show pl ∈ truthsF p from mem_truthsF.2 ⟨HPL.out.len, h5⟩); have HT := Lib.hid (ne_of_mem HMT.out)
  have HOK := Lib.hid (show (pieceB p && playsB p pl && withinB p pl) = true by rw [h1, h4, within_of_fits h5]; rfl); clear h1 h2 h3 h4 h5; have hea : errF p true = 0 := err_good HP1.out rfl HT.out; obtain ⟨ht1, ht2⟩ := apart_turn HT.out h k; obtain ⟨hw1, hw2⟩ := apart_within HT.out h k; obtain ⟨hp1, hp2, hp3⟩ := apart_plain HPO.out HHO.out HKO.out HT.out; obtain ⟨hs1, hs2, hs3⟩ := shows_plain HPO.out HHO.out HT.out; obtain ⟨hz1, hz2, hz3⟩ := shows_plain HPO.out HKO.out HT.out; obtain ⟨hx1, hx2⟩ := apart_true HMT.out h k; obtain ⟨hg1, hg2, hg3⟩ := sh_plain HPO.out HHO.out HMT.out; obtain ⟨hj1, hj2, hj3⟩ := sh_plain HPO.out HKO.out HMT.out; obtain ⟨S0, hS0⟩ : ∃ x, (apartF p h k).1 = x := ⟨_, rfl⟩; obtain ⟨S1, hS1⟩ : ∃ x, (apartF p h k).2 = x := ⟨_, rfl⟩; obtain ⟨T0, hT0⟩ : ∃ x, (apartF p k h).1 = x := ⟨_, rfl⟩; obtain ⟨T1, hT1⟩ : ∃ x, (apartF p k h).2 = x := ⟨_, rfl⟩; obtain ⟨A0, hA0⟩ : ∃ x, (showsF p h).1 = x := ⟨_, rfl⟩
  obtain ⟨A1, hA1⟩ : ∃ x, (showsF p h).2 = x := ⟨_, rfl⟩; obtain ⟨B0, hB0⟩ : ∃ x, (showsF p k).1 = x := ⟨_, rfl⟩; obtain ⟨B1, hB1⟩ : ∃ x, (showsF p k).2 = x := ⟨_, rfl⟩
  have HK1 := Lib.hid (fun W (g1 : RdP W pm pv pr p) (g2 : RdS W pe h.er) (g3 : RdS W pf k.er) => show Calls Tryz.prog 31 #[.agg #[.slice pm p.ms.length cm, .slice pv p.mv.length cv, .slice pr p.rs.length cr], .agg #[.int .i64 h.arb, .int .i64 h.num, .int .i64 h.den, .slice pe h.er.length ce], .agg #[.int .i64 k.arb, .int .i64 k.num, .int .i64 k.den, .slice pf k.er.length cf]] W fun e w' => e = .returned (.tuple #[.agg #[.int .i64 S0, .int .i64 S1], .int .i64 0]) ∧ Below W.heap.size W w' by
    have hh := HKB.out W g1 HLN.out g2 HL1.out g3 HL2.out; unfold SpanPost AnsS okI at hh; rw [HFN.out] at hh; simp only [if_pos hea, hea, hS0, hS1] at hh; exact hh)
  have HK2 := Lib.hid (fun W (g1 : RdP W pm pv pr p) (g2 : RdS W pe h.er) (g3 : RdS W pf k.er) => show Calls Tryz.prog 31 #[.agg #[.slice pm p.ms.length cm, .slice pv p.mv.length cv, .slice pr p.rs.length cr], .agg #[.int .i64 k.arb, .int .i64 k.num, .int .i64 k.den, .slice pf k.er.length cf], .agg #[.int .i64 h.arb, .int .i64 h.num, .int .i64 h.den, .slice pe h.er.length ce]] W fun e w' => e = .returned (.tuple #[.agg #[.int .i64 T0, .int .i64 T1], .int .i64 0]) ∧ Below W.heap.size W w' by
    have hh := HKT.out W g1 HLN.out g2 HL1.out g3 HL2.out; unfold SpanPost AnsS okI at hh; rw [HFT.out] at hh; simp only [if_pos hea, hea, hT0, hT1] at hh; exact hh)
  have HK3 := Lib.hid (fun W (g1 : RdP W pm pv pr p) (g2 : RdS W pe h.er) => show Calls Tryz.prog 18 #[.agg #[.slice pm p.ms.length cm, .slice pv p.mv.length cv, .slice pr p.rs.length cr], .agg #[.int .i64 h.arb, .int .i64 h.num, .int .i64 h.den, .slice pe h.er.length ce]] W fun e w' => e = .returned (.tuple #[.agg #[.int .i64 A0, .int .i64 A1], .int .i64 0]) ∧ Below W.heap.size W w' by
    have hh := HKS.out W g1 HLN.out g2 HL1.out; unfold SpanPost AnsS okI at hh; rw [HF1.out] at hh; simp only [if_pos hea, hea, hA0, hA1] at hh; exact hh)
  have HK4 := Lib.hid (fun W (g1 : RdP W pm pv pr p) (g3 : RdS W pf k.er) => show Calls Tryz.prog 18 #[.agg #[.slice pm p.ms.length cm, .slice pv p.mv.length cv, .slice pr p.rs.length cr], .agg #[.int .i64 k.arb, .int .i64 k.num, .int .i64 k.den, .slice pf k.er.length cf]] W fun e w' => e = .returned (.tuple #[.agg #[.int .i64 B0, .int .i64 B1], .int .i64 0]) ∧ Below W.heap.size W w' by
    have hh := HKZ.out W g1 HLN.out g3 HL2.out; unfold SpanPost AnsS okI at hh; rw [HF2.out] at hh; simp only [if_pos hea, hea, hB0, hB1] at hh; exact hh)
  rw [hS0] at ht1 hw1 hp1 hp2 hx1; rw [hS1] at ht2 hw2 hp2 hp3 hx2; rw [hT0] at ht2; rw [hT1] at ht1; rw [hA0] at hw1 hs1 hs2; rw [hA1] at hw2 hs2 hs3; rw [hB0] at hw2 hz1 hz2; rw [hB1] at hw1 hz2 hz3; have n1 : IntKind.i64.wrap (-T1) = -T1 := w64 _ (by omega) (by omega); have n0 : IntKind.i64.wrap (-T0) = -T0 := w64 _ (by omega) (by omega); have u1 : (S0 != -T1) = false := by simp; omega
  have u0 : (S1 != -T0) = false := by simp; omega
  have v1 : decide (A0 < -1000000) = false := decide_eq_false (by omega); have v2 : decide (A1 > 1000000) = false := decide_eq_false (by omega); have v2b : decide (1000000 < A1) = false := decide_eq_false (by omega); have v3 : decide (B0 < -1000000) = false := decide_eq_false (by omega); have v4 : decide (B1 > 1000000) = false := decide_eq_false (by omega); have v4b : decide (1000000 < B1) = false := decide_eq_false (by omega); have n3 : IntKind.i64.wrap (A0 - B1) = A0 - B1 := w64 _ (by omega) (by omega); have n4 : IntKind.i64.wrap (A1 - B0) = A1 - B0 := w64 _ (by omega) (by omega); have v5 : decide (S0 < A0 - B1) = false := decide_eq_false (by omega); have v6 : decide (S1 > A1 - B0) = false := decide_eq_false (by omega); have v6b : decide (A1 - B0 < S1) = false := decide_eq_false (by omega); have HX := Lib.hid (And.intro hx1 (And.intro hx2 (And.intro hg1 (And.intro hg2 (And.intro hg3 (And.intro hj1 (And.intro hj2 hj3)))))))
  clear ht1 ht2 hw1 hw2 hp1 hp2 hp3 hs1 hs2 hs3 hz1 hz2 hz3 hx1 hx2 hg1 hg2 hg3 hj1 hj2 hj3 hS0 hS1 hT0 hT1 hA0 hA1 hB0 hB1 hea HKB HKT HKS HKZ HRH HRK HLB HLC
  (go_wp2_with fail); refine (HK1.out _ HP.out HE.out HF.out).mono ?_
  rintro e wn ⟨rfl, bq⟩; replace HB := Lib.hid (HB.out.trans (bq.mono HB.out.size)); replace HP := Lib.hid (HP.out.below bq); replace HE := Lib.hid (HE.out.below bq); replace HF := Lib.hid (HF.out.below bq); replace HQ := Lib.hid (HQ.out.below bq); have k0 := (bq.cell (lt_of_cellq k0)).trans k0; have k1 := (bq.cell (lt_of_cellq k1)).trans k1; have k2 := (bq.cell (lt_of_cellq k2)).trans k2; have q0 := (bq.cell (lt_of_cellq q0)).trans q0; have q1 := (bq.cell (lt_of_cellq q1)).trans q1; have q2 := (bq.cell (lt_of_cellq q2)).trans q2; have q3 := (bq.cell (lt_of_cellq q3)).trans q3; have p0 := (bq.cell (lt_of_cellq p0)).trans p0; have p1 := (bq.cell (lt_of_cellq p1)).trans p1; have p2 := (bq.cell (lt_of_cellq p2)).trans p2; have p3 := (bq.cell (lt_of_cellq p3)).trans p3; clear bq; obtain ⟨x2, e2, HSx, s0, s1, bq⟩ := box2 wn (.int .i64 S0) (.int .i64 S1) 36; go_upto_region 4 with (fail); clear e2
  skip; replace HB := Lib.hid (HB.out.trans (bq.mono HB.out.size)); replace HP := Lib.hid (HP.out.below bq); replace HE := Lib.hid (HE.out.below bq); replace HF := Lib.hid (HF.out.below bq); replace HQ := Lib.hid (HQ.out.below bq); have k0 := (bq.cell (lt_of_cellq k0)).trans k0; have k1 := (bq.cell (lt_of_cellq k1)).trans k1; have k2 := (bq.cell (lt_of_cellq k2)).trans k2; have q0 := (bq.cell (lt_of_cellq q0)).trans q0; have q1 := (bq.cell (lt_of_cellq q1)).trans q1; have q2 := (bq.cell (lt_of_cellq q2)).trans q2; have q3 := (bq.cell (lt_of_cellq q3)).trans q3; have p0 := (bq.cell (lt_of_cellq p0)).trans p0; have p1 := (bq.cell (lt_of_cellq p1)).trans p1; have p2 := (bq.cell (lt_of_cellq p2)).trans p2; have p3 := (bq.cell (lt_of_cellq p3)).trans p3; clear bq
  (go_wp2_with fail); refine (HK2.out _ HP.out HE.out HF.out).mono ?_
  rintro e wn ⟨rfl, bq⟩; replace HB := Lib.hid (HB.out.trans (bq.mono HB.out.size)); replace HP := Lib.hid (HP.out.below bq); replace HE := Lib.hid (HE.out.below bq); replace HF := Lib.hid (HF.out.below bq); replace HQ := Lib.hid (HQ.out.below bq); have k0 := (bq.cell (lt_of_cellq k0)).trans k0; have k1 := (bq.cell (lt_of_cellq k1)).trans k1; have k2 := (bq.cell (lt_of_cellq k2)).trans k2; have q0 := (bq.cell (lt_of_cellq q0)).trans q0; have q1 := (bq.cell (lt_of_cellq q1)).trans q1; have q2 := (bq.cell (lt_of_cellq q2)).trans q2; have q3 := (bq.cell (lt_of_cellq q3)).trans q3; have p0 := (bq.cell (lt_of_cellq p0)).trans p0; have p1 := (bq.cell (lt_of_cellq p1)).trans p1; have p2 := (bq.cell (lt_of_cellq p2)).trans p2; have p3 := (bq.cell (lt_of_cellq p3)).trans p3; have s0 := (bq.cell (lt_of_cellq s0)).trans s0; have s1 := (bq.cell (lt_of_cellq s1)).trans s1; clear bq; obtain ⟨x2, e2, HSx, t0, t1, bq⟩ := box2 wn (.int .i64 T0) (.int .i64 T1) 36
  go_upto_region 5 with (fail); clear e2
  skip; replace HB := Lib.hid (HB.out.trans (bq.mono HB.out.size)); replace HP := Lib.hid (HP.out.below bq); replace HE := Lib.hid (HE.out.below bq); replace HF := Lib.hid (HF.out.below bq); replace HQ := Lib.hid (HQ.out.below bq); have k0 := (bq.cell (lt_of_cellq k0)).trans k0; have k1 := (bq.cell (lt_of_cellq k1)).trans k1; have k2 := (bq.cell (lt_of_cellq k2)).trans k2; have q0 := (bq.cell (lt_of_cellq q0)).trans q0; have q1 := (bq.cell (lt_of_cellq q1)).trans q1; have q2 := (bq.cell (lt_of_cellq q2)).trans q2; have q3 := (bq.cell (lt_of_cellq q3)).trans q3; have p0 := (bq.cell (lt_of_cellq p0)).trans p0; have p1 := (bq.cell (lt_of_cellq p1)).trans p1; have p2 := (bq.cell (lt_of_cellq p2)).trans p2; have p3 := (bq.cell (lt_of_cellq p3)).trans p3; have s0 := (bq.cell (lt_of_cellq s0)).trans s0; have s1 := (bq.cell (lt_of_cellq s1)).trans s1; clear bq
  (go_wp2_with fail); refine (HK3.out _ HP.out HE.out).mono ?_
  rintro e wn ⟨rfl, bq⟩; replace HB := Lib.hid (HB.out.trans (bq.mono HB.out.size)); replace HP := Lib.hid (HP.out.below bq); replace HE := Lib.hid (HE.out.below bq); replace HF := Lib.hid (HF.out.below bq); replace HQ := Lib.hid (HQ.out.below bq); have k0 := (bq.cell (lt_of_cellq k0)).trans k0; have k1 := (bq.cell (lt_of_cellq k1)).trans k1; have k2 := (bq.cell (lt_of_cellq k2)).trans k2; have q0 := (bq.cell (lt_of_cellq q0)).trans q0; have q1 := (bq.cell (lt_of_cellq q1)).trans q1; have q2 := (bq.cell (lt_of_cellq q2)).trans q2; have q3 := (bq.cell (lt_of_cellq q3)).trans q3; have p0 := (bq.cell (lt_of_cellq p0)).trans p0; have p1 := (bq.cell (lt_of_cellq p1)).trans p1; have p2 := (bq.cell (lt_of_cellq p2)).trans p2; have p3 := (bq.cell (lt_of_cellq p3)).trans p3; have s0 := (bq.cell (lt_of_cellq s0)).trans s0; have s1 := (bq.cell (lt_of_cellq s1)).trans s1; have t0 := (bq.cell (lt_of_cellq t0)).trans t0; have t1 := (bq.cell (lt_of_cellq t1)).trans t1; clear bq
  obtain ⟨x2, e2, HSx, a0, a1, bq⟩ := box2 wn (.int .i64 A0) (.int .i64 A1) 36; go_upto_region 6 with (fail); clear e2
  skip; replace HB := Lib.hid (HB.out.trans (bq.mono HB.out.size)); replace HP := Lib.hid (HP.out.below bq); replace HE := Lib.hid (HE.out.below bq); replace HF := Lib.hid (HF.out.below bq); replace HQ := Lib.hid (HQ.out.below bq); have k0 := (bq.cell (lt_of_cellq k0)).trans k0; have k1 := (bq.cell (lt_of_cellq k1)).trans k1; have k2 := (bq.cell (lt_of_cellq k2)).trans k2; have q0 := (bq.cell (lt_of_cellq q0)).trans q0; have q1 := (bq.cell (lt_of_cellq q1)).trans q1; have q2 := (bq.cell (lt_of_cellq q2)).trans q2; have q3 := (bq.cell (lt_of_cellq q3)).trans q3; have p0 := (bq.cell (lt_of_cellq p0)).trans p0; have p1 := (bq.cell (lt_of_cellq p1)).trans p1; have p2 := (bq.cell (lt_of_cellq p2)).trans p2; have p3 := (bq.cell (lt_of_cellq p3)).trans p3; have s0 := (bq.cell (lt_of_cellq s0)).trans s0; have s1 := (bq.cell (lt_of_cellq s1)).trans s1; have t0 := (bq.cell (lt_of_cellq t0)).trans t0; have t1 := (bq.cell (lt_of_cellq t1)).trans t1; clear bq
  (go_wp2_with fail); refine (HK4.out _ HP.out HF.out).mono ?_
  rintro e wn ⟨rfl, bq⟩; replace HB := Lib.hid (HB.out.trans (bq.mono HB.out.size)); replace HP := Lib.hid (HP.out.below bq); replace HE := Lib.hid (HE.out.below bq); replace HF := Lib.hid (HF.out.below bq); replace HQ := Lib.hid (HQ.out.below bq); have k0 := (bq.cell (lt_of_cellq k0)).trans k0; have k1 := (bq.cell (lt_of_cellq k1)).trans k1; have k2 := (bq.cell (lt_of_cellq k2)).trans k2; have q0 := (bq.cell (lt_of_cellq q0)).trans q0; have q1 := (bq.cell (lt_of_cellq q1)).trans q1; have q2 := (bq.cell (lt_of_cellq q2)).trans q2; have q3 := (bq.cell (lt_of_cellq q3)).trans q3; have p0 := (bq.cell (lt_of_cellq p0)).trans p0; have p1 := (bq.cell (lt_of_cellq p1)).trans p1; have p2 := (bq.cell (lt_of_cellq p2)).trans p2; have p3 := (bq.cell (lt_of_cellq p3)).trans p3; have s0 := (bq.cell (lt_of_cellq s0)).trans s0; have s1 := (bq.cell (lt_of_cellq s1)).trans s1; have t0 := (bq.cell (lt_of_cellq t0)).trans t0; have t1 := (bq.cell (lt_of_cellq t1)).trans t1; have a0 := (bq.cell (lt_of_cellq a0)).trans a0; have a1 := (bq.cell (lt_of_cellq a1)).trans a1; clear bq
  obtain ⟨x2, e2, HSx, b0, b1, bq⟩ := box2 wn (.int .i64 B0) (.int .i64 B1) 36; go_upto_region 7 with (fail); clear e2
  skip; replace HB := Lib.hid (HB.out.trans (bq.mono HB.out.size)); replace HP := Lib.hid (HP.out.below bq); replace HE := Lib.hid (HE.out.below bq); replace HF := Lib.hid (HF.out.below bq); replace HQ := Lib.hid (HQ.out.below bq); have k0 := (bq.cell (lt_of_cellq k0)).trans k0; have k1 := (bq.cell (lt_of_cellq k1)).trans k1; have k2 := (bq.cell (lt_of_cellq k2)).trans k2; have q0 := (bq.cell (lt_of_cellq q0)).trans q0; have q1 := (bq.cell (lt_of_cellq q1)).trans q1; have q2 := (bq.cell (lt_of_cellq q2)).trans q2; have q3 := (bq.cell (lt_of_cellq q3)).trans q3; have p0 := (bq.cell (lt_of_cellq p0)).trans p0; have p1 := (bq.cell (lt_of_cellq p1)).trans p1; have p2 := (bq.cell (lt_of_cellq p2)).trans p2; have p3 := (bq.cell (lt_of_cellq p3)).trans p3; have s0 := (bq.cell (lt_of_cellq s0)).trans s0; have s1 := (bq.cell (lt_of_cellq s1)).trans s1; have t0 := (bq.cell (lt_of_cellq t0)).trans t0; have t1 := (bq.cell (lt_of_cellq t1)).trans t1; have a0 := (bq.cell (lt_of_cellq a0)).trans a0; have a1 := (bq.cell (lt_of_cellq a1)).trans a1; clear bq
  (go_wp2_with fail); refine (c_lrun pm pv pr cm cv cr p q cq pl _ HP.out HQ.out HOK.out).mono ?_
  rintro e wn ⟨⟨g, cg, rfl, hrl⟩, bq⟩
  skip; replace HB := Lib.hid (HB.out.trans (bq.mono HB.out.size)); replace HP := Lib.hid (HP.out.below bq); replace HE := Lib.hid (HE.out.below bq); replace HF := Lib.hid (HF.out.below bq); replace HQ := Lib.hid (HQ.out.below bq); have k0 := (bq.cell (lt_of_cellq k0)).trans k0; have k1 := (bq.cell (lt_of_cellq k1)).trans k1; have k2 := (bq.cell (lt_of_cellq k2)).trans k2; have q0 := (bq.cell (lt_of_cellq q0)).trans q0; have q1 := (bq.cell (lt_of_cellq q1)).trans q1; have q2 := (bq.cell (lt_of_cellq q2)).trans q2; have q3 := (bq.cell (lt_of_cellq q3)).trans q3; have p0 := (bq.cell (lt_of_cellq p0)).trans p0; have p1 := (bq.cell (lt_of_cellq p1)).trans p1; have p2 := (bq.cell (lt_of_cellq p2)).trans p2; have p3 := (bq.cell (lt_of_cellq p3)).trans p3; have s0 := (bq.cell (lt_of_cellq s0)).trans s0; have s1 := (bq.cell (lt_of_cellq s1)).trans s1; have t0 := (bq.cell (lt_of_cellq t0)).trans t0; have t1 := (bq.cell (lt_of_cellq t1)).trans t1; have a0 := (bq.cell (lt_of_cellq a0)).trans a0; have a1 := (bq.cell (lt_of_cellq a1)).trans a1; have b0 := (bq.cell (lt_of_cellq b0)).trans b0; have b1 := (bq.cell (lt_of_cellq b1)).trans b1; clear bq
  have hl0 : (((p.mv.length : Int) + 1) == 0) = false := by rw [beq_eq_false_iff_ne]; omega
  have hl1 : (((p.mv.length + 1 : Nat) : Int) == 0) = false := by rw [beq_eq_false_iff_ne]; omega
  obtain ⟨bx, off, hb, hc⟩ := hrl.at (i := 0) (by rw [allF_len]; omega)
  cases hb
  obtain ⟨qa, ca, y0, ya⟩ := hc p.mv.length (by rw [allF_len]; omega); have hen : gl (allF pl p.mv p.mv.length) p.mv.length = endF p pl := allF_at _ _ _ _ (Nat.le_refl _); have hel : (endF p pl).length = p.ms.length + 1 := by rw [end_len HPL.out.pos, HPL.out.len]
  rw [hen, hel, Nat.zero_add] at y0; rw [hen] at ya; obtain ⟨a, hab⟩ : ∃ a : Nat, h.arb = (a : Int) := ⟨h.arb.toNat, by have := HHO.out.arb; omega⟩; obtain ⟨c, hac⟩ : ∃ c : Nat, k.arb = (c : Int) := ⟨k.arb.toNat, by have := HKO.out.arb; omega⟩; have hal : a ≤ p.ms.length := by have := HHO.out.arb; omega
  have hcl : c ≤ p.ms.length := by have := HKO.out.arb; omega
  obtain ⟨ba, oa, rfl, hca⟩ := ya.at (i := a) (by rw [hel]; omega); have d0 := hca a (by rw [hel]; omega); have d1 := hca c (by rw [hel]; omega); have hrg1 := hand_place HPO.out HPL.out HHO.out; have hrg2 := hand_place HPO.out HPL.out HKO.out; have hat : h.arb.toNat = a := by rw [hab]; rfl
  have hct : k.arb.toNat = c := by rw [hac]; rfl
  rw [hat] at hrg1; rw [hct] at hrg2
  have HS1 := Lib.hid (fun W (hb : Below wn.heap.size wn W) => show Calls Tryz.prog 30 #[.agg #[.int .i64 (a : Int), .int .i64 h.num, .int .i64 h.den, .slice pe h.er.length ce], .int .i64 (gi (endF p pl) a)] W (ShPost (shF p h pl) W) by
    have hh := HSW.out _ (gi (endF p pl) a) W (HE.out.below hb) HHO.out hrg1; have e : shF p h pl = shownF h (gi (endF p pl) a) := by unfold shF; rw [hat]
    rw [← e, hab] at hh; exact hh)
  have HS2 := Lib.hid (fun W (hb : Below wn.heap.size wn W) => show Calls Tryz.prog 30 #[.agg #[.int .i64 (c : Int), .int .i64 k.num, .int .i64 k.den, .slice pf k.er.length cf], .int .i64 (gi (endF p pl) c)] W (ShPost (shF p k pl) W) by
    have hh := HSZ.out _ (gi (endF p pl) c) W (HF.out.below hb) HKO.out hrg2; have e : shF p k pl = shownF k (gi (endF p pl) c) := by unfold shF; rw [hct]
    rw [← e, hac] at hh; exact hh)
  rw [hab] at q0; rw [hac] at p0; obtain ⟨G1, hG1⟩ : ∃ x, gi (endF p pl) a = x := ⟨_, rfl⟩; obtain ⟨G2, hG2⟩ : ∃ x, gi (endF p pl) c = x := ⟨_, rfl⟩; obtain ⟨hx1, hx2, hg1, hg2, hg3, hj1, hj2, hj3⟩ := HX.out; obtain ⟨L1, hL1⟩ : ∃ x, (shF p h pl).1 = x := ⟨_, rfl⟩; obtain ⟨U1, hU1⟩ : ∃ x, (shF p h pl).2 = x := ⟨_, rfl⟩; obtain ⟨L2, hL2⟩ : ∃ x, (shF p k pl).1 = x := ⟨_, rfl⟩; obtain ⟨U2, hU2⟩ : ∃ x, (shF p k pl).2 = x := ⟨_, rfl⟩; unfold ShPost at HS1 HS2; rw [hG1] at d0 HS1; rw [hG2] at d1 HS2; rw [hL1, hU1] at HS1; rw [hL2, hU2] at HS2; rw [hL1] at hx1 hg1 hg2; rw [hU1] at hx2 hg2 hg3; rw [hL2] at hx2 hj1 hj2; rw [hU2] at hx1 hj2 hj3; have m1 : IntKind.i64.wrap (L1 - U2) = L1 - U2 := w64 _ (by omega) (by omega); have m2 : IntKind.i64.wrap (U1 - L2) = U1 - L2 := w64 _ (by omega) (by omega); have z1 : decide (L1 - U2 ≥ S0) = true := decide_eq_true (by omega); have z2 : decide (U1 - L2 ≤ S1) = true := decide_eq_true (by omega)
  have z1b : S0 ≤ L1 - U2 := by omega
  have hai : (a : Int) < (p.ms.length : Int) + 1 := by omega
  have ha0 : (0 : Int) ≤ (a : Int) := by omega
  have hci : (c : Int) < (p.ms.length : Int) + 1 := by omega
  have hc0 : (0 : Int) ≤ (c : Int) := by omega
  have hmi : (p.mv.length : Int) < (p.mv.length : Int) + 1 := by omega
  have HK8 := Lib.hid (fun W (hb : Below wn.heap.size wn W) => cl8 s0 s1 t0 t1 a0 a1 b0 b1 W hb); clear hrl hc hen hel ya hca hrg1 hrg2 hat hct hab hac hG1 hG2 hL1 hU1 hL2 hU2 hx1 hx2 hg1 hg2 hg3 hj1 hj2 hj3 HX HSW HSZ hal hcl; go_wp2; have HSB := Lib.hid (cl12 k1 q0 q1 q2 q3 p0 p1 p2 p3 y0 d0 d1); refine held12 k1 q0 q1 q2 q3 p0 p1 p2 p3 y0 d0 d1 (fun W0 HB0 => ?_); refine tk 0 rfl (by exact HSB.out _ HB0) ?_; (try simp only [Act.put, ptL]); refine tk 1 rfl (by exact HSB.out _ HB0) ?_; (try simp only [Act.put, ptL]); refine tk 2 rfl (by exact HSB.out _ HB0) ?_; (try simp only [Act.put, ptL]); refine tk 3 rfl (by exact HSB.out _ HB0) ?_; (try simp only [Act.put, ptL]); refine tk 4 rfl (by exact HSB.out _ HB0) ?_; (try simp only [Act.put, ptL]); refine tk 5 rfl (by exact HSB.out _ HB0) ?_; (try simp only [Act.put, ptL]); refine tk 6 rfl (by exact HSB.out _ HB0) ?_; (try simp only [Act.put, ptL]); refine tk 7 rfl (by exact HSB.out _ HB0) ?_; (try simp only [Act.put, ptL]); refine tk 8 rfl (by exact HSB.out _ HB0) ?_; (try simp only [Act.put, ptL]); refine tk 9 rfl (by exact HSB.out _ HB0) ?_; (try simp only [Act.put, ptL]); refine tk 10 rfl (by exact HSB.out _ HB0) ?_; (try simp only [Act.put, ptL]); refine tk 12 rfl (by exact HSB.out _ HB0) ?_; (try simp only [Act.put, ptL]); refine tk 13 rfl (by exact HSB.out _ HB0) ?_; (try simp only [Act.put, ptL]); refine tk 14 rfl (by exact HSB.out _ HB0) ?_; (try simp only [Act.put, ptL]); refine tk 15 rfl (by exact HSB.out _ HB0) ?_; (try simp only [Act.put, ptL]); refine tk 16 rfl (by exact HSB.out _ HB0) ?_; (try simp only [Act.put, ptL]); refine tk 17 rfl (by exact HSB.out _ HB0) ?_; (try simp only [Act.put, ptL]); refine tk 18 rfl (by exact HSB.out _ HB0) ?_; (try simp only [Act.put, ptL]); refine tk 19 rfl (by exact HSB.out _ HB0) ?_; (try simp only [Act.put, ptL]); refine tk 20 rfl (by exact HSB.out _ HB0) ?_; (try simp only [Act.put, ptL]); refine tk 21 rfl (by exact HSB.out _ HB0) ?_; (try simp only [Act.put, ptL]); refine tk 22 rfl (by exact HSB.out _ HB0) ?_; (try simp only [Act.put, ptL])
  refine rz3 11 24 25 rfl rfl rfl ?_ ?_ ?_
  focus
    intro K hK; go_simp; refine (HS1.out _ HB0).mono ?_; rintro e W23 ⟨rfl, hbn⟩; have HB23 : Below wn.heap.size wn W23 := HB0.trans (hbn.mono HB0.size); clear hbn; go_simp; refine kz hK (by exact HSB.out _ HB23) ?_; clear hK K; (try simp only [Act.put, ptL]); clear HB0; refine rz3 23 24 25 rfl rfl rfl ?_ ?_ ?_
    focus
      intro K hK; go_simp; refine (HS2.out _ HB23).mono ?_; rintro e W24 ⟨rfl, hbn⟩; have HB24 : Below wn.heap.size wn W24 := HB23.trans (hbn.mono HB23.size); clear hbn; go_simp; refine kz hK (by exact HSB.out _ HB24) ?_; clear hK K; (try simp only [Act.put, ptL]); clear HB23; refine rz2 24 25 rfl rfl ?_ ?_
      focus
        intro K hK; go_simp; refine kz hK (by exact HSB.out _ (HB24.alloc HB24.size _)) ?_; clear hK K; (try simp only [Act.put, ptL]); refine wpAnyH_gen (fun W25 hWn => ?_); have HB25 : Below wn.heap.size wn W25 := by rw [hWn]; exact HB24.alloc HB24.size _
        have hx_x : W25.heap[W24.heap.size]? = some (.cells #[.int .i64 0, .int .i64 0] 36) := by rw [hWn]; exact alloc_new _ _
        have hl_x : wn.heap.size ≤ W24.heap.size := HB24.size; clear hWn; obtain ⟨b_x, hb_x⟩ : ∃ b, W24.heap.size = b := ⟨_, rfl⟩; rw [hb_x] at hx_x hl_x ⊢; clear HB24 hb_x; refine rz1 25 rfl ?_; intro K hK; go_simp; refine kz hK (by exact HSB.out _ (HB25.alloc HB25.size _)) ?_; clear hK K; (try simp only [Act.put, ptL]); refine wpAnyH_gen (fun W26 hWn => ?_); have HB26 : Below wn.heap.size wn W26 := by rw [hWn]; exact HB25.alloc HB25.size _
        have hlt_x := block_lt hx_x; have hx_x : W26.heap[b_x]? = some (.cells #[.int .i64 0, .int .i64 0] 36) := by rw [hWn]; exact alloc_old _ _ hx_x
        have hx_y : W26.heap[W25.heap.size]? = some (.cells #[.int .i64 0, .int .i64 0] 36) := by rw [hWn]; exact alloc_new _ _
        have hl_y : wn.heap.size ≤ W25.heap.size := HB25.size; clear hWn; obtain ⟨b_y, hb_y⟩ : ∃ b, W25.heap.size = b := ⟨_, rfl⟩; rw [hb_y] at hx_y hl_y ⊢; have hn_x_y : b_x ≠ b_y := by have := hlt_x; omega
        clear HB25 hb_y hlt_x; refine rz1 26 rfl ?_; intro K hK; refine set2K W26 b_x 36 _ _ (.int .i64 L1) (.int .i64 U1) hx_x (fun wa27 W27 sa sb ca0 fa0 ca1 fa1 hx4 hxk HZs hxb => ?_); have HB27 : Below wn.heap.size wn W27 := hxb wn wn.heap.size hl_x HB26; have hx_y := (hxk b_y (by first | exact hn_y_x | exact Ne.symm hn_x_y)).trans hx_y; have hx_x := hx4; clear hx4 hxk hxb HZs; go_simp; refine kz hK (by exact HSB.out _ HB27) ?_; clear hK K; (try simp only [Act.put, ptL]); clear ca0 fa0 ca1 fa1 sa sb HB26; refine rz1 27 rfl ?_; intro K hK; refine set2K W27 b_y 36 _ _ (.int .i64 L2) (.int .i64 U2) hx_y (fun wa28 W28 sa sb ca0 fa0 ca1 fa1 hx4 hxk HZs hxb => ?_); have HB28 : Below wn.heap.size wn W28 := hxb wn wn.heap.size hl_y HB27; have hx_x := (hxk b_x (by first | exact hn_x_y | exact Ne.symm hn_y_x)).trans hx_x; have hx_y := hx4; clear hx4 hxk hxb HZs; go_simp; refine kz hK (by exact HSB.out _ HB28) ?_; clear hK K; (try simp only [Act.put, ptL])
        clear ca0 fa0 ca1 fa1 sa sb HB27; refine wpAnyH_done (by kernel_rfl) ?_ _; obtain ⟨wz, hwz⟩ : ∃ wz, wz = W28 := ⟨_, rfl⟩; subst hwz; have HBZ := HB28; clear HB28
        
      rotate_left 1
      focus
        intro K hK; go_simp; refine kz hK (by exact HSB.out _ (HB24.alloc HB24.size _)) ?_; clear hK K; (try simp only [Act.put, ptL]); refine wpAnyH_gen (fun W29 hWn => ?_); have HB29 : Below wn.heap.size wn W29 := by rw [hWn]; exact HB24.alloc HB24.size _
        have hx_y : W29.heap[W24.heap.size]? = some (.cells #[.int .i64 0, .int .i64 0] 36) := by rw [hWn]; exact alloc_new _ _
        have hl_y : wn.heap.size ≤ W24.heap.size := HB24.size; clear hWn; obtain ⟨b_y, hb_y⟩ : ∃ b, W24.heap.size = b := ⟨_, rfl⟩; rw [hb_y] at hx_y hl_y ⊢; clear HB24 hb_y; refine rz1 24 rfl ?_; intro K hK; go_simp; refine kz hK (by exact HSB.out _ (HB29.alloc HB29.size _)) ?_; clear hK K; (try simp only [Act.put, ptL]); refine wpAnyH_gen (fun W30 hWn => ?_); have HB30 : Below wn.heap.size wn W30 := by rw [hWn]; exact HB29.alloc HB29.size _
        have hlt_y := block_lt hx_y; have hx_y : W30.heap[b_y]? = some (.cells #[.int .i64 0, .int .i64 0] 36) := by rw [hWn]; exact alloc_old _ _ hx_y
        have hx_x : W30.heap[W29.heap.size]? = some (.cells #[.int .i64 0, .int .i64 0] 36) := by rw [hWn]; exact alloc_new _ _
        have hl_x : wn.heap.size ≤ W29.heap.size := HB29.size; clear hWn; obtain ⟨b_x, hb_x⟩ : ∃ b, W29.heap.size = b := ⟨_, rfl⟩; rw [hb_x] at hx_x hl_x ⊢; have hn_y_x : b_y ≠ b_x := by have := hlt_y; omega
        clear HB29 hb_x hlt_y; refine rz1 26 rfl ?_; intro K hK; refine set2K W30 b_x 36 _ _ (.int .i64 L1) (.int .i64 U1) hx_x (fun wa31 W31 sa sb ca0 fa0 ca1 fa1 hx4 hxk HZs hxb => ?_); have HB31 : Below wn.heap.size wn W31 := hxb wn wn.heap.size hl_x HB30; have hx_y := (hxk b_y (by first | exact hn_y_x | exact Ne.symm hn_x_y)).trans hx_y; have hx_x := hx4; clear hx4 hxk hxb HZs; go_simp; refine kz hK (by exact HSB.out _ HB31) ?_; clear hK K; (try simp only [Act.put, ptL]); clear ca0 fa0 ca1 fa1 sa sb HB30; refine rz1 27 rfl ?_; intro K hK; refine set2K W31 b_y 36 _ _ (.int .i64 L2) (.int .i64 U2) hx_y (fun wa32 W32 sa sb ca0 fa0 ca1 fa1 hx4 hxk HZs hxb => ?_); have HB32 : Below wn.heap.size wn W32 := hxb wn wn.heap.size hl_y HB31; have hx_x := (hxk b_x (by first | exact hn_x_y | exact Ne.symm hn_y_x)).trans hx_x; have hx_y := hx4; clear hx4 hxk hxb HZs; go_simp; refine kz hK (by exact HSB.out _ HB32) ?_; clear hK K; (try simp only [Act.put, ptL])
        clear ca0 fa0 ca1 fa1 sa sb HB31; refine wpAnyH_done (by kernel_rfl) ?_ _; obtain ⟨wz, hwz⟩ : ∃ wz, wz = W32 := ⟨_, rfl⟩; subst hwz; have HBZ := HB32; clear HB32
        
      rotate_left 1
    rotate_left 2
    focus
      intro K hK; go_simp; refine kz hK (by exact HSB.out _ (HB23.alloc HB23.size _)) ?_; clear hK K; (try simp only [Act.put, ptL]); refine wpAnyH_gen (fun W33 hWn => ?_); have HB33 : Below wn.heap.size wn W33 := by rw [hWn]; exact HB23.alloc HB23.size _
      have hx_x : W33.heap[W23.heap.size]? = some (.cells #[.int .i64 0, .int .i64 0] 36) := by rw [hWn]; exact alloc_new _ _
      have hl_x : wn.heap.size ≤ W23.heap.size := HB23.size; clear hWn; obtain ⟨b_x, hb_x⟩ : ∃ b, W23.heap.size = b := ⟨_, rfl⟩; rw [hb_x] at hx_x hl_x ⊢; clear HB23 hb_x; refine rz2 23 25 rfl rfl ?_ ?_
      focus
        intro K hK; go_simp; refine (HS2.out _ HB33).mono ?_; rintro e W34 ⟨rfl, hbn⟩; have HB34 : Below wn.heap.size wn W34 := HB33.trans (hbn.mono HB33.size); have hx_x : W34.heap[b_x]? = some (.cells #[.int .i64 0, .int .i64 0] 36) := (hbn.block _ (block_lt hx_x)).trans hx_x; clear hbn; go_simp; refine kz hK (by exact HSB.out _ HB34) ?_; clear hK K; (try simp only [Act.put, ptL]); clear HB33; refine rz1 25 rfl ?_; intro K hK; go_simp; refine kz hK (by exact HSB.out _ (HB34.alloc HB34.size _)) ?_; clear hK K; (try simp only [Act.put, ptL]); refine wpAnyH_gen (fun W35 hWn => ?_); have HB35 : Below wn.heap.size wn W35 := by rw [hWn]; exact HB34.alloc HB34.size _
        have hlt_x := block_lt hx_x; have hx_x : W35.heap[b_x]? = some (.cells #[.int .i64 0, .int .i64 0] 36) := by rw [hWn]; exact alloc_old _ _ hx_x
        have hx_y : W35.heap[W34.heap.size]? = some (.cells #[.int .i64 0, .int .i64 0] 36) := by rw [hWn]; exact alloc_new _ _
        have hl_y : wn.heap.size ≤ W34.heap.size := HB34.size; clear hWn; obtain ⟨b_y, hb_y⟩ : ∃ b, W34.heap.size = b := ⟨_, rfl⟩; rw [hb_y] at hx_y hl_y ⊢; have hn_x_y : b_x ≠ b_y := by have := hlt_x; omega
        clear HB34 hb_y hlt_x; refine rz1 26 rfl ?_; intro K hK; refine set2K W35 b_x 36 _ _ (.int .i64 L1) (.int .i64 U1) hx_x (fun wa36 W36 sa sb ca0 fa0 ca1 fa1 hx4 hxk HZs hxb => ?_); have HB36 : Below wn.heap.size wn W36 := hxb wn wn.heap.size hl_x HB35; have hx_y := (hxk b_y (by first | exact hn_y_x | exact Ne.symm hn_x_y)).trans hx_y; have hx_x := hx4; clear hx4 hxk hxb HZs; go_simp; refine kz hK (by exact HSB.out _ HB36) ?_; clear hK K; (try simp only [Act.put, ptL]); clear ca0 fa0 ca1 fa1 sa sb HB35; refine rz1 27 rfl ?_; intro K hK; refine set2K W36 b_y 36 _ _ (.int .i64 L2) (.int .i64 U2) hx_y (fun wa37 W37 sa sb ca0 fa0 ca1 fa1 hx4 hxk HZs hxb => ?_); have HB37 : Below wn.heap.size wn W37 := hxb wn wn.heap.size hl_y HB36; have hx_x := (hxk b_x (by first | exact hn_x_y | exact Ne.symm hn_y_x)).trans hx_x; have hx_y := hx4; clear hx4 hxk hxb HZs; go_simp; refine kz hK (by exact HSB.out _ HB37) ?_; clear hK K; (try simp only [Act.put, ptL])
        clear ca0 fa0 ca1 fa1 sa sb HB36; refine wpAnyH_done (by kernel_rfl) ?_ _; obtain ⟨wz, hwz⟩ : ∃ wz, wz = W37 := ⟨_, rfl⟩; subst hwz; have HBZ := HB37; clear HB37
        
      rotate_left 1
      focus
        intro K hK; go_simp; refine kz hK (by exact HSB.out _ (HB33.alloc HB33.size _)) ?_; clear hK K; (try simp only [Act.put, ptL]); refine wpAnyH_gen (fun W38 hWn => ?_); have HB38 : Below wn.heap.size wn W38 := by rw [hWn]; exact HB33.alloc HB33.size _
        have hlt_x := block_lt hx_x; have hx_x : W38.heap[b_x]? = some (.cells #[.int .i64 0, .int .i64 0] 36) := by rw [hWn]; exact alloc_old _ _ hx_x
        have hx_y : W38.heap[W33.heap.size]? = some (.cells #[.int .i64 0, .int .i64 0] 36) := by rw [hWn]; exact alloc_new _ _
        have hl_y : wn.heap.size ≤ W33.heap.size := HB33.size; clear hWn; obtain ⟨b_y, hb_y⟩ : ∃ b, W33.heap.size = b := ⟨_, rfl⟩; rw [hb_y] at hx_y hl_y ⊢; have hn_x_y : b_x ≠ b_y := by have := hlt_x; omega
        clear HB33 hb_y hlt_x; refine rz1 23 rfl ?_; intro K hK; go_simp; refine (HS2.out _ HB38).mono ?_; rintro e W39 ⟨rfl, hbn⟩; have HB39 : Below wn.heap.size wn W39 := HB38.trans (hbn.mono HB38.size); have hx_x : W39.heap[b_x]? = some (.cells #[.int .i64 0, .int .i64 0] 36) := (hbn.block _ (block_lt hx_x)).trans hx_x; have hx_y : W39.heap[b_y]? = some (.cells #[.int .i64 0, .int .i64 0] 36) := (hbn.block _ (block_lt hx_y)).trans hx_y; clear hbn; go_simp; refine kz hK (by exact HSB.out _ HB39) ?_; clear hK K; (try simp only [Act.put, ptL]); clear HB38; refine rz1 26 rfl ?_; intro K hK; refine set2K W39 b_x 36 _ _ (.int .i64 L1) (.int .i64 U1) hx_x (fun wa40 W40 sa sb ca0 fa0 ca1 fa1 hx4 hxk HZs hxb => ?_); have HB40 : Below wn.heap.size wn W40 := hxb wn wn.heap.size hl_x HB39; have hx_y := (hxk b_y (by first | exact hn_y_x | exact Ne.symm hn_x_y)).trans hx_y; have hx_x := hx4; clear hx4 hxk hxb HZs
        go_simp; refine kz hK (by exact HSB.out _ HB40) ?_; clear hK K; (try simp only [Act.put, ptL]); clear ca0 fa0 ca1 fa1 sa sb HB39; refine rz1 27 rfl ?_; intro K hK; refine set2K W40 b_y 36 _ _ (.int .i64 L2) (.int .i64 U2) hx_y (fun wa41 W41 sa sb ca0 fa0 ca1 fa1 hx4 hxk HZs hxb => ?_); have HB41 : Below wn.heap.size wn W41 := hxb wn wn.heap.size hl_y HB40; have hx_x := (hxk b_x (by first | exact hn_x_y | exact Ne.symm hn_y_x)).trans hx_x; have hx_y := hx4; clear hx4 hxk hxb HZs; go_simp; refine kz hK (by exact HSB.out _ HB41) ?_; clear hK K; (try simp only [Act.put, ptL]); clear ca0 fa0 ca1 fa1 sa sb HB40; refine wpAnyH_done (by kernel_rfl) ?_ _; obtain ⟨wz, hwz⟩ : ∃ wz, wz = W41 := ⟨_, rfl⟩; subst hwz; have HBZ := HB41; clear HB41
        
      rotate_left 1
    rotate_left 2
    focus
      intro K hK; go_simp; refine kz hK (by exact HSB.out _ (HB23.alloc HB23.size _)) ?_; clear hK K; (try simp only [Act.put, ptL]); refine wpAnyH_gen (fun W42 hWn => ?_); have HB42 : Below wn.heap.size wn W42 := by rw [hWn]; exact HB23.alloc HB23.size _
      have hx_y : W42.heap[W23.heap.size]? = some (.cells #[.int .i64 0, .int .i64 0] 36) := by rw [hWn]; exact alloc_new _ _
      have hl_y : wn.heap.size ≤ W23.heap.size := HB23.size; clear hWn; obtain ⟨b_y, hb_y⟩ : ∃ b, W23.heap.size = b := ⟨_, rfl⟩; rw [hb_y] at hx_y hl_y ⊢; clear HB23 hb_y; refine rz2 23 24 rfl rfl ?_ ?_
      focus
        intro K hK; go_simp; refine (HS2.out _ HB42).mono ?_; rintro e W43 ⟨rfl, hbn⟩; have HB43 : Below wn.heap.size wn W43 := HB42.trans (hbn.mono HB42.size); have hx_y : W43.heap[b_y]? = some (.cells #[.int .i64 0, .int .i64 0] 36) := (hbn.block _ (block_lt hx_y)).trans hx_y; clear hbn; go_simp; refine kz hK (by exact HSB.out _ HB43) ?_; clear hK K; (try simp only [Act.put, ptL]); clear HB42; refine rz1 24 rfl ?_; intro K hK; go_simp; refine kz hK (by exact HSB.out _ (HB43.alloc HB43.size _)) ?_; clear hK K; (try simp only [Act.put, ptL]); refine wpAnyH_gen (fun W44 hWn => ?_); have HB44 : Below wn.heap.size wn W44 := by rw [hWn]; exact HB43.alloc HB43.size _
        have hlt_y := block_lt hx_y; have hx_y : W44.heap[b_y]? = some (.cells #[.int .i64 0, .int .i64 0] 36) := by rw [hWn]; exact alloc_old _ _ hx_y
        have hx_x : W44.heap[W43.heap.size]? = some (.cells #[.int .i64 0, .int .i64 0] 36) := by rw [hWn]; exact alloc_new _ _
        have hl_x : wn.heap.size ≤ W43.heap.size := HB43.size; clear hWn; obtain ⟨b_x, hb_x⟩ : ∃ b, W43.heap.size = b := ⟨_, rfl⟩; rw [hb_x] at hx_x hl_x ⊢; have hn_y_x : b_y ≠ b_x := by have := hlt_y; omega
        clear HB43 hb_x hlt_y; refine rz1 26 rfl ?_; intro K hK; refine set2K W44 b_x 36 _ _ (.int .i64 L1) (.int .i64 U1) hx_x (fun wa45 W45 sa sb ca0 fa0 ca1 fa1 hx4 hxk HZs hxb => ?_); have HB45 : Below wn.heap.size wn W45 := hxb wn wn.heap.size hl_x HB44; have hx_y := (hxk b_y (by first | exact hn_y_x | exact Ne.symm hn_x_y)).trans hx_y; have hx_x := hx4; clear hx4 hxk hxb HZs; go_simp; refine kz hK (by exact HSB.out _ HB45) ?_; clear hK K; (try simp only [Act.put, ptL]); clear ca0 fa0 ca1 fa1 sa sb HB44; refine rz1 27 rfl ?_; intro K hK; refine set2K W45 b_y 36 _ _ (.int .i64 L2) (.int .i64 U2) hx_y (fun wa46 W46 sa sb ca0 fa0 ca1 fa1 hx4 hxk HZs hxb => ?_); have HB46 : Below wn.heap.size wn W46 := hxb wn wn.heap.size hl_y HB45; have hx_x := (hxk b_x (by first | exact hn_x_y | exact Ne.symm hn_y_x)).trans hx_x; have hx_y := hx4; clear hx4 hxk hxb HZs; go_simp; refine kz hK (by exact HSB.out _ HB46) ?_; clear hK K; (try simp only [Act.put, ptL])
        clear ca0 fa0 ca1 fa1 sa sb HB45; refine wpAnyH_done (by kernel_rfl) ?_ _; obtain ⟨wz, hwz⟩ : ∃ wz, wz = W46 := ⟨_, rfl⟩; subst hwz; have HBZ := HB46; clear HB46
        
      rotate_left 1
      focus
        intro K hK; go_simp; refine kz hK (by exact HSB.out _ (HB42.alloc HB42.size _)) ?_; clear hK K; (try simp only [Act.put, ptL]); refine wpAnyH_gen (fun W47 hWn => ?_); have HB47 : Below wn.heap.size wn W47 := by rw [hWn]; exact HB42.alloc HB42.size _
        have hlt_y := block_lt hx_y; have hx_y : W47.heap[b_y]? = some (.cells #[.int .i64 0, .int .i64 0] 36) := by rw [hWn]; exact alloc_old _ _ hx_y
        have hx_x : W47.heap[W42.heap.size]? = some (.cells #[.int .i64 0, .int .i64 0] 36) := by rw [hWn]; exact alloc_new _ _
        have hl_x : wn.heap.size ≤ W42.heap.size := HB42.size; clear hWn; obtain ⟨b_x, hb_x⟩ : ∃ b, W42.heap.size = b := ⟨_, rfl⟩; rw [hb_x] at hx_x hl_x ⊢; have hn_y_x : b_y ≠ b_x := by have := hlt_y; omega
        clear HB42 hb_x hlt_y; refine rz1 23 rfl ?_; intro K hK; go_simp; refine (HS2.out _ HB47).mono ?_; rintro e W48 ⟨rfl, hbn⟩; have HB48 : Below wn.heap.size wn W48 := HB47.trans (hbn.mono HB47.size); have hx_y : W48.heap[b_y]? = some (.cells #[.int .i64 0, .int .i64 0] 36) := (hbn.block _ (block_lt hx_y)).trans hx_y; have hx_x : W48.heap[b_x]? = some (.cells #[.int .i64 0, .int .i64 0] 36) := (hbn.block _ (block_lt hx_x)).trans hx_x; clear hbn; go_simp; refine kz hK (by exact HSB.out _ HB48) ?_; clear hK K; (try simp only [Act.put, ptL]); clear HB47; refine rz1 26 rfl ?_; intro K hK; refine set2K W48 b_x 36 _ _ (.int .i64 L1) (.int .i64 U1) hx_x (fun wa49 W49 sa sb ca0 fa0 ca1 fa1 hx4 hxk HZs hxb => ?_); have HB49 : Below wn.heap.size wn W49 := hxb wn wn.heap.size hl_x HB48; have hx_y := (hxk b_y (by first | exact hn_y_x | exact Ne.symm hn_x_y)).trans hx_y; have hx_x := hx4; clear hx4 hxk hxb HZs
        go_simp; refine kz hK (by exact HSB.out _ HB49) ?_; clear hK K; (try simp only [Act.put, ptL]); clear ca0 fa0 ca1 fa1 sa sb HB48; refine rz1 27 rfl ?_; intro K hK; refine set2K W49 b_y 36 _ _ (.int .i64 L2) (.int .i64 U2) hx_y (fun wa50 W50 sa sb ca0 fa0 ca1 fa1 hx4 hxk HZs hxb => ?_); have HB50 : Below wn.heap.size wn W50 := hxb wn wn.heap.size hl_y HB49; have hx_x := (hxk b_x (by first | exact hn_x_y | exact Ne.symm hn_y_x)).trans hx_x; have hx_y := hx4; clear hx4 hxk hxb HZs; go_simp; refine kz hK (by exact HSB.out _ HB50) ?_; clear hK K; (try simp only [Act.put, ptL]); clear ca0 fa0 ca1 fa1 sa sb HB49; refine wpAnyH_done (by kernel_rfl) ?_ _; obtain ⟨wz, hwz⟩ : ∃ wz, wz = W50 := ⟨_, rfl⟩; subst hwz; have HBZ := HB50; clear HB50
        
      rotate_left 1
    rotate_left 2
  rotate_left 6
  focus
    intro K hK; go_simp; refine kz hK (by exact HSB.out _ (HB0.alloc HB0.size _)) ?_; clear hK K; (try simp only [Act.put, ptL]); refine wpAnyH_gen (fun W51 hWn => ?_); have HB51 : Below wn.heap.size wn W51 := by rw [hWn]; exact HB0.alloc HB0.size _
    have hx_x : W51.heap[W0.heap.size]? = some (.cells #[.int .i64 0, .int .i64 0] 36) := by rw [hWn]; exact alloc_new _ _
    have hl_x : wn.heap.size ≤ W0.heap.size := HB0.size; clear hWn; obtain ⟨b_x, hb_x⟩ : ∃ b, W0.heap.size = b := ⟨_, rfl⟩; rw [hb_x] at hx_x hl_x ⊢; clear HB0 hb_x; refine rz2 11 25 rfl rfl ?_ ?_
    focus
      intro K hK; go_simp; refine (HS1.out _ HB51).mono ?_; rintro e W52 ⟨rfl, hbn⟩; have HB52 : Below wn.heap.size wn W52 := HB51.trans (hbn.mono HB51.size); have hx_x : W52.heap[b_x]? = some (.cells #[.int .i64 0, .int .i64 0] 36) := (hbn.block _ (block_lt hx_x)).trans hx_x; clear hbn; go_simp; refine kz hK (by exact HSB.out _ HB52) ?_; clear hK K; (try simp only [Act.put, ptL]); clear HB51; refine rz2 23 25 rfl rfl ?_ ?_
      focus
        intro K hK; go_simp; refine (HS2.out _ HB52).mono ?_; rintro e W53 ⟨rfl, hbn⟩; have HB53 : Below wn.heap.size wn W53 := HB52.trans (hbn.mono HB52.size); have hx_x : W53.heap[b_x]? = some (.cells #[.int .i64 0, .int .i64 0] 36) := (hbn.block _ (block_lt hx_x)).trans hx_x; clear hbn; go_simp; refine kz hK (by exact HSB.out _ HB53) ?_; clear hK K; (try simp only [Act.put, ptL]); clear HB52; refine rz1 25 rfl ?_; intro K hK; go_simp; refine kz hK (by exact HSB.out _ (HB53.alloc HB53.size _)) ?_; clear hK K; (try simp only [Act.put, ptL]); refine wpAnyH_gen (fun W54 hWn => ?_); have HB54 : Below wn.heap.size wn W54 := by rw [hWn]; exact HB53.alloc HB53.size _
        have hlt_x := block_lt hx_x; have hx_x : W54.heap[b_x]? = some (.cells #[.int .i64 0, .int .i64 0] 36) := by rw [hWn]; exact alloc_old _ _ hx_x
        have hx_y : W54.heap[W53.heap.size]? = some (.cells #[.int .i64 0, .int .i64 0] 36) := by rw [hWn]; exact alloc_new _ _
        have hl_y : wn.heap.size ≤ W53.heap.size := HB53.size; clear hWn; obtain ⟨b_y, hb_y⟩ : ∃ b, W53.heap.size = b := ⟨_, rfl⟩; rw [hb_y] at hx_y hl_y ⊢; have hn_x_y : b_x ≠ b_y := by have := hlt_x; omega
        clear HB53 hb_y hlt_x; refine rz1 26 rfl ?_; intro K hK; refine set2K W54 b_x 36 _ _ (.int .i64 L1) (.int .i64 U1) hx_x (fun wa55 W55 sa sb ca0 fa0 ca1 fa1 hx4 hxk HZs hxb => ?_); have HB55 : Below wn.heap.size wn W55 := hxb wn wn.heap.size hl_x HB54; have hx_y := (hxk b_y (by first | exact hn_y_x | exact Ne.symm hn_x_y)).trans hx_y; have hx_x := hx4; clear hx4 hxk hxb HZs; go_simp; refine kz hK (by exact HSB.out _ HB55) ?_; clear hK K; (try simp only [Act.put, ptL]); clear ca0 fa0 ca1 fa1 sa sb HB54; refine rz1 27 rfl ?_; intro K hK; refine set2K W55 b_y 36 _ _ (.int .i64 L2) (.int .i64 U2) hx_y (fun wa56 W56 sa sb ca0 fa0 ca1 fa1 hx4 hxk HZs hxb => ?_); have HB56 : Below wn.heap.size wn W56 := hxb wn wn.heap.size hl_y HB55; have hx_x := (hxk b_x (by first | exact hn_x_y | exact Ne.symm hn_y_x)).trans hx_x; have hx_y := hx4; clear hx4 hxk hxb HZs; go_simp; refine kz hK (by exact HSB.out _ HB56) ?_; clear hK K; (try simp only [Act.put, ptL])
        clear ca0 fa0 ca1 fa1 sa sb HB55; refine wpAnyH_done (by kernel_rfl) ?_ _; obtain ⟨wz, hwz⟩ : ∃ wz, wz = W56 := ⟨_, rfl⟩; subst hwz; have HBZ := HB56; clear HB56
        
      rotate_left 1
      focus
        intro K hK; go_simp; refine kz hK (by exact HSB.out _ (HB52.alloc HB52.size _)) ?_; clear hK K; (try simp only [Act.put, ptL]); refine wpAnyH_gen (fun W57 hWn => ?_); have HB57 : Below wn.heap.size wn W57 := by rw [hWn]; exact HB52.alloc HB52.size _
        have hlt_x := block_lt hx_x; have hx_x : W57.heap[b_x]? = some (.cells #[.int .i64 0, .int .i64 0] 36) := by rw [hWn]; exact alloc_old _ _ hx_x
        have hx_y : W57.heap[W52.heap.size]? = some (.cells #[.int .i64 0, .int .i64 0] 36) := by rw [hWn]; exact alloc_new _ _
        have hl_y : wn.heap.size ≤ W52.heap.size := HB52.size; clear hWn; obtain ⟨b_y, hb_y⟩ : ∃ b, W52.heap.size = b := ⟨_, rfl⟩; rw [hb_y] at hx_y hl_y ⊢; have hn_x_y : b_x ≠ b_y := by have := hlt_x; omega
        clear HB52 hb_y hlt_x; refine rz1 23 rfl ?_; intro K hK; go_simp; refine (HS2.out _ HB57).mono ?_; rintro e W58 ⟨rfl, hbn⟩; have HB58 : Below wn.heap.size wn W58 := HB57.trans (hbn.mono HB57.size); have hx_x : W58.heap[b_x]? = some (.cells #[.int .i64 0, .int .i64 0] 36) := (hbn.block _ (block_lt hx_x)).trans hx_x; have hx_y : W58.heap[b_y]? = some (.cells #[.int .i64 0, .int .i64 0] 36) := (hbn.block _ (block_lt hx_y)).trans hx_y; clear hbn; go_simp; refine kz hK (by exact HSB.out _ HB58) ?_; clear hK K; (try simp only [Act.put, ptL]); clear HB57; refine rz1 26 rfl ?_; intro K hK; refine set2K W58 b_x 36 _ _ (.int .i64 L1) (.int .i64 U1) hx_x (fun wa59 W59 sa sb ca0 fa0 ca1 fa1 hx4 hxk HZs hxb => ?_); have HB59 : Below wn.heap.size wn W59 := hxb wn wn.heap.size hl_x HB58; have hx_y := (hxk b_y (by first | exact hn_y_x | exact Ne.symm hn_x_y)).trans hx_y; have hx_x := hx4; clear hx4 hxk hxb HZs
        go_simp; refine kz hK (by exact HSB.out _ HB59) ?_; clear hK K; (try simp only [Act.put, ptL]); clear ca0 fa0 ca1 fa1 sa sb HB58; refine rz1 27 rfl ?_; intro K hK; refine set2K W59 b_y 36 _ _ (.int .i64 L2) (.int .i64 U2) hx_y (fun wa60 W60 sa sb ca0 fa0 ca1 fa1 hx4 hxk HZs hxb => ?_); have HB60 : Below wn.heap.size wn W60 := hxb wn wn.heap.size hl_y HB59; have hx_x := (hxk b_x (by first | exact hn_x_y | exact Ne.symm hn_y_x)).trans hx_x; have hx_y := hx4; clear hx4 hxk hxb HZs; go_simp; refine kz hK (by exact HSB.out _ HB60) ?_; clear hK K; (try simp only [Act.put, ptL]); clear ca0 fa0 ca1 fa1 sa sb HB59; refine wpAnyH_done (by kernel_rfl) ?_ _; obtain ⟨wz, hwz⟩ : ∃ wz, wz = W60 := ⟨_, rfl⟩; subst hwz; have HBZ := HB60; clear HB60
        
      rotate_left 1
    rotate_left 2
    focus
      intro K hK; go_simp; refine kz hK (by exact HSB.out _ (HB51.alloc HB51.size _)) ?_; clear hK K; (try simp only [Act.put, ptL]); refine wpAnyH_gen (fun W61 hWn => ?_); have HB61 : Below wn.heap.size wn W61 := by rw [hWn]; exact HB51.alloc HB51.size _
      have hlt_x := block_lt hx_x; have hx_x : W61.heap[b_x]? = some (.cells #[.int .i64 0, .int .i64 0] 36) := by rw [hWn]; exact alloc_old _ _ hx_x
      have hx_y : W61.heap[W51.heap.size]? = some (.cells #[.int .i64 0, .int .i64 0] 36) := by rw [hWn]; exact alloc_new _ _
      have hl_y : wn.heap.size ≤ W51.heap.size := HB51.size; clear hWn; obtain ⟨b_y, hb_y⟩ : ∃ b, W51.heap.size = b := ⟨_, rfl⟩; rw [hb_y] at hx_y hl_y ⊢; have hn_x_y : b_x ≠ b_y := by have := hlt_x; omega
      clear HB51 hb_y hlt_x; refine rz1 11 rfl ?_; intro K hK; go_simp; refine (HS1.out _ HB61).mono ?_; rintro e W62 ⟨rfl, hbn⟩; have HB62 : Below wn.heap.size wn W62 := HB61.trans (hbn.mono HB61.size); have hx_x : W62.heap[b_x]? = some (.cells #[.int .i64 0, .int .i64 0] 36) := (hbn.block _ (block_lt hx_x)).trans hx_x; have hx_y : W62.heap[b_y]? = some (.cells #[.int .i64 0, .int .i64 0] 36) := (hbn.block _ (block_lt hx_y)).trans hx_y; clear hbn; go_simp; refine kz hK (by exact HSB.out _ HB62) ?_; clear hK K; (try simp only [Act.put, ptL]); clear HB61; refine rz1 23 rfl ?_; intro K hK; go_simp; refine (HS2.out _ HB62).mono ?_; rintro e W63 ⟨rfl, hbn⟩; have HB63 : Below wn.heap.size wn W63 := HB62.trans (hbn.mono HB62.size); have hx_x : W63.heap[b_x]? = some (.cells #[.int .i64 0, .int .i64 0] 36) := (hbn.block _ (block_lt hx_x)).trans hx_x; have hx_y : W63.heap[b_y]? = some (.cells #[.int .i64 0, .int .i64 0] 36) := (hbn.block _ (block_lt hx_y)).trans hx_y
      clear hbn; go_simp; refine kz hK (by exact HSB.out _ HB63) ?_; clear hK K; (try simp only [Act.put, ptL]); clear HB62; refine rz1 26 rfl ?_; intro K hK; refine set2K W63 b_x 36 _ _ (.int .i64 L1) (.int .i64 U1) hx_x (fun wa64 W64 sa sb ca0 fa0 ca1 fa1 hx4 hxk HZs hxb => ?_); have HB64 : Below wn.heap.size wn W64 := hxb wn wn.heap.size hl_x HB63; have hx_y := (hxk b_y (by first | exact hn_y_x | exact Ne.symm hn_x_y)).trans hx_y; have hx_x := hx4; clear hx4 hxk hxb HZs; go_simp; refine kz hK (by exact HSB.out _ HB64) ?_; clear hK K; (try simp only [Act.put, ptL]); clear ca0 fa0 ca1 fa1 sa sb HB63; refine rz1 27 rfl ?_; intro K hK; refine set2K W64 b_y 36 _ _ (.int .i64 L2) (.int .i64 U2) hx_y (fun wa65 W65 sa sb ca0 fa0 ca1 fa1 hx4 hxk HZs hxb => ?_); have HB65 : Below wn.heap.size wn W65 := hxb wn wn.heap.size hl_y HB64; have hx_x := (hxk b_x (by first | exact hn_x_y | exact Ne.symm hn_y_x)).trans hx_x
      have hx_y := hx4; clear hx4 hxk hxb HZs; go_simp; refine kz hK (by exact HSB.out _ HB65) ?_; clear hK K; (try simp only [Act.put, ptL]); clear ca0 fa0 ca1 fa1 sa sb HB64; refine wpAnyH_done (by kernel_rfl) ?_ _; obtain ⟨wz, hwz⟩ : ∃ wz, wz = W65 := ⟨_, rfl⟩; subst hwz; have HBZ := HB65; clear HB65
      
    rotate_left 1
  rotate_left 3
  focus
    intro K hK; go_simp; refine kz hK (by exact HSB.out _ (HB0.alloc HB0.size _)) ?_; clear hK K; (try simp only [Act.put, ptL]); refine wpAnyH_gen (fun W66 hWn => ?_); have HB66 : Below wn.heap.size wn W66 := by rw [hWn]; exact HB0.alloc HB0.size _
    have hx_y : W66.heap[W0.heap.size]? = some (.cells #[.int .i64 0, .int .i64 0] 36) := by rw [hWn]; exact alloc_new _ _
    have hl_y : wn.heap.size ≤ W0.heap.size := HB0.size; clear hWn; obtain ⟨b_y, hb_y⟩ : ∃ b, W0.heap.size = b := ⟨_, rfl⟩; rw [hb_y] at hx_y hl_y ⊢; clear HB0 hb_y; refine rz2 11 24 rfl rfl ?_ ?_
    focus
      intro K hK; go_simp; refine (HS1.out _ HB66).mono ?_; rintro e W67 ⟨rfl, hbn⟩; have HB67 : Below wn.heap.size wn W67 := HB66.trans (hbn.mono HB66.size); have hx_y : W67.heap[b_y]? = some (.cells #[.int .i64 0, .int .i64 0] 36) := (hbn.block _ (block_lt hx_y)).trans hx_y; clear hbn; go_simp; refine kz hK (by exact HSB.out _ HB67) ?_; clear hK K; (try simp only [Act.put, ptL]); clear HB66; refine rz2 23 24 rfl rfl ?_ ?_
      focus
        intro K hK; go_simp; refine (HS2.out _ HB67).mono ?_; rintro e W68 ⟨rfl, hbn⟩; have HB68 : Below wn.heap.size wn W68 := HB67.trans (hbn.mono HB67.size); have hx_y : W68.heap[b_y]? = some (.cells #[.int .i64 0, .int .i64 0] 36) := (hbn.block _ (block_lt hx_y)).trans hx_y; clear hbn; go_simp; refine kz hK (by exact HSB.out _ HB68) ?_; clear hK K; (try simp only [Act.put, ptL]); clear HB67; refine rz1 24 rfl ?_; intro K hK; go_simp; refine kz hK (by exact HSB.out _ (HB68.alloc HB68.size _)) ?_; clear hK K; (try simp only [Act.put, ptL]); refine wpAnyH_gen (fun W69 hWn => ?_); have HB69 : Below wn.heap.size wn W69 := by rw [hWn]; exact HB68.alloc HB68.size _
        have hlt_y := block_lt hx_y; have hx_y : W69.heap[b_y]? = some (.cells #[.int .i64 0, .int .i64 0] 36) := by rw [hWn]; exact alloc_old _ _ hx_y
        have hx_x : W69.heap[W68.heap.size]? = some (.cells #[.int .i64 0, .int .i64 0] 36) := by rw [hWn]; exact alloc_new _ _
        have hl_x : wn.heap.size ≤ W68.heap.size := HB68.size; clear hWn; obtain ⟨b_x, hb_x⟩ : ∃ b, W68.heap.size = b := ⟨_, rfl⟩; rw [hb_x] at hx_x hl_x ⊢; have hn_y_x : b_y ≠ b_x := by have := hlt_y; omega
        clear HB68 hb_x hlt_y; refine rz1 26 rfl ?_; intro K hK; refine set2K W69 b_x 36 _ _ (.int .i64 L1) (.int .i64 U1) hx_x (fun wa70 W70 sa sb ca0 fa0 ca1 fa1 hx4 hxk HZs hxb => ?_); have HB70 : Below wn.heap.size wn W70 := hxb wn wn.heap.size hl_x HB69; have hx_y := (hxk b_y (by first | exact hn_y_x | exact Ne.symm hn_x_y)).trans hx_y; have hx_x := hx4; clear hx4 hxk hxb HZs; go_simp; refine kz hK (by exact HSB.out _ HB70) ?_; clear hK K; (try simp only [Act.put, ptL]); clear ca0 fa0 ca1 fa1 sa sb HB69; refine rz1 27 rfl ?_; intro K hK; refine set2K W70 b_y 36 _ _ (.int .i64 L2) (.int .i64 U2) hx_y (fun wa71 W71 sa sb ca0 fa0 ca1 fa1 hx4 hxk HZs hxb => ?_); have HB71 : Below wn.heap.size wn W71 := hxb wn wn.heap.size hl_y HB70; have hx_x := (hxk b_x (by first | exact hn_x_y | exact Ne.symm hn_y_x)).trans hx_x; have hx_y := hx4; clear hx4 hxk hxb HZs; go_simp; refine kz hK (by exact HSB.out _ HB71) ?_; clear hK K; (try simp only [Act.put, ptL])
        clear ca0 fa0 ca1 fa1 sa sb HB70; refine wpAnyH_done (by kernel_rfl) ?_ _; obtain ⟨wz, hwz⟩ : ∃ wz, wz = W71 := ⟨_, rfl⟩; subst hwz; have HBZ := HB71; clear HB71
        
      rotate_left 1
      focus
        intro K hK; go_simp; refine kz hK (by exact HSB.out _ (HB67.alloc HB67.size _)) ?_; clear hK K; (try simp only [Act.put, ptL]); refine wpAnyH_gen (fun W72 hWn => ?_); have HB72 : Below wn.heap.size wn W72 := by rw [hWn]; exact HB67.alloc HB67.size _
        have hlt_y := block_lt hx_y; have hx_y : W72.heap[b_y]? = some (.cells #[.int .i64 0, .int .i64 0] 36) := by rw [hWn]; exact alloc_old _ _ hx_y
        have hx_x : W72.heap[W67.heap.size]? = some (.cells #[.int .i64 0, .int .i64 0] 36) := by rw [hWn]; exact alloc_new _ _
        have hl_x : wn.heap.size ≤ W67.heap.size := HB67.size; clear hWn; obtain ⟨b_x, hb_x⟩ : ∃ b, W67.heap.size = b := ⟨_, rfl⟩; rw [hb_x] at hx_x hl_x ⊢; have hn_y_x : b_y ≠ b_x := by have := hlt_y; omega
        clear HB67 hb_x hlt_y; refine rz1 23 rfl ?_; intro K hK; go_simp; refine (HS2.out _ HB72).mono ?_; rintro e W73 ⟨rfl, hbn⟩; have HB73 : Below wn.heap.size wn W73 := HB72.trans (hbn.mono HB72.size); have hx_y : W73.heap[b_y]? = some (.cells #[.int .i64 0, .int .i64 0] 36) := (hbn.block _ (block_lt hx_y)).trans hx_y; have hx_x : W73.heap[b_x]? = some (.cells #[.int .i64 0, .int .i64 0] 36) := (hbn.block _ (block_lt hx_x)).trans hx_x; clear hbn; go_simp; refine kz hK (by exact HSB.out _ HB73) ?_; clear hK K; (try simp only [Act.put, ptL]); clear HB72; refine rz1 26 rfl ?_; intro K hK; refine set2K W73 b_x 36 _ _ (.int .i64 L1) (.int .i64 U1) hx_x (fun wa74 W74 sa sb ca0 fa0 ca1 fa1 hx4 hxk HZs hxb => ?_); have HB74 : Below wn.heap.size wn W74 := hxb wn wn.heap.size hl_x HB73; have hx_y := (hxk b_y (by first | exact hn_y_x | exact Ne.symm hn_x_y)).trans hx_y; have hx_x := hx4; clear hx4 hxk hxb HZs
        go_simp; refine kz hK (by exact HSB.out _ HB74) ?_; clear hK K; (try simp only [Act.put, ptL]); clear ca0 fa0 ca1 fa1 sa sb HB73; refine rz1 27 rfl ?_; intro K hK; refine set2K W74 b_y 36 _ _ (.int .i64 L2) (.int .i64 U2) hx_y (fun wa75 W75 sa sb ca0 fa0 ca1 fa1 hx4 hxk HZs hxb => ?_); have HB75 : Below wn.heap.size wn W75 := hxb wn wn.heap.size hl_y HB74; have hx_x := (hxk b_x (by first | exact hn_x_y | exact Ne.symm hn_y_x)).trans hx_x; have hx_y := hx4; clear hx4 hxk hxb HZs; go_simp; refine kz hK (by exact HSB.out _ HB75) ?_; clear hK K; (try simp only [Act.put, ptL]); clear ca0 fa0 ca1 fa1 sa sb HB74; refine wpAnyH_done (by kernel_rfl) ?_ _; obtain ⟨wz, hwz⟩ : ∃ wz, wz = W75 := ⟨_, rfl⟩; subst hwz; have HBZ := HB75; clear HB75
        
      rotate_left 1
    rotate_left 2
    focus
      intro K hK; go_simp; refine kz hK (by exact HSB.out _ (HB66.alloc HB66.size _)) ?_; clear hK K; (try simp only [Act.put, ptL]); refine wpAnyH_gen (fun W76 hWn => ?_); have HB76 : Below wn.heap.size wn W76 := by rw [hWn]; exact HB66.alloc HB66.size _
      have hlt_y := block_lt hx_y; have hx_y : W76.heap[b_y]? = some (.cells #[.int .i64 0, .int .i64 0] 36) := by rw [hWn]; exact alloc_old _ _ hx_y
      have hx_x : W76.heap[W66.heap.size]? = some (.cells #[.int .i64 0, .int .i64 0] 36) := by rw [hWn]; exact alloc_new _ _
      have hl_x : wn.heap.size ≤ W66.heap.size := HB66.size; clear hWn; obtain ⟨b_x, hb_x⟩ : ∃ b, W66.heap.size = b := ⟨_, rfl⟩; rw [hb_x] at hx_x hl_x ⊢; have hn_y_x : b_y ≠ b_x := by have := hlt_y; omega
      clear HB66 hb_x hlt_y; refine rz1 11 rfl ?_; intro K hK; go_simp; refine (HS1.out _ HB76).mono ?_; rintro e W77 ⟨rfl, hbn⟩; have HB77 : Below wn.heap.size wn W77 := HB76.trans (hbn.mono HB76.size); have hx_y : W77.heap[b_y]? = some (.cells #[.int .i64 0, .int .i64 0] 36) := (hbn.block _ (block_lt hx_y)).trans hx_y; have hx_x : W77.heap[b_x]? = some (.cells #[.int .i64 0, .int .i64 0] 36) := (hbn.block _ (block_lt hx_x)).trans hx_x; clear hbn; go_simp; refine kz hK (by exact HSB.out _ HB77) ?_; clear hK K; (try simp only [Act.put, ptL]); clear HB76; refine rz1 23 rfl ?_; intro K hK; go_simp; refine (HS2.out _ HB77).mono ?_; rintro e W78 ⟨rfl, hbn⟩; have HB78 : Below wn.heap.size wn W78 := HB77.trans (hbn.mono HB77.size); have hx_y : W78.heap[b_y]? = some (.cells #[.int .i64 0, .int .i64 0] 36) := (hbn.block _ (block_lt hx_y)).trans hx_y; have hx_x : W78.heap[b_x]? = some (.cells #[.int .i64 0, .int .i64 0] 36) := (hbn.block _ (block_lt hx_x)).trans hx_x
      clear hbn; go_simp; refine kz hK (by exact HSB.out _ HB78) ?_; clear hK K; (try simp only [Act.put, ptL]); clear HB77; refine rz1 26 rfl ?_; intro K hK; refine set2K W78 b_x 36 _ _ (.int .i64 L1) (.int .i64 U1) hx_x (fun wa79 W79 sa sb ca0 fa0 ca1 fa1 hx4 hxk HZs hxb => ?_); have HB79 : Below wn.heap.size wn W79 := hxb wn wn.heap.size hl_x HB78; have hx_y := (hxk b_y (by first | exact hn_y_x | exact Ne.symm hn_x_y)).trans hx_y; have hx_x := hx4; clear hx4 hxk hxb HZs; go_simp; refine kz hK (by exact HSB.out _ HB79) ?_; clear hK K; (try simp only [Act.put, ptL]); clear ca0 fa0 ca1 fa1 sa sb HB78; refine rz1 27 rfl ?_; intro K hK; refine set2K W79 b_y 36 _ _ (.int .i64 L2) (.int .i64 U2) hx_y (fun wa80 W80 sa sb ca0 fa0 ca1 fa1 hx4 hxk HZs hxb => ?_); have HB80 : Below wn.heap.size wn W80 := hxb wn wn.heap.size hl_y HB79; have hx_x := (hxk b_x (by first | exact hn_x_y | exact Ne.symm hn_y_x)).trans hx_x
      have hx_y := hx4; clear hx4 hxk hxb HZs; go_simp; refine kz hK (by exact HSB.out _ HB80) ?_; clear hK K; (try simp only [Act.put, ptL]); clear ca0 fa0 ca1 fa1 sa sb HB79; refine wpAnyH_done (by kernel_rfl) ?_ _; obtain ⟨wz, hwz⟩ : ∃ wz, wz = W80 := ⟨_, rfl⟩; subst hwz; have HBZ := HB80; clear HB80
      
    rotate_left 1
  rotate_left 3
  all_goals
    obtain ⟨x0, x1⟩ := cells2 hx_x; obtain ⟨y2, y3⟩ := cells2 hx_y; obtain ⟨s0, s1, _, _, _, _, _, _⟩ := HK8.out _ HBZ; replace HB := Lib.hid (HB.out.trans (HBZ.mono HB.out.size)); clear HBZ hx_x hx_y HSB HK8 HS1 HS2 k1 q0 q1 q2 q3 p0 p1 p2 p3 y0 d0 d1
    (go_wp2_with fail); refine (c_known m _ (HM.out.below HB.out) (HI.out.below HB.out)).mono ?_; rintro e wn ⟨rfl, bq⟩; have HFK := Lib.hid (HB.out.trans (bq.mono HB.out.size)); clear bq; go_wp2; go_ret; exact ⟨rfl, HFK.out⟩
end Go.Proofs.YtlednchfifphgabGreatDoor
end

section
namespace Go.Proofs.YtlednchfifphgabGreatDoor
open Go Go.ChangeShapes Go.WideShapes Go.ChangeAt Go.RowKit Go.Proofs
set_option linter.unusedVariables false

set_option maxRecDepth 100000 in
theorem slackDiffer_lifted (os : Os) (started : os.Started) (H : Type) (enc : TypeId × Value → H) :
    ReturnsInHanded {} Tryz.checked os 6 .any (fun w args => (Rows.slackDifferSpec.pre enc Tryz.prog Tryz.f6 [] false w args ∧ laidMetH Tryz.prog lay5 w) ∧ sizedMet enc Tryz.prog Tryz.f6 (OpenSpec.ofChange Rows.slackDifferSpec) false w args)
      (Rows.slackDifferSpec.post enc Tryz.prog Tryz.f6 false true false false) := by
  refine returns_listed (C := Tryz.checked) (X := fun w _ => laidMetH Tryz.prog lay5 w) (fun _ _ _ hh h => h.of_heap hh) ownT started (by kernel_rfl) Tryz.func6
    (ChangeSpec.witness_shaped (enc := enc) (C := Tryz.checked) (os := os) (X := fun w _ => laidMetH Tryz.prog lay5 w) false (World.laidAll Tryz.prog os lay5) #[.agg #[.slice none 0 0, .slice none 0 0, .slice none 0 0], .agg #[.int .i64 0, .int .i64 0, .int .i64 0, .slice none 0 0], .agg #[.int .i64 0, .int .i64 0, .int .i64 0, .slice none 0 0], .slice none 0 0] 12 (World.laidAll_os _ _ _)
      (World.shaped_of_ZipB (by kernel_rfl) (by kernel_rfl)) (by kernel_rfl) (by kernel_rfl) (by kernel_rfl)
      (by rw [MakeChecks.laidMetH_plain _ _ _ (by kernel_rfl)]; exact laidMet_laidAll _ (by kernel_rfl) (by kernel_rfl))) ?_
  intro W base args ds gs before hval0 hW hX hSh; have hval : ∀ (j : Nat) t v, Tryz.f6.params[j]? = some t → args[j]? = some v → Value.okWide Tryz.prog W .any base t v := hval0; have hW' := hW; obtain ⟨p, q, hA0, hV, rfl, _, _⟩ := hW; have hA : DataW.TrodAll enc Tryz.prog W 0 (fun _ => true) true Tryz.f6.params.toList args.toList ds p := hA0; rw [Tryz.params6] at hA hval; obtain ⟨v0, vs0, d0, ds0, p0, q0, hargs, rfl, rfl, h0, r0⟩ := trodAll_cons hA; obtain ⟨v1, vs1, d1, ds1, p1, q1, rfl, rfl, rfl, h1, r1⟩ := trodAll_cons r0; obtain ⟨v2, vs2, d2, ds2, p2, q2, rfl, rfl, rfl, h2, r2⟩ := trodAll_cons r1; obtain ⟨v3, vs3, d3, ds3, p3, q3, rfl, rfl, rfl, h3, r3⟩ := trodAll_cons r2; obtain ⟨rfl, rfl, rfl⟩ := trodAll_nil r3; obtain rfl : args = #[v0, v1, v2, v3] := by cases args; simp_all
  obtain ⟨rfl, rfl⟩ := trodVars_none hV; obtain ⟨pm0, pv0, pr0, cm0, cv0, cr0, p0, rfl, rd0⟩ := op_piece (hval 0 26 v0 rfl rfl) h0; obtain ⟨g1, pe1, ce1, rfl, rd1⟩ := op_hand (hval 1 29 v1 rfl rfl) h1; obtain ⟨g2, pe2, ce2, rfl, rd2⟩ := op_hand (hval 2 29 v2 rfl rfl) h2; obtain ⟨b3, c3, xs3, rfl, rd3, hl3⟩ := op_ints (hval 3 23 v3 rfl rfl) h3; clear hA0 hval0; obtain ⟨m, hm⟩ := maxLen_of hSh; have hit := itoaG_of (pow10_of hX); refine (law_Differ pm0 pv0 pr0 cm0 cv0 cr0 p0 g1 pe1 ce1 g2 pe2 ce2 b3 c3 xs3 m W rd0 rd1 rd2 rd3 hm hit).mono fun e W' ⟨he, bel⟩ => ?_
  subst he; exact ⟨_, rfl, _, _, _, [], _, [], hW', trodAll_mk1 (shut_bool Tryz.underlying4 _), (trodAll_cons_mk (Below.trod laidOutT (by kernel_rfl) (of_decide_eq_true (by kernel_rfl)) h0 bel (trod_lt h0)) (trodAll_cons_mk (Below.trod laidOutT (by kernel_rfl) (of_decide_eq_true (by kernel_rfl)) h1 bel (trod_lt h1)) (trodAll_cons_mk (Below.trod laidOutT (by kernel_rfl) (of_decide_eq_true (by kernel_rfl)) h2 bel (trod_lt h2)) (trodAll_cons_mk (Below.trod laidOutT (by kernel_rfl) (of_decide_eq_true (by kernel_rfl)) h3 bel (trod_lt h3)) trodAll_mk0)))), rfl, bel.frame _, fun h => by cases h⟩
theorem slackDiffer_wf : Rows.slackDifferRow.wf (OpenSpec.ofChange Rows.slackDifferSpec) = true := by kernel_rfl
theorem slackDiffer_inPlace : (Rows.slackDifferRow.inPlace == Tryz.prog.inPlace 6) = true := by kernel_rfl
theorem slackDiffer_unfollowed : (Rows.slackDifferRow.unfollowed == Tryz.prog.unfollowed 6) = true := by kernel_rfl
theorem slackDiffer_recurses : (Rows.slackDifferRow.recurses == Tryz.prog.recurses 6) = true := by kernel_rfl
theorem slackDiffer_named : (Rows.slackDifferRow.named == Tryz.prog.varsNamed 6) = true := by kernel_rfl
theorem slackDiffer_goes : false = Rows.slackDifferRow.goesBy Tryz.prog := by kernel_rfl
theorem slackDiffer_func : Tryz.prog.funcNamed Rows.slackDifferRow.func = some 6 := by kernel_rfl
theorem slackDiffer_text : Rows.slackDifferRow.wfByText (OpenSpec.ofChange Rows.slackDifferSpec) = true := by kernel_rfl
theorem slackDiffer_closed : joinedFacts Tryz.prog 6 Tryz.f6 Rows.slackDifferSpec Rows.slackDifferRow = true :=
  (and_t (and_t (and_t (and_t (and_t (and_t (and_t (and_t (and_t (and_t (and_t (and_t (and_t (and_t (and_t (and_t (and_t (and_t (and_t (and_t (and_t (and_t (and_t (and_t (and_t (and_t (and_t (and_t (and_t (and_t (and_t slackDiffer_wf tLaidOut) tMaps) (by kernel_rfl)) (by kernel_rfl)) (by kernel_rfl)) (by kernel_rfl)) (by kernel_rfl)) (by kernel_rfl)) slackDiffer_inPlace) slackDiffer_unfollowed) slackDiffer_recurses) slackDiffer_named) (by kernel_rfl)) (by kernel_rfl)) (by kernel_rfl)) (by kernel_rfl)) (by kernel_rfl)) (by kernel_rfl)) (by kernel_rfl)) (by kernel_rfl)) (by kernel_rfl)) (by kernel_rfl)) (by kernel_rfl)) tHeard) tMayEnter) (eq_t (α := Bool) tFinal.symm)) (eq_t tMake)) (by kernel_rfl)) (by kernel_rfl)) (by kernel_rfl)) (by kernel_rfl))
theorem slackDiffer_wrap : Func.isWrapper Tryz.prog Tryz.f6 Rows.slackDifferRow.wrapper Rows.slackDifferRow.mainSum := by unfold Func.isWrapper; rw [if_neg (of_decide_eq_false (by kernel_rfl))]; exact ⟨rfl, rfl⟩
theorem slackDiffer_row : Rows.SlackDifferSaid :=
  OpenClaim.holds_of_wide 6 Tryz.f6 rfl rfl rfl rfl rfl rfl rfl ⟨rfl, rfl, rfl, rfl, rfl⟩ rfl rfl rfl rfl rfl slackDiffer_func Tryz.func6 slackDiffer_closed (of_decide_eq_true (by kernel_rfl)) slackDiffer_wrap (fun os started H enc _ => slackDiffer_lifted os started H enc)
theorem slackDiffer_plain : ∀ (j : Nat) t, Tryz.f6.params[j]? = some t → Tryz.prog.wantsStandIn t = false := fun j t ht => by
  rw [Tryz.params6] at ht; have hm : t ∈ [26, 29, 29, 23] := by simpa using Array.mem_of_getElem? ht
  have hall : ([26, 29, 29, 23].all fun u => !Tryz.prog.wantsStandIn u) = true := by kernel_rfl
  exact (show Tryz.prog.wantsStandIn t = false by simpa using List.all_eq_true.1 hall t hm)
theorem slackDiffer_holds : Rows.SlackDifferCardSaid :=
  Claim7.holds_tied_plain_at .later [] [.data, .data, .data, .data, .pinned] true (true, "be822bbd39a17464ee6526ca2e9d32d2a3a9815fece3866167cb0f3f46fef96e") true slackDiffer_row (fun _ h => by cases h) slackDiffer_text (fun _ h => by cases h) slackDiffer_row_tie rfl ⟨rfl, rfl⟩ tMainIs rfl
    (fun f fn hf hfn => by
      obtain rfl : f = 6 := Option.some.inj (slackDiffer_func.symm.trans hf) |>.symm
      obtain rfl : fn = Tryz.f6 := (Option.some.inj (Tryz.func6.symm.trans hfn)).symm; exact ⟨tLooks, slackDiffer_plain⟩)
    slackDiffer_goes
#print axioms slackDiffer_holds
end Go.Proofs.YtlednchfifphgabGreatDoor
end
