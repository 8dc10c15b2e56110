/-
  Plain laws of chains of arbors (no program in sight): where all arbors are before the first move, and after a move.
  Plain laws of bounds, of lost motion, and of a crank that is turned on and back (no program in sight).
  Plain laws of hands, and of aims (no program in sight).
  What the references do, step by step: hulls, all plays mesh by mesh, lists of meshes; no program in sight.
  What a hand reads as.
  What is a hand, in the document's words; a number rounded down: contracts.
  A move made in two parts: what the moves are then, and where the arbors are (no program in sight).
  A negation in a quiet walk.
  A drawn region whose cells are known: its beginning, in short words.
  The document's move of all arbors, and where all arbors are: contracts.
  The document's places before the first move and after each one: contract.
  Whether plays are a truth, in the document's words: contract.
  All truths, in the document's words: contract.
  Where all arbors are after all moves, in each of some truths: contract.
  How many truths are left, and which arbor should be read, in the document's words: contracts.
  The least and the greatest number at each place of some lists: contracts.
  What a hand shows, in the document's words: contracts (printed by ref.py).
  Whether a hand has a short list, in the law's words: contract.
  What the laws ask: a piece's truths, or its error; contracts.
  The stage's theorem: what is known of a piece (the walk).
  A piece with some moves more, or with one reading more, in the document's words: contracts.
  By how much the crank can be turned before an arbor moves (the walk).
  The theorem of lost motion (the walk).
  The laws' word on plain spans: contract.
  What is a place, and a limit, in the document's words; whether an arbor surely is near to a place after a move more, in the law's words: contracts.
  The word of what is known: contract (seat sB alone).
  Sure: contract, all arguments (printed by slkask.py)
  The theorem of hands (the walk; printed by ref.py, hands.py).
  The law SlackHands: its card. Conditions: none of the input; the tables of the library that the row lists are as the program lays them (the tie is given).
-/
import Derived.Test.YtlednchfifphgabGreatDoorGA
import Derived.Test.YtlednchfifphgabGreatDoorGC
import Derived.Test.YtlednchfifphgabGreatDoorGZ
import Derived.Test.YtlednchfifphgabGreatDoorGO
import Derived.Test.YtlednchfifphgabGreatDoorGG
import Derived.Test.YtlednchfifphgabGreatDoorGH
import Derived.Test.YtlednchfifphgabGreatDoorGL
import Derived.Test.YtlednchfifphgabGreatDoorGD
import Derived.Deep.Upon
import Derived.Deep.AppendLies
import Derived.Deep.RegionLaw
import Derived.StillTailTactics
import Derived.OwnWalk
import Derived.Maps.AppendAt
import Derived.Test.YtlednchfifphgabGreatDoorGJ
import Derived.Test.YtlednchfifphgabGreatDoorGM
import Derived.Test.YtlednchfifphgabGreatDoorGN
import Derived.Test.YtlednchfifphgabGreatDoorGP
import Derived.Test.YtlednchfifphgabGreatDoorGQ
import Derived.BigQuiet
import Derived.Test.YtlednchfifphgabGreatDoorGU
import Derived.Test.YtlednchfifphgabGreatDoorGX2
import Derived.Test.YtlednchfifphgabGreatDoorGY
import Derived.Test.YtlednchfifphgabGreatDoorCards
section
namespace Go.Proofs.YtlednchfifphgabGreatDoor

theorem mvF_stepBack {pl pc : List Int} {m : Int} (hc : Chain pl pc) (hm : ¬ 0 ≤ m) (k : Nat) (h : k < pl.length) : gi (mvF pl pc m) (k + 1) = min (gi pc (k + 1)) (gi (mvF pl pc m) k) := by
  rw [mvF_back hm k (by omega), mvF_back hm (k + 1) (by omega)]; have := hc.le k h; omega
theorem mvF_stepRef {pl pc : List Int} {m : Int} (hp : Pos pl) (hc : Chain pl pc) (k : Nat) (h : k < pl.length) : gi (mvF pl pc m) (k + 1) = min (gi (mvF pl pc m) k) (max (gi (mvF pl pc m) k - gi pl k) (gi pc (k + 1))) := by
  have h3 := (mvF_chain hp hc m).le k h; have h4 := hp k h
  by_cases hm : 0 ≤ m
  · rw [mvF_stepOn hc hm k h] at h3 ⊢; omega
  · have h5 := hc.ge k h
    have h6 := mvF_back hm k (pc := pc) (pl := pl) (by omega); rw [mvF_stepBack hc hm k h] at h3 ⊢; omega
end Go.Proofs.YtlednchfifphgabGreatDoor
end

section
namespace Go.Proofs.YtlednchfifphgabGreatDoor
set_option linter.unusedVariables false

theorem ne_of_mem {α : Type} {l : List α} {x : α} (h : x ∈ l) : l ≠ [] := by rintro rfl; cases h
end Go.Proofs.YtlednchfifphgabGreatDoor
end

section
namespace Go.Proofs.YtlednchfifphgabGreatDoor
set_option linter.unusedVariables false

theorem sh_plain {p : Pc} (hp : PieceOk p) {h : Hd} (hh : HandOk p.ms.length h) {pl : List Int} (hpl : pl ∈ truthsF p) : -280030 ≤ (shF p h pl).1 ∧ (shF p h pl).1 ≤ (shF p h pl).2 ∧ (shF p h pl).2 ≤ 240030 := by
  have hk := truth_plays hp hpl; refine shown_plain hh (place_range hp hk p.mv.length h.arb.toNat (Nat.le_refl _) ?_); have := hh.arb; have := hk.len; omega
theorem shows_plain {p : Pc} (hp : PieceOk p) {h : Hd} (hh : HandOk p.ms.length h) (ht : truthsF p ≠ []) : -280030 ≤ (showsF p h).1 ∧ (showsF p h).1 ≤ (showsF p h).2 ∧ (showsF p h).2 ≤ 240030 := ovF_in _ _ _ ht fun pl hpl => sh_plain hp hh hpl
def someB (p : Pc) (h : Hd) (want lim : Int) : Bool := (truthsF p).any fun pl => decide ((shF p h pl).1 ≤ want + lim) && decide (want - lim ≤ (shF p h pl).2)
def notB (p : Pc) (h : Hd) (want lim : Int) : Bool := (truthsF p).any fun pl => decide ((shF p h pl).1 < want - lim) || decide (want + lim < (shF p h pl).2)
def sureF (p : Pc) (h : Hd) (want lim : Int) : Int := if someB p h want lim = false then 1 else if notB p h want lim = true then 2 else 3
theorem someB_iff {p : Pc} {h : Hd} {want lim : Int} : someB p h want lim = true ↔ ∃ pl ∈ truthsF p, (shF p h pl).1 ≤ want + lim ∧ want - lim ≤ (shF p h pl).2 := by
  unfold someB; simp [List.any_eq_true]
theorem notB_iff {p : Pc} {h : Hd} {want lim : Int} : notB p h want lim = true ↔ ∃ pl ∈ truthsF p, (shF p h pl).1 < want - lim ∨ want + lim < (shF p h pl).2 := by
  unfold notB; simp [List.any_eq_true]
theorem not_both {p : Pc} (hp : PieceOk p) {h : Hd} (hh : HandOk p.ms.length h) (ht : truthsF p ≠ []) {want lim : Int} (hl : 0 ≤ lim) (h1 : notB p h want lim = false) : someB p h want lim = true := by
  obtain ⟨x, hx, e⟩ := ovF_low (shF p h) ht; have hpl := sh_plain hp hh hx; rw [someB_iff]; refine ⟨x, hx, ?_⟩
  have : ¬ ((shF p h x).1 < want - lim ∨ want + lim < (shF p h x).2) := fun hc => by
    have := notB_iff.2 ⟨x, hx, hc⟩; rw [h1] at this; cases this
  omega
theorem hands_law {p : Pc} (hp : PieceOk p) {h : Hd} (hh : HandOk p.ms.length h) {pl : List Int} (hpl : pl ∈ truthsF p) {want lim : Int} (hl : 0 ≤ lim) :
    ((showsF p h).1 ≤ (shF p h pl).1 ∧ (shF p h pl).2 ≤ (showsF p h).2) ∧ (1 ≤ sureF p h want lim ∧ sureF p h want lim ≤ 3) ∧
    (sureF p h want lim = 3 ↔ (want - lim ≤ (showsF p h).1 ∧ (showsF p h).1 ≤ want + lim) ∧ (want - lim ≤ (showsF p h).2 ∧ (showsF p h).2 ≤ want + lim)) ∧
    ∀ x, (shF p h pl).1 ≤ x → x ≤ (shF p h pl).2 → ((want - lim ≤ x ∧ x ≤ want + lim) → sureF p h want lim ≠ 1) ∧ (¬ (want - lim ≤ x ∧ x ≤ want + lim) → sureF p h want lim ≠ 3) := by
  have ht := ne_of_mem hpl; have hm := ovF_mem (shF p h) hpl; have hpp := sh_plain hp hh hpl; have hsp := shows_plain hp hh ht
  have e3 : sureF p h want lim = 3 ↔ notB p h want lim = false := by
    unfold sureF
    cases hn : notB p h want lim with
    | false => rw [not_both hp hh ht hl hn]; simp
    | true => by_cases hs : someB p h want lim = false <;> simp [hs]
  have e1 : sureF p h want lim = 1 ↔ someB p h want lim = false := by
    unfold sureF
    by_cases hs : someB p h want lim = false
    · simp [hs]
    · simp only [hs]; by_cases hn : notB p h want lim = true <;> simp [hn]
  refine ⟨hm, ?_, ?_, fun x h1 h2 => ⟨fun hw hc => ?_, fun hw hc => ?_⟩⟩
  · unfold sureF
    by_cases hs : someB p h want lim = false
    · simp [hs]
    · simp only [hs]; by_cases hn : notB p h want lim = true <;> simp [hn]
  · rw [e3]
    constructor
    · intro hn
      have key : ∀ y ∈ truthsF p, want - lim ≤ (shF p h y).1 ∧ (shF p h y).2 ≤ want + lim := fun y hy => by
        have : ¬ ((shF p h y).1 < want - lim ∨ want + lim < (shF p h y).2) := fun hc => by
          have := notB_iff.2 ⟨y, hy, hc⟩; rw [hn] at this; cases this
        omega
      obtain ⟨a, ha, ea⟩ := ovF_low (shF p h) ht; obtain ⟨b, hb, eb⟩ := ovF_high (shF p h) ht; have k1 := key a ha; have k2 := key b hb; have k3 := sh_plain hp hh ha; have k4 := sh_plain hp hh hb; change (showsF p h).1 = _ at ea; change (showsF p h).2 = _ at eb; omega
    · rintro ⟨h1, h2⟩
      cases hn : notB p h want lim with
      | false => rfl
      | true =>
        obtain ⟨y, hy, hc⟩ := notB_iff.1 hn; have := ovF_mem (shF p h) hy; change (showsF p h).1 ≤ _ ∧ _ ≤ (showsF p h).2 at this; omega
  · have := e1.1 hc
    have hs := someB_iff.2 ⟨pl, hpl, show (shF p h pl).1 ≤ want + lim ∧ want - lim ≤ (shF p h pl).2 by omega⟩; rw [this] at hs; cases hs
  · have := e3.1 hc
    have hn := notB_iff.2 ⟨pl, hpl, show (shF p h pl).1 < want - lim ∨ want + lim < (shF p h pl).2 by omega⟩; rw [this] at hn; cases hn
end Go.Proofs.YtlednchfifphgabGreatDoor
end

section
namespace Go.Proofs.YtlednchfifphgabGreatDoor
set_option linter.unusedVariables false

theorem gl_get (xs : List (List Int)) (i : Nat) (h : i < xs.length) : gl xs i = xs[i] := by
  unfold gl; simp [h]
theorem take_step {α : Type} (l : List α) (k : Nat) (h : k < l.length) : l.take (k + 1) = l.take k ++ [l[k]] := List.take_succ_eq_append_getElem h
theorem take_gl (ls : List (List Int)) (k : Nat) (h : k < ls.length) : ls.take (k + 1) = ls.take k ++ [gl ls k] := by rw [gl_get ls k h]; exact take_step ls k h
theorem prodF_count (ms : List (Int × Int)) (h : ∀ i, i < ms.length → (gm ms i).2 - (gm ms i).1 ≤ 4) : (prodF ms).length ≤ 5 ^ ms.length := by
  induction ms with
  | nil => simp [prodF]
  | cons m r ih =>
    have h0 := h 0 (by simp); have e0 : gm (m :: r) 0 = m := rfl; rw [e0] at h0
    have ih' := ih fun i hi => by
      have := h (i + 1) (by simp; omega); exact this
    have : (prodF (m :: r)).length = (rng m.1 m.2).length * (prodF r).length := by
      show ((rng m.1 m.2).flatMap fun n => (prodF r).map (n :: ·)).length = _; rw [List.length_flatMap]; simp [List.map_const']
    rw [this, rng_len, List.length_cons, Nat.pow_succ, Nat.mul_comm (5 ^ r.length) 5]; exact Nat.mul_le_mul (by omega) ih'
def someT (p : Pc) (h : Hd) (want lim : Int) (k : Nat) : Bool := ((truthsF p).take k).any fun pl => decide ((shF p h pl).1 ≤ want + lim) && decide (want - lim ≤ (shF p h pl).2)
def notT (p : Pc) (h : Hd) (want lim : Int) (k : Nat) : Bool := ((truthsF p).take k).any fun pl => decide ((shF p h pl).1 < want - lim) || decide (want + lim < (shF p h pl).2)
theorem someT_succ (p : Pc) (h : Hd) (want lim : Int) (k : Nat) (hk : k < (truthsF p).length) : someT p h want lim (k + 1) = (someT p h want lim k || (decide ((shF p h (gl (truthsF p) k)).1 ≤ want + lim) && decide (want - lim ≤ (shF p h (gl (truthsF p) k)).2))) := by
  unfold someT; rw [take_gl _ k hk, List.any_append]; simp
theorem notT_succ (p : Pc) (h : Hd) (want lim : Int) (k : Nat) (hk : k < (truthsF p).length) : notT p h want lim (k + 1) = (notT p h want lim k || (decide ((shF p h (gl (truthsF p) k)).1 < want - lim) || decide (want + lim < (shF p h (gl (truthsF p) k)).2))) := by
  unfold notT; rw [take_gl _ k hk, List.any_append]; simp
theorem someT_all (p : Pc) (h : Hd) (want lim : Int) : someT p h want lim (truthsF p).length = someB p h want lim := by unfold someT someB; rw [List.take_length]
theorem notT_all (p : Pc) (h : Hd) (want lim : Int) : notT p h want lim (truthsF p).length = notB p h want lim := by unfold notT notB; rw [List.take_length]
theorem down_ediv (n b : Int) (hb : 0 < b) : (if n.tdiv b * b > n then n.tdiv b - 1 else n.tdiv b) = n / b := by
  have e2 : (n / b) * b + n % b = n := by have := Int.emod_add_mul_ediv n b; rw [Int.mul_comm (n / b) b]; omega
  have h1 := Int.emod_nonneg n (show b ≠ 0 by omega); have h2 := Int.emod_lt_of_pos n hb
  rcases Int.le_total 0 n with h | h
  · rw [Int.tdiv_eq_ediv_of_nonneg h, if_neg (by omega)]
  · rw [Int.tdiv_eq_ediv]
    by_cases hd : 0 ≤ n ∨ b ∣ n
    · rw [if_pos hd, Int.add_zero, if_neg (by omega)]
    · rw [if_neg hd, Int.sign_eq_one_of_pos hb]
      have hne : n % b ≠ 0 := fun hc => hd (.inr (Int.dvd_of_emod_eq_zero hc))
      rw [if_pos (by rw [Int.add_mul, Int.one_mul]; omega)]; omega

end Go.Proofs.YtlednchfifphgabGreatDoor
end

section
namespace Go.Proofs.YtlednchfifphgabGreatDoor
open Go Go.ChangeShapes Go.WideShapes Go.ChangeAt Go.RowKit Go.Proofs
set_option linter.unusedVariables false
theorem tc_span : Tryz.prog.cellsOf 36 = 2 := by kernel_rfl
theorem tc_hand : Tryz.prog.cellsOf 29 = 4 := by kernel_rfl
section
variable {H : Type} {enc : TypeId × Value → H} {W : World}
set_option maxRecDepth 100000 in
theorem rd_spansT {fuel : Nat} {v : Value} {x : DataW H × List MemPlace} (h : DataW.trod enc Tryz.prog W 0 (fun _ => true) true fuel 27 [v] = some x) :
    ∃ p cap, ∃ xs : List (Int × Int), v = .slice p xs.length cap ∧ RdS W p xs ∧ xs.length ≤ maxLen := by
  rcases Deep.open_slice Tryz.underlying27 h with ⟨hcs, _⟩ | ⟨a, l, c, m, n, D, Pl, hcs, _, hl, hm, hmm, _, hx⟩
  · exact ⟨none, 0, [], by simpa using hcs, .inl rfl, by simp⟩
  · obtain rfl : v = .slice (some a) l c := by simpa using hcs
    simp only [if_true] at hmm; subst hmm; rw [tc_span] at hx
    have each : ∀ i, i < l → ∃ g : Int × Int, W.cell? (a.add (i * 2)) = some (.int .i64 g.1) ∧ W.cell? ((a.add (i * 2)).add 1) = some (.int .i64 g.2) := by
      intro i hi; obtain ⟨cs', h1, h2⟩ := hx i (by omega); obtain ⟨_, hlen, hcell⟩ := World.cells?_some h1; obtain ⟨y0, y1, k, _, _, t0, t1⟩ := trod_struct2 Tryz.underlying36 h2
      match cs', hlen with
      | [c0, c1], _ =>
        simp only [tc_int] at t0 t1; obtain ⟨x0, rfl, _⟩ := int_ofT (v := c0) t0; obtain ⟨x1, rfl, _⟩ := int_ofT (v := c1) t1; refine ⟨(x0, x1), ?_, ?_⟩
        · have := hcell 0 (by omega)
          simpa [Addr.add] using this
        · exact hcell 1 (by omega)
    obtain ⟨gs, h1, h2⟩ := list_of (0, 0) (fun i g => W.cell? (a.add (i * 2)) = some (.int .i64 g.1) ∧ W.cell? ((a.add (i * 2)).add 1) = some (.int .i64 g.2)) l each; refine ⟨some a, _, gs, by rw [h1], ?_, by omega⟩
    rcases Nat.eq_zero_or_pos l with h0 | h0
    · left; exact List.length_eq_zero_iff.1 (by omega)
    · obtain ⟨b, off, spot⟩ := a
      have hc := (h2 0 h0).1; have hspot : spot = none := by simpa [Addr.add] using World.cell?_spot hc
      subst hspot; refine .inr ⟨b, off, rfl, fun i hi => ?_⟩; have := h2 i (by omega); rw [add_plainT, add_plainT] at this; exact this
set_option maxRecDepth 100000 in
theorem op_hand {base : Nat} {v : Value} {d : DataW H} {ps : List MemPlace} (hv : Value.okWide Tryz.prog W .any base 29 v) (h : DataW.Trod enc Tryz.prog W 0 (fun _ => true) true 29 v d ps) :
    ∃ (g : Hd) (pe : Option Addr) (ce : Nat), v = hdV g pe ce ∧ RdS W pe g.er := by
  obtain ⟨v0, v1, v2, v3, y0, y1, y2, y3, n, rfl, _, _, h0, h1, h2, h3⟩ := Joins.open_agg4 Tryz.underlying29 (by kernel_rfl) tc_hand hv h; obtain ⟨a, rfl, _⟩ := int_ofT h0; obtain ⟨b, rfl, _⟩ := int_ofT h1; obtain ⟨c, rfl, _⟩ := int_ofT h2; obtain ⟨pe, ce, er, rfl, r3, _⟩ := rd_spansT h3; exact ⟨⟨a, b, c, er⟩, pe, ce, rfl, r3⟩
end
end Go.Proofs.YtlednchfifphgabGreatDoor
end

section
namespace Go.Proofs.YtlednchfifphgabGreatDoor
open Go Go.RowKit Go.Proofs
set_option linter.unusedVariables false
set_option linter.unusedSimpArgs false
attribute [local go_sem] imax2 imin2

set_option maxHeartbeats 1600000 in
set_option maxRecDepth 100000 in
theorem r_Hand (pm pv pr : Option Addr) (cm cv cr : Nat) (p : Pc) (h : Hd) (pe : Option Addr) (ce : Nat) (w : World) (hh : RdS w pe h.er) (hl : h.er.length ≤ 1000000) :
    Calls Tryz.prog 21 #[.agg #[.slice pm p.ms.length cm, .slice pv p.mv.length cv, .slice pr p.rs.length cr], hdV h pe ce] w fun e w' => e = .returned (.bool (handB p.ms.length h)) ∧ Below w.heap.size w w' := by
  unfold hdV; obtain ⟨w0, e0, HS0, k0, k1, k2, b0⟩ := box3 w (.slice pm p.ms.length cm) (.slice pv p.mv.length cv) (.slice pr p.rs.length cr) 26; obtain ⟨w1, e1, HS1, q0, q1, q2, q3, b1⟩ := box4 w0 (.int .i64 h.arb) (.int .i64 h.num) (.int .i64 h.den) (.slice pe h.er.length ce) 29; have HE := Lib.hid ((hh.below b0).below b1); have HB := Lib.hid (b0.trans (b1.mono b0.size)); have k0 := (b1.cell (lt_of_cellq k0)).trans k0; have HQ := Lib.hid (handB_parts p.ms.length h); have HKK := Lib.hid (And.intro k0 (And.intro q0 (And.intro q1 (And.intro q2 q3)))); clear b0 b1 hh k0 k1 k2 q0 q1 q2
  go_enter Tryz.func21, Tryz.ntmps21
  go_wp2; clear e0 e1 q3
  go_loopw [5] (fun i wr => ∃ k : Nat, k ≤ h.er.length ∧ i = .int .i64 k ∧ Hid (∀ j, j < k → errB (gm h.er j) = true) ∧ Hid (Below w1.heap.size w1 wr)) (fun i _ => h.er.length - (intOf i).toNat)
  case atStart => exact ⟨0, Nat.zero_le _, rfl, Lib.hid (fun j hj => by omega), Lib.hid (Below.refl _ _)⟩
  case round =>
    obtain ⟨k, hk, rfl, HK, HY⟩ := hrel; have HBB := Lib.hid (HB.out.trans (HY.out.mono HB.out.size)); have q3 := (HY.out.cell (lt_of_cellq HKK.out.2.2.2.2)).trans HKK.out.2.2.2.2
    by_cases hlt : k < h.er.length
    · have hki : (k : Int) < (h.er.length : Int) := by omega
      obtain ⟨b, off, rfl, hc⟩ := (HE.out.below HY.out).at hlt; obtain ⟨d0, d1⟩ := hc k hlt; have HBAD := Lib.hid (show errB (gm h.er k) = false → handB p.ms.length h = false from fun g => by rw [HQ.out, all_badP (0, 0) hlt (show errB (h.er.getD k (0, 0)) = false from g)]; simp); have HNX := Lib.hid (show errB (gm h.er k) = true → ∀ j, j < k + 1 → errB (gm h.er j) = true from upto_succ HK.out); obtain ⟨M, hM⟩ : ∃ M, gm h.er k = M := ⟨_, rfl⟩; rw [hM] at d0 d1 HBAD HNX; obtain ⟨lo, hi⟩ := M; obtain ⟨w4, e4, HS4, y0, y1, b4⟩ := box2 wr (.int .i64 lo) (.int .i64 hi) 36; have HB4 := Lib.hid (HBB.out.trans (b4.mono HBB.out.size)); have HY4 := Lib.hid (HY.out.trans (b4.mono HY.out.size)); clear hc hM b4
      by_cases g1 : lo < -30
      · have H := Lib.hid (HBAD.out (by unfold errB; simp; omega))
        go_wp2; go_ret; exact ⟨by rw [H.out]; rfl, HB4.out⟩
      by_cases g2 : lo > hi
      · have H := Lib.hid (HBAD.out (by unfold errB; simp; omega))
        go_wp2; go_ret; exact ⟨by rw [H.out]; rfl, HB4.out⟩
      by_cases g3 : hi > 30
      · have H := Lib.hid (HBAD.out (by unfold errB; simp; omega))
        go_wp2; go_ret; exact ⟨by rw [H.out]; rfl, HB4.out⟩
      · have H := Lib.hid (HNX.out (by unfold errB; simp; omega))
        go_wp2; go_roundw
        case rel => exact ⟨k + 1, by omega, by go_num, H, HY4⟩
        case measure => simp [intOf]; omega
    · obtain rfl : k = h.er.length := by omega
      have hki : ¬ (h.er.length : Int) < (h.er.length : Int) := by omega
      have HMS := Lib.hid (show h.er.all errB = true from (all_at (0, 0) h.er).2 HK.out); have k0 := (HY.out.cell (lt_of_cellq HKK.out.1)).trans HKK.out.1; have q0 := (HY.out.cell (lt_of_cellq HKK.out.2.1)).trans HKK.out.2.1; have q1 := (HY.out.cell (lt_of_cellq HKK.out.2.2.1)).trans HKK.out.2.2.1; have q2 := (HY.out.cell (lt_of_cellq HKK.out.2.2.2.1)).trans HKK.out.2.2.2.1; clear HK
      rcases h1 : inB h.arb 0 p.ms.length with _ | _
      · have H := Lib.hid (show handB p.ms.length h = false by rw [HQ.out]; simp [h1])
        go_wp2_with fail; refine (r_in _ _ _ _).mono ?_; rw [h1]; rintro e wn ⟨rfl, rfl⟩; go_wp2; go_ret; exact ⟨by rw [H.out]; rfl, HBB.out⟩
      rcases h2 : inB h.num 1 100 with _ | _
      · have H := Lib.hid (show handB p.ms.length h = false by rw [HQ.out]; simp [h1, h2])
        go_wp2_with fail; refine (r_in _ _ _ _).mono ?_; rw [h1]; rintro e wn ⟨rfl, rfl⟩; go_wp2_with fail; refine (r_in _ _ _ _).mono ?_; rw [h2]; rintro e wn ⟨rfl, rfl⟩; go_wp2; go_ret; exact ⟨by rw [H.out]; rfl, HBB.out⟩
      rcases h3 : inB h.den 1 100 with _ | _
      · have H := Lib.hid (show handB p.ms.length h = false by rw [HQ.out]; simp [h1, h2, h3])
        go_wp2_with fail; refine (r_in _ _ _ _).mono ?_; rw [h1]; rintro e wn ⟨rfl, rfl⟩; go_wp2_with fail; refine (r_in _ _ _ _).mono ?_; rw [h2]; rintro e wn ⟨rfl, rfl⟩; go_wp2_with fail; refine (r_in _ _ _ _).mono ?_; rw [h3]; rintro e wn ⟨rfl, rfl⟩; go_wp2; go_ret; exact ⟨by rw [H.out]; rfl, HBB.out⟩
      have H := Lib.hid (show handB p.ms.length h = inB (h.er.length : Int) 1 8 by rw [HQ.out, HMS.out, h1, h2, h3]; simp); go_wp2_with fail; refine (r_in _ _ _ _).mono ?_; rw [h1]; rintro e wn ⟨rfl, rfl⟩; go_wp2_with fail; refine (r_in _ _ _ _).mono ?_; rw [h2]; rintro e wn ⟨rfl, rfl⟩; go_wp2_with fail; refine (r_in _ _ _ _).mono ?_; rw [h3]; rintro e wn ⟨rfl, rfl⟩; go_wp2_with fail; refine (r_in _ _ _ _).mono ?_; rintro e wn ⟨rfl, rfl⟩; go_wp2; go_ret; exact ⟨by rw [H.out]; rfl, HBB.out⟩

set_option maxRecDepth 100000 in
theorem r_down (a b : Int) (w : World) (hb : 0 < b) (hb2 : b ≤ 100000) (ha : -1000000000 ≤ a ∧ a ≤ 1000000000) :
    Calls Tryz.prog 81 #[.int .i64 a, .int .i64 b] w fun e w' => e = .returned (.int .i64 (a / b)) ∧ w = w' := by
  obtain ⟨ha1, ha2⟩ := ha; have hb0 : ¬ b = 0 := by omega
  have HD := Lib.hid (down_ediv a b hb); have h2 := Int.tmod_lt_of_pos a hb; have h2b := Int.lt_tmod_of_pos a hb; have h5 := Int.mul_tdiv_add_tmod a b; have h6 : a.tdiv b * b = b * a.tdiv b := Int.mul_comm _ _
  have h3 : -1000000000 ≤ a.tdiv b ∧ a.tdiv b ≤ 1000000000 := by
    have h7 : (a.tdiv b).natAbs ≤ a.natAbs := by rw [Int.natAbs_tdiv]; exact Nat.div_le_self _ _
    omega
  obtain ⟨h31, h32⟩ := h3; obtain ⟨D, hD⟩ : ∃ D, a.tdiv b = D := ⟨_, rfl⟩; obtain ⟨E, hE⟩ : ∃ E, D * b = E := ⟨_, rfl⟩; rw [hD] at HD h5 h6 h31 h32; rw [hE] at HD h6; have w1 : IntKind.i64.wrap D = D := w64 _ (by omega) (by omega); have w2 : IntKind.i64.wrap E = E := w64 _ (by omega) (by omega); have w3 : IntKind.i64.wrap (D - 1) = D - 1 := w64 _ (by omega) (by omega); clear h5 h6 h31 h32 h2 h2b
  by_cases h : E > a
  · have H := Lib.hid (show a / b = D - 1 by rw [← HD.out, if_pos h])
    go_enter Tryz.func81, Tryz.ntmps81
    go_wp2; go_ret; exact ⟨by rw [H.out]; rfl, rfl⟩
  · have H := Lib.hid (show a / b = D by rw [← HD.out, if_neg h])
    go_enter Tryz.func81, Tryz.ntmps81
    go_wp2; go_ret; exact ⟨by rw [H.out]; rfl, rfl⟩
end Go.Proofs.YtlednchfifphgabGreatDoor
end

section
namespace Go.Proofs.YtlednchfifphgabGreatDoor
set_option linter.unusedVariables false

theorem gi_take (a : List Int) (k i : Nat) (h : i < k) : gi (a.take k) i = gi a i := by
  unfold gi; rw [List.getD_eq_getElem?_getD, List.getElem?_take, if_pos h, ← List.getD_eq_getElem?_getD]
end Go.Proofs.YtlednchfifphgabGreatDoor
end

section
namespace Go.Proofs.YtlednchfifphgabGreatDoor
open Go Go.RowKit
set_option linter.unusedVariables false
theorem wq_not {P : Program} {C : World → Prop} {ops : Array Oper} {Q : Act → Prop} {rest : List Oper} {a : Act} {d : Nat} {t ty : TypeId} {x : Operand} {pos : String} {af : Array Edge} {g : Option (Nat × Bool)} {b : Bool}
    (hw : Region.wanted ⟨some d, .unOp .not t x, ty, pos, af, g⟩ (yielded ops a.tmps) = true) (hx : a.eval x = .bool b)
    (hk : wpQuiet P ops C Q rest (a.put (some d) (.bool (!b)))) : wpQuiet P ops C Q (⟨some d, .unOp .not t x, ty, pos, af, g⟩ :: rest) a :=
  wq hw (q_val (o := ⟨some d, .unOp .not t x, ty, pos, af, g⟩) (.bool (!b)) (fun w _ => by unfold execOp; dsimp only; rw [hx]; simp [go_sem]) hk)
end Go.Proofs.YtlednchfifphgabGreatDoor
end

section
namespace Go.Proofs.YtlednchfifphgabGreatDoor
open Go Go.RowKit
set_option linter.unusedVariables false
section
variable {P : Program} {ops : Array Oper} {Q : Exit → Act → World → Prop} {id : Nat} {a : Act} {w : World}
theorem cl1 {a0 : Addr} {v0 : Value} (h0 : w.cell? a0 = some v0) : ∀ w', Below w.heap.size w w' → w'.cell? a0 = some v0 := fun w' hb => (hb.cell (lt_of_cellq h0)).trans h0
theorem held1 {a0 : Addr} {v0 : Value} (h0 : w.cell? a0 = some v0)
    (k : ∀ W0, Below w.heap.size w W0 → wpAnyH P .any ops Q (fun w' => w'.cell? a0 = some v0) ops.size (Array.replicate ops.size false) a W0)
    (hm : P.follows .mixedOrders = true := by kernel_rfl) : (Code.region id ops true).wp P Q a w :=
  wp_region_held_drew (S := fun w' => w'.cell? a0 = some v0) hm (cl1 h0 _ (Below.refl _ _).drew) (fun _ => k _ (Below.refl _ _).drew)
theorem cl2 {a0 a1 : Addr} {v0 v1 : Value} (h0 : w.cell? a0 = some v0) (h1 : w.cell? a1 = some v1) : ∀ w', Below w.heap.size w w' → w'.cell? a0 = some v0 ∧ w'.cell? a1 = some v1 := fun w' hb => ⟨(hb.cell (lt_of_cellq h0)).trans h0, (hb.cell (lt_of_cellq h1)).trans h1⟩
theorem held2 {a0 a1 : Addr} {v0 v1 : Value} (h0 : w.cell? a0 = some v0) (h1 : w.cell? a1 = some v1)
    (k : ∀ W0, Below w.heap.size w W0 → wpAnyH P .any ops Q (fun w' => w'.cell? a0 = some v0 ∧ w'.cell? a1 = some v1) ops.size (Array.replicate ops.size false) a W0)
    (hm : P.follows .mixedOrders = true := by kernel_rfl) : (Code.region id ops true).wp P Q a w :=
  wp_region_held_drew (S := fun w' => w'.cell? a0 = some v0 ∧ w'.cell? a1 = some v1) hm (cl2 h0 h1 _ (Below.refl _ _).drew) (fun _ => k _ (Below.refl _ _).drew)
theorem cl3 {a0 a1 a2 : Addr} {v0 v1 v2 : Value} (h0 : w.cell? a0 = some v0) (h1 : w.cell? a1 = some v1) (h2 : w.cell? a2 = some v2) : ∀ w', Below w.heap.size w w' → w'.cell? a0 = some v0 ∧ w'.cell? a1 = some v1 ∧ w'.cell? a2 = some v2 := fun w' hb => ⟨(hb.cell (lt_of_cellq h0)).trans h0, (hb.cell (lt_of_cellq h1)).trans h1, (hb.cell (lt_of_cellq h2)).trans h2⟩
theorem held3 {a0 a1 a2 : Addr} {v0 v1 v2 : Value} (h0 : w.cell? a0 = some v0) (h1 : w.cell? a1 = some v1) (h2 : w.cell? a2 = some v2)
    (k : ∀ W0, Below w.heap.size w W0 → wpAnyH P .any ops Q (fun w' => w'.cell? a0 = some v0 ∧ w'.cell? a1 = some v1 ∧ w'.cell? a2 = some v2) ops.size (Array.replicate ops.size false) a W0)
    (hm : P.follows .mixedOrders = true := by kernel_rfl) : (Code.region id ops true).wp P Q a w :=
  wp_region_held_drew (S := fun w' => w'.cell? a0 = some v0 ∧ w'.cell? a1 = some v1 ∧ w'.cell? a2 = some v2) hm (cl3 h0 h1 h2 _ (Below.refl _ _).drew) (fun _ => k _ (Below.refl _ _).drew)
theorem cl4 {a0 a1 a2 a3 : Addr} {v0 v1 v2 v3 : Value} (h0 : w.cell? a0 = some v0) (h1 : w.cell? a1 = some v1) (h2 : w.cell? a2 = some v2) (h3 : w.cell? a3 = some v3) : ∀ w', Below w.heap.size w w' → w'.cell? a0 = some v0 ∧ w'.cell? a1 = some v1 ∧ w'.cell? a2 = some v2 ∧ w'.cell? a3 = some v3 := fun w' hb => ⟨(hb.cell (lt_of_cellq h0)).trans h0, (hb.cell (lt_of_cellq h1)).trans h1, (hb.cell (lt_of_cellq h2)).trans h2, (hb.cell (lt_of_cellq h3)).trans h3⟩
theorem cl7 {a0 a1 a2 a3 a4 a5 a6 : Addr} {v0 v1 v2 v3 v4 v5 v6 : Value} (h0 : w.cell? a0 = some v0) (h1 : w.cell? a1 = some v1) (h2 : w.cell? a2 = some v2) (h3 : w.cell? a3 = some v3) (h4 : w.cell? a4 = some v4) (h5 : w.cell? a5 = some v5) (h6 : w.cell? a6 = some v6) : ∀ w', Below w.heap.size w w' → w'.cell? a0 = some v0 ∧ w'.cell? a1 = some v1 ∧ w'.cell? a2 = some v2 ∧ w'.cell? a3 = some v3 ∧ w'.cell? a4 = some v4 ∧ w'.cell? a5 = some v5 ∧ w'.cell? a6 = some v6 := fun w' hb => ⟨(hb.cell (lt_of_cellq h0)).trans h0, (hb.cell (lt_of_cellq h1)).trans h1, (hb.cell (lt_of_cellq h2)).trans h2, (hb.cell (lt_of_cellq h3)).trans h3, (hb.cell (lt_of_cellq h4)).trans h4, (hb.cell (lt_of_cellq h5)).trans h5, (hb.cell (lt_of_cellq h6)).trans h6⟩
theorem held7 {a0 a1 a2 a3 a4 a5 a6 : Addr} {v0 v1 v2 v3 v4 v5 v6 : Value} (h0 : w.cell? a0 = some v0) (h1 : w.cell? a1 = some v1) (h2 : w.cell? a2 = some v2) (h3 : w.cell? a3 = some v3) (h4 : w.cell? a4 = some v4) (h5 : w.cell? a5 = some v5) (h6 : w.cell? a6 = some v6)
    (k : ∀ W0, Below w.heap.size w W0 → wpAnyH P .any ops Q (fun w' => w'.cell? a0 = some v0 ∧ w'.cell? a1 = some v1 ∧ w'.cell? a2 = some v2 ∧ w'.cell? a3 = some v3 ∧ w'.cell? a4 = some v4 ∧ w'.cell? a5 = some v5 ∧ w'.cell? a6 = some v6) ops.size (Array.replicate ops.size false) a W0)
    (hm : P.follows .mixedOrders = true := by kernel_rfl) : (Code.region id ops true).wp P Q a w :=
  wp_region_held_drew (S := fun w' => w'.cell? a0 = some v0 ∧ w'.cell? a1 = some v1 ∧ w'.cell? a2 = some v2 ∧ w'.cell? a3 = some v3 ∧ w'.cell? a4 = some v4 ∧ w'.cell? a5 = some v5 ∧ w'.cell? a6 = some v6) hm (cl7 h0 h1 h2 h3 h4 h5 h6 _ (Below.refl _ _).drew) (fun _ => k _ (Below.refl _ _).drew)
end
end Go.Proofs.YtlednchfifphgabGreatDoor
end

section
namespace Go.Proofs.YtlednchfifphgabGreatDoor
open Go Go.RowKit Go.Proofs
set_option linter.unusedVariables false
set_option linter.unusedSimpArgs false
attribute [local go_sem] imax2 imin2

theorem append_keeps {P : Program} (w : World) (t ty e : TypeId) (i : TypeInfo) (z : Value) (base size bytes : Nat) (ht : P.underlying t = some (.slice e)) (hi : P.info? e = some i) (hz : i.zero = some z) (hsize : i.size = size) (hby : i.bytes = bytes)
    (g n cap : Nat) (xs : List Value) (hown : w.ownsRow base e size (.slice (some ⟨g, 0, none⟩) n cap) n xs)
    (ad : Addr) (m c : Nat) (news : List Value) (hl : news.length = m * size) (hnews : ∀ j u, news[j]? = some u → w.cell? (ad.add j) = some u) (h1 : ∀ u ∈ news, u.oneCell' = true)
    (h63 : n + m ≤ maxLen) (hbytes : (n + m) * bytes ≤ 140737488355328) {v' : Value} {w' : World}
    (hr : (Builtin.append_ #[t, t] ty #[.slice (some ⟨g, 0, none⟩) n cap, .slice (some ad) m c]).run P w = .ok v' w') : ∀ j u, xs[j]? = some u → w'.cell? ⟨g, j, none⟩ = some u := by
  subst hsize; subst hby
  have holds := hown.cells (g := g) rfl
  have hlt : g < w.heap.size := by
    obtain ⟨g', _, h, _, h2⟩ := (show ∃ g' cap', (Value.slice (some ⟨g, 0, none⟩) n cap) = .slice (some ⟨g', 0, none⟩) n cap' ∧ base ≤ g' ∧ g' < w.heap.size from by
      rcases hown.2 with ⟨h, _⟩ | ⟨g', cap', cur, h, hbg, hg, _⟩
      · cases h
      · refine ⟨g', cap', h, hbg, ?_⟩
        rcases Nat.lt_or_ge g' w.heap.size with h1 | h1
        · exact h1
        · rw [Array.getElem?_eq_none h1] at hg; cases hg)
    cases h; exact h2
  rcases hown.2 with ⟨h, _⟩ | ⟨g', cap', cur, h, hbg, hg, hnc, hcm, hcs, htake⟩
  · cases h
  · cases h
    by_cases hroom : n + m ≤ cap
    · have hfit : n * i.size + news.length ≤ cur.size := by rw [hl, hcs, ← Nat.add_mul]; exact Nat.mul_le_mul_right _ hroom
      rw [run_append_room (P := P) w t ty e i ht hi g n cap cur hg ad m c news hl hnews h1 hroom hfit] at hr
      cases hr
      intro j u hj; rw [cell_of_row _ g j _ e (0, 0) (setRow_heap w g cur _ e _ hg), htake]; have hj' : j < xs.length := (List.getElem?_eq_some_iff.1 hj).1; simp only [List.getElem?_toArray]; rw [List.append_assoc, List.getElem?_append_left hj']; exact hj
    · have hsmall : n + m ≤ 9223372036854775807 := by simp only [maxLen] at h63; omega
      rw [run_append_grow (P := P) w t ty e i z ht hi hz ⟨g, 0, none⟩ n cap xs hown.1 holds ad m c news hl hnews (by omega) (by omega) (growslice_fits (by omega) hbytes)] at hr
      cases hr
      intro j u hj; have h := holds j u hj; rw [add_new] at h; rw [World.cell?_alloc_lt _ _ _ (by simpa using hlt)]; exact h
theorem step_append_keep {P : Program} (w : World) {ops : Array Oper} {o : Oper} {a : Act} {K : Act → World → Prop} {Q : Exit → Act → World → Prop} {E : Prop} (hgd : o.guard = none) (s x : Operand) (t : TypeId)
    (ho : o.op = .call { callee := .builtin .append, args := #[s, x], argTypes := #[t, t] })
    (base : Nat) (e : TypeId) (i : TypeInfo) (z : Value) (size bytes : Nat) (ht : P.underlying t = some (.slice e)) (hi : P.info? e = some i) (hz : i.zero = some z)
    (hsize : i.size = size) (hby : i.bytes = bytes) (hzs : z.cells.size = size) (hsz : 0 < size)
    (g n cap : Nat) (xs : List Value) (hs : a.eval s = .slice (some ⟨g, 0, none⟩) n cap) (hown : w.ownsRow base e size (.slice (some ⟨g, 0, none⟩) n cap) n xs)
    (ad : Addr) (m c : Nat) (news : List Value) (hx : a.eval x = .slice (some ad) m c) (hl : news.length = m * size) (hnews : ∀ j u, news[j]? = some u → w.cell? (ad.add j) = some u) (h1 : ∀ u ∈ news, u.oneCell' = true)
    (h63 : n + m ≤ maxLen) (hbytes : (n + m) * bytes ≤ 140737488355328) (hbase : base ≤ w.heap.size)
    (h : ∀ v' w', w'.ownsRow base e size v' (n + m) (xs ++ news) → w.grownBy w' (some g) → (∀ j u, xs[j]? = some u → w'.cell? ⟨g, j, none⟩ = some u) → K (a.put o.dst v') w') :
    if Region.wanted o (yielded ops a.tmps) = true then Oper.wp P o a w K Q else E := by
  have hw : Region.wanted o (yielded ops a.tmps) = true := by simp [Region.wanted, hgd]
  rw [if_pos hw]; obtain ⟨v', w', hr, h2, h3, _, h5⟩ := run_append_own_at (P := P) w base t o.type e i z size bytes ht hi hz hsize hby hzs hsz _ n xs hown ad m c news hl hnews h1 h63 hbytes hbase; have hk := append_keeps w t o.type e i z base size bytes ht hi hz hsize hby g n cap xs hown ad m c news hl hnews h1 h63 hbytes hr; unfold Oper.wp execOp; simp only [ho, resolve, invoke, builtin, Sem.run_bind, Sem.run_pure, Result.andThen_ok, List.map_toArray, List.map_cons, List.map_nil, hs, hx, hr]; exact h v' w' h2 h3 hk

def IntsPost (xs : List Int) (w : World) (e : Ending) (w' : World) : Prop :=
  ∃ g cap, e = .returned (.slice (some ⟨g, 0, none⟩) xs.length cap) ∧ w'.ownsRow w.heap.size 3 1 (.slice (some ⟨g, 0, none⟩) xs.length cap) xs.length (inV xs) ∧ Below w.heap.size w w'
theorem mv_range {pl pc : List Int} (hp : PlOk pl) (hch : Chain pl pc) (hr : ∀ i, i < pc.length → -100000 ≤ gi pc i ∧ gi pc i ≤ 100000) {m : Int} (hm : -100000 ≤ m ∧ m ≤ 100000) : ∀ k, k ≤ pl.length → -300000 ≤ gi (mvF pl pc m) k ∧ gi (mvF pl pc m) k ≤ 300000 := by
  intro k hk; have hpos : Pos pl := fun i hi => (hp.in' i hi).1
  have h1 := (mvF_chain hpos hch m).top k hk; have h2 := (mvF_chain hpos hch m).low k hk; have h3 := hp.sum k hk; rw [mvF_zero] at h1 h2; have h4 := hr 0 (by rw [hch.len]; omega); omega
set_option maxHeartbeats 800000 in
set_option maxRecDepth 100000 in
theorem r_Moved (pp : Option Addr) (cp n : Nat) (pc : List Int) (q : Option Addr) (cq : Nat) (pl : List Int) (m : Int) (w : World) (hpc : RdI w pp pc) (hn : pc.length = n) (hq : RdI w q pl) (hp : PlOk pl) (hch : Chain pl pc) (hr : ∀ i, i < pc.length → -100000 ≤ gi pc i ∧ gi pc i ≤ 100000) (hm : -100000 ≤ m ∧ m ≤ 100000) :
    Calls Tryz.prog 126 #[.slice pp n cp, .slice q pl.length cq, .int .i64 m] w (IntsPost (mvF pl pc m) w) := by
  obtain ⟨i0, hi0, hz0, hz1, hz2⟩ := info_parts infI; have hpos : Pos pl := fun i hi => (hp.in' i hi).1
  have hlen := hch.len; obtain ⟨b, off, rfl, hc⟩ := hpc.at (i := 0) (by rw [hlen]; omega); have d0 := hc 0 (by rw [hlen]; omega); rw [Nat.add_zero] at d0; have h0 := hr 0 (by rw [hlen]; omega); have hz := mvF_zero pl pc m; have HM := Lib.hid (show (mvF pl pc m).length = pl.length + 1 from mvF_len pl pc m); have HST := Lib.hid (fun (k : Nat) (hk : k < pl.length) => (mvF_stepRef (m := m) hpos hch k hk)); have HRM := Lib.hid (mv_range hp hch hr hm); have HC := Lib.hid (show ∀ i, i < pl.length + 1 → w.cell? ⟨b, off + i, none⟩ = some (.int .i64 (gi pc i)) from fun i hi => hc i (by rw [hlen]; exact hi)); have HR := Lib.hid (show ∀ i, i < pl.length + 1 → -100000 ≤ gi pc i ∧ gi pc i ≤ 100000 from fun i hi => hr i (by rw [hlen]; exact hi)); have HP := Lib.hid hp; have HQ := Lib.hid hq; obtain rfl : n = pl.length + 1 := by rw [← hn, hlen]
  obtain ⟨M, hMe⟩ : ∃ M, mvF pl pc m = M := ⟨_, rfl⟩; rw [hMe] at HM HST HRM hz ⊢; obtain ⟨X0, hX0⟩ : ∃ x, gi pc 0 = x := ⟨_, rfl⟩; rw [hX0] at d0 h0 hz; have hw0 : IntKind.i64.wrap (X0 + m) = X0 + m := w64 _ (by omega) (by omega); have hrow := World.ownsRow_lit (base := w.heap.size) (e := 3) (size := 1) w #[.int .i64 (X0 + m)] 1 (Nat.le_refl _) (by unfold maxLen; omega) (by simp); obtain ⟨w2, e2, HS2, _, _, b2⟩ := box1 w (.int .i64 (X0 + m)) 3; rw [e2] at hrow
  have HO0 := Lib.hid (show w2.ownsRow w.heap.size 3 1 (.slice (some ⟨w.heap.size, 0, none⟩) 1 1) 1 (inV (M.take 1)) by
    have : M.take 1 = [X0 + m] := by
      rw [show (1 : Nat) = 0 + 1 by rfl, List.take_succ_eq_append_getElem (by rw [HM.out]; omega), ← gi_get M 0 (by rw [HM.out]; omega), hz]; rfl
    rw [this]; exact hrow)
  have HB2 := Lib.hid b2; have hlP := hp.len; clear hpc hq hp hc hr hn hch hpos hMe hX0 hrow b2 hz hlen
  go_enter Tryz.func126, Tryz.ntmps126
  go_wp2; clear e2
  go_loopw [7, 8] (fun v i wr => ∃ k : Nat, k ≤ pl.length ∧ i = .int .i64 k ∧ (∃ g cap, v = .slice (some ⟨g, 0, none⟩) (k + 1) cap ∧ Hid (wr.ownsRow w.heap.size 3 1 (.slice (some ⟨g, 0, none⟩) (k + 1) cap) (k + 1) (inV (M.take (k + 1))))) ∧ Hid (Below w.heap.size w wr)) (fun _ i _ => pl.length - (intOf i).toNat)
  case atStart => exact ⟨0, Nat.zero_le _, rfl, ⟨_, _, rfl, HO0⟩, HB2⟩
  case round =>
    obtain ⟨k, hk, rfl, ⟨g, cap, rfl, HO⟩, HN⟩ := hrel
    by_cases hlt : k < pl.length
    · have hki : (k : Int) < (pl.length : Int) := by omega
      obtain ⟨bq, oq, rfl, hcq⟩ := HQ.out.at hlt; have HQB := Lib.hid (show bq < w.heap.size from lt_of_cellq (hcq k hlt)); have HPB := Lib.hid (show b < w.heap.size from lt_of_cellq (HC.out (k + 1) (by omega))); have HGB := Lib.hid (show w.heap.size ≤ g from (HO.out.lt g rfl).1); have e1 := (HN.out.cell (lt_of_cellq (hcq k hlt))).trans (hcq k hlt)
      have e2 : wr.cell? ⟨g, k, none⟩ = some (.int .i64 (gi M k)) := by
        have h := own_cell HO.out (j := k) (by rw [List.length_take, HM.out]; omega); rw [gi_take _ _ _ (by omega)] at h; exact h
      have h0k : (0 : Int) ≤ (k : Int) := by omega
      have hkk : (k : Int) < (k : Int) + 1 := by omega
      have hkk1 : (0 : Int) ≤ (k : Int) + 1 := by omega
      have hkk2 : (k : Int) + 1 < (pl.length : Int) + 1 := by omega
      have e3 := (HN.out.cell (lt_of_cellq (HC.out (k + 1) (by omega)))).trans (HC.out (k + 1) (by omega)); have hst := HST.out k hlt; have hr1 := HRM.out k hk; have hr2 := HR.out (k + 1) (by omega); have hr3 := HP.out.in' k hlt
      have HT := Lib.hid (show inV (M.take (k + 1 + 1)) = inV (M.take (k + 1)) ++ [.int .i64 (gi M (k + 1))] by
        rw [List.take_succ_eq_append_getElem (by rw [HM.out]; omega), inV_append, gi_get M (k + 1) (by rw [HM.out]; omega)]; rfl)
      obtain ⟨A, hA⟩ : ∃ A, gi M k = A := ⟨_, rfl⟩; obtain ⟨X, hX⟩ : ∃ X, gi pc (k + 1) = X := ⟨_, rfl⟩; obtain ⟨Y, hY⟩ : ∃ Y, gi M (k + 1) = Y := ⟨_, rfl⟩; obtain ⟨P, hP⟩ : ∃ P, gi pl k = P := ⟨_, rfl⟩; have HMA := Lib.hid hA; rw [hA] at e2 hst hr1; rw [hX] at e3 hst hr2; rw [hY] at hst HT; rw [hP] at e1 hst hr3; have HSQ := Lib.hid hst; have hw1 : IntKind.i64.wrap (A - P) = A - P := w64 _ (by omega) (by omega); have hw2 : IntKind.i64.wrap ((k : Int) + 1) = (k : Int) + 1 := w64 _ (by omega) (by omega); have HKS := Lib.hid (show (k : Int) + 1 = ((k + 1 : Nat) : Int) by omega); clear hcq hA hX hY hP hst; go_wp2; have HSB := Lib.hid (cl3 e1 e2 e3); refine held3 e1 e2 e3 (fun W0 HB0 => ?_); refine tk 0 rfl (by exact HSB.out _ HB0) ?_; (try simp only [Act.put, ptL]); refine tk 1 rfl (by exact HSB.out _ HB0) ?_; (try simp only [Act.put, ptL]); refine tk 2 rfl (by exact HSB.out _ HB0) ?_; (try simp only [Act.put, ptL]); refine tk 3 rfl (by exact HSB.out _ HB0) ?_; (try simp only [Act.put, ptL]); refine tk 4 rfl (by exact HSB.out _ HB0) ?_; (try simp only [Act.put, ptL]); refine tk 5 rfl (by exact HSB.out _ HB0) ?_; (try simp only [Act.put, ptL]); refine tk 6 rfl (by exact HSB.out _ HB0) ?_; (try simp only [Act.put, ptL]); refine tk 7 rfl (by exact HSB.out _ HB0) ?_; (try simp only [Act.put, ptL]); refine tk 8 rfl (by exact HSB.out _ HB0) ?_; (try simp only [Act.put, ptL]); refine tk 9 rfl (by exact HSB.out _ HB0) ?_; (try simp only [Act.put, ptL]); refine tk 10 rfl (by exact HSB.out _ HB0) ?_; (try simp only [Act.put, ptL]); refine tk 11 rfl (by exact HSB.out _ HB0) ?_; (try simp only [Act.put, ptL]); refine tk 12 rfl (by exact HSB.out _ HB0) ?_; (try simp only [Act.put, ptL]); refine tk 13 rfl (by exact HSB.out _ HB0) ?_; (try simp only [Act.put, ptL]); refine tk 14 rfl (by exact HSB.out _ HB0) ?_; (try simp only [Act.put, ptL]); refine tk 15 rfl (by exact HSB.out _ HB0) ?_; (try simp only [Act.put, ptL]); refine tk 16 rfl (by exact HSB.out _ HB0) ?_; (try simp only [Act.put, ptL]); refine tk 17 rfl (by exact HSB.out _ HB0) ?_; (try simp only [Act.put, ptL]); refine tk 18 rfl (by exact HSB.out _ HB0) ?_; (try simp only [Act.put, ptL]); refine tk 19 rfl (by exact HSB.out _ HB0) ?_; (try simp only [Act.put, ptL]); refine tk 20 rfl (by exact HSB.out _ HB0) ?_; (try simp only [Act.put, ptL])
      refine rz1 21 rfl ?_; intro K hK; go_simp; refine kz hK (by exact HSB.out _ (HB0.alloc HB0.size _)) ?_; clear hK K; (try simp only [Act.put, ptL]); have hO1 := (own_kept HO.out HB0).alloc (.cells #[.int .i64 (min A (max (A - P) X))] 3); have hB1 := HB0.alloc HB0.size (.cells #[.int .i64 (min A (max (A - P) X))] 3); refine rz1 22 rfl ?_; intro K hK; refine step_append_keep _ rfl _ _ 23 rfl w.heap.size 3 i0 _ 1 8 Tryz.underlying23 hi0 hz0 hz1 hz2 rfl (by decide) g (k + 1) cap _ rfl hO1 ⟨W0.heap.size, 0, none⟩ 1 1 [.int .i64 (min A (max (A - P) X))] rfl rfl (news_of W0 _ _) (by intro u hu; simp at hu; subst hu; rfl) (by unfold maxLen; omega) (by omega) (by have := HN.out.size; have := hB1.size; omega) ?_; intro v' w3 hown' hgrow hkeep; have hB3 := (HN.out.trans (hB1.mono HN.out.size)).grown hgrow (by have := HN.out.size; have := hB1.size; omega) (fun j hj => (hO1.lt j hj).1); have f2 := hkeep k (.int .i64 A) (by rw [inV_get _ _ (by rw [List.length_take, HM.out]; omega), gi_take _ _ _ (by omega), HMA.out])
      have f1 := (hgrow.cell_far ⟨bq, oq + k, none⟩ (lt_of_cellq ((hB1.cell (lt_of_cellq e1)).trans e1)) (by have := HQB.out; have := HGB.out; simp; omega)).trans ((hB1.cell (lt_of_cellq e1)).trans e1); have f3 := (hgrow.cell_far ⟨b, off + (k + 1), none⟩ (lt_of_cellq ((hB1.cell (lt_of_cellq e3)).trans e3)) (by have := HPB.out; have := HGB.out; simp; omega)).trans ((hB1.cell (lt_of_cellq e3)).trans e3); refine kz hK (by exact ⟨f1, f2, f3⟩) ?_; clear hK K; (try simp only [Act.put, ptL]); obtain ⟨g', cap', rfl⟩ := own_form hown'; refine tk 23 rfl (by exact ⟨f1, f2, f3⟩) ?_; (try simp only [Act.put, ptL]); refine wpAnyH_done (by kernel_rfl) ?_ _; have HO' := Lib.hid hown'; have HN' := Lib.hid hB3; clear hown' hgrow hkeep f1 f2 f3 hO1 hB1 hB3 HB0 HSB e1 e2 e3; go_wp2; go_roundw
      case rel =>
        refine ⟨k + 1, by omega, by go_num, ⟨g', cap', rfl, Lib.hid ?_⟩, HN'⟩; rw [HT.out, HSQ.out]; exact HO'.out
      case measure => simp [intOf]; omega
    · obtain rfl : k = pl.length := by omega
      have hki : ¬ (pl.length : Int) < (pl.length : Int) := by omega
      go_wp2; go_ret; refine ⟨g, cap, by rw [HM.out]; rfl, ?_, HN.out⟩; have h := HO.out; rw [List.take_of_length_le (by rw [HM.out]; exact Nat.le_refl _)] at h; rw [HM.out]; exact h
def ElV (w : World) (B : Nat) (css : List (List Int)) (hs : List Value) : Prop := hs.length = css.length ∧ ∀ i, i < css.length → ∃ v, hs[i]? = some v ∧ w.ownsRow B 3 1 v (gl css i).length (inV (gl css i))
theorem ElV.below {w w' : World} {B : Nat} {css : List (List Int)} {hs : List Value} (h : ElV w B css hs) (hb : Below w.heap.size w w') : ElV w' B css hs := by
  refine ⟨h.1, fun i hi => ?_⟩; obtain ⟨v, e1, e2⟩ := h.2 i hi; exact ⟨v, e1, own_kept e2 hb⟩
theorem ElV.mono {w : World} {B B' : Nat} {css : List (List Int)} {hs : List Value} (h : ElV w B css hs) (hB : B' ≤ B) : ElV w B' css hs := by
  refine ⟨h.1, fun i hi => ?_⟩; obtain ⟨v, e1, e2⟩ := h.2 i hi; exact ⟨v, e1, own_mono e2 hB⟩
theorem ElV.grown {w w' : World} {B B' n size e : Nat} {css : List (List Int)} {hs xs : List Value} {v : Value} (h : ElV w B css hs) (ho : w.ownsRow B' e size v n xs) (he : e ≠ 3) (hg : w.grownBy w' v.ownBlock) : ElV w' B css hs := by
  refine ⟨h.1, fun i hi => ?_⟩; obtain ⟨u, e1, e2⟩ := h.2 i hi; exact ⟨u, e1, e2.kept hg (own_apart e2 ho (Ne.symm he))⟩
theorem ElV.snoc {w : World} {B : Nat} {css : List (List Int)} {hs : List Value} {x : List Int} {v : Value} (h : ElV w B css hs) (hx : w.ownsRow B 3 1 v x.length (inV x)) : ElV w B (css ++ [x]) (hs ++ [v]) := by
  refine ⟨by simp [h.1], fun i hi => ?_⟩; rw [List.length_append, List.length_singleton] at hi; rw [gl_snoc]
  by_cases h1 : i < css.length
  · obtain ⟨u, e1, e2⟩ := h.2 i h1
    rw [if_pos h1]; exact ⟨u, by rw [List.getElem?_append_left (by rw [h.1]; omega)]; exact e1, e2⟩
  · obtain rfl : i = css.length := by omega
    rw [if_neg h1, if_pos rfl]; exact ⟨v, by rw [← h.1]; simp, hx⟩
def OwLs (w : World) (B : Nat) (v : Value) (ls : List (List Int)) : Prop := ∃ hs, w.ownsRow B 23 1 v ls.length hs ∧ ElV w B ls hs
theorem OwLs.nil (w : World) (B : Nat) : OwLs w B (.slice none 0 0) [] := ⟨[], World.ownsRow_nil _ _ _ _, rfl, fun i hi => by simp at hi⟩
theorem OwLs.below {w w' : World} {B : Nat} {v : Value} {ls : List (List Int)} (h : OwLs w B v ls) (hb : Below w.heap.size w w') : OwLs w' B v ls := by
  obtain ⟨hs, h1, h2⟩ := h; exact ⟨hs, own_kept h1 hb, h2.below hb⟩
theorem OwLs.mono {w : World} {B B' : Nat} {v : Value} {ls : List (List Int)} (h : OwLs w B v ls) (hB : B' ≤ B) : OwLs w B' v ls := by
  obtain ⟨hs, h1, h2⟩ := h; exact ⟨hs, own_mono h1 hB, h2.mono hB⟩
theorem OwLs.read {w : World} {B : Nat} {v : Value} {ls : List (List Int)} (h : OwLs w B v ls) : ∃ q c, v = .slice q ls.length c ∧ RdLs w q ls := by
  obtain ⟨hs, h1, h2⟩ := h
  rcases h1.2 with ⟨rfl, h0⟩ | ⟨g, cap, cur, rfl, hrest⟩
  · have : ls = [] := List.length_eq_zero_iff.1 h0
    subst this; exact ⟨none, 0, rfl, .inl rfl⟩
  · refine ⟨some ⟨g, 0, none⟩, cap, rfl, .inr ⟨g, 0, rfl, fun i hi => ?_⟩⟩
    obtain ⟨u, e1, e2⟩ := h2.2 i hi; obtain ⟨q, c, hu, hr⟩ := rd_of_own e2; subst hu; have h3 := h1.cells (g := g) rfl i _ e1; rw [add_new] at h3; exact ⟨q, c, by rw [Nat.zero_add]; exact h3, hr⟩
def LsPost (ls : List (List Int)) (w : World) (e : Ending) (w' : World) : Prop := (∃ v, e = .returned v ∧ OwLs w' w.heap.size v ls) ∧ Below w.heap.size w w'
end Go.Proofs.YtlednchfifphgabGreatDoor
end

section
namespace Go.Proofs.YtlednchfifphgabGreatDoor
open Go Go.RowKit Go.Proofs
set_option linter.unusedVariables false
set_option linter.unusedSimpArgs false
attribute [local go_sem] imax2 imin2

set_option maxHeartbeats 1600000 in
set_option maxRecDepth 100000 in
theorem r_Run (pm pv pr : Option Addr) (cm cv cr : Nat) (p : Pc) (q : Option Addr) (cq : Nat) (pl : List Int) (w : World) (hp : RdP w pm pv pr p) (hq : RdI w q pl) (hpo : PieceOk p) (hpl : PlaysOk p pl) :
    Calls Tryz.prog 80 #[.agg #[.slice pm p.ms.length cm, .slice pv p.mv.length cv, .slice pr p.rs.length cr], .slice q pl.length cq] w (LsPost (allF pl p.mv p.mv.length) w) := by
  obtain ⟨i0, hi0, hz0, hz1, hz2⟩ := info_parts infI; obtain ⟨j0, hj0, hy0, hy1, hy2⟩ := info_parts infL; obtain ⟨w1, e1, HS1, k0, k1, k2, b1⟩ := box3 w (.slice pm p.ms.length cm) (.slice pv p.mv.length cv) (.slice pr p.rs.length cr) 26; have hpk := hpl.plok hpo
  have hrow : (w1.alloc (.cells #[.int .i64 0] 3)).ownsRow w1.heap.size 3 1 (.slice (some ⟨w1.heap.size, 0, none⟩) 1 1) 1 (inV (begTo pl 0)) := by
    rw [begTo_zero]; exact World.ownsRow_lit w1 #[.int .i64 0] 1 (Nat.le_refl _) (by unfold maxLen; omega) (by simp)
  obtain ⟨w2, e2, HS2, _, _, b2⟩ := box1 w1 (.int .i64 0) 3; rw [e2] at hrow; have HO0 := Lib.hid hrow; have HB2 := Lib.hid b2; have HB1 := Lib.hid b1; have HV := Lib.hid (hp.mv.below b1); have HQ := Lib.hid (hq.below b1); have HP := Lib.hid hpk; have HPO := Lib.hid hpo; have HPL := Lib.hid hpl; have K1 := Lib.hid k1; have hl := hpk.len; clear hp hq hpo hpl hpk hrow b1 b2 k0 k1 k2
  go_enter Tryz.func80, Tryz.ntmps80
  go_wp2; clear e1 e2
  go_loopw [5, 6] (fun v i wr => ∃ k : Nat, k ≤ pl.length ∧ i = .int .i64 k ∧ (∃ g cap, v = .slice (some ⟨g, 0, none⟩) (k + 1) cap ∧ Hid (wr.ownsRow w1.heap.size 3 1 (.slice (some ⟨g, 0, none⟩) (k + 1) cap) (k + 1) (inV (begTo pl k)))) ∧ Below w1.heap.size w1 wr) (fun _ i _ => pl.length - (intOf i).toNat)
  case atStart => exact ⟨0, by omega, rfl, ⟨w1.heap.size, 1, rfl, HO0⟩, HB2.out⟩
  case round =>
    obtain ⟨k, hk, rfl, ⟨g, cap, rfl, HO⟩, hnx⟩ := hrel; have HN := Lib.hid hnx
    by_cases hlt : k < pl.length
    · have hki : (k : Int) < (pl.length : Int) := by omega
      have h0k : (0 : Int) ≤ (k : Int) := by omega
      have hkk : (k : Int) < (k : Int) + 1 := by omega
      obtain ⟨b, off, rfl, hc⟩ := HQ.out.at hlt; have HQB := Lib.hid (show b < w1.heap.size from lt_of_cellq (hc k hlt)); have HGB := Lib.hid (show w1.heap.size ≤ g from (HO.out.lt g rfl).1); have e1 := (HN.out.cell (lt_of_cellq (hc k hlt))).trans (hc k hlt); have e2 := own_cell HO.out (j := k) (by rw [begTo_len]; omega); have hsk := HP.out.sum k (by omega); have hsp := HP.out.in' k hlt; have HE := Lib.hid (begTo_at pl k k (Nat.le_refl _)); have hw : IntKind.i64.wrap (gi (begTo pl k) k - gi pl k) = gi (begTo pl k) k - gi pl k := by rw [HE.out]; exact w64 _ (by omega) (by omega)
      have HT := Lib.hid (begTo_succ pl k); have HBL := Lib.hid (begTo_len pl k); obtain ⟨A, hA⟩ : ∃ A, gi (begTo pl k) k = A := ⟨_, rfl⟩; obtain ⟨P, hP⟩ : ∃ P, gi pl k = P := ⟨_, rfl⟩; have HMA := Lib.hid hA; rw [hA] at e2 hw HT; rw [hP] at e1 hw HT; clear hc hnx hsk hsp hA hP HE; go_wp2; have HSB := Lib.hid (cl2 e1 e2); refine held2 e1 e2 (fun W0 HB0 => ?_); refine tk 0 rfl (by exact HSB.out _ HB0) ?_; (try simp only [Act.put, ptL]); refine tk 1 rfl (by exact HSB.out _ HB0) ?_; (try simp only [Act.put, ptL]); refine tk 2 rfl (by exact HSB.out _ HB0) ?_; (try simp only [Act.put, ptL]); refine tk 3 rfl (by exact HSB.out _ HB0) ?_; (try simp only [Act.put, ptL]); refine tk 4 rfl (by exact HSB.out _ HB0) ?_; (try simp only [Act.put, ptL]); refine tk 5 rfl (by exact HSB.out _ HB0) ?_; (try simp only [Act.put, ptL]); refine tk 6 rfl (by exact HSB.out _ HB0) ?_; (try simp only [Act.put, ptL]); refine tk 7 rfl (by exact HSB.out _ HB0) ?_; (try simp only [Act.put, ptL]); refine tk 8 rfl (by exact HSB.out _ HB0) ?_; (try simp only [Act.put, ptL]); refine tk 9 rfl (by exact HSB.out _ HB0) ?_; (try simp only [Act.put, ptL])
      refine rz1 10 rfl ?_; intro K hK; go_simp; refine kz hK (by exact HSB.out _ (HB0.alloc HB0.size _)) ?_; clear hK K; (try simp only [Act.put, ptL]); have hO1 := (own_kept HO.out HB0).alloc (.cells #[.int .i64 (A - P)] 3); have hB1 := HB0.alloc HB0.size (.cells #[.int .i64 (A - P)] 3); refine rz1 11 rfl ?_; intro K hK; refine step_append_keep _ rfl _ _ 23 rfl w1.heap.size 3 i0 _ 1 8 Tryz.underlying23 hi0 hz0 hz1 hz2 rfl (by decide) g (k + 1) cap _ rfl hO1 ⟨W0.heap.size, 0, none⟩ 1 1 [.int .i64 (A - P)] rfl rfl (news_of W0 _ _) (by intro u hu; simp at hu; subst hu; rfl) (by unfold maxLen; omega) (by omega) (by have := HN.out.size; have := hB1.size; omega) ?_; intro v' w3 hown' hgrow hkeep; have hB3 := (HN.out.trans (hB1.mono HN.out.size)).grown hgrow (by have := HN.out.size; have := hB1.size; omega) (fun j hj => (hO1.lt j hj).1); have f2 := hkeep k (.int .i64 A) (by rw [inV_get _ _ (by rw [HBL.out]; omega), HMA.out])
      have f1 := (hgrow.cell_far ⟨b, off + k, none⟩ (lt_of_cellq ((hB1.cell (lt_of_cellq e1)).trans e1)) (by have := HQB.out; have := HGB.out; simp; omega)).trans ((hB1.cell (lt_of_cellq e1)).trans e1); refine kz hK (by exact ⟨f1, f2⟩) ?_; clear hK K; (try simp only [Act.put, ptL]); obtain ⟨g', cap', rfl⟩ := own_form hown'; refine tk 12 rfl (by exact ⟨f1, f2⟩) ?_; (try simp only [Act.put, ptL]); refine wpAnyH_done (by kernel_rfl) ?_ _; have HO' := Lib.hid hown'; have HN' := Lib.hid hB3; clear hown' hgrow hkeep f1 f2 hO1 hB1 hB3 HB0 HSB e1 e2; go_wp2; go_roundw
      case rel =>
        refine ⟨k + 1, by omega, by go_num, ⟨g', cap', rfl, Lib.hid ?_⟩, HN'.out⟩; rw [HT.out, inV_append]; exact HO'.out
      case measure => simp [intOf]; omega
    · obtain rfl : k = pl.length := by omega
      obtain ⟨wn, rfl⟩ : ∃ wn : World, wn = wr := ⟨_, rfl⟩; obtain ⟨w3, e3, HS3, _, _, b3⟩ := box1 wn (.slice (some ⟨g, 0, none⟩) (pl.length + 1) cap) 23; have hrow3 := World.ownsRow_lit (base := w1.heap.size) (e := 23) (size := 1) wn #[.slice (some ⟨g, 0, none⟩) (pl.length + 1) cap] 1 hnx.size (by unfold maxLen; omega) (by simp); rw [e3] at hrow3; have ho3 := own_kept HO.out b3; rw [begTo_all] at ho3; have HOW := Lib.hid (show w3.ownsRow w1.heap.size 23 1 (.slice (some ⟨wn.heap.size, 0, none⟩) (0 + 1) 1) (0 + 1) [.slice (some ⟨g, 0, none⟩) (pl.length + 1) cap] from hrow3)
      have HEL := Lib.hid (show ElC w3 w1.heap.size (allF pl p.mv 0) [.slice (some ⟨g, 0, none⟩) (pl.length + 1) cap] by
        rw [allF_zero]; refine ⟨rfl, fun i hi => ?_⟩; obtain rfl : i = 0 := by simp at hi; exact hi
        have e : (gl [begF pl] 0).length = pl.length + 1 := begF_len pl; rw [e]; exact ⟨g, cap, rfl, ho3⟩)
      have HR0 := Lib.hid (show RdI w3 (some ⟨g, 0, none⟩) (runF pl p.mv 0) from rd_of_own0 ho3); have HB3 := Lib.hid (show Below w1.heap.size w1 w3 from hnx.trans (b3.mono hnx.size)); clear hnx hlt b3 hrow3 ho3 HO HO0; go_wp2; clear e3
      go_loopw [5, 7, 8] (fun v o i wr => ∃ (k g1 c1 g cap : Nat) (hs : List Value), k ≤ p.mv.length ∧ i = .int .i64 k ∧ v = .slice (some ⟨g1, 0, none⟩) (pl.length + 1) c1 ∧ Hid (RdI wr (some ⟨g1, 0, none⟩) (runF pl p.mv k)) ∧ o = .slice (some ⟨g, 0, none⟩) (k + 1) cap ∧ Hid (wr.ownsRow w1.heap.size 23 1 (.slice (some ⟨g, 0, none⟩) (k + 1) cap) (k + 1) hs) ∧ Hid (ElC wr w1.heap.size (allF pl p.mv k) hs) ∧ Hid (Below w1.heap.size w1 wr)) (fun _ _ i _ => p.mv.length - (intOf i).toNat)
      case atStart => exact ⟨0, g, cap, wn.heap.size, 1, [.slice (some ⟨g, 0, none⟩) (pl.length + 1) cap], by omega, rfl, rfl, HR0, rfl, HOW, HEL, HB3⟩
      case round =>
        obtain ⟨k, g1, c1, g, cap, hs, hk, rfl, rfl, HRN, rfl, HO, HE, HN⟩ := hrel; have k1 := (HN.out.cell (lt_of_cellq K1.out)).trans K1.out
        by_cases hlt : k < p.mv.length
        · have hki : (k : Int) < (p.mv.length : Int) := by omega
          obtain ⟨b, off, rfl, hc⟩ := (HV.out.below HN.out).at hlt; have e1 := hc k hlt; have hm := HPO.out.move k hlt; have hch := runF_chain HPL.out.pos p.mv k
          have HCL := Lib.hid (r_Moved (some ⟨g1, 0, none⟩) c1 (pl.length + 1) (runF pl p.mv k) q cq pl (gi p.mv k) wr HRN.out hch.len (HQ.out.below HN.out) HP.out hch (fun i hi => by
            have := place_range HPO.out HPL.out k i (by omega) (by have := hch.len; omega); omega) (by omega))
          have hm8 := (piece_len HPO.out).2.1; clear hc hm hch; go_wp2_with fail; refine HCL.out.mono ?_; rintro e w4 ⟨g2, c2, he, ho4, b4⟩; rw [mvF_len] at he ho4; subst he; have HO4 := Lib.hid (own_kept HO.out b4); have HE4 := Lib.hid (HE.out.below b4); have HX4 := Lib.hid (own_mono ho4 HN.out.size); have HN4 := Lib.hid (HN.out.trans (b4.mono HN.out.size)); clear ho4 b4; go_wp2_with (at_builtin; refine wpList_append_own _ rfl _ _ 43 rfl w1.heap.size 23 j0 _ 1 24 Tryz.underlying43 hj0 hy0 hy1 hy2 rfl (by decide) _ _ _ rfl (HO4.out.alloc _) ⟨w4.heap.size, 0, none⟩ 1 1 [.slice (some ⟨g2, 0, none⟩) (pl.length + 1) c2] rfl rfl ?c1 ?c2 ?c3 ?c4 ?c5 ?_)
          case c1 => exact news_of _ _ _
          case c2 => intro u hu; simp at hu; subst hu; rfl
          case c3 => unfold maxLen; omega
          case c4 => omega
          case c5 => have := HN4.out.size; simp; omega
          intro v' w7 hown' hgrow _; obtain ⟨g', cap', rfl⟩ := own_form hown'; have HO7 := Lib.hid hown'; have HN7 := Lib.hid ((HN4.out.alloc HN4.out.size _).grown hgrow (by have := HN4.out.size; simp; omega) (fun j hj => (HO4.out.lt j hj).1)); have h3 := own_kept HX4.out (below_alloc1 w4 (.cells #[.slice (some ⟨g2, 0, none⟩) (pl.length + 1) c2] 23)); have h2 := h3.kept hgrow (own_apart h3 (HO4.out.alloc _) (by decide)); have HR7 := Lib.hid (show RdI w7 (some ⟨g2, 0, none⟩) (runF pl p.mv (k + 1)) from rd_of_own0 h2)
          have HE7 := Lib.hid (show ElC w7 w1.heap.size (allF pl p.mv (k + 1)) (hs ++ [.slice (some ⟨g2, 0, none⟩) (pl.length + 1) c2]) by
            have h1 := (HE4.out.below (below_alloc1 w4 (.cells #[.slice (some ⟨g2, 0, none⟩) (pl.length + 1) c2] 23))).grown (HO4.out.alloc _) (by decide) hgrow; have hl : (runF pl p.mv (k + 1)).length = pl.length + 1 := mvF_len _ _ _; rw [allF_succ, ← hl]; refine h1.snoc ?_; rw [hl]; exact h2)
          clear hown' hgrow h2 h3; go_wp2; go_roundw
          case rel => exact ⟨k + 1, g2, c2, g', cap', _, by omega, by go_num, rfl, HR7, rfl, HO7, HE7, HN7⟩
          case measure => simp [intOf]; omega
        · obtain rfl : k = p.mv.length := by omega
          have hki : ¬ (p.mv.length : Int) < (p.mv.length : Int) := by omega
          go_wp2; go_ret; refine ⟨⟨_, rfl, hs, ?_, ?_⟩, HB1.out.trans (HN.out.mono HB1.out.size)⟩
          · rw [allF_len]; exact own_mono HO.out HB1.out.size
          · refine ⟨HE.out.1, fun i hi => ?_⟩
            obtain ⟨u, c, h1, h2⟩ := HE.out.2 i hi; exact ⟨_, h1, own_mono h2 HB1.out.size⟩
end Go.Proofs.YtlednchfifphgabGreatDoor
end

section
namespace Go.Proofs.YtlednchfifphgabGreatDoor
open Go Go.RowKit Go.Proofs
set_option linter.unusedVariables false
set_option linter.unusedSimpArgs false
attribute [local go_sem] imax2 imin2

theorem fits_no {p : Pc} {pl : List Int} (h : withinB p pl = false) : fitsB p pl = false := by unfold fitsB; rw [h]; rfl
set_option maxHeartbeats 1600000 in
set_option maxRecDepth 100000 in
theorem r_Fits (pm pv pr : Option Addr) (cm cv cr : Nat) (p : Pc) (q : Option Addr) (cq : Nat) (pl : List Int) (w : World) (hp : RdP w pm pv pr p) (hq : RdI w q pl) (hpo : PieceOk p) (hpl : PlaysOk p pl) :
    Calls Tryz.prog 28 #[.agg #[.slice pm p.ms.length cm, .slice pv p.mv.length cv, .slice pr p.rs.length cr], .slice q pl.length cq] w fun e w' => e = .returned (.bool (fitsB p pl)) ∧ Below w.heap.size w w' := by
  obtain ⟨w1, e1, HS1, k0, k1, k2, b1⟩ := box3 w (.slice pm p.ms.length cm) (.slice pv p.mv.length cv) (.slice pr p.rs.length cr) 26; have HP := Lib.hid (hp.below b1); have HQ := Lib.hid (hq.below b1); have HB := Lib.hid b1; have HPO := Lib.hid hpo; have HPL := Lib.hid hpl; have HLN := Lib.hid (piece_len hpo); have HPN := Lib.hid hpl.len; have hrl6 : p.rs.length ≤ 1000 := by have := (piece_len hpo).2.2; omega
  clear hp hq b1 hpo hpl
  go_enter Tryz.func28, Tryz.ntmps28
  go_wp2_with fail; refine (r_Within pm pv pr cm cv cr p q cq pl _ HP.out.ms HQ.out (by rw [HPN.out]; exact Nat.le_refl _) (by have := HLN.out.1; omega)).mono ?_; clear e1
  rcases hw : withinB p pl with _ | _
  · have H := Lib.hid (fits_no hw)
    clear hw; rintro e wn ⟨rfl, bq⟩; have HBB := Lib.hid (HB.out.trans (bq.mono HB.out.size)); clear bq; go_wp2; go_ret; exact ⟨by rw [H.out]; rfl, HBB.out⟩
  have HW := Lib.hid hw; clear hw; rintro e wn ⟨rfl, bq⟩; replace HB := Lib.hid (HB.out.trans (bq.mono HB.out.size)); replace HP := Lib.hid (HP.out.below bq); replace HQ := Lib.hid (HQ.out.below bq); have k0 := (bq.cell (lt_of_cellq k0)).trans k0; have k1 := (bq.cell (lt_of_cellq k1)).trans k1; have k2 := (bq.cell (lt_of_cellq k2)).trans k2; clear bq; go_wp2_with fail; refine (r_Run pm pv pr cm cv cr p q cq pl _ HP.out HQ.out HPO.out HPL.out).mono ?_; rintro e w2 ⟨⟨v, rfl, ho⟩, bq⟩; obtain ⟨lq, lc, rfl, hls⟩ := ho.read; have HL := Lib.hid hls; rw [allF_len]; have k2 := (bq.cell (lt_of_cellq k2)).trans k2; have HR := Lib.hid (HP.out.rs.below bq); have HB2 := Lib.hid (HB.out.trans (bq.mono HB.out.size)); clear ho hls bq HP HQ k0 k1; go_wp2
  go_loopw [6] (fun v wr => ∃ k : Nat, k ≤ p.rs.length ∧ v = .int .i64 k ∧ Hid (∀ j, j < k → agreeB pl p.mv (gr p.rs j) = true) ∧ Hid (Below w2.heap.size w2 wr)) (fun v _ => p.rs.length - (intOf v).toNat)
  case atStart => exact ⟨0, Nat.zero_le _, rfl, Lib.hid (by intro j hj; omega), Lib.hid (Below.refl _ _)⟩
  case round =>
    obtain ⟨k, hk, rfl, HH, HN⟩ := hrel; have k2 := (HN.out.cell (lt_of_cellq k2)).trans k2
    by_cases hlt : k < p.rs.length
    · have hki : (k : Int) < (p.rs.length : Int) := by omega
      obtain ⟨b, off, rfl, hc⟩ := (HR.out.below HN.out).at hlt; obtain ⟨a0, a1, a2, a3⟩ := hc k hlt; obtain ⟨⟨ha1, ha2⟩, ⟨hb1, hb2⟩, ⟨hs1, hs2⟩, ho1, ho2⟩ := HPO.out.read k hlt; have HAG := Lib.hid (show agreeB pl p.mv (gr p.rs k) = inB (gi (runF pl p.mv (gr p.rs k).aft.toNat) (gr p.rs k).arb.toNat) ((gr p.rs k).seen - (gr p.rs k).off) ((gr p.rs k).seen + (gr p.rs k).off) from rfl)
      have HNO := Lib.hid (show agreeB pl p.mv (gr p.rs k) = false → fitsB p pl = false from fun h => by
        unfold fitsB; rw [HW.out, all_bad (f := agreeB pl p.mv) (d := rd0) (l := p.rs) hlt h]; rfl)
      obtain ⟨a, ha⟩ : ∃ a : Nat, (gr p.rs k).aft = (a : Int) := ⟨(gr p.rs k).aft.toNat, by omega⟩; obtain ⟨c, hcc⟩ : ∃ c : Nat, (gr p.rs k).arb = (c : Int) := ⟨(gr p.rs k).arb.toNat, by omega⟩; have HG := Lib.hid (show agreeB pl p.mv (gr p.rs k) = agreeB pl p.mv (gr p.rs k) from rfl); obtain ⟨S, hS⟩ : ∃ S, (gr p.rs k).seen = S := ⟨_, rfl⟩; obtain ⟨O, hO⟩ : ∃ O, (gr p.rs k).off = O := ⟨_, rfl⟩; obtain ⟨A, hA⟩ : ∃ A, agreeB pl p.mv (gr p.rs k) = A := ⟨_, rfl⟩; rw [hA] at HNO HAG HG; rw [hS] at a2 hs1 hs2 HAG; rw [hO] at a3 ho1 ho2 HAG; rw [ha] at a0 ha2 HAG; rw [hcc] at a1 hb2 HAG; rw [Int.toNat_natCast, Int.toNat_natCast] at HAG; have hpn := HPN.out; obtain ⟨bl, ol, rfl, hcl⟩ := (HL.out.below HN.out).at (i := a) (by rw [allF_len]; omega); obtain ⟨qa, ca, r0, hra⟩ := hcl a (by rw [allF_len]; omega); rw [allF_at _ _ _ _ (by omega)] at r0 hra; have hrl := (runF_chain HPL.out.pos p.mv a).len
      rw [hrl] at r0; obtain ⟨b1, o1, rfl, hc1⟩ := hra.at (i := c) (by rw [hrl]; omega); have r1 := hc1 c (by rw [hrl]; omega); obtain ⟨w4, e4, HS4, y0, y1, y2, y3, b4⟩ := box4 wr (.int .i64 (a : Int)) (.int .i64 (c : Int)) (.int .i64 S) (.int .i64 O) 116; have r0 := (b4.cell (lt_of_cellq r0)).trans r0; have r1 := (b4.cell (lt_of_cellq r1)).trans r1; have HN4 := Lib.hid (HN.out.trans (b4.mono HN.out.size)); have hw1 : IntKind.i64.wrap (S - O) = S - O := w64 _ (by omega) (by omega); have hw2 : IntKind.i64.wrap (S + O) = S + O := w64 _ (by omega) (by omega); have hai : (a : Int) < (p.mv.length : Int) + 1 := by omega
      have hci : (c : Int) < (pl.length : Int) + 1 := by omega
      clear hpn
      have HC := Lib.hid (fun W => show Calls Tryz.prog 76 #[.int .i64 (gi (runF pl p.mv a) c), .int .i64 (S - O), .int .i64 (S + O)] W fun e w' => e = .returned (.bool A) ∧ Below W.heap.size W w' by
        rw [HAG.out]; exact (r_in _ _ _ W).mono fun e w' h => ⟨h.1, h.2 ▸ Below.refl _ _⟩)
      have HST := Lib.hid (show A = true → ∀ j, j < k + 1 → agreeB pl p.mv (gr p.rs j) = true from fun h j hj => by
        rcases Nat.lt_or_ge j k with h' | h'
        · exact HH.out j h'
        · obtain rfl : j = k := by omega
          rw [hA]; exact h)
      clear hc hcl hra hc1 hrl b4 ha hcc hS hO hA; go_upto_region 8 with (fail); clear e4 a0 a1 a2 a3
      cases A with
      | false =>
        refine wp_region_quiet_below (by kernel_rfl) (by kernel_rfl) ?_; (repeat (first | ((with_reducible first | apply wq_fg faP0 | apply wq_fg faP1 | apply wq_fg faP2 | apply wq_fg faM0 | apply wq_fg faS0 | apply wq_fg faS1 | apply wq_fg faR0 | apply wq_fg faR1 | apply wq_fg faR2 | apply wq_fg faR3 | apply wq_fg faT0 | apply wq_fg faT1 | apply wq_fg faQ0 | apply wq_fg faQ1 | apply wq_fg faH0 | apply wq_fg faH1 | apply wq_fg faH2 | apply wq_fg faH3); (focus rfl); (focus rfl); go_frame) | ((with_reducible apply wq_not); (focus rfl); (focus rfl); go_frame) | ((with_reducible first | apply wq_ix Tryz.underlying23 szI | apply wq_ix Tryz.underlying27 szSp | apply wq_ix Tryz.underlying22 szM | apply wq_ix Tryz.underlying24 szR | apply wq_ix Tryz.underlying43 szL | apply wq_ix Tryz.underlying103 szT); (focus rfl); (focus rfl); (focus rfl); (focus omega); (try simp only [Nat.mul_one]); go_frame) | ((with_reducible first | apply wq_ld agI | apply wq_ld agB | apply wq_ld agLI | apply wq_ld agLS | apply wq_ld agLM | apply wq_ld agLR | apply wq_ld agLL | apply wq_ld agLT); (focus rfl); (focus rfl); (focus (intro _ hbq; first | exact (hbq.cell (lt_of_cellq y0)).trans y0 | exact (hbq.cell (lt_of_cellq y1)).trans y1 | exact (hbq.cell (lt_of_cellq y2)).trans y2 | exact (hbq.cell (lt_of_cellq y3)).trans y3 | exact (hbq.cell (lt_of_cellq r0)).trans r0 | exact (hbq.cell (lt_of_cellq r1)).trans r1)); go_frame) | ((with_reducible first | apply wq_add | apply wq_sub | apply wq_mul | apply wq_rem); (focus rfl); (focus rfl); (focus rfl); (focus omega); (focus omega); go_frame) | ((with_reducible first | apply wq_eql | apply wq_neq | apply wq_lss | apply wq_leq | apply wq_gtr | apply wq_geq | apply wq_max2 | apply wq_min2); (focus rfl); (focus rfl); (focus rfl); go_frame) | ((with_reducible first | apply wq_max3 | apply wq_min3); (focus rfl); (focus rfl); (focus rfl); (focus rfl); go_frame) | go_big_quiet_step ((intro hbq; exact calls_below hbq (HC.out _))))); refine wpQuiet_nil ?_; intro wq hbq
        have HN5 := Lib.hid (HN4.out.trans (hbq.mono HN4.out.size)); clear hbq y0 y1 y2 y3 r0 r1; go_wp2; go_ret; exact ⟨by rw [HNO.out trivial]; rfl, HB2.out.trans (HN5.out.mono HB2.out.size)⟩
      | true =>
        refine wp_region_quiet_below (by kernel_rfl) (by kernel_rfl) ?_; (repeat (first | ((with_reducible first | apply wq_fg faP0 | apply wq_fg faP1 | apply wq_fg faP2 | apply wq_fg faM0 | apply wq_fg faS0 | apply wq_fg faS1 | apply wq_fg faR0 | apply wq_fg faR1 | apply wq_fg faR2 | apply wq_fg faR3 | apply wq_fg faT0 | apply wq_fg faT1 | apply wq_fg faQ0 | apply wq_fg faQ1 | apply wq_fg faH0 | apply wq_fg faH1 | apply wq_fg faH2 | apply wq_fg faH3); (focus rfl); (focus rfl); go_frame) | ((with_reducible apply wq_not); (focus rfl); (focus rfl); go_frame) | ((with_reducible first | apply wq_ix Tryz.underlying23 szI | apply wq_ix Tryz.underlying27 szSp | apply wq_ix Tryz.underlying22 szM | apply wq_ix Tryz.underlying24 szR | apply wq_ix Tryz.underlying43 szL | apply wq_ix Tryz.underlying103 szT); (focus rfl); (focus rfl); (focus rfl); (focus omega); (try simp only [Nat.mul_one]); go_frame) | ((with_reducible first | apply wq_ld agI | apply wq_ld agB | apply wq_ld agLI | apply wq_ld agLS | apply wq_ld agLM | apply wq_ld agLR | apply wq_ld agLL | apply wq_ld agLT); (focus rfl); (focus rfl); (focus (intro _ hbq; first | exact (hbq.cell (lt_of_cellq y0)).trans y0 | exact (hbq.cell (lt_of_cellq y1)).trans y1 | exact (hbq.cell (lt_of_cellq y2)).trans y2 | exact (hbq.cell (lt_of_cellq y3)).trans y3 | exact (hbq.cell (lt_of_cellq r0)).trans r0 | exact (hbq.cell (lt_of_cellq r1)).trans r1)); go_frame) | ((with_reducible first | apply wq_add | apply wq_sub | apply wq_mul | apply wq_rem); (focus rfl); (focus rfl); (focus rfl); (focus omega); (focus omega); go_frame) | ((with_reducible first | apply wq_eql | apply wq_neq | apply wq_lss | apply wq_leq | apply wq_gtr | apply wq_geq | apply wq_max2 | apply wq_min2); (focus rfl); (focus rfl); (focus rfl); go_frame) | ((with_reducible first | apply wq_max3 | apply wq_min3); (focus rfl); (focus rfl); (focus rfl); (focus rfl); go_frame) | go_big_quiet_step ((intro hbq; exact calls_below hbq (HC.out _))))); refine wpQuiet_nil ?_; intro wq hbq
        have HN5 := Lib.hid (HN4.out.trans (hbq.mono HN4.out.size)); clear hbq y0 y1 y2 y3 r0 r1; go_wp2; go_roundw
        case rel => exact ⟨k + 1, by omega, by go_num, Lib.hid (HST.out rfl), HN5⟩
        case measure => simp [intOf]; omega
    · obtain rfl : k = p.rs.length := by omega
      have hki : ¬ (p.rs.length : Int) < (p.rs.length : Int) := by omega
      have H := Lib.hid (show fitsB p pl = true by
        unfold fitsB; rw [HW.out, all_ok (f := agreeB pl p.mv) (d := rd0) (l := p.rs) HH.out]; rfl)
      go_wp2; go_ret; exact ⟨by rw [H.out]; rfl, HB2.out.trans (HN.out.mono HB2.out.size)⟩
end Go.Proofs.YtlednchfifphgabGreatDoor
end

section
namespace Go.Proofs.YtlednchfifphgabGreatDoor
open Go Go.RowKit Go.Proofs
set_option linter.unusedVariables false
set_option linter.unusedSimpArgs false
attribute [local go_sem] imax2 imin2

def ElR (w : World) (css : List (List Int)) (hs : List Value) : Prop := hs.length = css.length ∧ ∀ i, i < css.length → ∃ q c, hs[i]? = some (.slice q (gl css i).length c) ∧ RdI w q (gl css i)
theorem ElR.snoc {w : World} {css : List (List Int)} {hs : List Value} {x : List Int} {q : Option Addr} {c : Nat} (h : ElR w css hs) (hx : RdI w q x) : ElR w (css ++ [x]) (hs ++ [.slice q x.length c]) := by
  refine ⟨by simp [h.1], fun i hi => ?_⟩; rw [List.length_append, List.length_singleton] at hi; rw [gl_snoc]
  by_cases h1 : i < css.length
  · obtain ⟨q', c', e1, e2⟩ := h.2 i h1
    rw [if_pos h1]; exact ⟨q', c', by rw [List.getElem?_append_left (by rw [h.1]; omega)]; exact e1, e2⟩
  · obtain rfl : i = css.length := by omega
    rw [if_neg h1, if_pos rfl]; exact ⟨q, c, by rw [← h.1]; simp, hx⟩
theorem ElR.read {w w' : World} {B : Nat} {v : Value} {css : List (List Int)} {hs : List Value} (h : ElR w css hs) (ho : w'.ownsRow B 23 1 v css.length hs) (hb : Below w.heap.size w w') : ∃ q c, v = .slice q css.length c ∧ RdLs w' q css := by
  rcases ho.2 with ⟨rfl, h0⟩ | ⟨g, cap, cur, rfl, hrest⟩
  · have : css = [] := List.length_eq_zero_iff.1 h0
    subst this; exact ⟨none, 0, rfl, .inl rfl⟩
  · refine ⟨some ⟨g, 0, none⟩, cap, rfl, .inr ⟨g, 0, rfl, fun i hi => ?_⟩⟩
    obtain ⟨q, c, e1, e2⟩ := h.2 i hi; have h3 := ho.cells (g := g) rfl i _ e1; rw [add_new] at h3; exact ⟨q, c, by rw [Nat.zero_add]; exact h3, e2.below hb⟩
theorem take_len_le (ms : List (Int × Int)) (k : Nat) (h4 : ms.length ≤ 4) (h : ∀ i, i < ms.length → (gm ms i).2 - (gm ms i).1 ≤ 4) : (prodF (ms.take k)).length ≤ 625 := by
  have h1 := prodF_count (ms.take k) (fun i hi => by
    rw [List.length_take] at hi; have e : gm (ms.take k) i = gm ms i := by unfold gm; rw [List.getD_eq_getElem?_getD, List.getD_eq_getElem?_getD, List.getElem?_take, if_pos (by omega)]
    rw [e]; exact h i (by omega))
  have h2 : (5 : Nat) ^ (ms.take k).length ≤ 5 ^ 4 := Nat.pow_le_pow_right (by omega) (by rw [List.length_take]; omega); omega
end Go.Proofs.YtlednchfifphgabGreatDoor
end

section
namespace Go.Proofs.YtlednchfifphgabGreatDoor
open Go Go.RowKit Go.Proofs
set_option linter.unusedVariables false
set_option linter.unusedSimpArgs false
attribute [local go_sem] imax2 imin2

end Go.Proofs.YtlednchfifphgabGreatDoor
end

section
namespace Go.Proofs.YtlednchfifphgabGreatDoor
open Go Go.RowKit Go.Proofs
set_option linter.unusedVariables false
set_option linter.unusedSimpArgs false
attribute [local go_sem] imax2 imin2

theorem truthOk {p : Pc} (hpo : PieceOk p) : ∀ i, i < (truthsF p).length → PlaysOk p (gl (truthsF p) i) := fun i hi => truth_plays hpo (by rw [gl_get _ _ hi]; exact List.getElem_mem hi)
theorem truthsFew {p : Pc} (hpo : PieceOk p) : (truthsF p).length ≤ 625 := by
  have h1 := List.length_filter_le (fitsB p) (prodF p.ms); have h2 := take_len_le p.ms p.ms.length hpo.n4 (fun i hi => (hpo.mesh i hi).2.2.2); rw [List.take_length] at h2; exact Nat.le_trans h1 h2
end Go.Proofs.YtlednchfifphgabGreatDoor
end

section
namespace Go.Proofs.YtlednchfifphgabGreatDoor
open Go Go.RowKit Go.Proofs
set_option linter.unusedVariables false
set_option linter.unusedSimpArgs false
attribute [local go_sem] imax2 imin2

end Go.Proofs.YtlednchfifphgabGreatDoor
end

section
namespace Go.Proofs.YtlednchfifphgabGreatDoor
open Go Go.RowKit Go.Proofs
set_option linter.unusedVariables false
set_option linter.unusedSimpArgs false
attribute [local go_sem] imax2 imin2

def ShPost (s : Int × Int) (w : World) (e : Ending) (w' : World) : Prop := e = .returned (.agg #[.int .i64 s.1, .int .i64 s.2]) ∧ Below w.heap.size w w'
set_option maxHeartbeats 1600000 in
set_option maxRecDepth 100000 in
theorem r_Shown (h : Hd) (pe : Option Addr) (ce nn : Nat) (pc : Int) (w : World) (hE : RdS w pe h.er) (hh : HandOk nn h) (hr : -2800 ≤ pc ∧ pc ≤ 2400) :
    Calls Tryz.prog 30 #[hdV h pe ce, .int .i64 pc] w (ShPost (shownF h pc) w) := by
  unfold hdV; obtain ⟨w1, e1, HS1, q0, q1, q2, q3, b1⟩ := box4 w (.int .i64 h.arb) (.int .i64 h.num) (.int .i64 h.den) (.slice pe h.er.length ce) 29; have kb := alloc_new w1 (.cells #[.int .i64 0, .int .i64 0] 36); obtain ⟨w2, e2, HS2, _, _, b2⟩ := box2 w1 (.int .i64 0) (.int .i64 0) 36; rw [e2] at kb; have b12 := b1.trans (b2.mono b1.size); have q1 := (b2.cell (lt_of_cellq q1)).trans q1; have q2 := (b2.cell (lt_of_cellq q2)).trans q2; have q3 := (b2.cell (lt_of_cellq q3)).trans q3; obtain ⟨hr1, hr2⟩ := hr; obtain ⟨num, hnum⟩ : ∃ x : Int, h.num = x := ⟨_, rfl⟩; obtain ⟨den, hden⟩ : ∃ x : Int, h.den = x := ⟨_, rfl⟩; have hnu := hh.num; have hde := hh.den; have hle := hh.len; have har := atF_range hh (pc := pc) ⟨hr1, hr2⟩; have hsl := stepF_lt hh pc; have her := hh.err _ hsl
  have hst : (stepF h pc : Int) = (atF h pc % 21600 * h.er.length) / 21600 := by
    unfold stepF; refine Int.toNat_of_nonneg (Int.ediv_nonneg (Int.mul_nonneg (Int.emod_nonneg _ (by omega)) (by omega)) (by omega))
  have hatd : atF h pc = pc * num / den := by unfold atF; rw [hnum, hden]
  rw [hnum] at hnu q1; rw [hden] at hde q2
  have hp1 : -280000 ≤ pc * num := by
    have := Int.mul_le_mul_of_nonneg_right (a := -2800) (b := pc) (c := num) hr1 (by omega); omega
  have hp2 : pc * num ≤ 240000 := by
    have := Int.mul_le_mul_of_nonneg_right (a := pc) (b := 2400) (c := num) hr2 (by omega); omega
  obtain ⟨at_, hA⟩ : ∃ x : Int, atF h pc = x := ⟨_, rfl⟩; obtain ⟨s, hs⟩ : ∃ x : Nat, stepF h pc = x := ⟨_, rfl⟩; have HS := Lib.hid (show shownF h pc = (at_ + (gm h.er s).1, at_ + (gm h.er s).2) by unfold shownF; rw [hA, hs]); rw [hA] at har hst hatd; rw [hs] at hsl her hst; obtain ⟨bE, oE, rfl, hcE⟩ := (hE.below b12).at (i := s) hsl; obtain ⟨x0, x1⟩ := hcE s hsl; obtain ⟨L, hL⟩ : ∃ L : Nat, h.er.length = L := ⟨_, rfl⟩; rw [hL] at hsl hle hst q3 ⊢
  have HD1 := Lib.hid (fun W => show Calls Tryz.prog 81 #[.int .i64 (pc * num), .int .i64 den] W fun e w' => e = .returned (.int .i64 at_) ∧ W = w' by
    have h := r_down (pc * num) den W (by omega) (by omega) (by omega); rw [← hatd] at h; exact h)
  have hdm := Int.emod_add_mul_ediv at_ 21600; obtain ⟨D, hD⟩ : ∃ D : Int, at_ / 21600 = D := ⟨_, rfl⟩; obtain ⟨R, hR⟩ : ∃ R : Int, at_ % 21600 = R := ⟨_, rfl⟩; have hR0 : 0 ≤ R := by rw [← hR]; exact Int.emod_nonneg _ (by omega)
  have hR1 : R < 21600 := by rw [← hR]; exact Int.emod_lt_of_pos _ (by omega)
  have HD2 := Lib.hid (fun W => show Calls Tryz.prog 81 #[.int .i64 at_, .int .i64 21600] W fun e w' => e = .returned (.int .i64 D) ∧ W = w' by
    have h := r_down at_ 21600 W (by omega) (by omega) (by omega); rw [hD] at h; exact h)
  rw [hR] at hst hdm; rw [hD] at hdm; obtain ⟨E, hE2⟩ : ∃ E : Int, D * 21600 = E := ⟨_, rfl⟩; have hwE : IntKind.i64.wrap (D * 21600) = E := by rw [w64 _ (by omega) (by omega)]; exact hE2
  have hwR : IntKind.i64.wrap (at_ - E) = R := by rw [w64 _ (by omega) (by omega)]; omega
  have hRL0 : 0 ≤ R * (L : Int) := Int.mul_nonneg hR0 (by omega); have hRL1 : R * (L : Int) ≤ 21600 * (L : Int) := Int.mul_le_mul_of_nonneg_right (by omega) (by omega); have hwm : IntKind.i64.wrap (R * (L : Int)) = R * (L : Int) := w64 _ (by omega) (by omega); have hqd : (R * (L : Int)).tdiv 21600 = (s : Int) := by rw [Int.tdiv_eq_ediv_of_nonneg hRL0, hst]
  obtain ⟨lo, hlo⟩ : ∃ x : Int, (gm h.er s).1 = x := ⟨_, rfl⟩; obtain ⟨hi, hhi⟩ : ∃ x : Int, (gm h.er s).2 = x := ⟨_, rfl⟩; rw [hlo, hhi] at HS; rw [hlo] at x0 her; rw [hhi] at x1 her; have hw1 : IntKind.i64.wrap (at_ + lo) = at_ + lo := w64 _ (by omega) (by omega); have hw2 : IntKind.i64.wrap (at_ + hi) = at_ + hi := w64 _ (by omega) (by omega); have hsI : (s : Int) < (L : Int) := by omega
  have hws : IntKind.i64.wrap (s : Int) = (s : Int) := w64 _ (by omega) (by omega); have hs0 : (0 : Int) ≤ (s : Int) := by omega
  have hwp : IntKind.i64.wrap (pc * num) = pc * num := w64 _ (by omega) (by omega); have HRG := Lib.hid (show -280000 ≤ at_ ∧ at_ ≤ 240000 ∧ -30 ≤ lo ∧ lo ≤ hi ∧ hi ≤ 30 by omega); have HB := Lib.hid b12; have HKB := Lib.hid kb; have HZ := Lib.hid (show w.heap.size ≤ w1.heap.size ∧ w1.heap.size < w2.heap.size from ⟨b1.size, by have := HS2.out; omega⟩); rw [HS.out]; rw [hL] at e1; clear hatd hR kb b1 b2 b12 hcE hE hh hnum hden hA hs hL hlo hhi her hst har hde hle HS hr1 hr2 hR0 hR1 hRL0 hRL1 hnu hD hE2 hdm hp1 hp2 q0
  go_enter Tryz.func30, Tryz.ntmps30
  (go_wp2_with fail); refine (HD1.out _).mono ?_
  rintro e wn ⟨rfl, rfl⟩; clear e1 e2 q1 q2; go_wp2; have HSB := Lib.hid (cl1 q3); refine held1 q3 (fun W0 HB0 => ?_); refine tk 0 rfl (by exact HSB.out _ HB0) ?_; (try simp only [Act.put, ptL]); refine tk 1 rfl (by exact HSB.out _ HB0) ?_; (try simp only [Act.put, ptL]); refine tk 5 rfl (by exact HSB.out _ HB0) ?_; (try simp only [Act.put, ptL]); refine tk 6 rfl (by exact HSB.out _ HB0) ?_; (try simp only [Act.put, ptL]); refine tk 7 rfl (by exact HSB.out _ HB0) ?_; (try simp only [Act.put, ptL]); refine rz1 2 rfl ?_; intro K hK; go_simp; refine (HD2.out _).mono ?_; rintro e W1 ⟨rfl, rfl⟩; have HB1 := HB0; refine kz hK (by exact HSB.out _ HB1) ?_; clear hK K; (try simp only [Act.put, ptL]); refine tk 3 rfl (by exact HSB.out _ HB1) ?_; (try simp only [Act.put, ptL]); refine tk 4 rfl (by exact HSB.out _ HB1) ?_; (try simp only [Act.put, ptL]); refine tk 8 rfl (by exact HSB.out _ HB1) ?_; (try simp only [Act.put, ptL]); refine tk 9 rfl (by exact HSB.out _ HB1) ?_; (try simp only [Act.put, ptL]); refine tk 10 rfl (by exact HSB.out _ HB1) ?_; (try simp only [Act.put, ptL])
  refine wpAnyH_done (by kernel_rfl) ?_ _
  skip
  have q3 := (HB0.cell (lt_of_cellq q3)).trans q3; have x0 := (HB0.cell (lt_of_cellq x0)).trans x0; have x1 := (HB0.cell (lt_of_cellq x1)).trans x1; have HB02 := Lib.hid HB0; clear HSB HB0 HB1 hwE hwR hwm hqd hws hwp HD1 HD2; go_wp2; obtain ⟨g1, g2, g3, g4, g5⟩ := HRG.out; refine wp_region_below_tail 16 (by kernel_rfl) (by kernel_rfl) ?_; simp only [List.take_succ_cons, List.take_zero, List.drop_succ_cons, List.drop_zero]; (repeat (first | ((with_reducible first | apply wq_fg faP0 | apply wq_fg faP1 | apply wq_fg faP2 | apply wq_fg faM0 | apply wq_fg faS0 | apply wq_fg faS1 | apply wq_fg faR0 | apply wq_fg faR1 | apply wq_fg faR2 | apply wq_fg faR3 | apply wq_fg faT0 | apply wq_fg faT1 | apply wq_fg faQ0 | apply wq_fg faQ1 | apply wq_fg faH0 | apply wq_fg faH1 | apply wq_fg faH2 | apply wq_fg faH3); (focus rfl); (focus rfl); go_frame) | ((with_reducible first | apply wq_ix Tryz.underlying23 szI | apply wq_ix Tryz.underlying27 szSp | apply wq_ix Tryz.underlying22 szM | apply wq_ix Tryz.underlying24 szR | apply wq_ix Tryz.underlying43 szL | apply wq_ix Tryz.underlying103 szT); (focus rfl); (focus rfl); (focus rfl); (focus omega); (try simp only [Nat.mul_one]); go_frame) | ((with_reducible first | apply wq_ld agI | apply wq_ld agB | apply wq_ld agLI | apply wq_ld agLS | apply wq_ld agLM | apply wq_ld agLR | apply wq_ld agLL | apply wq_ld agLT); (focus rfl); (focus rfl); (focus (intro _ hbq; first | exact (hbq.cell (lt_of_cellq q3)).trans q3 | exact (hbq.cell (lt_of_cellq x0)).trans x0 | exact (hbq.cell (lt_of_cellq x1)).trans x1)); go_frame) | ((with_reducible first | apply wq_add | apply wq_sub | apply wq_mul | apply wq_rem); (focus rfl); (focus rfl); (focus rfl); (focus omega); (focus omega); go_frame) | ((with_reducible first | apply wq_eql | apply wq_neq | apply wq_lss | apply wq_leq | apply wq_gtr | apply wq_geq | apply wq_max2 | apply wq_min2); (focus rfl); (focus rfl); (focus rfl); go_frame) | ((with_reducible first | apply wq_max3 | apply wq_min3); (focus rfl); (focus rfl); (focus rfl); (focus rfl); go_frame) | go_big_quiet_step (fail))); refine wpQuiet_nil ?_; intro wq hbq
  have hb2 := HB02.out.trans (hbq.mono HB02.out.size); obtain ⟨w6, w7, s1, s2, ⟨c0', f0⟩, ⟨c1', f1⟩, hx4, hxk, HZ5, hxb⟩ := set2 wq w1.heap.size 36 _ _ (.int .i64 (at_ + lo)) (.int .i64 (at_ + hi)) ((hb2.block _ (block_lt HKB.out)).trans HKB.out); obtain ⟨r0, r1⟩ := cells2 hx4; have HBB := Lib.hid (hxb w w.heap.size HZ.out.1 (HB.out.trans (hb2.mono HB.out.size))); clear hx4 hxk hxb hb2 hbq; go_wp2; refine bodyPost_ret (v := .agg #[.int .i64 (at_ + lo), .int .i64 (at_ + hi)]) ?_ rfl ⟨rfl, HBB.out⟩; simp [results, Tryz.results30, go_sem, r0, r1]
end Go.Proofs.YtlednchfifphgabGreatDoor
end

section
namespace Go.Proofs.YtlednchfifphgabGreatDoor
open Go Go.RowKit Go.Proofs
set_option linter.unusedVariables false
set_option linter.unusedSimpArgs false

def briefB (h : Hd) : Bool := decide (h.er.length ≤ 10)
theorem l_brief (h : Hd) (pe : Option Addr) (ce : Nat) (w : World) : Calls Tryz.prog 15 #[hdV h pe ce] w fun e w' => e = .returned (.bool (briefB h)) ∧ Below w.heap.size w w' := by
  unfold hdV; obtain ⟨w1, e1, HS1, q0, q1, q2, q3, b1⟩ := box4 w (.int .i64 h.arb) (.int .i64 h.num) (.int .i64 h.den) (.slice pe h.er.length ce) 29; have HB := Lib.hid b1; have HD := Lib.hid (show decide ((h.er.length : Int) ≤ 10) = briefB h by unfold briefB; exact decide_eq_decide.2 (by omega)); clear b1
  by_cases hl : h.er.length ≤ 10
  · have h1 : decide ((h.er.length : Int) ≤ 10) = true := decide_eq_true (by omega)
    have H := Lib.hid (show briefB h = true from decide_eq_true hl); clear hl
    go_enter Tryz.func15, Tryz.ntmps15
    go_wp2; go_ret; exact ⟨by rw [H.out]; rfl, HB.out⟩
  · have h1 : decide ((h.er.length : Int) ≤ 10) = false := decide_eq_false (by omega)
    have H := Lib.hid (show briefB h = false from decide_eq_false hl); clear hl
    go_enter Tryz.func15, Tryz.ntmps15
    go_wp2; go_ret; exact ⟨by rw [H.out]; rfl, HB.out⟩
end Go.Proofs.YtlednchfifphgabGreatDoor
end

section
namespace Go.Proofs.YtlednchfifphgabGreatDoor
open Go Go.RowKit Go.Proofs
set_option linter.unusedVariables false
set_option linter.unusedSimpArgs false

end Go.Proofs.YtlednchfifphgabGreatDoor
end

section
namespace Go.Proofs.YtlednchfifphgabGreatDoor
open Go Go.RowKit Go.Proofs
set_option linter.unusedVariables false
set_option linter.unusedSimpArgs false
attribute [local go_sem] imax2 imin2

end Go.Proofs.YtlednchfifphgabGreatDoor
end

section
namespace Go.Proofs.YtlednchfifphgabGreatDoor
open Go Go.RowKit Go.Proofs
set_option linter.unusedVariables false
set_option linter.unusedSimpArgs false
attribute [local go_sem] imax2 imin2

end Go.Proofs.YtlednchfifphgabGreatDoor
end

section
namespace Go.Proofs.YtlednchfifphgabGreatDoor
open Go Go.RowKit Go.Proofs
set_option linter.unusedVariables false
set_option linter.unusedSimpArgs false
attribute [local go_sem] imax2 imin2

end Go.Proofs.YtlednchfifphgabGreatDoor
end

section
namespace Go.Proofs.YtlednchfifphgabGreatDoor
open Go Go.RowKit Go.Proofs
set_option linter.unusedVariables false
set_option linter.unusedSimpArgs false
attribute [local go_sem] imax2 imin2

theorem within_of_fits {p : Pc} {pl : List Int} (h : fitsB p pl = true) : withinB p pl = true := by
  unfold fitsB at h; rw [Bool.and_eq_true] at h; exact h.1
end Go.Proofs.YtlednchfifphgabGreatDoor
end

section
namespace Go.Proofs.YtlednchfifphgabGreatDoor
open Go Go.RowKit Go.Proofs
set_option linter.unusedVariables false
set_option linter.unusedSimpArgs false

end Go.Proofs.YtlednchfifphgabGreatDoor
end

section
namespace Go.Proofs.YtlednchfifphgabGreatDoor
open Go Go.RowKit Go.Proofs
set_option linter.unusedVariables false
set_option linter.unusedSimpArgs false
attribute [local go_sem] imax2 imin2

theorem r_Far (n : Int) (w : World) : Calls Tryz.prog 24 #[.int .i64 n] w fun e w' => e = .returned (.bool (inB n (-5000) 5000)) ∧ Below w.heap.size w w' := by
  go_enter Tryz.func24, Tryz.ntmps24
  (go_wp2_with fail); refine (r_in _ _ _ _).mono ?_
  rintro e wn ⟨rfl, rfl⟩; go_wp2; go_ret; exact ⟨rfl, Below.refl _ _⟩
theorem r_Limit (n : Int) (w : World) : Calls Tryz.prog 25 #[.int .i64 n] w fun e w' => e = .returned (.bool (inB n 0 5000)) ∧ Below w.heap.size w w' := by
  go_enter Tryz.func25, Tryz.ntmps25
  (go_wp2_with fail); refine (r_in _ _ _ _).mono ?_
  rintro e wn ⟨rfl, rfl⟩; go_wp2; go_ret; exact ⟨rfl, Below.refl _ _⟩
end Go.Proofs.YtlednchfifphgabGreatDoor
end

section
namespace Go.Proofs.YtlednchfifphgabGreatDoor
open Go Go.RowKit Go.Proofs
set_option linter.unusedVariables false

theorem ixW0 (w : World) : (Instr.index 158 (.agg #[.int .i64 1, .int .i64 2, .int .i64 3]) (.int .i64 0)).run Tryz.prog w = .ok (.int .i64 1) w := by kernel_rfl
theorem ixW1 (w : World) : (Instr.index 158 (.agg #[.int .i64 1, .int .i64 2, .int .i64 3]) (.int .i64 1)).run Tryz.prog w = .ok (.int .i64 2) w := by kernel_rfl
theorem ixW2 (w : World) : (Instr.index 158 (.agg #[.int .i64 1, .int .i64 2, .int .i64 3]) (.int .i64 2)).run Tryz.prog w = .ok (.int .i64 3) w := by kernel_rfl
set_option maxRecDepth 100000 in
theorem c_word0 (w : World) : Calls Tryz.prog 75 #[.int .i64 0] w fun e w' => e = .returned (.int .i64 1) ∧ Below w.heap.size w w' := by
  have hx := ixW0 w
  go_enter Tryz.func75, Tryz.ntmps75
  go_wp2; go_ret; exact ⟨rfl, Below.refl _ _⟩
set_option maxRecDepth 100000 in
theorem c_word1 (w : World) : Calls Tryz.prog 75 #[.int .i64 1] w fun e w' => e = .returned (.int .i64 2) ∧ Below w.heap.size w w' := by
  have hx := ixW1 w
  go_enter Tryz.func75, Tryz.ntmps75
  go_wp2; go_ret; exact ⟨rfl, Below.refl _ _⟩
set_option maxRecDepth 100000 in
theorem c_word2 (w : World) : Calls Tryz.prog 75 #[.int .i64 2] w fun e w' => e = .returned (.int .i64 3) ∧ Below w.heap.size w w' := by
  have hx := ixW2 w
  go_enter Tryz.func75, Tryz.ntmps75
  go_wp2; go_ret; exact ⟨rfl, Below.refl _ _⟩
end Go.Proofs.YtlednchfifphgabGreatDoor
end

section
namespace Go.Proofs.YtlednchfifphgabGreatDoor
set_option linter.unusedSimpArgs false
open Go Go.RowKit Go.Proofs
set_option linter.unusedVariables false
attribute [local go_sem] imax2 imin2

theorem c_isPlaceC (n : Int) (w : World) : Calls Tryz.prog 73 #[.int .i64 n] w fun e w' => e = .returned (.bool (inB n (-5000) 5000)) ∧ Below w.heap.size w w' :=
  (c_isPlace n w).mono fun e w' h => ⟨h.1, h.2 ▸ Below.refl _ _⟩
theorem c_isLimitC (n : Int) (w : World) : Calls Tryz.prog 74 #[.int .i64 n] w fun e w' => e = .returned (.bool (inB n 0 5000)) ∧ Below w.heap.size w w' :=
  (c_isLimit n w).mono fun e w' h => ⟨h.1, h.2 ▸ Below.refl _ _⟩
def sureErr (p : Pc) (h : Hd) (want lim : Int) : Int := errF p ((handB p.ms.length h && inB want (-5000) 5000) && inB lim 0 5000)
def sureOut (p : Pc) (h : Hd) (want lim : Int) : Int := if sureErr p h want lim = 0 then sureF p h want lim else 0
def SurePost (p : Pc) (h : Hd) (want lim : Int) (w : World) (e : Ending) (w' : World) : Prop := e = .returned (.tuple #[.int .i64 (sureOut p h want lim), .int .i64 (sureErr p h want lim)]) ∧ Below w.heap.size w w'
set_option maxHeartbeats 6400000 in
set_option maxRecDepth 100000 in
theorem c_Sure (pm pv pr : Option Addr) (cm cv cr : Nat) (p : Pc) (h : Hd) (pe : Option Addr) (ce : Nat) (want lim : Int) (w : World) (hp : RdP w pm pv pr p) (hl : LenOk p) (hh : RdS w pe h.er) (hle : h.er.length ≤ 1000000) :
    Calls Tryz.prog 19 #[.agg #[.slice pm p.ms.length cm, .slice pv p.mv.length cv, .slice pr p.rs.length cr], hdV h pe ce, .int .i64 want, .int .i64 lim] w (SurePost p h want lim w) := by
  have hc := fun w hh => c_isHand pm pv pr cm cv cr p h pe ce w hh hle
  have hsw := fun q nq cq p2 n c2 nn e W => c_shows q nq cq p2 n c2 nn h pe ce e W
  unfold hdV at hc hsw ⊢; obtain ⟨w1, e1, HS1, k0, k1, k2, b1⟩ := box3 w (.slice pm p.ms.length cm) (.slice pv p.mv.length cv) (.slice pr p.rs.length cr) 26; obtain ⟨w2, e2, HS2, q0, q1, q2, q3, b2⟩ := box4 w1 (.int .i64 h.arb) (.int .i64 h.num) (.int .i64 h.den) (.slice pe h.er.length ce) 29; have b12 := b1.trans (b2.mono b1.size); have k0 := (b2.cell (lt_of_cellq k0)).trans k0; have k1 := (b2.cell (lt_of_cellq k1)).trans k1; have k2 := (b2.cell (lt_of_cellq k2)).trans k2; have HPW := Lib.hid (fun (W : World) (hb : Below w2.heap.size w2 W) => (hp.below b12).below hb); have HEW := Lib.hid (fun (W : World) (hb : Below w2.heap.size w2 W) => (hh.below b12).below hb); have HL := Lib.hid hl; have HC := Lib.hid hc; have HSW := Lib.hid hsw; have HB := Lib.hid b12; have HRH := Lib.hid (fun (W : World) (hb : Below w2.heap.size w2 W) => cl4 q0 q1 q2 q3 W hb); have HSB := Lib.hid (show ∀ W, Below w2.heap.size w2 W → (fun w' => (w'.cell? ⟨w.heap.size, 0, none⟩ = some (.slice pm p.ms.length cm) ∧ w'.cell? ⟨w.heap.size, 1, none⟩ = some (.slice pv p.mv.length cv) ∧ w'.cell? ⟨w.heap.size, 2, none⟩ = some (.slice pr p.rs.length cr)) ∧ (w'.cell? ⟨w1.heap.size, 0, none⟩ = some (.int .i64 h.arb) ∧ w'.cell? ⟨w1.heap.size, 1, none⟩ = some (.int .i64 h.num) ∧ w'.cell? ⟨w1.heap.size, 2, none⟩ = some (.int .i64 h.den) ∧ w'.cell? ⟨w1.heap.size, 3, none⟩ = some (.slice pe h.er.length ce))) W from fun W hb => ⟨⟨(hb.cell (lt_of_cellq k0)).trans k0, (hb.cell (lt_of_cellq k1)).trans k1, (hb.cell (lt_of_cellq k2)).trans k2⟩, (hb.cell (lt_of_cellq q0)).trans q0, (hb.cell (lt_of_cellq q1)).trans q1, (hb.cell (lt_of_cellq q2)).trans q2, (hb.cell (lt_of_cellq q3)).trans q3⟩)
  clear hp hh hl hc hsw b1 b2 b12
  go_enter Tryz.func19, Tryz.ntmps19
  go_upto_region 1 with (fail); clear e1 e2 k0 k1 k2 q0 q1 q2 q3; refine Code.wp_mono (Q := fun e a wz => e = .normal ∧ ∃ (bx : Nat) (qa : Option Addr) (na ca : Nat) (qb : Option Addr) (nb cb : Nat) (qc : Option Addr) (nc cc : Nat) (qd : Option Addr) (nd cd : Nat) (er : Int) (g21 g22 g23 g24 g25 g26 g27 g28 g29 : Value), a = { tmps := #[.agg #[.slice pm p.ms.length cm, .slice pv p.mv.length cv, .slice pr p.rs.length cr], .agg #[.int .i64 h.arb, .int .i64 h.num, .int .i64 h.den, .slice pe h.er.length ce], .int .i64 want, .int .i64 lim, .pointer (some ⟨w.heap.size, 0, none⟩), .pointer (some ⟨w1.heap.size, 0, none⟩), undef, undef, .int .i64 0, .int .i64 0, .pointer (some ⟨bx, 0, none⟩), .int .i64 er, undef, undef, undef, undef, undef, .tuple #[.agg #[.slice qa na ca, .slice qb nb cb, .slice qc nc cc, .slice qd nd cd], .int .i64 er], .agg #[.slice pm p.ms.length cm, .slice pv p.mv.length cv, .slice pr p.rs.length cr], .agg #[.slice pm p.ms.length cm, .slice pv p.mv.length cv, .slice pr p.rs.length cr], .agg #[.int .i64 h.arb, .int .i64 h.num, .int .i64 h.den, .slice pe h.er.length ce], g21, g22, g23, g24, g25, g26, g27, g28, g29, .tuple #[.agg #[.slice qa na ca, .slice qb nb cb, .slice qc nc cc, .slice qd nd cd], .int .i64 er], .agg #[.slice qa na ca, .slice qb nb cb, .slice qc nc cc, .slice qd nd cd], .int .i64 er, undef, undef, undef, undef, undef, undef, undef, undef, undef, undef, undef, undef, undef, undef, undef, undef, undef, undef, undef, undef, undef, undef, undef, undef, undef, undef, undef, undef, undef, undef, undef, undef, undef, undef, undef, undef, undef, undef, undef, undef, undef, undef, undef, undef, undef, undef, undef, undef, undef, undef, undef, undef, undef, undef, undef, undef], defers := [] } ∧ Hid (wz.heap[bx]? = some (.cells #[.slice qa na ca, .slice qb nb cb, .slice qc nc cc, .slice qd nd cd] 105 (0, 0))) ∧ Hid (AskZ pm pv pr cm cv cr p ((handB p.ms.length h && inB want (-5000) 5000) && inB lim 0 5000) (.slice qa na ca) (.slice qb nb cb) (.slice qc nc cc) (.slice qd nd cd) er wz) ∧ Hid (Below w2.heap.size w2 wz) ∧ Hid (w2.heap.size ≤ bx)) ?imp ?reg
  case reg =>
    rcases hF1 : handB p.ms.length h with _ | _
    · skip
      refine wp_region_held_drew (S := (fun w' => (w'.cell? ⟨w.heap.size, 0, none⟩ = some (.slice pm p.ms.length cm) ∧ w'.cell? ⟨w.heap.size, 1, none⟩ = some (.slice pv p.mv.length cv) ∧ w'.cell? ⟨w.heap.size, 2, none⟩ = some (.slice pr p.rs.length cr)) ∧ (w'.cell? ⟨w1.heap.size, 0, none⟩ = some (.int .i64 h.arb) ∧ w'.cell? ⟨w1.heap.size, 1, none⟩ = some (.int .i64 h.num) ∧ w'.cell? ⟨w1.heap.size, 2, none⟩ = some (.int .i64 h.den) ∧ w'.cell? ⟨w1.heap.size, 3, none⟩ = some (.slice pe h.er.length ce)))) (by kernel_rfl) (by (try dsimp only); exact HSB.out _ (Below.refl _ _).drew) (fun hHeld => ?_); refine wpAnyH_gen (fun W0 hW0 => ?_); have HB0 : Below w2.heap.size w2 W0 := by rw [hW0]; exact (Below.refl _ _).drew
      clear hW0 hHeld; refine tj 0 rfl (by exact HSB.out _ HB0) ?_; (try simp only [Act.put, ptL]); refine tj 1 rfl (by exact HSB.out _ HB0) ?_; (try simp only [Act.put, ptL]); refine tj 2 rfl (by exact HSB.out _ HB0) ?_; (try simp only [Act.put, ptL]); refine rz2 3 16 rfl rfl ?_ ?_
      · intro K hK
        go_simp
        (with_reducible refine (HC.out W0 (HEW.out _ HB0)).mono ?_)
        rw [hF1]; rintro e W30 ⟨rfl, hbn⟩; have HB30 : Below w2.heap.size w2 W30 := HB0.trans (hbn.mono HB0.size); clear hbn; go_simp; refine kz hK (by exact HSB.out _ HB30) ?_; clear hK K; (try simp only [Act.put, ptL]); clear HB0; refine tj 4 rfl (by exact HSB.out _ HB30) ?_; (try simp only [Act.put, ptL]); refine wpAnyH_take (i := 5) (v := undef) rfl (by kernel_rfl) (by kernel_rfl) (by kernel_rfl) (fun _ _ _ h => by first | (exact absurd h.1 (by intro hh; cases hh)) | exact h) (Or.inr ⟨by kernel_rfl, rfl⟩) (by (try dsimp only); exact HSB.out _ HB30) ?_; (try simp only [Act.put, ptL]); refine rz2 6 16 rfl rfl ?_ ?_
        · intro K hK
          with_reducible refine unw ?hb33 ?hq33
          case hb33 => kernel_rfl
          refine kz hK (by exact HSB.out _ HB30) ?_; clear hK K; (try simp only [Act.put, ptL]); refine tj 7 rfl (by exact HSB.out _ HB30) ?_; (try simp only [Act.put, ptL]); refine tj 8 rfl (by exact HSB.out _ HB30) ?_; (try simp only [Act.put, ptL]); refine wpAnyH_take (i := 9) (v := undef) rfl (by kernel_rfl) (by kernel_rfl) (by kernel_rfl) (fun _ _ _ h => by first | (exact absurd h.1 (by intro hh; cases hh)) | exact h) (Or.inr ⟨by kernel_rfl, rfl⟩) (by (try dsimp only); exact HSB.out _ HB30) ?_; (try simp only [Act.put, ptL]); refine rz2 10 16 rfl rfl ?_ ?_
          · intro K hK
            with_reducible refine unw ?hb37 ?hq37
            case hb37 => kernel_rfl
            refine kz hK (by exact HSB.out _ HB30) ?_; clear hK K; (try simp only [Act.put, ptL]); refine tj 11 rfl (by exact HSB.out _ HB30) ?_; (try simp only [Act.put, ptL]); refine rz2 12 16 rfl rfl ?_ ?_
            · intro K hK
              go_simp; obtain ⟨WA, hWA⟩ : ∃ WA, WA = W30 := ⟨_, rfl⟩
              (with_reducible refine (c_askedG pm pv pr cm cv cr p false W30 (HPW.out _ HB30) HL.out).mono ?_)
              rintro e W39 ⟨qa, na, ca, qb, nb, cb, qc, nc, cc, qd, nd, cd, er, rfl, hmk, hbn⟩; obtain ⟨WB, hWB⟩ : ∃ WB, WB = W39 := ⟨_, rfl⟩; have HQ : ∀ k, WA.heap.size ≤ k → k < WB.heap.size → W39.heap[k]? = WB.heap[k]? := fun k _ _ => by rw [hWB]
              have hqs : WB.heap.size ≤ W39.heap.size := by rw [hWB]; exact Nat.le_refl _
              rw [← hWA, ← hWB] at hmk; clear hWA hWB; have HB39 : Below w2.heap.size w2 W39 := HB30.trans (hbn.mono HB30.size); clear hbn; go_simp; refine kz hK (by exact HSB.out _ HB39) ?_; clear hK K; (try simp only [Act.put, ptL]); clear HB30; refine tj 13 rfl (by exact HSB.out _ HB39) ?_; (try simp only [Act.put, ptL]); refine tj 14 rfl (by exact HSB.out _ HB39) ?_; (try simp only [Act.put, ptL]); refine tj 15 rfl (by exact HSB.out _ HB39) ?_; (try simp only [Act.put, ptL]); refine rz1 16 rfl ?_; intro K hK; go_simp; refine kz hK (by exact HSB.out _ (HB39.alloc HB39.size _)) ?_; clear hK K; (try simp only [Act.put, ptL]); refine wpAnyH_gen (fun W43 hWn => ?_); have HB43 : Below w2.heap.size w2 W43 := by rw [hWn]; exact HB39.alloc HB39.size _
              have HQ : ∀ k, WA.heap.size ≤ k → k < WB.heap.size → W43.heap[k]? = WB.heap[k]? := fun k h1 h2 => by rw [hWn, Below.heap_alloc _ _ _ (Nat.lt_of_lt_of_le h2 hqs)]; exact HQ k h1 h2
              have hq_x : WB.heap.size ≤ W39.heap.size := hqs; have hqs : WB.heap.size ≤ W43.heap.size := by rw [hWn]; simp; omega
              have hx_x : W43.heap[W39.heap.size]? = some (.cells #[.slice none 0 0, .slice none 0 0, .slice none 0 0, .slice none 0 0] 105) := by rw [hWn]; exact alloc_new _ _
              have hl_x : w2.heap.size ≤ W39.heap.size := HB39.size; clear hWn; obtain ⟨b_x, hb_x⟩ : ∃ b, W39.heap.size = b := ⟨_, rfl⟩; rw [hb_x] at hx_x hl_x hq_x ⊢; clear HB39 hb_x; refine rz1 17 rfl ?_; intro K hK; refine set4K W43 b_x 105 _ _ _ _ (.slice qa na ca) (.slice qb nb cb) (.slice qc nc cc) (.slice qd nd cd) hx_x (fun wa44 wb44 wc44 W44 sa sb sc sd ca0 fa0 ca1 fa1 ca2 fa2 ca3 fa3 hx4 hxk HZs hxb => ?_); have HB44 : Below w2.heap.size w2 W44 := hxb w2 w2.heap.size hl_x HB43; have hx_x := hx4; have HQ : ∀ k, WA.heap.size ≤ k → k < WB.heap.size → W44.heap[k]? = WB.heap[k]? := fun k h1 h2 => (hxk k (by omega)).trans (HQ k h1 h2)
              have hqs : WB.heap.size ≤ W44.heap.size := by rw [HZs.out]; exact hqs
              clear hx4 hxk hxb HZs; go_simp; refine kz hK (by exact HSB.out _ HB44) ?_; clear hK K; (try simp only [Act.put, ptL]); clear ca0 ca1 ca2 ca3 fa0 fa1 fa2 fa3 sa sb sc sd HB43; refine tj 18 rfl (by exact HSB.out _ HB44) ?_; (try simp only [Act.put, ptL]); refine wpAnyH_done (by kernel_rfl) ?_ _; obtain ⟨wz, hwz⟩ : ∃ wz, wz = W44 := ⟨_, rfl⟩; subst hwz; have HBZ := HB44; clear HB44; exact ⟨rfl, _, _, _, _, _, _, _, _, _, _, _, _, _, _, _, _, _, _, _, _, _, _, _, rfl, Lib.hid hx_x, Lib.hid (by rw [Bool.false_and, Bool.false_and]; exact hmk.out.at HQ), Lib.hid HBZ, Lib.hid hl_x⟩
            · intro K hK
              go_simp; refine kz hK (by exact HSB.out _ (HB30.alloc HB30.size _)) ?_; clear hK K; (try simp only [Act.put, ptL]); refine wpAnyH_gen (fun W46 hWn => ?_); have HB46 : Below w2.heap.size w2 W46 := by rw [hWn]; exact HB30.alloc HB30.size _
              have hx_x : W46.heap[W30.heap.size]? = some (.cells #[.slice none 0 0, .slice none 0 0, .slice none 0 0, .slice none 0 0] 105) := by rw [hWn]; exact alloc_new _ _
              have hl_x : w2.heap.size ≤ W30.heap.size := HB30.size; clear hWn; obtain ⟨b_x, hb_x⟩ : ∃ b, W30.heap.size = b := ⟨_, rfl⟩; rw [hb_x] at hx_x hl_x ⊢; clear HB30 hb_x; refine rz1 12 rfl ?_; intro K hK; go_simp; obtain ⟨WA, hWA⟩ : ∃ WA, WA = W46 := ⟨_, rfl⟩; have hq_x : b_x < WA.heap.size := by rw [hWA]; exact block_lt hx_x
              (with_reducible refine (c_askedG pm pv pr cm cv cr p false W46 (HPW.out _ HB46) HL.out).mono ?_)
              rintro e W47 ⟨qa, na, ca, qb, nb, cb, qc, nc, cc, qd, nd, cd, er, rfl, hmk, hbn⟩; obtain ⟨WB, hWB⟩ : ∃ WB, WB = W47 := ⟨_, rfl⟩; have HQ : ∀ k, WA.heap.size ≤ k → k < WB.heap.size → W47.heap[k]? = WB.heap[k]? := fun k _ _ => by rw [hWB]
              have hqs : WB.heap.size ≤ W47.heap.size := by rw [hWB]; exact Nat.le_refl _
              rw [← hWA, ← hWB] at hmk; clear hWA hWB; have HB47 : Below w2.heap.size w2 W47 := HB46.trans (hbn.mono HB46.size); have hx_x : W47.heap[b_x]? = some (.cells #[.slice none 0 0, .slice none 0 0, .slice none 0 0, .slice none 0 0] 105) := (hbn.block _ (block_lt hx_x)).trans hx_x; clear hbn; go_simp; refine kz hK (by exact HSB.out _ HB47) ?_; clear hK K; (try simp only [Act.put, ptL]); clear HB46; refine tj 13 rfl (by exact HSB.out _ HB47) ?_; (try simp only [Act.put, ptL]); refine tj 14 rfl (by exact HSB.out _ HB47) ?_; (try simp only [Act.put, ptL]); refine tj 15 rfl (by exact HSB.out _ HB47) ?_; (try simp only [Act.put, ptL]); refine rz1 17 rfl ?_; intro K hK; refine set4K W47 b_x 105 _ _ _ _ (.slice qa na ca) (.slice qb nb cb) (.slice qc nc cc) (.slice qd nd cd) hx_x (fun wa51 wb51 wc51 W51 sa sb sc sd ca0 fa0 ca1 fa1 ca2 fa2 ca3 fa3 hx4 hxk HZs hxb => ?_); have HB51 : Below w2.heap.size w2 W51 := hxb w2 w2.heap.size hl_x HB47
              have hx_x := hx4; have HQ : ∀ k, WA.heap.size ≤ k → k < WB.heap.size → W51.heap[k]? = WB.heap[k]? := fun k h1 h2 => (hxk k (by omega)).trans (HQ k h1 h2)
              have hqs : WB.heap.size ≤ W51.heap.size := by rw [HZs.out]; exact hqs
              clear hx4 hxk hxb HZs; go_simp; refine kz hK (by exact HSB.out _ HB51) ?_; clear hK K; (try simp only [Act.put, ptL]); clear ca0 ca1 ca2 ca3 fa0 fa1 fa2 fa3 sa sb sc sd HB47; refine tj 18 rfl (by exact HSB.out _ HB51) ?_; (try simp only [Act.put, ptL]); refine wpAnyH_done (by kernel_rfl) ?_ _; obtain ⟨wz, hwz⟩ : ∃ wz, wz = W51 := ⟨_, rfl⟩; subst hwz; have HBZ := HB51; clear HB51; exact ⟨rfl, _, _, _, _, _, _, _, _, _, _, _, _, _, _, _, _, _, _, _, _, _, _, _, rfl, Lib.hid hx_x, Lib.hid (by rw [Bool.false_and, Bool.false_and]; exact hmk.out.at HQ), Lib.hid HBZ, Lib.hid hl_x⟩
          · intro K hK
            go_simp; refine kz hK (by exact HSB.out _ (HB30.alloc HB30.size _)) ?_; clear hK K; (try simp only [Act.put, ptL]); refine wpAnyH_gen (fun W53 hWn => ?_); have HB53 : Below w2.heap.size w2 W53 := by rw [hWn]; exact HB30.alloc HB30.size _
            have hx_x : W53.heap[W30.heap.size]? = some (.cells #[.slice none 0 0, .slice none 0 0, .slice none 0 0, .slice none 0 0] 105) := by rw [hWn]; exact alloc_new _ _
            have hl_x : w2.heap.size ≤ W30.heap.size := HB30.size; clear hWn; obtain ⟨b_x, hb_x⟩ : ∃ b, W30.heap.size = b := ⟨_, rfl⟩; rw [hb_x] at hx_x hl_x ⊢; clear HB30 hb_x; refine rz1 10 rfl ?_; intro K hK
            with_reducible refine unw ?hb54 ?hq54
            case hb54 => kernel_rfl
            refine kz hK (by exact HSB.out _ HB53) ?_; clear hK K; (try simp only [Act.put, ptL]); refine tj 11 rfl (by exact HSB.out _ HB53) ?_; (try simp only [Act.put, ptL]); refine rz1 12 rfl ?_; intro K hK; go_simp; obtain ⟨WA, hWA⟩ : ∃ WA, WA = W53 := ⟨_, rfl⟩; have hq_x : b_x < WA.heap.size := by rw [hWA]; exact block_lt hx_x
            (with_reducible refine (c_askedG pm pv pr cm cv cr p false W53 (HPW.out _ HB53) HL.out).mono ?_)
            rintro e W56 ⟨qa, na, ca, qb, nb, cb, qc, nc, cc, qd, nd, cd, er, rfl, hmk, hbn⟩; obtain ⟨WB, hWB⟩ : ∃ WB, WB = W56 := ⟨_, rfl⟩; have HQ : ∀ k, WA.heap.size ≤ k → k < WB.heap.size → W56.heap[k]? = WB.heap[k]? := fun k _ _ => by rw [hWB]
            have hqs : WB.heap.size ≤ W56.heap.size := by rw [hWB]; exact Nat.le_refl _
            rw [← hWA, ← hWB] at hmk; clear hWA hWB; have HB56 : Below w2.heap.size w2 W56 := HB53.trans (hbn.mono HB53.size); have hx_x : W56.heap[b_x]? = some (.cells #[.slice none 0 0, .slice none 0 0, .slice none 0 0, .slice none 0 0] 105) := (hbn.block _ (block_lt hx_x)).trans hx_x; clear hbn; go_simp; refine kz hK (by exact HSB.out _ HB56) ?_; clear hK K; (try simp only [Act.put, ptL]); clear HB53; refine tj 13 rfl (by exact HSB.out _ HB56) ?_; (try simp only [Act.put, ptL]); refine tj 14 rfl (by exact HSB.out _ HB56) ?_; (try simp only [Act.put, ptL]); refine tj 15 rfl (by exact HSB.out _ HB56) ?_; (try simp only [Act.put, ptL]); refine rz1 17 rfl ?_; intro K hK; refine set4K W56 b_x 105 _ _ _ _ (.slice qa na ca) (.slice qb nb cb) (.slice qc nc cc) (.slice qd nd cd) hx_x (fun wa60 wb60 wc60 W60 sa sb sc sd ca0 fa0 ca1 fa1 ca2 fa2 ca3 fa3 hx4 hxk HZs hxb => ?_); have HB60 : Below w2.heap.size w2 W60 := hxb w2 w2.heap.size hl_x HB56
            have hx_x := hx4; have HQ : ∀ k, WA.heap.size ≤ k → k < WB.heap.size → W60.heap[k]? = WB.heap[k]? := fun k h1 h2 => (hxk k (by omega)).trans (HQ k h1 h2)
            have hqs : WB.heap.size ≤ W60.heap.size := by rw [HZs.out]; exact hqs
            clear hx4 hxk hxb HZs; go_simp; refine kz hK (by exact HSB.out _ HB60) ?_; clear hK K; (try simp only [Act.put, ptL]); clear ca0 ca1 ca2 ca3 fa0 fa1 fa2 fa3 sa sb sc sd HB56; refine tj 18 rfl (by exact HSB.out _ HB60) ?_; (try simp only [Act.put, ptL]); refine wpAnyH_done (by kernel_rfl) ?_ _; obtain ⟨wz, hwz⟩ : ∃ wz, wz = W60 := ⟨_, rfl⟩; subst hwz; have HBZ := HB60; clear HB60; exact ⟨rfl, _, _, _, _, _, _, _, _, _, _, _, _, _, _, _, _, _, _, _, _, _, _, _, rfl, Lib.hid hx_x, Lib.hid (by rw [Bool.false_and, Bool.false_and]; exact hmk.out.at HQ), Lib.hid HBZ, Lib.hid hl_x⟩
        · intro K hK
          go_simp; refine kz hK (by exact HSB.out _ (HB30.alloc HB30.size _)) ?_; clear hK K; (try simp only [Act.put, ptL]); refine wpAnyH_gen (fun W62 hWn => ?_); have HB62 : Below w2.heap.size w2 W62 := by rw [hWn]; exact HB30.alloc HB30.size _
          have hx_x : W62.heap[W30.heap.size]? = some (.cells #[.slice none 0 0, .slice none 0 0, .slice none 0 0, .slice none 0 0] 105) := by rw [hWn]; exact alloc_new _ _
          have hl_x : w2.heap.size ≤ W30.heap.size := HB30.size; clear hWn; obtain ⟨b_x, hb_x⟩ : ∃ b, W30.heap.size = b := ⟨_, rfl⟩; rw [hb_x] at hx_x hl_x ⊢; clear HB30 hb_x; refine rz1 6 rfl ?_; intro K hK
          with_reducible refine unw ?hb63 ?hq63
          case hb63 => kernel_rfl
          refine kz hK (by exact HSB.out _ HB62) ?_; clear hK K; (try simp only [Act.put, ptL]); refine tj 7 rfl (by exact HSB.out _ HB62) ?_; (try simp only [Act.put, ptL]); refine tj 8 rfl (by exact HSB.out _ HB62) ?_; (try simp only [Act.put, ptL]); refine wpAnyH_take (i := 9) (v := undef) rfl (by kernel_rfl) (by kernel_rfl) (by kernel_rfl) (fun _ _ _ h => by first | (exact absurd h.1 (by intro hh; cases hh)) | exact h) (Or.inr ⟨by kernel_rfl, rfl⟩) (by (try dsimp only); exact HSB.out _ HB62) ?_; (try simp only [Act.put, ptL]); refine rz1 10 rfl ?_; intro K hK
          with_reducible refine unw ?hb67 ?hq67
          case hb67 => kernel_rfl
          refine kz hK (by exact HSB.out _ HB62) ?_; clear hK K; (try simp only [Act.put, ptL]); refine tj 11 rfl (by exact HSB.out _ HB62) ?_; (try simp only [Act.put, ptL]); refine rz1 12 rfl ?_; intro K hK; go_simp; obtain ⟨WA, hWA⟩ : ∃ WA, WA = W62 := ⟨_, rfl⟩; have hq_x : b_x < WA.heap.size := by rw [hWA]; exact block_lt hx_x
          (with_reducible refine (c_askedG pm pv pr cm cv cr p false W62 (HPW.out _ HB62) HL.out).mono ?_)
          rintro e W69 ⟨qa, na, ca, qb, nb, cb, qc, nc, cc, qd, nd, cd, er, rfl, hmk, hbn⟩; obtain ⟨WB, hWB⟩ : ∃ WB, WB = W69 := ⟨_, rfl⟩; have HQ : ∀ k, WA.heap.size ≤ k → k < WB.heap.size → W69.heap[k]? = WB.heap[k]? := fun k _ _ => by rw [hWB]
          have hqs : WB.heap.size ≤ W69.heap.size := by rw [hWB]; exact Nat.le_refl _
          rw [← hWA, ← hWB] at hmk; clear hWA hWB; have HB69 : Below w2.heap.size w2 W69 := HB62.trans (hbn.mono HB62.size); have hx_x : W69.heap[b_x]? = some (.cells #[.slice none 0 0, .slice none 0 0, .slice none 0 0, .slice none 0 0] 105) := (hbn.block _ (block_lt hx_x)).trans hx_x; clear hbn; go_simp; refine kz hK (by exact HSB.out _ HB69) ?_; clear hK K; (try simp only [Act.put, ptL]); clear HB62; refine tj 13 rfl (by exact HSB.out _ HB69) ?_; (try simp only [Act.put, ptL]); refine tj 14 rfl (by exact HSB.out _ HB69) ?_; (try simp only [Act.put, ptL]); refine tj 15 rfl (by exact HSB.out _ HB69) ?_; (try simp only [Act.put, ptL]); refine rz1 17 rfl ?_; intro K hK; refine set4K W69 b_x 105 _ _ _ _ (.slice qa na ca) (.slice qb nb cb) (.slice qc nc cc) (.slice qd nd cd) hx_x (fun wa73 wb73 wc73 W73 sa sb sc sd ca0 fa0 ca1 fa1 ca2 fa2 ca3 fa3 hx4 hxk HZs hxb => ?_); have HB73 : Below w2.heap.size w2 W73 := hxb w2 w2.heap.size hl_x HB69
          have hx_x := hx4; have HQ : ∀ k, WA.heap.size ≤ k → k < WB.heap.size → W73.heap[k]? = WB.heap[k]? := fun k h1 h2 => (hxk k (by omega)).trans (HQ k h1 h2)
          have hqs : WB.heap.size ≤ W73.heap.size := by rw [HZs.out]; exact hqs
          clear hx4 hxk hxb HZs; go_simp; refine kz hK (by exact HSB.out _ HB73) ?_; clear hK K; (try simp only [Act.put, ptL]); clear ca0 ca1 ca2 ca3 fa0 fa1 fa2 fa3 sa sb sc sd HB69; refine tj 18 rfl (by exact HSB.out _ HB73) ?_; (try simp only [Act.put, ptL]); refine wpAnyH_done (by kernel_rfl) ?_ _; obtain ⟨wz, hwz⟩ : ∃ wz, wz = W73 := ⟨_, rfl⟩; subst hwz; have HBZ := HB73; clear HB73; exact ⟨rfl, _, _, _, _, _, _, _, _, _, _, _, _, _, _, _, _, _, _, _, _, _, _, _, rfl, Lib.hid hx_x, Lib.hid (by rw [Bool.false_and, Bool.false_and]; exact hmk.out.at HQ), Lib.hid HBZ, Lib.hid hl_x⟩
      · intro K hK
        go_simp; refine kz hK (by exact HSB.out _ (HB0.alloc HB0.size _)) ?_; clear hK K; (try simp only [Act.put, ptL]); refine wpAnyH_gen (fun W75 hWn => ?_); have HB75 : Below w2.heap.size w2 W75 := by rw [hWn]; exact HB0.alloc HB0.size _
        have hx_x : W75.heap[W0.heap.size]? = some (.cells #[.slice none 0 0, .slice none 0 0, .slice none 0 0, .slice none 0 0] 105) := by rw [hWn]; exact alloc_new _ _
        have hl_x : w2.heap.size ≤ W0.heap.size := HB0.size; clear hWn; obtain ⟨b_x, hb_x⟩ : ∃ b, W0.heap.size = b := ⟨_, rfl⟩; rw [hb_x] at hx_x hl_x ⊢; clear HB0 hb_x; refine rz1 3 rfl ?_; intro K hK; go_simp
        (with_reducible refine (HC.out W75 (HEW.out _ HB75)).mono ?_)
        rw [hF1]; rintro e W76 ⟨rfl, hbn⟩; have HB76 : Below w2.heap.size w2 W76 := HB75.trans (hbn.mono HB75.size); have hx_x : W76.heap[b_x]? = some (.cells #[.slice none 0 0, .slice none 0 0, .slice none 0 0, .slice none 0 0] 105) := (hbn.block _ (block_lt hx_x)).trans hx_x; clear hbn; go_simp; refine kz hK (by exact HSB.out _ HB76) ?_; clear hK K; (try simp only [Act.put, ptL]); clear HB75; refine tj 4 rfl (by exact HSB.out _ HB76) ?_; (try simp only [Act.put, ptL]); refine wpAnyH_take (i := 5) (v := undef) rfl (by kernel_rfl) (by kernel_rfl) (by kernel_rfl) (fun _ _ _ h => by first | (exact absurd h.1 (by intro hh; cases hh)) | exact h) (Or.inr ⟨by kernel_rfl, rfl⟩) (by (try dsimp only); exact HSB.out _ HB76) ?_; (try simp only [Act.put, ptL]); refine rz1 6 rfl ?_; intro K hK
        with_reducible refine unw ?hb79 ?hq79
        case hb79 => kernel_rfl
        refine kz hK (by exact HSB.out _ HB76) ?_; clear hK K; (try simp only [Act.put, ptL]); refine tj 7 rfl (by exact HSB.out _ HB76) ?_; (try simp only [Act.put, ptL]); refine tj 8 rfl (by exact HSB.out _ HB76) ?_; (try simp only [Act.put, ptL]); refine wpAnyH_take (i := 9) (v := undef) rfl (by kernel_rfl) (by kernel_rfl) (by kernel_rfl) (fun _ _ _ h => by first | (exact absurd h.1 (by intro hh; cases hh)) | exact h) (Or.inr ⟨by kernel_rfl, rfl⟩) (by (try dsimp only); exact HSB.out _ HB76) ?_; (try simp only [Act.put, ptL]); refine rz1 10 rfl ?_; intro K hK
        with_reducible refine unw ?hb83 ?hq83
        case hb83 => kernel_rfl
        refine kz hK (by exact HSB.out _ HB76) ?_; clear hK K; (try simp only [Act.put, ptL]); refine tj 11 rfl (by exact HSB.out _ HB76) ?_; (try simp only [Act.put, ptL]); refine rz1 12 rfl ?_; intro K hK; go_simp; obtain ⟨WA, hWA⟩ : ∃ WA, WA = W76 := ⟨_, rfl⟩; have hq_x : b_x < WA.heap.size := by rw [hWA]; exact block_lt hx_x
        (with_reducible refine (c_askedG pm pv pr cm cv cr p false W76 (HPW.out _ HB76) HL.out).mono ?_)
        rintro e W85 ⟨qa, na, ca, qb, nb, cb, qc, nc, cc, qd, nd, cd, er, rfl, hmk, hbn⟩; obtain ⟨WB, hWB⟩ : ∃ WB, WB = W85 := ⟨_, rfl⟩; have HQ : ∀ k, WA.heap.size ≤ k → k < WB.heap.size → W85.heap[k]? = WB.heap[k]? := fun k _ _ => by rw [hWB]
        have hqs : WB.heap.size ≤ W85.heap.size := by rw [hWB]; exact Nat.le_refl _
        rw [← hWA, ← hWB] at hmk; clear hWA hWB; have HB85 : Below w2.heap.size w2 W85 := HB76.trans (hbn.mono HB76.size); have hx_x : W85.heap[b_x]? = some (.cells #[.slice none 0 0, .slice none 0 0, .slice none 0 0, .slice none 0 0] 105) := (hbn.block _ (block_lt hx_x)).trans hx_x; clear hbn; go_simp; refine kz hK (by exact HSB.out _ HB85) ?_; clear hK K; (try simp only [Act.put, ptL]); clear HB76; refine tj 13 rfl (by exact HSB.out _ HB85) ?_; (try simp only [Act.put, ptL]); refine tj 14 rfl (by exact HSB.out _ HB85) ?_; (try simp only [Act.put, ptL]); refine tj 15 rfl (by exact HSB.out _ HB85) ?_; (try simp only [Act.put, ptL]); refine rz1 17 rfl ?_; intro K hK; refine set4K W85 b_x 105 _ _ _ _ (.slice qa na ca) (.slice qb nb cb) (.slice qc nc cc) (.slice qd nd cd) hx_x (fun wa89 wb89 wc89 W89 sa sb sc sd ca0 fa0 ca1 fa1 ca2 fa2 ca3 fa3 hx4 hxk HZs hxb => ?_); have HB89 : Below w2.heap.size w2 W89 := hxb w2 w2.heap.size hl_x HB85
        have hx_x := hx4; have HQ : ∀ k, WA.heap.size ≤ k → k < WB.heap.size → W89.heap[k]? = WB.heap[k]? := fun k h1 h2 => (hxk k (by omega)).trans (HQ k h1 h2)
        have hqs : WB.heap.size ≤ W89.heap.size := by rw [HZs.out]; exact hqs
        clear hx4 hxk hxb HZs; go_simp; refine kz hK (by exact HSB.out _ HB89) ?_; clear hK K; (try simp only [Act.put, ptL]); clear ca0 ca1 ca2 ca3 fa0 fa1 fa2 fa3 sa sb sc sd HB85; refine tj 18 rfl (by exact HSB.out _ HB89) ?_; (try simp only [Act.put, ptL]); refine wpAnyH_done (by kernel_rfl) ?_ _; obtain ⟨wz, hwz⟩ : ∃ wz, wz = W89 := ⟨_, rfl⟩; subst hwz; have HBZ := HB89; clear HB89; exact ⟨rfl, _, _, _, _, _, _, _, _, _, _, _, _, _, _, _, _, _, _, _, _, _, _, _, rfl, Lib.hid hx_x, Lib.hid (by rw [Bool.false_and, Bool.false_and]; exact hmk.out.at HQ), Lib.hid HBZ, Lib.hid hl_x⟩
    rcases hF2 : inB want (-5000) 5000 with _ | _
    · skip
      refine wp_region_held_drew (S := (fun w' => (w'.cell? ⟨w.heap.size, 0, none⟩ = some (.slice pm p.ms.length cm) ∧ w'.cell? ⟨w.heap.size, 1, none⟩ = some (.slice pv p.mv.length cv) ∧ w'.cell? ⟨w.heap.size, 2, none⟩ = some (.slice pr p.rs.length cr)) ∧ (w'.cell? ⟨w1.heap.size, 0, none⟩ = some (.int .i64 h.arb) ∧ w'.cell? ⟨w1.heap.size, 1, none⟩ = some (.int .i64 h.num) ∧ w'.cell? ⟨w1.heap.size, 2, none⟩ = some (.int .i64 h.den) ∧ w'.cell? ⟨w1.heap.size, 3, none⟩ = some (.slice pe h.er.length ce)))) (by kernel_rfl) (by (try dsimp only); exact HSB.out _ (Below.refl _ _).drew) (fun hHeld => ?_); refine wpAnyH_gen (fun W0 hW0 => ?_); have HB0 : Below w2.heap.size w2 W0 := by rw [hW0]; exact (Below.refl _ _).drew
      clear hW0 hHeld; refine tj 0 rfl (by exact HSB.out _ HB0) ?_; (try simp only [Act.put, ptL]); refine tj 1 rfl (by exact HSB.out _ HB0) ?_; (try simp only [Act.put, ptL]); refine tj 2 rfl (by exact HSB.out _ HB0) ?_; (try simp only [Act.put, ptL]); refine rz2 3 16 rfl rfl ?_ ?_
      · intro K hK
        go_simp
        (with_reducible refine (HC.out W0 (HEW.out _ HB0)).mono ?_)
        rw [hF1]; rintro e W94 ⟨rfl, hbn⟩; have HB94 : Below w2.heap.size w2 W94 := HB0.trans (hbn.mono HB0.size); clear hbn; go_simp; refine kz hK (by exact HSB.out _ HB94) ?_; clear hK K; (try simp only [Act.put, ptL]); clear HB0; refine tj 4 rfl (by exact HSB.out _ HB94) ?_; (try simp only [Act.put, ptL]); refine tj 5 rfl (by exact HSB.out _ HB94) ?_; (try simp only [Act.put, ptL]); refine rz2 6 16 rfl rfl ?_ ?_
        · intro K hK
          go_simp
          (with_reducible refine (c_isPlaceC want W94).mono ?_)
          rw [hF2]; rintro e W97 ⟨rfl, hbn⟩; have HB97 : Below w2.heap.size w2 W97 := HB94.trans (hbn.mono HB94.size); clear hbn; go_simp; refine kz hK (by exact HSB.out _ HB97) ?_; clear hK K; (try simp only [Act.put, ptL]); clear HB94; refine tj 7 rfl (by exact HSB.out _ HB97) ?_; (try simp only [Act.put, ptL]); refine tj 8 rfl (by exact HSB.out _ HB97) ?_; (try simp only [Act.put, ptL]); refine wpAnyH_take (i := 9) (v := undef) rfl (by kernel_rfl) (by kernel_rfl) (by kernel_rfl) (fun _ _ _ h => by first | (exact absurd h.1 (by intro hh; cases hh)) | exact h) (Or.inr ⟨by kernel_rfl, rfl⟩) (by (try dsimp only); exact HSB.out _ HB97) ?_; (try simp only [Act.put, ptL]); refine rz2 10 16 rfl rfl ?_ ?_
          · intro K hK
            with_reducible refine unw ?hb101 ?hq101
            case hb101 => kernel_rfl
            refine kz hK (by exact HSB.out _ HB97) ?_; clear hK K; (try simp only [Act.put, ptL]); refine tj 11 rfl (by exact HSB.out _ HB97) ?_; (try simp only [Act.put, ptL]); refine rz2 12 16 rfl rfl ?_ ?_
            · intro K hK
              go_simp; obtain ⟨WA, hWA⟩ : ∃ WA, WA = W97 := ⟨_, rfl⟩
              (with_reducible refine (c_askedG pm pv pr cm cv cr p false W97 (HPW.out _ HB97) HL.out).mono ?_)
              rintro e W103 ⟨qa, na, ca, qb, nb, cb, qc, nc, cc, qd, nd, cd, er, rfl, hmk, hbn⟩; obtain ⟨WB, hWB⟩ : ∃ WB, WB = W103 := ⟨_, rfl⟩; have HQ : ∀ k, WA.heap.size ≤ k → k < WB.heap.size → W103.heap[k]? = WB.heap[k]? := fun k _ _ => by rw [hWB]
              have hqs : WB.heap.size ≤ W103.heap.size := by rw [hWB]; exact Nat.le_refl _
              rw [← hWA, ← hWB] at hmk; clear hWA hWB; have HB103 : Below w2.heap.size w2 W103 := HB97.trans (hbn.mono HB97.size); clear hbn; go_simp; refine kz hK (by exact HSB.out _ HB103) ?_; clear hK K; (try simp only [Act.put, ptL]); clear HB97; refine tj 13 rfl (by exact HSB.out _ HB103) ?_; (try simp only [Act.put, ptL]); refine tj 14 rfl (by exact HSB.out _ HB103) ?_; (try simp only [Act.put, ptL]); refine tj 15 rfl (by exact HSB.out _ HB103) ?_; (try simp only [Act.put, ptL]); refine rz1 16 rfl ?_; intro K hK; go_simp; refine kz hK (by exact HSB.out _ (HB103.alloc HB103.size _)) ?_; clear hK K; (try simp only [Act.put, ptL]); refine wpAnyH_gen (fun W107 hWn => ?_); have HB107 : Below w2.heap.size w2 W107 := by rw [hWn]; exact HB103.alloc HB103.size _
              have HQ : ∀ k, WA.heap.size ≤ k → k < WB.heap.size → W107.heap[k]? = WB.heap[k]? := fun k h1 h2 => by rw [hWn, Below.heap_alloc _ _ _ (Nat.lt_of_lt_of_le h2 hqs)]; exact HQ k h1 h2
              have hq_x : WB.heap.size ≤ W103.heap.size := hqs; have hqs : WB.heap.size ≤ W107.heap.size := by rw [hWn]; simp; omega
              have hx_x : W107.heap[W103.heap.size]? = some (.cells #[.slice none 0 0, .slice none 0 0, .slice none 0 0, .slice none 0 0] 105) := by rw [hWn]; exact alloc_new _ _
              have hl_x : w2.heap.size ≤ W103.heap.size := HB103.size; clear hWn; obtain ⟨b_x, hb_x⟩ : ∃ b, W103.heap.size = b := ⟨_, rfl⟩; rw [hb_x] at hx_x hl_x hq_x ⊢; clear HB103 hb_x; refine rz1 17 rfl ?_; intro K hK; refine set4K W107 b_x 105 _ _ _ _ (.slice qa na ca) (.slice qb nb cb) (.slice qc nc cc) (.slice qd nd cd) hx_x (fun wa108 wb108 wc108 W108 sa sb sc sd ca0 fa0 ca1 fa1 ca2 fa2 ca3 fa3 hx4 hxk HZs hxb => ?_); have HB108 : Below w2.heap.size w2 W108 := hxb w2 w2.heap.size hl_x HB107; have hx_x := hx4; have HQ : ∀ k, WA.heap.size ≤ k → k < WB.heap.size → W108.heap[k]? = WB.heap[k]? := fun k h1 h2 => (hxk k (by omega)).trans (HQ k h1 h2)
              have hqs : WB.heap.size ≤ W108.heap.size := by rw [HZs.out]; exact hqs
              clear hx4 hxk hxb HZs; go_simp; refine kz hK (by exact HSB.out _ HB108) ?_; clear hK K; (try simp only [Act.put, ptL]); clear ca0 ca1 ca2 ca3 fa0 fa1 fa2 fa3 sa sb sc sd HB107; refine tj 18 rfl (by exact HSB.out _ HB108) ?_; (try simp only [Act.put, ptL]); refine wpAnyH_done (by kernel_rfl) ?_ _; obtain ⟨wz, hwz⟩ : ∃ wz, wz = W108 := ⟨_, rfl⟩; subst hwz; have HBZ := HB108; clear HB108; exact ⟨rfl, _, _, _, _, _, _, _, _, _, _, _, _, _, _, _, _, _, _, _, _, _, _, _, rfl, Lib.hid hx_x, Lib.hid (by rw [Bool.true_and, Bool.false_and]; exact hmk.out.at HQ), Lib.hid HBZ, Lib.hid hl_x⟩
            · intro K hK
              go_simp; refine kz hK (by exact HSB.out _ (HB97.alloc HB97.size _)) ?_; clear hK K; (try simp only [Act.put, ptL]); refine wpAnyH_gen (fun W110 hWn => ?_); have HB110 : Below w2.heap.size w2 W110 := by rw [hWn]; exact HB97.alloc HB97.size _
              have hx_x : W110.heap[W97.heap.size]? = some (.cells #[.slice none 0 0, .slice none 0 0, .slice none 0 0, .slice none 0 0] 105) := by rw [hWn]; exact alloc_new _ _
              have hl_x : w2.heap.size ≤ W97.heap.size := HB97.size; clear hWn; obtain ⟨b_x, hb_x⟩ : ∃ b, W97.heap.size = b := ⟨_, rfl⟩; rw [hb_x] at hx_x hl_x ⊢; clear HB97 hb_x; refine rz1 12 rfl ?_; intro K hK; go_simp; obtain ⟨WA, hWA⟩ : ∃ WA, WA = W110 := ⟨_, rfl⟩; have hq_x : b_x < WA.heap.size := by rw [hWA]; exact block_lt hx_x
              (with_reducible refine (c_askedG pm pv pr cm cv cr p false W110 (HPW.out _ HB110) HL.out).mono ?_)
              rintro e W111 ⟨qa, na, ca, qb, nb, cb, qc, nc, cc, qd, nd, cd, er, rfl, hmk, hbn⟩; obtain ⟨WB, hWB⟩ : ∃ WB, WB = W111 := ⟨_, rfl⟩; have HQ : ∀ k, WA.heap.size ≤ k → k < WB.heap.size → W111.heap[k]? = WB.heap[k]? := fun k _ _ => by rw [hWB]
              have hqs : WB.heap.size ≤ W111.heap.size := by rw [hWB]; exact Nat.le_refl _
              rw [← hWA, ← hWB] at hmk; clear hWA hWB; have HB111 : Below w2.heap.size w2 W111 := HB110.trans (hbn.mono HB110.size); have hx_x : W111.heap[b_x]? = some (.cells #[.slice none 0 0, .slice none 0 0, .slice none 0 0, .slice none 0 0] 105) := (hbn.block _ (block_lt hx_x)).trans hx_x; clear hbn; go_simp; refine kz hK (by exact HSB.out _ HB111) ?_; clear hK K; (try simp only [Act.put, ptL]); clear HB110; refine tj 13 rfl (by exact HSB.out _ HB111) ?_; (try simp only [Act.put, ptL]); refine tj 14 rfl (by exact HSB.out _ HB111) ?_; (try simp only [Act.put, ptL]); refine tj 15 rfl (by exact HSB.out _ HB111) ?_; (try simp only [Act.put, ptL]); refine rz1 17 rfl ?_; intro K hK; refine set4K W111 b_x 105 _ _ _ _ (.slice qa na ca) (.slice qb nb cb) (.slice qc nc cc) (.slice qd nd cd) hx_x (fun wa115 wb115 wc115 W115 sa sb sc sd ca0 fa0 ca1 fa1 ca2 fa2 ca3 fa3 hx4 hxk HZs hxb => ?_); have HB115 : Below w2.heap.size w2 W115 := hxb w2 w2.heap.size hl_x HB111
              have hx_x := hx4; have HQ : ∀ k, WA.heap.size ≤ k → k < WB.heap.size → W115.heap[k]? = WB.heap[k]? := fun k h1 h2 => (hxk k (by omega)).trans (HQ k h1 h2)
              have hqs : WB.heap.size ≤ W115.heap.size := by rw [HZs.out]; exact hqs
              clear hx4 hxk hxb HZs; go_simp; refine kz hK (by exact HSB.out _ HB115) ?_; clear hK K; (try simp only [Act.put, ptL]); clear ca0 ca1 ca2 ca3 fa0 fa1 fa2 fa3 sa sb sc sd HB111; refine tj 18 rfl (by exact HSB.out _ HB115) ?_; (try simp only [Act.put, ptL]); refine wpAnyH_done (by kernel_rfl) ?_ _; obtain ⟨wz, hwz⟩ : ∃ wz, wz = W115 := ⟨_, rfl⟩; subst hwz; have HBZ := HB115; clear HB115; exact ⟨rfl, _, _, _, _, _, _, _, _, _, _, _, _, _, _, _, _, _, _, _, _, _, _, _, rfl, Lib.hid hx_x, Lib.hid (by rw [Bool.true_and, Bool.false_and]; exact hmk.out.at HQ), Lib.hid HBZ, Lib.hid hl_x⟩
          · intro K hK
            go_simp; refine kz hK (by exact HSB.out _ (HB97.alloc HB97.size _)) ?_; clear hK K; (try simp only [Act.put, ptL]); refine wpAnyH_gen (fun W117 hWn => ?_); have HB117 : Below w2.heap.size w2 W117 := by rw [hWn]; exact HB97.alloc HB97.size _
            have hx_x : W117.heap[W97.heap.size]? = some (.cells #[.slice none 0 0, .slice none 0 0, .slice none 0 0, .slice none 0 0] 105) := by rw [hWn]; exact alloc_new _ _
            have hl_x : w2.heap.size ≤ W97.heap.size := HB97.size; clear hWn; obtain ⟨b_x, hb_x⟩ : ∃ b, W97.heap.size = b := ⟨_, rfl⟩; rw [hb_x] at hx_x hl_x ⊢; clear HB97 hb_x; refine rz1 10 rfl ?_; intro K hK
            with_reducible refine unw ?hb118 ?hq118
            case hb118 => kernel_rfl
            refine kz hK (by exact HSB.out _ HB117) ?_; clear hK K; (try simp only [Act.put, ptL]); refine tj 11 rfl (by exact HSB.out _ HB117) ?_; (try simp only [Act.put, ptL]); refine rz1 12 rfl ?_; intro K hK; go_simp; obtain ⟨WA, hWA⟩ : ∃ WA, WA = W117 := ⟨_, rfl⟩; have hq_x : b_x < WA.heap.size := by rw [hWA]; exact block_lt hx_x
            (with_reducible refine (c_askedG pm pv pr cm cv cr p false W117 (HPW.out _ HB117) HL.out).mono ?_)
            rintro e W120 ⟨qa, na, ca, qb, nb, cb, qc, nc, cc, qd, nd, cd, er, rfl, hmk, hbn⟩; obtain ⟨WB, hWB⟩ : ∃ WB, WB = W120 := ⟨_, rfl⟩; have HQ : ∀ k, WA.heap.size ≤ k → k < WB.heap.size → W120.heap[k]? = WB.heap[k]? := fun k _ _ => by rw [hWB]
            have hqs : WB.heap.size ≤ W120.heap.size := by rw [hWB]; exact Nat.le_refl _
            rw [← hWA, ← hWB] at hmk; clear hWA hWB; have HB120 : Below w2.heap.size w2 W120 := HB117.trans (hbn.mono HB117.size); have hx_x : W120.heap[b_x]? = some (.cells #[.slice none 0 0, .slice none 0 0, .slice none 0 0, .slice none 0 0] 105) := (hbn.block _ (block_lt hx_x)).trans hx_x; clear hbn; go_simp; refine kz hK (by exact HSB.out _ HB120) ?_; clear hK K; (try simp only [Act.put, ptL]); clear HB117; refine tj 13 rfl (by exact HSB.out _ HB120) ?_; (try simp only [Act.put, ptL]); refine tj 14 rfl (by exact HSB.out _ HB120) ?_; (try simp only [Act.put, ptL]); refine tj 15 rfl (by exact HSB.out _ HB120) ?_; (try simp only [Act.put, ptL]); refine rz1 17 rfl ?_; intro K hK; refine set4K W120 b_x 105 _ _ _ _ (.slice qa na ca) (.slice qb nb cb) (.slice qc nc cc) (.slice qd nd cd) hx_x (fun wa124 wb124 wc124 W124 sa sb sc sd ca0 fa0 ca1 fa1 ca2 fa2 ca3 fa3 hx4 hxk HZs hxb => ?_); have HB124 : Below w2.heap.size w2 W124 := hxb w2 w2.heap.size hl_x HB120
            have hx_x := hx4; have HQ : ∀ k, WA.heap.size ≤ k → k < WB.heap.size → W124.heap[k]? = WB.heap[k]? := fun k h1 h2 => (hxk k (by omega)).trans (HQ k h1 h2)
            have hqs : WB.heap.size ≤ W124.heap.size := by rw [HZs.out]; exact hqs
            clear hx4 hxk hxb HZs; go_simp; refine kz hK (by exact HSB.out _ HB124) ?_; clear hK K; (try simp only [Act.put, ptL]); clear ca0 ca1 ca2 ca3 fa0 fa1 fa2 fa3 sa sb sc sd HB120; refine tj 18 rfl (by exact HSB.out _ HB124) ?_; (try simp only [Act.put, ptL]); refine wpAnyH_done (by kernel_rfl) ?_ _; obtain ⟨wz, hwz⟩ : ∃ wz, wz = W124 := ⟨_, rfl⟩; subst hwz; have HBZ := HB124; clear HB124; exact ⟨rfl, _, _, _, _, _, _, _, _, _, _, _, _, _, _, _, _, _, _, _, _, _, _, _, rfl, Lib.hid hx_x, Lib.hid (by rw [Bool.true_and, Bool.false_and]; exact hmk.out.at HQ), Lib.hid HBZ, Lib.hid hl_x⟩
        · intro K hK
          go_simp; refine kz hK (by exact HSB.out _ (HB94.alloc HB94.size _)) ?_; clear hK K; (try simp only [Act.put, ptL]); refine wpAnyH_gen (fun W126 hWn => ?_); have HB126 : Below w2.heap.size w2 W126 := by rw [hWn]; exact HB94.alloc HB94.size _
          have hx_x : W126.heap[W94.heap.size]? = some (.cells #[.slice none 0 0, .slice none 0 0, .slice none 0 0, .slice none 0 0] 105) := by rw [hWn]; exact alloc_new _ _
          have hl_x : w2.heap.size ≤ W94.heap.size := HB94.size; clear hWn; obtain ⟨b_x, hb_x⟩ : ∃ b, W94.heap.size = b := ⟨_, rfl⟩; rw [hb_x] at hx_x hl_x ⊢; clear HB94 hb_x; refine rz1 6 rfl ?_; intro K hK; go_simp
          (with_reducible refine (c_isPlaceC want W126).mono ?_)
          rw [hF2]; rintro e W127 ⟨rfl, hbn⟩; have HB127 : Below w2.heap.size w2 W127 := HB126.trans (hbn.mono HB126.size); have hx_x : W127.heap[b_x]? = some (.cells #[.slice none 0 0, .slice none 0 0, .slice none 0 0, .slice none 0 0] 105) := (hbn.block _ (block_lt hx_x)).trans hx_x; clear hbn; go_simp; refine kz hK (by exact HSB.out _ HB127) ?_; clear hK K; (try simp only [Act.put, ptL]); clear HB126; refine tj 7 rfl (by exact HSB.out _ HB127) ?_; (try simp only [Act.put, ptL]); refine tj 8 rfl (by exact HSB.out _ HB127) ?_; (try simp only [Act.put, ptL]); refine wpAnyH_take (i := 9) (v := undef) rfl (by kernel_rfl) (by kernel_rfl) (by kernel_rfl) (fun _ _ _ h => by first | (exact absurd h.1 (by intro hh; cases hh)) | exact h) (Or.inr ⟨by kernel_rfl, rfl⟩) (by (try dsimp only); exact HSB.out _ HB127) ?_; (try simp only [Act.put, ptL]); refine rz1 10 rfl ?_; intro K hK
          with_reducible refine unw ?hb131 ?hq131
          case hb131 => kernel_rfl
          refine kz hK (by exact HSB.out _ HB127) ?_; clear hK K; (try simp only [Act.put, ptL]); refine tj 11 rfl (by exact HSB.out _ HB127) ?_; (try simp only [Act.put, ptL]); refine rz1 12 rfl ?_; intro K hK; go_simp; obtain ⟨WA, hWA⟩ : ∃ WA, WA = W127 := ⟨_, rfl⟩; have hq_x : b_x < WA.heap.size := by rw [hWA]; exact block_lt hx_x
          (with_reducible refine (c_askedG pm pv pr cm cv cr p false W127 (HPW.out _ HB127) HL.out).mono ?_)
          rintro e W133 ⟨qa, na, ca, qb, nb, cb, qc, nc, cc, qd, nd, cd, er, rfl, hmk, hbn⟩; obtain ⟨WB, hWB⟩ : ∃ WB, WB = W133 := ⟨_, rfl⟩; have HQ : ∀ k, WA.heap.size ≤ k → k < WB.heap.size → W133.heap[k]? = WB.heap[k]? := fun k _ _ => by rw [hWB]
          have hqs : WB.heap.size ≤ W133.heap.size := by rw [hWB]; exact Nat.le_refl _
          rw [← hWA, ← hWB] at hmk; clear hWA hWB; have HB133 : Below w2.heap.size w2 W133 := HB127.trans (hbn.mono HB127.size); have hx_x : W133.heap[b_x]? = some (.cells #[.slice none 0 0, .slice none 0 0, .slice none 0 0, .slice none 0 0] 105) := (hbn.block _ (block_lt hx_x)).trans hx_x; clear hbn; go_simp; refine kz hK (by exact HSB.out _ HB133) ?_; clear hK K; (try simp only [Act.put, ptL]); clear HB127; refine tj 13 rfl (by exact HSB.out _ HB133) ?_; (try simp only [Act.put, ptL]); refine tj 14 rfl (by exact HSB.out _ HB133) ?_; (try simp only [Act.put, ptL]); refine tj 15 rfl (by exact HSB.out _ HB133) ?_; (try simp only [Act.put, ptL]); refine rz1 17 rfl ?_; intro K hK; refine set4K W133 b_x 105 _ _ _ _ (.slice qa na ca) (.slice qb nb cb) (.slice qc nc cc) (.slice qd nd cd) hx_x (fun wa137 wb137 wc137 W137 sa sb sc sd ca0 fa0 ca1 fa1 ca2 fa2 ca3 fa3 hx4 hxk HZs hxb => ?_); have HB137 : Below w2.heap.size w2 W137 := hxb w2 w2.heap.size hl_x HB133
          have hx_x := hx4; have HQ : ∀ k, WA.heap.size ≤ k → k < WB.heap.size → W137.heap[k]? = WB.heap[k]? := fun k h1 h2 => (hxk k (by omega)).trans (HQ k h1 h2)
          have hqs : WB.heap.size ≤ W137.heap.size := by rw [HZs.out]; exact hqs
          clear hx4 hxk hxb HZs; go_simp; refine kz hK (by exact HSB.out _ HB137) ?_; clear hK K; (try simp only [Act.put, ptL]); clear ca0 ca1 ca2 ca3 fa0 fa1 fa2 fa3 sa sb sc sd HB133; refine tj 18 rfl (by exact HSB.out _ HB137) ?_; (try simp only [Act.put, ptL]); refine wpAnyH_done (by kernel_rfl) ?_ _; obtain ⟨wz, hwz⟩ : ∃ wz, wz = W137 := ⟨_, rfl⟩; subst hwz; have HBZ := HB137; clear HB137; exact ⟨rfl, _, _, _, _, _, _, _, _, _, _, _, _, _, _, _, _, _, _, _, _, _, _, _, rfl, Lib.hid hx_x, Lib.hid (by rw [Bool.true_and, Bool.false_and]; exact hmk.out.at HQ), Lib.hid HBZ, Lib.hid hl_x⟩
      · intro K hK
        go_simp; refine kz hK (by exact HSB.out _ (HB0.alloc HB0.size _)) ?_; clear hK K; (try simp only [Act.put, ptL]); refine wpAnyH_gen (fun W139 hWn => ?_); have HB139 : Below w2.heap.size w2 W139 := by rw [hWn]; exact HB0.alloc HB0.size _
        have hx_x : W139.heap[W0.heap.size]? = some (.cells #[.slice none 0 0, .slice none 0 0, .slice none 0 0, .slice none 0 0] 105) := by rw [hWn]; exact alloc_new _ _
        have hl_x : w2.heap.size ≤ W0.heap.size := HB0.size; clear hWn; obtain ⟨b_x, hb_x⟩ : ∃ b, W0.heap.size = b := ⟨_, rfl⟩; rw [hb_x] at hx_x hl_x ⊢; clear HB0 hb_x; refine rz1 3 rfl ?_; intro K hK; go_simp
        (with_reducible refine (HC.out W139 (HEW.out _ HB139)).mono ?_)
        rw [hF1]; rintro e W140 ⟨rfl, hbn⟩; have HB140 : Below w2.heap.size w2 W140 := HB139.trans (hbn.mono HB139.size); have hx_x : W140.heap[b_x]? = some (.cells #[.slice none 0 0, .slice none 0 0, .slice none 0 0, .slice none 0 0] 105) := (hbn.block _ (block_lt hx_x)).trans hx_x; clear hbn; go_simp; refine kz hK (by exact HSB.out _ HB140) ?_; clear hK K; (try simp only [Act.put, ptL]); clear HB139; refine tj 4 rfl (by exact HSB.out _ HB140) ?_; (try simp only [Act.put, ptL]); refine tj 5 rfl (by exact HSB.out _ HB140) ?_; (try simp only [Act.put, ptL]); refine rz1 6 rfl ?_; intro K hK; go_simp
        (with_reducible refine (c_isPlaceC want W140).mono ?_)
        rw [hF2]; rintro e W143 ⟨rfl, hbn⟩; have HB143 : Below w2.heap.size w2 W143 := HB140.trans (hbn.mono HB140.size); have hx_x : W143.heap[b_x]? = some (.cells #[.slice none 0 0, .slice none 0 0, .slice none 0 0, .slice none 0 0] 105) := (hbn.block _ (block_lt hx_x)).trans hx_x; clear hbn; go_simp; refine kz hK (by exact HSB.out _ HB143) ?_; clear hK K; (try simp only [Act.put, ptL]); clear HB140; refine tj 7 rfl (by exact HSB.out _ HB143) ?_; (try simp only [Act.put, ptL]); refine tj 8 rfl (by exact HSB.out _ HB143) ?_; (try simp only [Act.put, ptL]); refine wpAnyH_take (i := 9) (v := undef) rfl (by kernel_rfl) (by kernel_rfl) (by kernel_rfl) (fun _ _ _ h => by first | (exact absurd h.1 (by intro hh; cases hh)) | exact h) (Or.inr ⟨by kernel_rfl, rfl⟩) (by (try dsimp only); exact HSB.out _ HB143) ?_; (try simp only [Act.put, ptL]); refine rz1 10 rfl ?_; intro K hK
        with_reducible refine unw ?hb147 ?hq147
        case hb147 => kernel_rfl
        refine kz hK (by exact HSB.out _ HB143) ?_; clear hK K; (try simp only [Act.put, ptL]); refine tj 11 rfl (by exact HSB.out _ HB143) ?_; (try simp only [Act.put, ptL]); refine rz1 12 rfl ?_; intro K hK; go_simp; obtain ⟨WA, hWA⟩ : ∃ WA, WA = W143 := ⟨_, rfl⟩; have hq_x : b_x < WA.heap.size := by rw [hWA]; exact block_lt hx_x
        (with_reducible refine (c_askedG pm pv pr cm cv cr p false W143 (HPW.out _ HB143) HL.out).mono ?_)
        rintro e W149 ⟨qa, na, ca, qb, nb, cb, qc, nc, cc, qd, nd, cd, er, rfl, hmk, hbn⟩; obtain ⟨WB, hWB⟩ : ∃ WB, WB = W149 := ⟨_, rfl⟩; have HQ : ∀ k, WA.heap.size ≤ k → k < WB.heap.size → W149.heap[k]? = WB.heap[k]? := fun k _ _ => by rw [hWB]
        have hqs : WB.heap.size ≤ W149.heap.size := by rw [hWB]; exact Nat.le_refl _
        rw [← hWA, ← hWB] at hmk; clear hWA hWB; have HB149 : Below w2.heap.size w2 W149 := HB143.trans (hbn.mono HB143.size); have hx_x : W149.heap[b_x]? = some (.cells #[.slice none 0 0, .slice none 0 0, .slice none 0 0, .slice none 0 0] 105) := (hbn.block _ (block_lt hx_x)).trans hx_x; clear hbn; go_simp; refine kz hK (by exact HSB.out _ HB149) ?_; clear hK K; (try simp only [Act.put, ptL]); clear HB143; refine tj 13 rfl (by exact HSB.out _ HB149) ?_; (try simp only [Act.put, ptL]); refine tj 14 rfl (by exact HSB.out _ HB149) ?_; (try simp only [Act.put, ptL]); refine tj 15 rfl (by exact HSB.out _ HB149) ?_; (try simp only [Act.put, ptL]); refine rz1 17 rfl ?_; intro K hK; refine set4K W149 b_x 105 _ _ _ _ (.slice qa na ca) (.slice qb nb cb) (.slice qc nc cc) (.slice qd nd cd) hx_x (fun wa153 wb153 wc153 W153 sa sb sc sd ca0 fa0 ca1 fa1 ca2 fa2 ca3 fa3 hx4 hxk HZs hxb => ?_); have HB153 : Below w2.heap.size w2 W153 := hxb w2 w2.heap.size hl_x HB149
        have hx_x := hx4; have HQ : ∀ k, WA.heap.size ≤ k → k < WB.heap.size → W153.heap[k]? = WB.heap[k]? := fun k h1 h2 => (hxk k (by omega)).trans (HQ k h1 h2)
        have hqs : WB.heap.size ≤ W153.heap.size := by rw [HZs.out]; exact hqs
        clear hx4 hxk hxb HZs; go_simp; refine kz hK (by exact HSB.out _ HB153) ?_; clear hK K; (try simp only [Act.put, ptL]); clear ca0 ca1 ca2 ca3 fa0 fa1 fa2 fa3 sa sb sc sd HB149; refine tj 18 rfl (by exact HSB.out _ HB153) ?_; (try simp only [Act.put, ptL]); refine wpAnyH_done (by kernel_rfl) ?_ _; obtain ⟨wz, hwz⟩ : ∃ wz, wz = W153 := ⟨_, rfl⟩; subst hwz; have HBZ := HB153; clear HB153; exact ⟨rfl, _, _, _, _, _, _, _, _, _, _, _, _, _, _, _, _, _, _, _, _, _, _, _, rfl, Lib.hid hx_x, Lib.hid (by rw [Bool.true_and, Bool.false_and]; exact hmk.out.at HQ), Lib.hid HBZ, Lib.hid hl_x⟩
    refine wp_region_held_drew (S := (fun w' => (w'.cell? ⟨w.heap.size, 0, none⟩ = some (.slice pm p.ms.length cm) ∧ w'.cell? ⟨w.heap.size, 1, none⟩ = some (.slice pv p.mv.length cv) ∧ w'.cell? ⟨w.heap.size, 2, none⟩ = some (.slice pr p.rs.length cr)) ∧ (w'.cell? ⟨w1.heap.size, 0, none⟩ = some (.int .i64 h.arb) ∧ w'.cell? ⟨w1.heap.size, 1, none⟩ = some (.int .i64 h.num) ∧ w'.cell? ⟨w1.heap.size, 2, none⟩ = some (.int .i64 h.den) ∧ w'.cell? ⟨w1.heap.size, 3, none⟩ = some (.slice pe h.er.length ce)))) (by kernel_rfl) (by (try dsimp only); exact HSB.out _ (Below.refl _ _).drew) (fun hHeld => ?_); refine wpAnyH_gen (fun W0 hW0 => ?_); have HB0 : Below w2.heap.size w2 W0 := by rw [hW0]; exact (Below.refl _ _).drew
    clear hW0 hHeld; refine tj 0 rfl (by exact HSB.out _ HB0) ?_; (try simp only [Act.put, ptL]); refine tj 1 rfl (by exact HSB.out _ HB0) ?_; (try simp only [Act.put, ptL]); refine tj 2 rfl (by exact HSB.out _ HB0) ?_; (try simp only [Act.put, ptL]); refine rz2 3 16 rfl rfl ?_ ?_
    · intro K hK
      go_simp
      (with_reducible refine (HC.out W0 (HEW.out _ HB0)).mono ?_)
      rw [hF1]; rintro e W158 ⟨rfl, hbn⟩; have HB158 : Below w2.heap.size w2 W158 := HB0.trans (hbn.mono HB0.size); clear hbn; go_simp; refine kz hK (by exact HSB.out _ HB158) ?_; clear hK K; (try simp only [Act.put, ptL]); clear HB0; refine tj 4 rfl (by exact HSB.out _ HB158) ?_; (try simp only [Act.put, ptL]); refine tj 5 rfl (by exact HSB.out _ HB158) ?_; (try simp only [Act.put, ptL]); refine rz2 6 16 rfl rfl ?_ ?_
      · intro K hK
        go_simp
        (with_reducible refine (c_isPlaceC want W158).mono ?_)
        rw [hF2]; rintro e W161 ⟨rfl, hbn⟩; have HB161 : Below w2.heap.size w2 W161 := HB158.trans (hbn.mono HB158.size); clear hbn; go_simp; refine kz hK (by exact HSB.out _ HB161) ?_; clear hK K; (try simp only [Act.put, ptL]); clear HB158; refine tj 7 rfl (by exact HSB.out _ HB161) ?_; (try simp only [Act.put, ptL]); refine tj 8 rfl (by exact HSB.out _ HB161) ?_; (try simp only [Act.put, ptL]); refine tj 9 rfl (by exact HSB.out _ HB161) ?_; (try simp only [Act.put, ptL]); refine rz2 10 16 rfl rfl ?_ ?_
        · intro K hK
          go_simp
          (with_reducible refine (c_isLimitC lim W161).mono ?_)
          rintro e W165 ⟨rfl, hbn⟩; have HB165 : Below w2.heap.size w2 W165 := HB161.trans (hbn.mono HB161.size); clear hbn; go_simp; refine kz hK (by exact HSB.out _ HB165) ?_; clear hK K; (try simp only [Act.put, ptL]); clear HB161; refine tj 11 rfl (by exact HSB.out _ HB165) ?_; (try simp only [Act.put, ptL]); refine rz2 12 16 rfl rfl ?_ ?_
          · intro K hK
            go_simp; obtain ⟨WA, hWA⟩ : ∃ WA, WA = W165 := ⟨_, rfl⟩
            (with_reducible refine (c_askedG pm pv pr cm cv cr p (inB lim 0 5000) W165 (HPW.out _ HB165) HL.out).mono ?_)
            rintro e W167 ⟨qa, na, ca, qb, nb, cb, qc, nc, cc, qd, nd, cd, er, rfl, hmk, hbn⟩; obtain ⟨WB, hWB⟩ : ∃ WB, WB = W167 := ⟨_, rfl⟩; have HQ : ∀ k, WA.heap.size ≤ k → k < WB.heap.size → W167.heap[k]? = WB.heap[k]? := fun k _ _ => by rw [hWB]
            have hqs : WB.heap.size ≤ W167.heap.size := by rw [hWB]; exact Nat.le_refl _
            rw [← hWA, ← hWB] at hmk; clear hWA hWB; have HB167 : Below w2.heap.size w2 W167 := HB165.trans (hbn.mono HB165.size); clear hbn; go_simp; refine kz hK (by exact HSB.out _ HB167) ?_; clear hK K; (try simp only [Act.put, ptL]); clear HB165; refine tj 13 rfl (by exact HSB.out _ HB167) ?_; (try simp only [Act.put, ptL]); refine tj 14 rfl (by exact HSB.out _ HB167) ?_; (try simp only [Act.put, ptL]); refine tj 15 rfl (by exact HSB.out _ HB167) ?_; (try simp only [Act.put, ptL]); refine rz1 16 rfl ?_; intro K hK; go_simp; refine kz hK (by exact HSB.out _ (HB167.alloc HB167.size _)) ?_; clear hK K; (try simp only [Act.put, ptL]); refine wpAnyH_gen (fun W171 hWn => ?_); have HB171 : Below w2.heap.size w2 W171 := by rw [hWn]; exact HB167.alloc HB167.size _
            have HQ : ∀ k, WA.heap.size ≤ k → k < WB.heap.size → W171.heap[k]? = WB.heap[k]? := fun k h1 h2 => by rw [hWn, Below.heap_alloc _ _ _ (Nat.lt_of_lt_of_le h2 hqs)]; exact HQ k h1 h2
            have hq_x : WB.heap.size ≤ W167.heap.size := hqs; have hqs : WB.heap.size ≤ W171.heap.size := by rw [hWn]; simp; omega
            have hx_x : W171.heap[W167.heap.size]? = some (.cells #[.slice none 0 0, .slice none 0 0, .slice none 0 0, .slice none 0 0] 105) := by rw [hWn]; exact alloc_new _ _
            have hl_x : w2.heap.size ≤ W167.heap.size := HB167.size; clear hWn; obtain ⟨b_x, hb_x⟩ : ∃ b, W167.heap.size = b := ⟨_, rfl⟩; rw [hb_x] at hx_x hl_x hq_x ⊢; clear HB167 hb_x; refine rz1 17 rfl ?_; intro K hK; refine set4K W171 b_x 105 _ _ _ _ (.slice qa na ca) (.slice qb nb cb) (.slice qc nc cc) (.slice qd nd cd) hx_x (fun wa172 wb172 wc172 W172 sa sb sc sd ca0 fa0 ca1 fa1 ca2 fa2 ca3 fa3 hx4 hxk HZs hxb => ?_); have HB172 : Below w2.heap.size w2 W172 := hxb w2 w2.heap.size hl_x HB171; have hx_x := hx4; have HQ : ∀ k, WA.heap.size ≤ k → k < WB.heap.size → W172.heap[k]? = WB.heap[k]? := fun k h1 h2 => (hxk k (by omega)).trans (HQ k h1 h2)
            have hqs : WB.heap.size ≤ W172.heap.size := by rw [HZs.out]; exact hqs
            clear hx4 hxk hxb HZs; go_simp; refine kz hK (by exact HSB.out _ HB172) ?_; clear hK K; (try simp only [Act.put, ptL]); clear ca0 ca1 ca2 ca3 fa0 fa1 fa2 fa3 sa sb sc sd HB171; refine tj 18 rfl (by exact HSB.out _ HB172) ?_; (try simp only [Act.put, ptL]); refine wpAnyH_done (by kernel_rfl) ?_ _; obtain ⟨wz, hwz⟩ : ∃ wz, wz = W172 := ⟨_, rfl⟩; subst hwz; have HBZ := HB172; clear HB172; exact ⟨rfl, _, _, _, _, _, _, _, _, _, _, _, _, _, _, _, _, _, _, _, _, _, _, _, rfl, Lib.hid hx_x, Lib.hid (by rw [Bool.true_and, Bool.true_and]; exact hmk.out.at HQ), Lib.hid HBZ, Lib.hid hl_x⟩
          · intro K hK
            go_simp; refine kz hK (by exact HSB.out _ (HB165.alloc HB165.size _)) ?_; clear hK K; (try simp only [Act.put, ptL]); refine wpAnyH_gen (fun W174 hWn => ?_); have HB174 : Below w2.heap.size w2 W174 := by rw [hWn]; exact HB165.alloc HB165.size _
            have hx_x : W174.heap[W165.heap.size]? = some (.cells #[.slice none 0 0, .slice none 0 0, .slice none 0 0, .slice none 0 0] 105) := by rw [hWn]; exact alloc_new _ _
            have hl_x : w2.heap.size ≤ W165.heap.size := HB165.size; clear hWn; obtain ⟨b_x, hb_x⟩ : ∃ b, W165.heap.size = b := ⟨_, rfl⟩; rw [hb_x] at hx_x hl_x ⊢; clear HB165 hb_x; refine rz1 12 rfl ?_; intro K hK; go_simp; obtain ⟨WA, hWA⟩ : ∃ WA, WA = W174 := ⟨_, rfl⟩; have hq_x : b_x < WA.heap.size := by rw [hWA]; exact block_lt hx_x
            (with_reducible refine (c_askedG pm pv pr cm cv cr p (inB lim 0 5000) W174 (HPW.out _ HB174) HL.out).mono ?_)
            rintro e W175 ⟨qa, na, ca, qb, nb, cb, qc, nc, cc, qd, nd, cd, er, rfl, hmk, hbn⟩; obtain ⟨WB, hWB⟩ : ∃ WB, WB = W175 := ⟨_, rfl⟩; have HQ : ∀ k, WA.heap.size ≤ k → k < WB.heap.size → W175.heap[k]? = WB.heap[k]? := fun k _ _ => by rw [hWB]
            have hqs : WB.heap.size ≤ W175.heap.size := by rw [hWB]; exact Nat.le_refl _
            rw [← hWA, ← hWB] at hmk; clear hWA hWB; have HB175 : Below w2.heap.size w2 W175 := HB174.trans (hbn.mono HB174.size); have hx_x : W175.heap[b_x]? = some (.cells #[.slice none 0 0, .slice none 0 0, .slice none 0 0, .slice none 0 0] 105) := (hbn.block _ (block_lt hx_x)).trans hx_x; clear hbn; go_simp; refine kz hK (by exact HSB.out _ HB175) ?_; clear hK K; (try simp only [Act.put, ptL]); clear HB174; refine tj 13 rfl (by exact HSB.out _ HB175) ?_; (try simp only [Act.put, ptL]); refine tj 14 rfl (by exact HSB.out _ HB175) ?_; (try simp only [Act.put, ptL]); refine tj 15 rfl (by exact HSB.out _ HB175) ?_; (try simp only [Act.put, ptL]); refine rz1 17 rfl ?_; intro K hK; refine set4K W175 b_x 105 _ _ _ _ (.slice qa na ca) (.slice qb nb cb) (.slice qc nc cc) (.slice qd nd cd) hx_x (fun wa179 wb179 wc179 W179 sa sb sc sd ca0 fa0 ca1 fa1 ca2 fa2 ca3 fa3 hx4 hxk HZs hxb => ?_); have HB179 : Below w2.heap.size w2 W179 := hxb w2 w2.heap.size hl_x HB175
            have hx_x := hx4; have HQ : ∀ k, WA.heap.size ≤ k → k < WB.heap.size → W179.heap[k]? = WB.heap[k]? := fun k h1 h2 => (hxk k (by omega)).trans (HQ k h1 h2)
            have hqs : WB.heap.size ≤ W179.heap.size := by rw [HZs.out]; exact hqs
            clear hx4 hxk hxb HZs; go_simp; refine kz hK (by exact HSB.out _ HB179) ?_; clear hK K; (try simp only [Act.put, ptL]); clear ca0 ca1 ca2 ca3 fa0 fa1 fa2 fa3 sa sb sc sd HB175; refine tj 18 rfl (by exact HSB.out _ HB179) ?_; (try simp only [Act.put, ptL]); refine wpAnyH_done (by kernel_rfl) ?_ _; obtain ⟨wz, hwz⟩ : ∃ wz, wz = W179 := ⟨_, rfl⟩; subst hwz; have HBZ := HB179; clear HB179; exact ⟨rfl, _, _, _, _, _, _, _, _, _, _, _, _, _, _, _, _, _, _, _, _, _, _, _, rfl, Lib.hid hx_x, Lib.hid (by rw [Bool.true_and, Bool.true_and]; exact hmk.out.at HQ), Lib.hid HBZ, Lib.hid hl_x⟩
        · intro K hK
          go_simp; refine kz hK (by exact HSB.out _ (HB161.alloc HB161.size _)) ?_; clear hK K; (try simp only [Act.put, ptL]); refine wpAnyH_gen (fun W181 hWn => ?_); have HB181 : Below w2.heap.size w2 W181 := by rw [hWn]; exact HB161.alloc HB161.size _
          have hx_x : W181.heap[W161.heap.size]? = some (.cells #[.slice none 0 0, .slice none 0 0, .slice none 0 0, .slice none 0 0] 105) := by rw [hWn]; exact alloc_new _ _
          have hl_x : w2.heap.size ≤ W161.heap.size := HB161.size; clear hWn; obtain ⟨b_x, hb_x⟩ : ∃ b, W161.heap.size = b := ⟨_, rfl⟩; rw [hb_x] at hx_x hl_x ⊢; clear HB161 hb_x; refine rz1 10 rfl ?_; intro K hK; go_simp
          (with_reducible refine (c_isLimitC lim W181).mono ?_)
          rintro e W182 ⟨rfl, hbn⟩; have HB182 : Below w2.heap.size w2 W182 := HB181.trans (hbn.mono HB181.size); have hx_x : W182.heap[b_x]? = some (.cells #[.slice none 0 0, .slice none 0 0, .slice none 0 0, .slice none 0 0] 105) := (hbn.block _ (block_lt hx_x)).trans hx_x; clear hbn; go_simp; refine kz hK (by exact HSB.out _ HB182) ?_; clear hK K; (try simp only [Act.put, ptL]); clear HB181; refine tj 11 rfl (by exact HSB.out _ HB182) ?_; (try simp only [Act.put, ptL]); refine rz1 12 rfl ?_; intro K hK; go_simp; obtain ⟨WA, hWA⟩ : ∃ WA, WA = W182 := ⟨_, rfl⟩; have hq_x : b_x < WA.heap.size := by rw [hWA]; exact block_lt hx_x
          (with_reducible refine (c_askedG pm pv pr cm cv cr p (inB lim 0 5000) W182 (HPW.out _ HB182) HL.out).mono ?_)
          rintro e W184 ⟨qa, na, ca, qb, nb, cb, qc, nc, cc, qd, nd, cd, er, rfl, hmk, hbn⟩; obtain ⟨WB, hWB⟩ : ∃ WB, WB = W184 := ⟨_, rfl⟩; have HQ : ∀ k, WA.heap.size ≤ k → k < WB.heap.size → W184.heap[k]? = WB.heap[k]? := fun k _ _ => by rw [hWB]
          have hqs : WB.heap.size ≤ W184.heap.size := by rw [hWB]; exact Nat.le_refl _
          rw [← hWA, ← hWB] at hmk; clear hWA hWB; have HB184 : Below w2.heap.size w2 W184 := HB182.trans (hbn.mono HB182.size); have hx_x : W184.heap[b_x]? = some (.cells #[.slice none 0 0, .slice none 0 0, .slice none 0 0, .slice none 0 0] 105) := (hbn.block _ (block_lt hx_x)).trans hx_x; clear hbn; go_simp; refine kz hK (by exact HSB.out _ HB184) ?_; clear hK K; (try simp only [Act.put, ptL]); clear HB182; refine tj 13 rfl (by exact HSB.out _ HB184) ?_; (try simp only [Act.put, ptL]); refine tj 14 rfl (by exact HSB.out _ HB184) ?_; (try simp only [Act.put, ptL]); refine tj 15 rfl (by exact HSB.out _ HB184) ?_; (try simp only [Act.put, ptL]); refine rz1 17 rfl ?_; intro K hK; refine set4K W184 b_x 105 _ _ _ _ (.slice qa na ca) (.slice qb nb cb) (.slice qc nc cc) (.slice qd nd cd) hx_x (fun wa188 wb188 wc188 W188 sa sb sc sd ca0 fa0 ca1 fa1 ca2 fa2 ca3 fa3 hx4 hxk HZs hxb => ?_); have HB188 : Below w2.heap.size w2 W188 := hxb w2 w2.heap.size hl_x HB184
          have hx_x := hx4; have HQ : ∀ k, WA.heap.size ≤ k → k < WB.heap.size → W188.heap[k]? = WB.heap[k]? := fun k h1 h2 => (hxk k (by omega)).trans (HQ k h1 h2)
          have hqs : WB.heap.size ≤ W188.heap.size := by rw [HZs.out]; exact hqs
          clear hx4 hxk hxb HZs; go_simp; refine kz hK (by exact HSB.out _ HB188) ?_; clear hK K; (try simp only [Act.put, ptL]); clear ca0 ca1 ca2 ca3 fa0 fa1 fa2 fa3 sa sb sc sd HB184; refine tj 18 rfl (by exact HSB.out _ HB188) ?_; (try simp only [Act.put, ptL]); refine wpAnyH_done (by kernel_rfl) ?_ _; obtain ⟨wz, hwz⟩ : ∃ wz, wz = W188 := ⟨_, rfl⟩; subst hwz; have HBZ := HB188; clear HB188; exact ⟨rfl, _, _, _, _, _, _, _, _, _, _, _, _, _, _, _, _, _, _, _, _, _, _, _, rfl, Lib.hid hx_x, Lib.hid (by rw [Bool.true_and, Bool.true_and]; exact hmk.out.at HQ), Lib.hid HBZ, Lib.hid hl_x⟩
      · intro K hK
        go_simp; refine kz hK (by exact HSB.out _ (HB158.alloc HB158.size _)) ?_; clear hK K; (try simp only [Act.put, ptL]); refine wpAnyH_gen (fun W190 hWn => ?_); have HB190 : Below w2.heap.size w2 W190 := by rw [hWn]; exact HB158.alloc HB158.size _
        have hx_x : W190.heap[W158.heap.size]? = some (.cells #[.slice none 0 0, .slice none 0 0, .slice none 0 0, .slice none 0 0] 105) := by rw [hWn]; exact alloc_new _ _
        have hl_x : w2.heap.size ≤ W158.heap.size := HB158.size; clear hWn; obtain ⟨b_x, hb_x⟩ : ∃ b, W158.heap.size = b := ⟨_, rfl⟩; rw [hb_x] at hx_x hl_x ⊢; clear HB158 hb_x; refine rz1 6 rfl ?_; intro K hK; go_simp
        (with_reducible refine (c_isPlaceC want W190).mono ?_)
        rw [hF2]; rintro e W191 ⟨rfl, hbn⟩; have HB191 : Below w2.heap.size w2 W191 := HB190.trans (hbn.mono HB190.size); have hx_x : W191.heap[b_x]? = some (.cells #[.slice none 0 0, .slice none 0 0, .slice none 0 0, .slice none 0 0] 105) := (hbn.block _ (block_lt hx_x)).trans hx_x; clear hbn; go_simp; refine kz hK (by exact HSB.out _ HB191) ?_; clear hK K; (try simp only [Act.put, ptL]); clear HB190; refine tj 7 rfl (by exact HSB.out _ HB191) ?_; (try simp only [Act.put, ptL]); refine tj 8 rfl (by exact HSB.out _ HB191) ?_; (try simp only [Act.put, ptL]); refine tj 9 rfl (by exact HSB.out _ HB191) ?_; (try simp only [Act.put, ptL]); refine rz1 10 rfl ?_; intro K hK; go_simp
        (with_reducible refine (c_isLimitC lim W191).mono ?_)
        rintro e W195 ⟨rfl, hbn⟩; have HB195 : Below w2.heap.size w2 W195 := HB191.trans (hbn.mono HB191.size); have hx_x : W195.heap[b_x]? = some (.cells #[.slice none 0 0, .slice none 0 0, .slice none 0 0, .slice none 0 0] 105) := (hbn.block _ (block_lt hx_x)).trans hx_x; clear hbn; go_simp; refine kz hK (by exact HSB.out _ HB195) ?_; clear hK K; (try simp only [Act.put, ptL]); clear HB191; refine tj 11 rfl (by exact HSB.out _ HB195) ?_; (try simp only [Act.put, ptL]); refine rz1 12 rfl ?_; intro K hK; go_simp; obtain ⟨WA, hWA⟩ : ∃ WA, WA = W195 := ⟨_, rfl⟩; have hq_x : b_x < WA.heap.size := by rw [hWA]; exact block_lt hx_x
        (with_reducible refine (c_askedG pm pv pr cm cv cr p (inB lim 0 5000) W195 (HPW.out _ HB195) HL.out).mono ?_)
        rintro e W197 ⟨qa, na, ca, qb, nb, cb, qc, nc, cc, qd, nd, cd, er, rfl, hmk, hbn⟩; obtain ⟨WB, hWB⟩ : ∃ WB, WB = W197 := ⟨_, rfl⟩; have HQ : ∀ k, WA.heap.size ≤ k → k < WB.heap.size → W197.heap[k]? = WB.heap[k]? := fun k _ _ => by rw [hWB]
        have hqs : WB.heap.size ≤ W197.heap.size := by rw [hWB]; exact Nat.le_refl _
        rw [← hWA, ← hWB] at hmk; clear hWA hWB; have HB197 : Below w2.heap.size w2 W197 := HB195.trans (hbn.mono HB195.size); have hx_x : W197.heap[b_x]? = some (.cells #[.slice none 0 0, .slice none 0 0, .slice none 0 0, .slice none 0 0] 105) := (hbn.block _ (block_lt hx_x)).trans hx_x; clear hbn; go_simp; refine kz hK (by exact HSB.out _ HB197) ?_; clear hK K; (try simp only [Act.put, ptL]); clear HB195; refine tj 13 rfl (by exact HSB.out _ HB197) ?_; (try simp only [Act.put, ptL]); refine tj 14 rfl (by exact HSB.out _ HB197) ?_; (try simp only [Act.put, ptL]); refine tj 15 rfl (by exact HSB.out _ HB197) ?_; (try simp only [Act.put, ptL]); refine rz1 17 rfl ?_; intro K hK; refine set4K W197 b_x 105 _ _ _ _ (.slice qa na ca) (.slice qb nb cb) (.slice qc nc cc) (.slice qd nd cd) hx_x (fun wa201 wb201 wc201 W201 sa sb sc sd ca0 fa0 ca1 fa1 ca2 fa2 ca3 fa3 hx4 hxk HZs hxb => ?_); have HB201 : Below w2.heap.size w2 W201 := hxb w2 w2.heap.size hl_x HB197
        have hx_x := hx4; have HQ : ∀ k, WA.heap.size ≤ k → k < WB.heap.size → W201.heap[k]? = WB.heap[k]? := fun k h1 h2 => (hxk k (by omega)).trans (HQ k h1 h2)
        have hqs : WB.heap.size ≤ W201.heap.size := by rw [HZs.out]; exact hqs
        clear hx4 hxk hxb HZs; go_simp; refine kz hK (by exact HSB.out _ HB201) ?_; clear hK K; (try simp only [Act.put, ptL]); clear ca0 ca1 ca2 ca3 fa0 fa1 fa2 fa3 sa sb sc sd HB197; refine tj 18 rfl (by exact HSB.out _ HB201) ?_; (try simp only [Act.put, ptL]); refine wpAnyH_done (by kernel_rfl) ?_ _; obtain ⟨wz, hwz⟩ : ∃ wz, wz = W201 := ⟨_, rfl⟩; subst hwz; have HBZ := HB201; clear HB201; exact ⟨rfl, _, _, _, _, _, _, _, _, _, _, _, _, _, _, _, _, _, _, _, _, _, _, _, rfl, Lib.hid hx_x, Lib.hid (by rw [Bool.true_and, Bool.true_and]; exact hmk.out.at HQ), Lib.hid HBZ, Lib.hid hl_x⟩
    · intro K hK
      go_simp; refine kz hK (by exact HSB.out _ (HB0.alloc HB0.size _)) ?_; clear hK K; (try simp only [Act.put, ptL]); refine wpAnyH_gen (fun W203 hWn => ?_); have HB203 : Below w2.heap.size w2 W203 := by rw [hWn]; exact HB0.alloc HB0.size _
      have hx_x : W203.heap[W0.heap.size]? = some (.cells #[.slice none 0 0, .slice none 0 0, .slice none 0 0, .slice none 0 0] 105) := by rw [hWn]; exact alloc_new _ _
      have hl_x : w2.heap.size ≤ W0.heap.size := HB0.size; clear hWn; obtain ⟨b_x, hb_x⟩ : ∃ b, W0.heap.size = b := ⟨_, rfl⟩; rw [hb_x] at hx_x hl_x ⊢; clear HB0 hb_x; refine rz1 3 rfl ?_; intro K hK; go_simp
      (with_reducible refine (HC.out W203 (HEW.out _ HB203)).mono ?_)
      rw [hF1]; rintro e W204 ⟨rfl, hbn⟩; have HB204 : Below w2.heap.size w2 W204 := HB203.trans (hbn.mono HB203.size); have hx_x : W204.heap[b_x]? = some (.cells #[.slice none 0 0, .slice none 0 0, .slice none 0 0, .slice none 0 0] 105) := (hbn.block _ (block_lt hx_x)).trans hx_x; clear hbn; go_simp; refine kz hK (by exact HSB.out _ HB204) ?_; clear hK K; (try simp only [Act.put, ptL]); clear HB203; refine tj 4 rfl (by exact HSB.out _ HB204) ?_; (try simp only [Act.put, ptL]); refine tj 5 rfl (by exact HSB.out _ HB204) ?_; (try simp only [Act.put, ptL]); refine rz1 6 rfl ?_; intro K hK; go_simp
      (with_reducible refine (c_isPlaceC want W204).mono ?_)
      rw [hF2]; rintro e W207 ⟨rfl, hbn⟩; have HB207 : Below w2.heap.size w2 W207 := HB204.trans (hbn.mono HB204.size); have hx_x : W207.heap[b_x]? = some (.cells #[.slice none 0 0, .slice none 0 0, .slice none 0 0, .slice none 0 0] 105) := (hbn.block _ (block_lt hx_x)).trans hx_x; clear hbn; go_simp; refine kz hK (by exact HSB.out _ HB207) ?_; clear hK K; (try simp only [Act.put, ptL]); clear HB204; refine tj 7 rfl (by exact HSB.out _ HB207) ?_; (try simp only [Act.put, ptL]); refine tj 8 rfl (by exact HSB.out _ HB207) ?_; (try simp only [Act.put, ptL]); refine tj 9 rfl (by exact HSB.out _ HB207) ?_; (try simp only [Act.put, ptL]); refine rz1 10 rfl ?_; intro K hK; go_simp
      (with_reducible refine (c_isLimitC lim W207).mono ?_)
      rintro e W211 ⟨rfl, hbn⟩; have HB211 : Below w2.heap.size w2 W211 := HB207.trans (hbn.mono HB207.size); have hx_x : W211.heap[b_x]? = some (.cells #[.slice none 0 0, .slice none 0 0, .slice none 0 0, .slice none 0 0] 105) := (hbn.block _ (block_lt hx_x)).trans hx_x; clear hbn; go_simp; refine kz hK (by exact HSB.out _ HB211) ?_; clear hK K; (try simp only [Act.put, ptL]); clear HB207; refine tj 11 rfl (by exact HSB.out _ HB211) ?_; (try simp only [Act.put, ptL]); refine rz1 12 rfl ?_; intro K hK; go_simp; obtain ⟨WA, hWA⟩ : ∃ WA, WA = W211 := ⟨_, rfl⟩; have hq_x : b_x < WA.heap.size := by rw [hWA]; exact block_lt hx_x
      (with_reducible refine (c_askedG pm pv pr cm cv cr p (inB lim 0 5000) W211 (HPW.out _ HB211) HL.out).mono ?_)
      rintro e W213 ⟨qa, na, ca, qb, nb, cb, qc, nc, cc, qd, nd, cd, er, rfl, hmk, hbn⟩; obtain ⟨WB, hWB⟩ : ∃ WB, WB = W213 := ⟨_, rfl⟩; have HQ : ∀ k, WA.heap.size ≤ k → k < WB.heap.size → W213.heap[k]? = WB.heap[k]? := fun k _ _ => by rw [hWB]
      have hqs : WB.heap.size ≤ W213.heap.size := by rw [hWB]; exact Nat.le_refl _
      rw [← hWA, ← hWB] at hmk; clear hWA hWB; have HB213 : Below w2.heap.size w2 W213 := HB211.trans (hbn.mono HB211.size); have hx_x : W213.heap[b_x]? = some (.cells #[.slice none 0 0, .slice none 0 0, .slice none 0 0, .slice none 0 0] 105) := (hbn.block _ (block_lt hx_x)).trans hx_x; clear hbn; go_simp; refine kz hK (by exact HSB.out _ HB213) ?_; clear hK K; (try simp only [Act.put, ptL]); clear HB211; refine tj 13 rfl (by exact HSB.out _ HB213) ?_; (try simp only [Act.put, ptL]); refine tj 14 rfl (by exact HSB.out _ HB213) ?_; (try simp only [Act.put, ptL]); refine tj 15 rfl (by exact HSB.out _ HB213) ?_; (try simp only [Act.put, ptL]); refine rz1 17 rfl ?_; intro K hK; refine set4K W213 b_x 105 _ _ _ _ (.slice qa na ca) (.slice qb nb cb) (.slice qc nc cc) (.slice qd nd cd) hx_x (fun wa217 wb217 wc217 W217 sa sb sc sd ca0 fa0 ca1 fa1 ca2 fa2 ca3 fa3 hx4 hxk HZs hxb => ?_); have HB217 : Below w2.heap.size w2 W217 := hxb w2 w2.heap.size hl_x HB213
      have hx_x := hx4; have HQ : ∀ k, WA.heap.size ≤ k → k < WB.heap.size → W217.heap[k]? = WB.heap[k]? := fun k h1 h2 => (hxk k (by omega)).trans (HQ k h1 h2)
      have hqs : WB.heap.size ≤ W217.heap.size := by rw [HZs.out]; exact hqs
      clear hx4 hxk hxb HZs; go_simp; refine kz hK (by exact HSB.out _ HB217) ?_; clear hK K; (try simp only [Act.put, ptL]); clear ca0 ca1 ca2 ca3 fa0 fa1 fa2 fa3 sa sb sc sd HB213; refine tj 18 rfl (by exact HSB.out _ HB217) ?_; (try simp only [Act.put, ptL]); refine wpAnyH_done (by kernel_rfl) ?_ _; obtain ⟨wz, hwz⟩ : ∃ wz, wz = W217 := ⟨_, rfl⟩; subst hwz; have HBZ := HB217; clear HB217; exact ⟨rfl, _, _, _, _, _, _, _, _, _, _, _, _, _, _, _, _, _, _, _, _, _, _, _, rfl, Lib.hid hx_x, Lib.hid (by rw [Bool.true_and, Bool.true_and]; exact hmk.out.at HQ), Lib.hid HBZ, Lib.hid hl_x⟩
  case imp =>
    rintro e a wz ⟨rfl, bx, qa, na, ca, qb, nb, cb, qc, nc, cc, qd, nd, cd, er, g21, g22, g23, g24, g25, g26, g27, g28, g29, rfl, HX, HAZ, HBZ, HLX⟩
    rcases HAZ.out with ⟨hf, rfl, ea, eb, ec, ed⟩ | ⟨hf, ht, rfl, ea, eb, ec, ed⟩ | ⟨hpo, hfi, ht, rfl, ea, eb, ec, g, cap, ed, hq⟩
    all_goals
      obtain ⟨rfl, rfl, rfl⟩ := sl_inj ea; obtain ⟨rfl, rfl, rfl⟩ := sl_inj eb; obtain ⟨rfl, rfl, rfl⟩ := sl_inj ec; obtain ⟨rfl, rfl, rfl⟩ := sl_inj ed; clear ea eb ec ed
    · have HF := Lib.hid hf
      have HBB := Lib.hid (HB.out.trans (HBZ.out.mono HB.out.size)); clear hf; go_wp2; refine bodyPost_ret (v := .tuple #[.int .i64 0, .int .i64 2]) (by simp [results, Tryz.results19, go_sem]) rfl ⟨?_, HBB.out⟩; unfold sureOut sureErr; rw [err_bad HF.out, if_neg (by decide)]
    · have HF := Lib.hid (And.intro hf ht)
      have HBB := Lib.hid (HB.out.trans (HBZ.out.mono HB.out.size)); clear hf ht; go_wp2; refine bodyPost_ret (v := .tuple #[.int .i64 0, .int .i64 7]) (by simp [results, Tryz.results19, go_sem]) rfl ⟨?_, HBB.out⟩; unfold sureOut sureErr; rw [err_rule HF.out.1 HF.out.2, if_neg (by decide)]
    · have hfx := hfi
      rw [Bool.and_eq_true, Bool.and_eq_true] at hfx; have hHO := handB_iff.1 hfx.1.1; have hwa := inB_iff.1 hfx.1.2; have hwb := inB_iff.1 hfx.2; have hw1 : IntKind.i64.wrap (want - lim) = want - lim := w64 _ (by omega) (by omega); have hw2 : IntKind.i64.wrap (want + lim) = want + lim := w64 _ (by omega) (by omega); have HE := Lib.hid (err_good (pieceB_iff.2 hpo) hfi ht); have HBY := Lib.hid (HB.out.trans (HBZ.out.mono HB.out.size)); have HHO := Lib.hid hHO; have HPO := Lib.hid hpo; have htl := truthsFew hpo; have hn4 := hpo.n4; obtain ⟨bt, hbt, hqt⟩ := hq
      cases hbt
      have HQ := Lib.hid hqt; have HZ4 := Lib.hid (HRH.out wz HBZ.out); have HEZ := Lib.hid (HEW.out wz HBZ.out); have HSS := Lib.hid (fun k hk => someT_succ p h want lim k hk); have HNS := Lib.hid (fun k hk => notT_succ p h want lim k hk); have HSA := Lib.hid (someT_all p h want lim); have HNA := Lib.hid (notT_all p h want lim); have HS0 := Lib.hid (show someT p h want lim 0 = false from rfl); have HN0 := Lib.hid (show notT p h want lim 0 = false from rfl); have HSF := Lib.hid (show sureF p h want lim = if someB p h want lim = false then 1 else if notB p h want lim = true then 2 else 3 from rfl); obtain ⟨x0, x1, x2, x3⟩ := cells4 HX.out; clear hfx hwa hwb hHO hpo ht hfi hqt HSB HPW HL HC HRH HEW HB; go_wp2; clear x0 x1 x2 x3
      go_loopw [12, 13, 39] (fun s n i wr => ∃ k : Nat, k ≤ (truthsF p).length ∧ i = .int .i64 k ∧ s = .bool (someT p h want lim k) ∧ n = .bool (notT p h want lim k) ∧ Hid (Below wz.heap.size wz wr)) (fun _ _ i _ => (truthsF p).length - (intOf i).toNat)
      case atStart => exact ⟨0, Nat.zero_le _, rfl, by rw [HS0.out], by rw [HN0.out], Lib.hid (Below.refl _ _)⟩
      case round =>
      obtain ⟨k, hk, rfl, rfl, rfl, HN⟩ := hrel
      by_cases hltk : k < (truthsF p).length
      · have hki : (k : Int) < ((truthsF p).length : Int) := by omega
        obtain ⟨hgl, p1, c1, p2, c2, z0, z1, r1, r2, hel, _, _⟩ := HQ.out k hltk; have z0 := (HN.out.cell (lt_of_cellq z0)).trans z0; have z1 := (HN.out.cell (lt_of_cellq z1)).trans z1; have q0 := (HN.out.cell (lt_of_cellq HZ4.out.1)).trans HZ4.out.1; have q1 := (HN.out.cell (lt_of_cellq HZ4.out.2.1)).trans HZ4.out.2.1; have q2 := (HN.out.cell (lt_of_cellq HZ4.out.2.2.1)).trans HZ4.out.2.2.1; have q3 := (HN.out.cell (lt_of_cellq HZ4.out.2.2.2)).trans HZ4.out.2.2.2; have hpk := truthOk HPO.out k hltk; have hpl := sh_plain HPO.out HHO.out (pl := gl (truthsF p) k) (by rw [gl_get _ _ hltk]; exact List.getElem_mem hltk)
        have HCS := Lib.hid (show ∀ W, Below wr.heap.size wr W → Calls Tryz.prog 72 #[.agg #[.slice p1 p.ms.length c1, .slice p2 (p.ms.length + 1) c2], .agg #[.int .i64 h.arb, .int .i64 h.num, .int .i64 h.den, .slice pe h.er.length ce]] W fun e' w' => e' = .returned (.agg #[.int .i64 (shF p h (gl (truthsF p) k)).1, .int .i64 (shF p h (gl (truthsF p) k)).2]) ∧ Below W.heap.size W w' from fun W hb =>
          HSW.out p1 p.ms.length c1 p2 (p.ms.length + 1) c2 p.ms.length (endF p (gl (truthsF p) k)) W ((r2.below HN.out).below hb) hel ((HEZ.out.below HN.out).below hb) HHO.out (by omega) (hand_place HPO.out hpk HHO.out))
        have HST := Lib.hid (HSS.out k hltk); have HNT := Lib.hid (HNS.out k hltk); obtain ⟨X, hX⟩ : ∃ x, shF p h (gl (truthsF p) k) = x := ⟨_, rfl⟩; rw [hX] at HCS HST HNT hpl; obtain ⟨L1, U1⟩ := X; simp only at HCS HST HNT hpl; obtain ⟨S, hS⟩ : ∃ x, someT p h want lim k = x := ⟨_, rfl⟩; obtain ⟨N, hN⟩ : ∃ x, notT p h want lim k = x := ⟨_, rfl⟩; rw [hS] at HST ⊢; rw [hN] at HNT ⊢; have hwk : IntKind.i64.wrap ((k : Int) + 1) = (k : Int) + 1 := w64 _ (by omega) (by omega); obtain ⟨wb, eb, HSb, t0, t1, bb⟩ := box2 wr (.slice p1 p.ms.length c1) (.slice p2 (p.ms.length + 1) c2) 110; have q0 := (bb.cell (lt_of_cellq q0)).trans q0; have q1 := (bb.cell (lt_of_cellq q1)).trans q1; have q2 := (bb.cell (lt_of_cellq q2)).trans q2; have q3 := (bb.cell (lt_of_cellq q3)).trans q3; have HCB := Lib.hid (HCS.out wb bb); have HNB := Lib.hid (HN.out.trans (bb.mono HN.out.size)); clear hX hS hN bb r1 r2 hgl hel hpk HCS
        (go_wp2_with fail); refine HCB.out.mono ?_
        rintro e wc ⟨rfl, bc⟩; obtain ⟨wd, ed, HSd, y0, y1, bd⟩ := box2 wc (.int .i64 L1) (.int .i64 U1) 36; have HND := Lib.hid (HNB.out.trans ((bc.trans (bd.mono bc.size)).mono HNB.out.size)); clear eb bc bd t0 t1 q0 q1 q2 q3 z0 z1
        rcases ht1 : decide (L1 ≤ want + lim) with _ | _ <;> rcases ht2 : decide (want - lim ≤ U1) with _ | _ <;> rcases ht3 : decide (L1 < want - lim) with _ | _ <;> rcases ht4 : decide (want + lim < U1) with _ | _ <;> cases S <;> cases N <;>
        · rw [ht1, ht2] at HST
          rw [ht3, ht4] at HNT; have ht2b : decide (U1 ≥ want - lim) = _ := ht2; have ht4b : decide (U1 > want + lim) = _ := ht4; have H1 := Lib.hid HST.out; have H2 := Lib.hid HNT.out; clear HST HNT; go_wp2; go_roundw
          case rel => exact ⟨k + 1, by omega, by go_num, by rw [H1.out]; rfl, by rw [H2.out]; rfl, HND⟩
          case measure => simp [intOf]; omega
      · obtain rfl : k = (truthsF p).length := by omega
        have hki : ¬ ((truthsF p).length : Int) < ((truthsF p).length : Int) := by omega
        have HBB := Lib.hid (HBY.out.trans (HN.out.mono HBY.out.size)); rw [HSA.out, HNA.out]; obtain ⟨S, hS⟩ : ∃ x, someB p h want lim = x := ⟨_, rfl⟩; obtain ⟨N, hN⟩ : ∃ x, notB p h want lim = x := ⟨_, rfl⟩; rw [hS, hN] at HSF; rw [hS, hN]; clear hS hN
        rcases S with _ | _
        · (go_wp2_with fail); refine (c_word0 wr).mono ?_
          rintro e wc ⟨rfl, bc⟩; have HBC := Lib.hid (HBB.out.trans (bc.mono HBB.out.size)); clear bc; go_wp2; refine bodyPost_ret (v := .tuple #[.int .i64 1, .int .i64 0]) (by simp [results, Tryz.results19, go_sem]) rfl ⟨?_, HBC.out⟩; unfold sureOut sureErr; rw [HE.out, if_pos rfl, HSF.out]; rfl
        · rcases N with _ | _
          · (go_wp2_with fail); refine (c_word2 wr).mono ?_
            rintro e wc ⟨rfl, bc⟩; have HBC := Lib.hid (HBB.out.trans (bc.mono HBB.out.size)); clear bc; go_wp2; refine bodyPost_ret (v := .tuple #[.int .i64 3, .int .i64 0]) (by simp [results, Tryz.results19, go_sem]) rfl ⟨?_, HBC.out⟩; unfold sureOut sureErr; rw [HE.out, if_pos rfl, HSF.out]; rfl
          · (go_wp2_with fail); refine (c_word1 wr).mono ?_
            rintro e wc ⟨rfl, bc⟩; have HBC := Lib.hid (HBB.out.trans (bc.mono HBB.out.size)); clear bc; go_wp2; refine bodyPost_ret (v := .tuple #[.int .i64 2, .int .i64 0]) (by simp [results, Tryz.results19, go_sem]) rfl ⟨?_, HBC.out⟩; unfold sureOut sureErr; rw [HE.out, if_pos rfl, HSF.out]; rfl
end Go.Proofs.YtlednchfifphgabGreatDoor
end

section
namespace Go.Proofs.YtlednchfifphgabGreatDoor
open Go Go.RowKit Go.Proofs
set_option linter.unusedVariables false
set_option linter.unusedSimpArgs false
attribute [local go_sem] imax2 imin2

set_option maxHeartbeats 12800000 in
set_option maxRecDepth 100000 in
theorem law_Hands (pm pv pr : Option Addr) (cm cv cr : Nat) (p : Pc) (h : Hd) (pe : Option Addr) (ce : Nat) (q : Option Addr) (cq : Nat) (pl : List Int) (err want lim : Int) (m : Int) (w : World) (hp : RdP w pm pv pr p) (hE : RdS w pe h.er) (hq : RdI w q pl) (hm : MaxL m w) (hi : ItoaG w) :
    Calls Tryz.prog 4 #[.agg #[.slice pm p.ms.length cm, .slice pv p.mv.length cv, .slice pr p.rs.length cr], hdV h pe ce, .slice q pl.length cq, .int .i64 err, .int .i64 want, .int .i64 lim] w (LawPost w) := by
  obtain ⟨w1, e1, HS1, k0, k1, k2, b1⟩ := box3 w (.slice pm p.ms.length cm) (.slice pv p.mv.length cv) (.slice pr p.rs.length cr) 26; obtain ⟨w2, e2, HS2, q0, q1, q2, q3, b2⟩ := box4 w1 (.int .i64 h.arb) (.int .i64 h.num) (.int .i64 h.den) (.slice pe h.er.length ce) 29; have b12 := b1.trans (b2.mono b1.size); have k0 := (b2.cell (lt_of_cellq k0)).trans k0; have k1 := (b2.cell (lt_of_cellq k1)).trans k1; have k2 := (b2.cell (lt_of_cellq k2)).trans k2; have HP := Lib.hid (hp.below b12); have HE := Lib.hid (hE.below b12); have HQ := Lib.hid (hq.below b12); have HM := Lib.hid hm; have HI := Lib.hid hi; have HB := Lib.hid b12; have HLB := Lib.hid (l_brief h pe ce); have HKS := Lib.hid (fun W (h1 : RdP W pm pv pr p) hl (h2 : RdS W pe h.er) g2 => c_Shows pm pv pr cm cv cr p h pe ce W h1 hl h2 g2); have HKU := Lib.hid (fun W (h1 : RdP W pm pv pr p) hl (h2 : RdS W pe h.er) g2 => c_Sure pm pv pr cm cv cr p h pe ce want lim W h1 hl h2 g2)
  have HRH := Lib.hid (fun W (h2 : RdS W pe h.er) g2 => r_Hand pm pv pr cm cv cr p h pe ce W h2 g2); have HSW := Lib.hid (fun n pc W (h2 : RdS W pe h.er) (hh : HandOk n h) hr => r_Shown h pe ce n pc W h2 hh hr); clear hp hE hq hm hi b1 b2 b12; unfold hdV at HLB HKS HKU HRH HSW; unfold hdV
  go_enter Tryz.func4, Tryz.ntmps4
  (go_wp2_with fail); refine (c_short pm pv pr cm cv cr p _).mono ?_
  clear e1 e2
  rcases hs : shortB p with _ | _
  · rintro e wn ⟨rfl, bq⟩; replace HB := Lib.hid (HB.out.trans (bq.mono HB.out.size)); clear bq
    (go_wp2_with fail); refine (c_known m _ (HM.out.below HB.out) (HI.out.below HB.out)).mono ?_; rintro e wn ⟨rfl, bq⟩; have HFK := Lib.hid (HB.out.trans (bq.mono HB.out.size)); clear bq; go_wp2; go_ret; exact ⟨rfl, HFK.out⟩
  rintro e wn ⟨rfl, bq⟩; replace HB := Lib.hid (HB.out.trans (bq.mono HB.out.size)); replace HP := Lib.hid (HP.out.below bq); replace HE := Lib.hid (HE.out.below bq); replace HQ := Lib.hid (HQ.out.below bq); have k0 := (bq.cell (lt_of_cellq k0)).trans k0; have k1 := (bq.cell (lt_of_cellq k1)).trans k1; have k2 := (bq.cell (lt_of_cellq k2)).trans k2; have q0 := (bq.cell (lt_of_cellq q0)).trans q0; have q1 := (bq.cell (lt_of_cellq q1)).trans q1; have q2 := (bq.cell (lt_of_cellq q2)).trans q2; have q3 := (bq.cell (lt_of_cellq q3)).trans q3; clear bq; have HLN := Lib.hid (short_len hs); clear hs
  (go_wp2_with fail); refine (HLB.out _).mono ?_
  rcases hl1 : briefB h with _ | _
  · rintro e wn ⟨rfl, bq⟩; replace HB := Lib.hid (HB.out.trans (bq.mono HB.out.size)); clear bq
    (go_wp2_with fail); refine (c_known m _ (HM.out.below HB.out) (HI.out.below HB.out)).mono ?_; rintro e wn ⟨rfl, bq⟩; have HFK := Lib.hid (HB.out.trans (bq.mono HB.out.size)); clear bq; go_wp2; go_ret; exact ⟨rfl, HFK.out⟩
  rintro e wn ⟨rfl, bq⟩; replace HB := Lib.hid (HB.out.trans (bq.mono HB.out.size)); replace HP := Lib.hid (HP.out.below bq); replace HE := Lib.hid (HE.out.below bq); replace HQ := Lib.hid (HQ.out.below bq); have k0 := (bq.cell (lt_of_cellq k0)).trans k0; have k1 := (bq.cell (lt_of_cellq k1)).trans k1; have k2 := (bq.cell (lt_of_cellq k2)).trans k2; have q0 := (bq.cell (lt_of_cellq q0)).trans q0; have q1 := (bq.cell (lt_of_cellq q1)).trans q1; have q2 := (bq.cell (lt_of_cellq q2)).trans q2; have q3 := (bq.cell (lt_of_cellq q3)).trans q3; clear bq; have hl1 : h.er.length ≤ 10 := of_decide_eq_true hl1; have HL1 := Lib.hid (show h.er.length ≤ 1000000 by omega); clear hl1
  by_cases h6 : pl.length ≤ 6
  case neg =>
    have h6' : (pl.length : Int) > 6 := by omega
    (go_wp2_with fail); refine (c_known m _ (HM.out.below HB.out) (HI.out.below HB.out)).mono ?_; rintro e wn ⟨rfl, bq⟩; have HFK := Lib.hid (HB.out.trans (bq.mono HB.out.size)); clear bq; go_wp2; go_ret; exact ⟨rfl, HFK.out⟩
  have h6' : decide ((pl.length : Int) > 6) = false := decide_eq_false (by omega)
  (go_wp2_with fail); refine (r_Piece pm pv pr cm cv cr p _ HP.out HLN.out).mono ?_
  rcases h1 : pieceB p with _ | _
  · rintro e wn ⟨rfl, bq⟩; replace HB := Lib.hid (HB.out.trans (bq.mono HB.out.size)); clear bq
    (go_wp2_with fail); refine (c_known m _ (HM.out.below HB.out) (HI.out.below HB.out)).mono ?_; rintro e wn ⟨rfl, bq⟩; have HFK := Lib.hid (HB.out.trans (bq.mono HB.out.size)); clear bq; go_wp2; go_ret; exact ⟨rfl, HFK.out⟩
  rintro e wn ⟨rfl, bq⟩; replace HB := Lib.hid (HB.out.trans (bq.mono HB.out.size)); replace HP := Lib.hid (HP.out.below bq); replace HE := Lib.hid (HE.out.below bq); replace HQ := Lib.hid (HQ.out.below bq); have k0 := (bq.cell (lt_of_cellq k0)).trans k0; have k1 := (bq.cell (lt_of_cellq k1)).trans k1; have k2 := (bq.cell (lt_of_cellq k2)).trans k2; have q0 := (bq.cell (lt_of_cellq q0)).trans q0; have q1 := (bq.cell (lt_of_cellq q1)).trans q1; have q2 := (bq.cell (lt_of_cellq q2)).trans q2; have q3 := (bq.cell (lt_of_cellq q3)).trans q3; clear bq
  (go_wp2_with fail); refine (HRH.out _ HE.out HL1.out).mono ?_
  rcases h2 : handB p.ms.length h with _ | _
  · rintro e wn ⟨rfl, bq⟩; replace HB := Lib.hid (HB.out.trans (bq.mono HB.out.size)); clear bq
    (go_wp2_with fail); refine (c_known m _ (HM.out.below HB.out) (HI.out.below HB.out)).mono ?_; rintro e wn ⟨rfl, bq⟩; have HFK := Lib.hid (HB.out.trans (bq.mono HB.out.size)); clear bq; go_wp2; go_ret; exact ⟨rfl, HFK.out⟩
  rintro e wn ⟨rfl, bq⟩; replace HB := Lib.hid (HB.out.trans (bq.mono HB.out.size)); replace HP := Lib.hid (HP.out.below bq); replace HE := Lib.hid (HE.out.below bq); replace HQ := Lib.hid (HQ.out.below bq); have k0 := (bq.cell (lt_of_cellq k0)).trans k0; have k1 := (bq.cell (lt_of_cellq k1)).trans k1; have k2 := (bq.cell (lt_of_cellq k2)).trans k2; have q0 := (bq.cell (lt_of_cellq q0)).trans q0; have q1 := (bq.cell (lt_of_cellq q1)).trans q1; have q2 := (bq.cell (lt_of_cellq q2)).trans q2; have q3 := (bq.cell (lt_of_cellq q3)).trans q3; clear bq
  (go_wp2_with fail); refine (r_Plays pm pv pr cm cv cr p q cq pl _ HQ.out (by omega)).mono ?_
  rcases h4 : playsB p pl with _ | _
  · rintro e wn ⟨rfl, bq⟩; replace HB := Lib.hid (HB.out.trans (bq.mono HB.out.size)); clear bq
    (go_wp2_with fail); refine (c_known m _ (HM.out.below HB.out) (HI.out.below HB.out)).mono ?_; rintro e wn ⟨rfl, bq⟩; have HFK := Lib.hid (HB.out.trans (bq.mono HB.out.size)); clear bq; go_wp2; go_ret; exact ⟨rfl, HFK.out⟩
  rintro e wn ⟨rfl, bq⟩; replace HB := Lib.hid (HB.out.trans (bq.mono HB.out.size)); replace HP := Lib.hid (HP.out.below bq); replace HE := Lib.hid (HE.out.below bq); replace HQ := Lib.hid (HQ.out.below bq); have k0 := (bq.cell (lt_of_cellq k0)).trans k0; have k1 := (bq.cell (lt_of_cellq k1)).trans k1; have k2 := (bq.cell (lt_of_cellq k2)).trans k2; have q0 := (bq.cell (lt_of_cellq q0)).trans q0; have q1 := (bq.cell (lt_of_cellq q1)).trans q1; have q2 := (bq.cell (lt_of_cellq q2)).trans q2; have q3 := (bq.cell (lt_of_cellq q3)).trans q3; clear bq; have HPO := Lib.hid (pieceB_iff.1 h1); have HP1 := Lib.hid h1; have HPL := Lib.hid (playsB_iff.1 h4); have HHO := Lib.hid (handB_iff.1 h2); have HF1 := Lib.hid h2
  (go_wp2_with fail); refine (r_Fits pm pv pr cm cv cr p q cq pl _ HP.out HQ.out HPO.out HPL.out).mono ?_
  rcases h5 : fitsB p pl with _ | _
  · rintro e wn ⟨rfl, bq⟩; replace HB := Lib.hid (HB.out.trans (bq.mono HB.out.size)); clear bq
    (go_wp2_with fail); refine (c_known m _ (HM.out.below HB.out) (HI.out.below HB.out)).mono ?_; rintro e wn ⟨rfl, bq⟩; have HFK := Lib.hid (HB.out.trans (bq.mono HB.out.size)); clear bq; go_wp2; go_ret; exact ⟨rfl, HFK.out⟩
  rintro e wn ⟨rfl, bq⟩; replace HB := Lib.hid (HB.out.trans (bq.mono HB.out.size)); replace HP := Lib.hid (HP.out.below bq); replace HE := Lib.hid (HE.out.below bq); replace HQ := Lib.hid (HQ.out.below bq); have k0 := (bq.cell (lt_of_cellq k0)).trans k0; have k1 := (bq.cell (lt_of_cellq k1)).trans k1; have k2 := (bq.cell (lt_of_cellq k2)).trans k2; have q0 := (bq.cell (lt_of_cellq q0)).trans q0; have q1 := (bq.cell (lt_of_cellq q1)).trans q1; have q2 := (bq.cell (lt_of_cellq q2)).trans q2; have q3 := (bq.cell (lt_of_cellq q3)).trans q3; clear bq; have HMT := Lib.hid (show pl ∈ truthsF p from mem_truthsF.2 ⟨HPL.out.len, h5⟩); have HT := Lib.hid (ne_of_mem HMT.out); have HOK := Lib.hid (show (pieceB p && playsB p pl && withinB p pl) = true by rw [h1, h4, within_of_fits h5]; rfl); clear h1 h2 h4 h5
  (go_wp2_with fail); refine (r_Far want _).mono ?_
  rcases h7 : inB want (-5000) 5000 with _ | _
  · rintro e wn ⟨rfl, bq⟩; replace HB := Lib.hid (HB.out.trans (bq.mono HB.out.size)); clear bq
    (go_wp2_with fail); refine (c_known m _ (HM.out.below HB.out) (HI.out.below HB.out)).mono ?_; rintro e wn ⟨rfl, bq⟩; have HFK := Lib.hid (HB.out.trans (bq.mono HB.out.size)); clear bq; go_wp2; go_ret; exact ⟨rfl, HFK.out⟩
  rintro e wn ⟨rfl, bq⟩; replace HB := Lib.hid (HB.out.trans (bq.mono HB.out.size)); replace HP := Lib.hid (HP.out.below bq); replace HE := Lib.hid (HE.out.below bq); replace HQ := Lib.hid (HQ.out.below bq); have k0 := (bq.cell (lt_of_cellq k0)).trans k0; have k1 := (bq.cell (lt_of_cellq k1)).trans k1; have k2 := (bq.cell (lt_of_cellq k2)).trans k2; have q0 := (bq.cell (lt_of_cellq q0)).trans q0; have q1 := (bq.cell (lt_of_cellq q1)).trans q1; have q2 := (bq.cell (lt_of_cellq q2)).trans q2; have q3 := (bq.cell (lt_of_cellq q3)).trans q3; clear bq
  (go_wp2_with fail); refine (r_Limit lim _).mono ?_
  rcases h8 : inB lim 0 5000 with _ | _
  · rintro e wn ⟨rfl, bq⟩; replace HB := Lib.hid (HB.out.trans (bq.mono HB.out.size)); clear bq
    (go_wp2_with fail); refine (c_known m _ (HM.out.below HB.out) (HI.out.below HB.out)).mono ?_; rintro e wn ⟨rfl, bq⟩; have HFK := Lib.hid (HB.out.trans (bq.mono HB.out.size)); clear bq; go_wp2; go_ret; exact ⟨rfl, HFK.out⟩
  rintro e wn ⟨rfl, bq⟩; replace HB := Lib.hid (HB.out.trans (bq.mono HB.out.size)); replace HP := Lib.hid (HP.out.below bq); replace HE := Lib.hid (HE.out.below bq); replace HQ := Lib.hid (HQ.out.below bq); have k0 := (bq.cell (lt_of_cellq k0)).trans k0; have k1 := (bq.cell (lt_of_cellq k1)).trans k1; have k2 := (bq.cell (lt_of_cellq k2)).trans k2; have q0 := (bq.cell (lt_of_cellq q0)).trans q0; have q1 := (bq.cell (lt_of_cellq q1)).trans q1; have q2 := (bq.cell (lt_of_cellq q2)).trans q2; have q3 := (bq.cell (lt_of_cellq q3)).trans q3; clear bq; have HFN := Lib.hid (show ((handB p.ms.length h && inB want (-5000) 5000) && inB lim 0 5000) = true by rw [HF1.out, h7, h8]; rfl); have HWR := Lib.hid (show -5000 ≤ want ∧ want ≤ 5000 ∧ 0 ≤ lim ∧ lim ≤ 5000 by have := inB_iff.1 h7; have := inB_iff.1 h8; omega); clear h7 h8; have hea : errF p true = 0 := err_good HP1.out rfl HT.out; obtain ⟨hh1, hh2, hh3, hh4⟩ := hands_law HPO.out HHO.out HMT.out (want := want) HWR.out.2.2.1
  obtain ⟨hs1, hs2, hs3⟩ := shows_plain HPO.out HHO.out HT.out; obtain ⟨hg1, hg2, hg3⟩ := sh_plain HPO.out HHO.out HMT.out; obtain ⟨S0, hS0⟩ : ∃ x, (showsF p h).1 = x := ⟨_, rfl⟩; obtain ⟨S1, hS1⟩ : ∃ x, (showsF p h).2 = x := ⟨_, rfl⟩; obtain ⟨SU, hSU⟩ : ∃ x, sureF p h want lim = x := ⟨_, rfl⟩; obtain ⟨L1, hL1⟩ : ∃ x, (shF p h pl).1 = x := ⟨_, rfl⟩; obtain ⟨U1, hU1⟩ : ∃ x, (shF p h pl).2 = x := ⟨_, rfl⟩
  have HK1 := Lib.hid (fun W (g1 : RdP W pm pv pr p) (g2 : RdS W pe h.er) => show Calls Tryz.prog 18 #[.agg #[.slice pm p.ms.length cm, .slice pv p.mv.length cv, .slice pr p.rs.length cr], .agg #[.int .i64 h.arb, .int .i64 h.num, .int .i64 h.den, .slice pe h.er.length ce]] W fun e w' => e = .returned (.tuple #[.agg #[.int .i64 S0, .int .i64 S1], .int .i64 0]) ∧ Below W.heap.size W w' by
    have hh := HKS.out W g1 HLN.out g2 HL1.out; unfold SpanPost AnsS okI at hh; rw [HF1.out] at hh; simp only [if_pos hea, hea, hS0, hS1] at hh; exact hh)
  have HK2 := Lib.hid (fun W (g1 : RdP W pm pv pr p) (g2 : RdS W pe h.er) => show Calls Tryz.prog 19 #[.agg #[.slice pm p.ms.length cm, .slice pv p.mv.length cv, .slice pr p.rs.length cr], .agg #[.int .i64 h.arb, .int .i64 h.num, .int .i64 h.den, .slice pe h.er.length ce], .int .i64 want, .int .i64 lim] W fun e w' => e = .returned (.tuple #[.int .i64 SU, .int .i64 0]) ∧ Below W.heap.size W w' by
    have hh := HKU.out W g1 HLN.out g2 HL1.out; unfold SurePost sureOut sureErr at hh; rw [HFN.out, hea, if_pos rfl, hSU] at hh; exact hh)
  have HKH := Lib.hid (show ∀ W, RdS W pe h.er → Calls Tryz.prog 30 #[.agg #[.int .i64 h.arb, .int .i64 h.num, .int .i64 h.den, .slice pe h.er.length ce], .int .i64 (gi (endF p pl) h.arb.toNat)] W fun e w' => e = .returned (.agg #[.int .i64 L1, .int .i64 U1]) ∧ Below W.heap.size W w' from fun W g2 => by
    have hh := HSW.out _ (gi (endF p pl) h.arb.toNat) W g2 HHO.out (hand_place HPO.out HPL.out HHO.out); rw [shF_eq] at hh; unfold ShPost at hh; rw [hL1, hU1] at hh; exact hh)
  rw [hS0, hS1, hSU] at hh3; rw [hS0, hS1, hL1, hU1] at hh1; rw [hSU] at hh2; rw [hL1, hU1, hSU] at hh4; rw [hS0] at hs1 hs2; rw [hS1] at hs2 hs3; rw [hL1] at hg1 hg2; rw [hU1] at hg2 hg3; obtain ⟨hw0, hw1, hw2, hw3⟩ := HWR.out; have n1 : IntKind.i64.wrap (want - lim) = want - lim := w64 _ (by omega) (by omega); have n2 : IntKind.i64.wrap (want + lim) = want + lim := w64 _ (by omega) (by omega); have n3 : IntKind.i64.wrap (U1 - L1) = U1 - L1 := w64 _ (by omega) (by omega); obtain ⟨AT, hAT⟩ : ∃ x, L1 + min (max err 0) (U1 - L1) = x := ⟨_, rfl⟩; have n4 : IntKind.i64.wrap (L1 + min (max err 0) (U1 - L1)) = AT := by rw [w64 _ (by omega) (by omega)]; exact hAT
  have HAT := Lib.hid (show L1 ≤ AT ∧ AT ≤ U1 by omega); have u1 : decide (L1 < S0) = false := decide_eq_false (by omega); have u1b : decide (S0 > L1) = false := decide_eq_false (by omega); have u2 : decide (U1 > S1) = false := decide_eq_false (by omega); have u2b : decide (S1 < U1) = false := decide_eq_false (by omega); have u3 : decide (SU < 1) = false := decide_eq_false (by omega); have u4 : decide (SU > 3) = false := decide_eq_false (by omega); have u4b : decide (3 < SU) = false := decide_eq_false (by omega); have HLW := Lib.hid (And.intro hh3 hh4); clear hh1 hh2 hh3 hh4 hs1 hs2 hs3 hg1 hg2 hg3 hS0 hS1 hSU hL1 hU1 hAT hea HKS HKU HRH HSW HLB hw0 hw1 hw2 hw3
  (go_wp2_with fail); refine (HK1.out _ HP.out HE.out).mono ?_
  rintro e wn ⟨rfl, bq⟩; replace HB := Lib.hid (HB.out.trans (bq.mono HB.out.size)); replace HP := Lib.hid (HP.out.below bq); replace HE := Lib.hid (HE.out.below bq); replace HQ := Lib.hid (HQ.out.below bq); have k0 := (bq.cell (lt_of_cellq k0)).trans k0; have k1 := (bq.cell (lt_of_cellq k1)).trans k1; have k2 := (bq.cell (lt_of_cellq k2)).trans k2; have q0 := (bq.cell (lt_of_cellq q0)).trans q0; have q1 := (bq.cell (lt_of_cellq q1)).trans q1; have q2 := (bq.cell (lt_of_cellq q2)).trans q2; have q3 := (bq.cell (lt_of_cellq q3)).trans q3; clear bq; obtain ⟨x2, e2, HSx, s0, s1, bq⟩ := box2 wn (.int .i64 S0) (.int .i64 S1) 36; go_upto_region 4 with (fail); clear e2
  skip; replace HB := Lib.hid (HB.out.trans (bq.mono HB.out.size)); replace HP := Lib.hid (HP.out.below bq); replace HE := Lib.hid (HE.out.below bq); replace HQ := Lib.hid (HQ.out.below bq); have k0 := (bq.cell (lt_of_cellq k0)).trans k0; have k1 := (bq.cell (lt_of_cellq k1)).trans k1; have k2 := (bq.cell (lt_of_cellq k2)).trans k2; have q0 := (bq.cell (lt_of_cellq q0)).trans q0; have q1 := (bq.cell (lt_of_cellq q1)).trans q1; have q2 := (bq.cell (lt_of_cellq q2)).trans q2; have q3 := (bq.cell (lt_of_cellq q3)).trans q3; clear bq
  (go_wp2_with fail); refine (HK2.out _ HP.out HE.out).mono ?_
  rintro e wn ⟨rfl, bq⟩; replace HB := Lib.hid (HB.out.trans (bq.mono HB.out.size)); replace HP := Lib.hid (HP.out.below bq); replace HE := Lib.hid (HE.out.below bq); replace HQ := Lib.hid (HQ.out.below bq); have k0 := (bq.cell (lt_of_cellq k0)).trans k0; have k1 := (bq.cell (lt_of_cellq k1)).trans k1; have k2 := (bq.cell (lt_of_cellq k2)).trans k2; have q0 := (bq.cell (lt_of_cellq q0)).trans q0; have q1 := (bq.cell (lt_of_cellq q1)).trans q1; have q2 := (bq.cell (lt_of_cellq q2)).trans q2; have q3 := (bq.cell (lt_of_cellq q3)).trans q3; have s0 := (bq.cell (lt_of_cellq s0)).trans s0; have s1 := (bq.cell (lt_of_cellq s1)).trans s1; clear bq
  (go_wp2_with fail); refine (c_lrun pm pv pr cm cv cr p q cq pl _ HP.out HQ.out HOK.out).mono ?_
  rintro e wn ⟨⟨g, cg, rfl, hrl⟩, bq⟩
  skip; replace HB := Lib.hid (HB.out.trans (bq.mono HB.out.size)); replace HP := Lib.hid (HP.out.below bq); replace HE := Lib.hid (HE.out.below bq); replace HQ := Lib.hid (HQ.out.below bq); have k0 := (bq.cell (lt_of_cellq k0)).trans k0; have k1 := (bq.cell (lt_of_cellq k1)).trans k1; have k2 := (bq.cell (lt_of_cellq k2)).trans k2; have q0 := (bq.cell (lt_of_cellq q0)).trans q0; have q1 := (bq.cell (lt_of_cellq q1)).trans q1; have q2 := (bq.cell (lt_of_cellq q2)).trans q2; have q3 := (bq.cell (lt_of_cellq q3)).trans q3; have s0 := (bq.cell (lt_of_cellq s0)).trans s0; have s1 := (bq.cell (lt_of_cellq s1)).trans s1; clear bq
  have hl0 : (((p.mv.length : Int) + 1) == 0) = false := by rw [beq_eq_false_iff_ne]; omega
  have hl1 : (((p.mv.length + 1 : Nat) : Int) == 0) = false := by rw [beq_eq_false_iff_ne]; omega
  obtain ⟨bx, off, hb, hc⟩ := hrl.at (i := 0) (by rw [allF_len]; omega)
  cases hb
  obtain ⟨qa, ca, y0, ya⟩ := hc p.mv.length (by rw [allF_len]; omega); have hen : gl (allF pl p.mv p.mv.length) p.mv.length = endF p pl := allF_at _ _ _ _ (Nat.le_refl _); have hel : (endF p pl).length = p.ms.length + 1 := by rw [end_len HPL.out.pos, HPL.out.len]
  rw [hen, hel, Nat.zero_add] at y0; rw [hen] at ya; obtain ⟨a, hab⟩ : ∃ a : Nat, h.arb = (a : Int) := ⟨h.arb.toNat, by have := HHO.out.arb; omega⟩; have hal : a ≤ p.ms.length := by have := HHO.out.arb; omega
  have hat : h.arb.toNat = a := by rw [hab]; rfl
  obtain ⟨ba, oa, rfl, hca⟩ := ya.at (i := a) (by rw [hel]; omega); have d0 := hca a (by rw [hel]; omega)
  have HS1 := Lib.hid (fun W (hb : Below wn.heap.size wn W) => show Calls Tryz.prog 30 #[.agg #[.int .i64 (a : Int), .int .i64 h.num, .int .i64 h.den, .slice pe h.er.length ce], .int .i64 (gi (endF p pl) a)] W fun e w' => e = .returned (.agg #[.int .i64 L1, .int .i64 U1]) ∧ Below W.heap.size W w' by
    have hh := HKH.out W (HE.out.below hb); rw [hat, hab] at hh; exact hh)
  rw [hab] at q0; obtain ⟨G1, hG1⟩ : ∃ x, gi (endF p pl) a = x := ⟨_, rfl⟩; rw [hG1] at d0 HS1; have hai : (a : Int) < (p.ms.length : Int) + 1 := by omega
  have ha0 : (0 : Int) ≤ (a : Int) := by omega
  have hmi : (p.mv.length : Int) < (p.mv.length : Int) + 1 := by omega
  have HK8 := Lib.hid (fun W (hb : Below wn.heap.size wn W) => cl2 s0 s1 W hb); clear hrl hc hen hel ya hca hat hab hG1 HKH hal; go_wp2; have HSB := Lib.hid (cl7 k1 q0 q1 q2 q3 y0 d0); refine held7 k1 q0 q1 q2 q3 y0 d0 (fun W0 HB0 => ?_); refine tk 0 rfl (by exact HSB.out _ HB0) ?_; (try simp only [Act.put, ptL]); refine tk 1 rfl (by exact HSB.out _ HB0) ?_; (try simp only [Act.put, ptL]); refine tk 2 rfl (by exact HSB.out _ HB0) ?_; (try simp only [Act.put, ptL]); refine tk 3 rfl (by exact HSB.out _ HB0) ?_; (try simp only [Act.put, ptL]); refine tk 4 rfl (by exact HSB.out _ HB0) ?_; (try simp only [Act.put, ptL]); refine tk 5 rfl (by exact HSB.out _ HB0) ?_; (try simp only [Act.put, ptL]); refine tk 6 rfl (by exact HSB.out _ HB0) ?_; (try simp only [Act.put, ptL]); refine tk 7 rfl (by exact HSB.out _ HB0) ?_; (try simp only [Act.put, ptL]); refine tk 8 rfl (by exact HSB.out _ HB0) ?_; (try simp only [Act.put, ptL]); refine tk 9 rfl (by exact HSB.out _ HB0) ?_; (try simp only [Act.put, ptL]); refine tk 10 rfl (by exact HSB.out _ HB0) ?_; (try simp only [Act.put, ptL])
  refine rz2 11 12 rfl rfl ?_ ?_
  focus
    intro K hK; go_simp; refine (HS1.out _ HB0).mono ?_; rintro e W12 ⟨rfl, hbn⟩; have HB12 : Below wn.heap.size wn W12 := HB0.trans (hbn.mono HB0.size); clear hbn; go_simp; refine kz hK (by exact HSB.out _ HB12) ?_; clear hK K; (try simp only [Act.put, ptL]); clear HB0; refine rz1 12 rfl ?_; intro K hK; go_simp; refine kz hK (by exact HSB.out _ (HB12.alloc HB12.size _)) ?_; clear hK K; (try simp only [Act.put, ptL]); refine wpAnyH_gen (fun W13 hWn => ?_); have HB13 : Below wn.heap.size wn W13 := by rw [hWn]; exact HB12.alloc HB12.size _
    have hx_x : W13.heap[W12.heap.size]? = some (.cells #[.int .i64 0, .int .i64 0] 36) := by rw [hWn]; exact alloc_new _ _
    have hl_x : wn.heap.size ≤ W12.heap.size := HB12.size; clear hWn; obtain ⟨b_x, hb_x⟩ : ∃ b, W12.heap.size = b := ⟨_, rfl⟩; rw [hb_x] at hx_x hl_x ⊢; clear HB12 hb_x; refine rz1 13 rfl ?_; intro K hK; refine set2K W13 b_x 36 _ _ (.int .i64 L1) (.int .i64 U1) hx_x (fun wa14 W14 sa sb ca0 fa0 ca1 fa1 hx4 hxk HZs hxb => ?_); have HB14 : Below wn.heap.size wn W14 := hxb wn wn.heap.size hl_x HB13; have hx_x := hx4; clear hx4 hxk hxb HZs; go_simp; refine kz hK (by exact HSB.out _ HB14) ?_; clear hK K; (try simp only [Act.put, ptL]); clear ca0 fa0 ca1 fa1 sa sb HB13; refine wpAnyH_done (by kernel_rfl) ?_ _; obtain ⟨wz, hwz⟩ : ∃ wz, wz = W14 := ⟨_, rfl⟩; subst hwz; have HBZ := HB14; clear HB14
    
  rotate_left 1
  focus
    intro K hK; go_simp; refine kz hK (by exact HSB.out _ (HB0.alloc HB0.size _)) ?_; clear hK K; (try simp only [Act.put, ptL]); refine wpAnyH_gen (fun W15 hWn => ?_); have HB15 : Below wn.heap.size wn W15 := by rw [hWn]; exact HB0.alloc HB0.size _
    have hx_x : W15.heap[W0.heap.size]? = some (.cells #[.int .i64 0, .int .i64 0] 36) := by rw [hWn]; exact alloc_new _ _
    have hl_x : wn.heap.size ≤ W0.heap.size := HB0.size; clear hWn; obtain ⟨b_x, hb_x⟩ : ∃ b, W0.heap.size = b := ⟨_, rfl⟩; rw [hb_x] at hx_x hl_x ⊢; clear HB0 hb_x; refine rz1 11 rfl ?_; intro K hK; go_simp; refine (HS1.out _ HB15).mono ?_; rintro e W16 ⟨rfl, hbn⟩; have HB16 : Below wn.heap.size wn W16 := HB15.trans (hbn.mono HB15.size); have hx_x : W16.heap[b_x]? = some (.cells #[.int .i64 0, .int .i64 0] 36) := (hbn.block _ (block_lt hx_x)).trans hx_x; clear hbn; go_simp; refine kz hK (by exact HSB.out _ HB16) ?_; clear hK K; (try simp only [Act.put, ptL]); clear HB15; refine rz1 13 rfl ?_; intro K hK; refine set2K W16 b_x 36 _ _ (.int .i64 L1) (.int .i64 U1) hx_x (fun wa17 W17 sa sb ca0 fa0 ca1 fa1 hx4 hxk HZs hxb => ?_); have HB17 : Below wn.heap.size wn W17 := hxb wn wn.heap.size hl_x HB16; have hx_x := hx4; clear hx4 hxk hxb HZs; go_simp; refine kz hK (by exact HSB.out _ HB17) ?_; clear hK K; (try simp only [Act.put, ptL])
    clear ca0 fa0 ca1 fa1 sa sb HB16; refine wpAnyH_done (by kernel_rfl) ?_ _; obtain ⟨wz, hwz⟩ : ∃ wz, wz = W17 := ⟨_, rfl⟩; subst hwz; have HBZ := HB17; clear HB17
    
  rotate_left 1
  all_goals
    obtain ⟨x0, x1⟩ := cells2 hx_x; obtain ⟨s0, s1⟩ := HK8.out _ HBZ; replace HB := Lib.hid (HB.out.trans (HBZ.mono HB.out.size)); clear HBZ hx_x HSB HK8 HS1 k1 q0 q1 q2 q3 y0 d0; clear HP HE HQ HK1 HK2 HWR HFN HOK HT HMT HPO HP1 HPL HHO HF1 hai ha0 hmi
    by_cases c0 : S0 ≥ want - lim
    case neg =>
      have d0 : decide (S0 ≥ want - lim) = false := decide_eq_false (by omega); have d0b : decide (want - lim ≤ S0) = false := decide_eq_false (by omega); have s3 : (SU == 3) = false := by rw [beq_eq_false_iff_ne]; intro hc; have := HLW.out.1.1 hc; omega
      have s3b : (SU != 3) = true := by simp; rw [beq_eq_false_iff_ne] at s3; exact s3
      by_cases i1 : AT ≥ want - lim
      case neg =>
        have j1 : decide (AT ≥ want - lim) = false := decide_eq_false (by omega); have j1b : decide (want - lim ≤ AT) = false := decide_eq_false (by omega); have hat := HLW.out.2 AT HAT.out.1 HAT.out.2; have z3 : SU ≠ 3 := hat.2 (by omega); clear hat i1 HLW HAT
        (go_wp2_with fail); refine (c_known m _ (HM.out.below HB.out) (HI.out.below HB.out)).mono ?_; rintro e wn ⟨rfl, bq⟩; have HFK := Lib.hid (HB.out.trans (bq.mono HB.out.size)); clear bq; go_wp2; go_ret; exact ⟨rfl, HFK.out⟩
      have j1 : decide (AT ≥ want - lim) = true := decide_eq_true (by omega); have j1b : decide (want - lim ≤ AT) = true := decide_eq_true (by omega)
      by_cases i2 : AT ≤ want + lim
      case neg =>
        have j2 : decide (AT ≤ want + lim) = false := decide_eq_false (by omega); have j2b : decide (want + lim ≥ AT) = false := decide_eq_false (by omega); have hat := HLW.out.2 AT HAT.out.1 HAT.out.2; have z3 : SU ≠ 3 := hat.2 (by omega); clear hat i1 HLW HAT i2
        (go_wp2_with fail); refine (c_known m _ (HM.out.below HB.out) (HI.out.below HB.out)).mono ?_; rintro e wn ⟨rfl, bq⟩; have HFK := Lib.hid (HB.out.trans (bq.mono HB.out.size)); clear bq; go_wp2; go_ret; exact ⟨rfl, HFK.out⟩
      have j2 : decide (AT ≤ want + lim) = true := decide_eq_true (by omega); have j2b : decide (want + lim ≥ AT) = true := decide_eq_true (by omega); have hat := HLW.out.2 AT HAT.out.1 HAT.out.2; have z1 : (SU != 1) = true := by simp; exact hat.1 ⟨by omega, by omega⟩
      clear hat i1 HLW HAT i2
      (go_wp2_with fail); refine (c_known m _ (HM.out.below HB.out) (HI.out.below HB.out)).mono ?_; rintro e wn ⟨rfl, bq⟩; have HFK := Lib.hid (HB.out.trans (bq.mono HB.out.size)); clear bq; go_wp2; go_ret; exact ⟨rfl, HFK.out⟩
    have d0 : decide (S0 ≥ want - lim) = true := decide_eq_true (by omega); have d0b : decide (want - lim ≤ S0) = true := decide_eq_true (by omega)
    by_cases c1 : S0 ≤ want + lim
    case neg =>
      have d1 : decide (S0 ≤ want + lim) = false := decide_eq_false (by omega); have d1b : decide (want + lim ≥ S0) = false := decide_eq_false (by omega); have s3 : (SU == 3) = false := by rw [beq_eq_false_iff_ne]; intro hc; have := HLW.out.1.1 hc; omega
      have s3b : (SU != 3) = true := by simp; rw [beq_eq_false_iff_ne] at s3; exact s3
      by_cases i1 : AT ≥ want - lim
      case neg =>
        have j1 : decide (AT ≥ want - lim) = false := decide_eq_false (by omega); have j1b : decide (want - lim ≤ AT) = false := decide_eq_false (by omega); have hat := HLW.out.2 AT HAT.out.1 HAT.out.2; have z3 : SU ≠ 3 := hat.2 (by omega); clear hat i1 HLW HAT
        (go_wp2_with fail); refine (c_known m _ (HM.out.below HB.out) (HI.out.below HB.out)).mono ?_; rintro e wn ⟨rfl, bq⟩; have HFK := Lib.hid (HB.out.trans (bq.mono HB.out.size)); clear bq; go_wp2; go_ret; exact ⟨rfl, HFK.out⟩
      have j1 : decide (AT ≥ want - lim) = true := decide_eq_true (by omega); have j1b : decide (want - lim ≤ AT) = true := decide_eq_true (by omega)
      by_cases i2 : AT ≤ want + lim
      case neg =>
        have j2 : decide (AT ≤ want + lim) = false := decide_eq_false (by omega); have j2b : decide (want + lim ≥ AT) = false := decide_eq_false (by omega); have hat := HLW.out.2 AT HAT.out.1 HAT.out.2; have z3 : SU ≠ 3 := hat.2 (by omega); clear hat i1 HLW HAT i2
        (go_wp2_with fail); refine (c_known m _ (HM.out.below HB.out) (HI.out.below HB.out)).mono ?_; rintro e wn ⟨rfl, bq⟩; have HFK := Lib.hid (HB.out.trans (bq.mono HB.out.size)); clear bq; go_wp2; go_ret; exact ⟨rfl, HFK.out⟩
      have j2 : decide (AT ≤ want + lim) = true := decide_eq_true (by omega); have j2b : decide (want + lim ≥ AT) = true := decide_eq_true (by omega); have hat := HLW.out.2 AT HAT.out.1 HAT.out.2; have z1 : (SU != 1) = true := by simp; exact hat.1 ⟨by omega, by omega⟩
      clear hat i1 HLW HAT i2
      (go_wp2_with fail); refine (c_known m _ (HM.out.below HB.out) (HI.out.below HB.out)).mono ?_; rintro e wn ⟨rfl, bq⟩; have HFK := Lib.hid (HB.out.trans (bq.mono HB.out.size)); clear bq; go_wp2; go_ret; exact ⟨rfl, HFK.out⟩
    have d1 : decide (S0 ≤ want + lim) = true := decide_eq_true (by omega); have d1b : decide (want + lim ≥ S0) = true := decide_eq_true (by omega)
    by_cases c2 : S1 ≥ want - lim
    case neg =>
      have d2 : decide (S1 ≥ want - lim) = false := decide_eq_false (by omega); have d2b : decide (want - lim ≤ S1) = false := decide_eq_false (by omega); have s3 : (SU == 3) = false := by rw [beq_eq_false_iff_ne]; intro hc; have := HLW.out.1.1 hc; omega
      have s3b : (SU != 3) = true := by simp; rw [beq_eq_false_iff_ne] at s3; exact s3
      by_cases i1 : AT ≥ want - lim
      case neg =>
        have j1 : decide (AT ≥ want - lim) = false := decide_eq_false (by omega); have j1b : decide (want - lim ≤ AT) = false := decide_eq_false (by omega); have hat := HLW.out.2 AT HAT.out.1 HAT.out.2; have z3 : SU ≠ 3 := hat.2 (by omega); clear hat i1 HLW HAT
        (go_wp2_with fail); refine (c_known m _ (HM.out.below HB.out) (HI.out.below HB.out)).mono ?_; rintro e wn ⟨rfl, bq⟩; have HFK := Lib.hid (HB.out.trans (bq.mono HB.out.size)); clear bq; go_wp2; go_ret; exact ⟨rfl, HFK.out⟩
      have j1 : decide (AT ≥ want - lim) = true := decide_eq_true (by omega); have j1b : decide (want - lim ≤ AT) = true := decide_eq_true (by omega)
      by_cases i2 : AT ≤ want + lim
      case neg =>
        have j2 : decide (AT ≤ want + lim) = false := decide_eq_false (by omega); have j2b : decide (want + lim ≥ AT) = false := decide_eq_false (by omega); have hat := HLW.out.2 AT HAT.out.1 HAT.out.2; have z3 : SU ≠ 3 := hat.2 (by omega); clear hat i1 HLW HAT i2
        (go_wp2_with fail); refine (c_known m _ (HM.out.below HB.out) (HI.out.below HB.out)).mono ?_; rintro e wn ⟨rfl, bq⟩; have HFK := Lib.hid (HB.out.trans (bq.mono HB.out.size)); clear bq; go_wp2; go_ret; exact ⟨rfl, HFK.out⟩
      have j2 : decide (AT ≤ want + lim) = true := decide_eq_true (by omega); have j2b : decide (want + lim ≥ AT) = true := decide_eq_true (by omega); have hat := HLW.out.2 AT HAT.out.1 HAT.out.2; have z1 : (SU != 1) = true := by simp; exact hat.1 ⟨by omega, by omega⟩
      clear hat i1 HLW HAT i2
      (go_wp2_with fail); refine (c_known m _ (HM.out.below HB.out) (HI.out.below HB.out)).mono ?_; rintro e wn ⟨rfl, bq⟩; have HFK := Lib.hid (HB.out.trans (bq.mono HB.out.size)); clear bq; go_wp2; go_ret; exact ⟨rfl, HFK.out⟩
    have d2 : decide (S1 ≥ want - lim) = true := decide_eq_true (by omega); have d2b : decide (want - lim ≤ S1) = true := decide_eq_true (by omega)
    by_cases c3 : S1 ≤ want + lim
    case neg =>
      have d3 : decide (S1 ≤ want + lim) = false := decide_eq_false (by omega); have d3b : decide (want + lim ≥ S1) = false := decide_eq_false (by omega); have s3 : (SU == 3) = false := by rw [beq_eq_false_iff_ne]; intro hc; have := HLW.out.1.1 hc; omega
      have s3b : (SU != 3) = true := by simp; rw [beq_eq_false_iff_ne] at s3; exact s3
      by_cases i1 : AT ≥ want - lim
      case neg =>
        have j1 : decide (AT ≥ want - lim) = false := decide_eq_false (by omega); have j1b : decide (want - lim ≤ AT) = false := decide_eq_false (by omega); have hat := HLW.out.2 AT HAT.out.1 HAT.out.2; have z3 : SU ≠ 3 := hat.2 (by omega); clear hat i1 HLW HAT
        (go_wp2_with fail); refine (c_known m _ (HM.out.below HB.out) (HI.out.below HB.out)).mono ?_; rintro e wn ⟨rfl, bq⟩; have HFK := Lib.hid (HB.out.trans (bq.mono HB.out.size)); clear bq; go_wp2; go_ret; exact ⟨rfl, HFK.out⟩
      have j1 : decide (AT ≥ want - lim) = true := decide_eq_true (by omega); have j1b : decide (want - lim ≤ AT) = true := decide_eq_true (by omega)
      by_cases i2 : AT ≤ want + lim
      case neg =>
        have j2 : decide (AT ≤ want + lim) = false := decide_eq_false (by omega); have j2b : decide (want + lim ≥ AT) = false := decide_eq_false (by omega); have hat := HLW.out.2 AT HAT.out.1 HAT.out.2; have z3 : SU ≠ 3 := hat.2 (by omega); clear hat i1 HLW HAT i2
        (go_wp2_with fail); refine (c_known m _ (HM.out.below HB.out) (HI.out.below HB.out)).mono ?_; rintro e wn ⟨rfl, bq⟩; have HFK := Lib.hid (HB.out.trans (bq.mono HB.out.size)); clear bq; go_wp2; go_ret; exact ⟨rfl, HFK.out⟩
      have j2 : decide (AT ≤ want + lim) = true := decide_eq_true (by omega); have j2b : decide (want + lim ≥ AT) = true := decide_eq_true (by omega); have hat := HLW.out.2 AT HAT.out.1 HAT.out.2; have z1 : (SU != 1) = true := by simp; exact hat.1 ⟨by omega, by omega⟩
      clear hat i1 HLW HAT i2
      (go_wp2_with fail); refine (c_known m _ (HM.out.below HB.out) (HI.out.below HB.out)).mono ?_; rintro e wn ⟨rfl, bq⟩; have HFK := Lib.hid (HB.out.trans (bq.mono HB.out.size)); clear bq; go_wp2; go_ret; exact ⟨rfl, HFK.out⟩
    have d3 : decide (S1 ≤ want + lim) = true := decide_eq_true (by omega); have d3b : decide (want + lim ≥ S1) = true := decide_eq_true (by omega); have s3 : (SU == 3) = true := by rw [beq_iff_eq]; exact HLW.out.1.2 ⟨⟨by omega, by omega⟩, by omega, by omega⟩
    have s3b : (SU != 3) = false := by simp; rw [beq_iff_eq] at s3; exact s3
    by_cases i1 : AT ≥ want - lim
    case neg =>
      have j1 : decide (AT ≥ want - lim) = false := decide_eq_false (by omega); have j1b : decide (want - lim ≤ AT) = false := decide_eq_false (by omega); have hat := HLW.out.2 AT HAT.out.1 HAT.out.2; have z3 : SU ≠ 3 := hat.2 (by omega); rw [beq_iff_eq] at s3; exact absurd s3 z3
    have j1 : decide (AT ≥ want - lim) = true := decide_eq_true (by omega); have j1b : decide (want - lim ≤ AT) = true := decide_eq_true (by omega)
    by_cases i2 : AT ≤ want + lim
    case neg =>
      have j2 : decide (AT ≤ want + lim) = false := decide_eq_false (by omega); have j2b : decide (want + lim ≥ AT) = false := decide_eq_false (by omega); have hat := HLW.out.2 AT HAT.out.1 HAT.out.2; have z3 : SU ≠ 3 := hat.2 (by omega); rw [beq_iff_eq] at s3; exact absurd s3 z3
    have j2 : decide (AT ≤ want + lim) = true := decide_eq_true (by omega); have j2b : decide (want + lim ≥ AT) = true := decide_eq_true (by omega); have hat := HLW.out.2 AT HAT.out.1 HAT.out.2; have z1 : (SU != 1) = true := by simp; exact hat.1 ⟨by omega, by omega⟩
    clear hat i1 HLW HAT i2
    (go_wp2_with fail); refine (c_known m _ (HM.out.below HB.out) (HI.out.below HB.out)).mono ?_; rintro e wn ⟨rfl, bq⟩; have HFK := Lib.hid (HB.out.trans (bq.mono HB.out.size)); clear bq; go_wp2; go_ret; exact ⟨rfl, HFK.out⟩
end Go.Proofs.YtlednchfifphgabGreatDoor
end

section
namespace Go.Proofs.YtlednchfifphgabGreatDoor
open Go Go.ChangeShapes Go.WideShapes Go.ChangeAt Go.RowKit Go.Proofs
set_option linter.unusedVariables false

set_option maxRecDepth 100000 in
theorem slackHands_lifted (os : Os) (started : os.Started) (H : Type) (enc : TypeId × Value → H) :
    ReturnsInHanded {} Tryz.checked os 4 .any (fun w args => (Rows.slackHandsSpec.pre enc Tryz.prog Tryz.f4 [] false w args ∧ laidMetH Tryz.prog lay5 w) ∧ sizedMet enc Tryz.prog Tryz.f4 (OpenSpec.ofChange Rows.slackHandsSpec) false w args)
      (Rows.slackHandsSpec.post enc Tryz.prog Tryz.f4 false true false false) := by
  refine returns_listed (C := Tryz.checked) (X := fun w _ => laidMetH Tryz.prog lay5 w) (fun _ _ _ hh h => h.of_heap hh) ownT started (by kernel_rfl) Tryz.func4
    (ChangeSpec.witness_shaped (enc := enc) (C := Tryz.checked) (os := os) (X := fun w _ => laidMetH Tryz.prog lay5 w) false (World.laidAll Tryz.prog os lay5) #[.agg #[.slice none 0 0, .slice none 0 0, .slice none 0 0], .agg #[.int .i64 0, .int .i64 0, .int .i64 0, .slice none 0 0], .slice none 0 0, .int .i64 0, .int .i64 0, .int .i64 0] 12 (World.laidAll_os _ _ _)
      (World.shaped_of_ZipB (by kernel_rfl) (by kernel_rfl)) (by kernel_rfl) (by kernel_rfl) (by kernel_rfl)
      (by rw [MakeChecks.laidMetH_plain _ _ _ (by kernel_rfl)]; exact laidMet_laidAll _ (by kernel_rfl) (by kernel_rfl))) ?_
  intro W base args ds gs before hval0 hW hX hSh; have hval : ∀ (j : Nat) t v, Tryz.f4.params[j]? = some t → args[j]? = some v → Value.okWide Tryz.prog W .any base t v := hval0; have hW' := hW; obtain ⟨p, q, hA0, hV, rfl, _, _⟩ := hW; have hA : DataW.TrodAll enc Tryz.prog W 0 (fun _ => true) true Tryz.f4.params.toList args.toList ds p := hA0; rw [Tryz.params4] at hA hval; obtain ⟨v0, vs0, d0, ds0, p0, q0, hargs, rfl, rfl, h0, r0⟩ := trodAll_cons hA; obtain ⟨v1, vs1, d1, ds1, p1, q1, rfl, rfl, rfl, h1, r1⟩ := trodAll_cons r0; obtain ⟨v2, vs2, d2, ds2, p2, q2, rfl, rfl, rfl, h2, r2⟩ := trodAll_cons r1; obtain ⟨v3, vs3, d3, ds3, p3, q3, rfl, rfl, rfl, h3, r3⟩ := trodAll_cons r2; obtain ⟨v4, vs4, d4, ds4, p4, q4, rfl, rfl, rfl, h4, r4⟩ := trodAll_cons r3; obtain ⟨v5, vs5, d5, ds5, p5, q5, rfl, rfl, rfl, h5, r5⟩ := trodAll_cons r4; obtain ⟨rfl, rfl, rfl⟩ := trodAll_nil r5; obtain rfl : args = #[v0, v1, v2, v3, v4, v5] := by cases args; simp_all
  obtain ⟨rfl, rfl⟩ := trodVars_none hV; obtain ⟨pm0, pv0, pr0, cm0, cv0, cr0, p0, rfl, rd0⟩ := op_piece (hval 0 26 v0 rfl rfl) h0; obtain ⟨g1, pe1, ce1, rfl, rd1⟩ := op_hand (hval 1 29 v1 rfl rfl) h1; obtain ⟨b2, c2, xs2, rfl, rd2, hl2⟩ := op_ints (hval 2 23 v2 rfl rfl) h2; obtain ⟨a3, rfl, la3, ua3⟩ := op_int (hval 3 3 v3 rfl rfl) h3; obtain ⟨a4, rfl, la4, ua4⟩ := op_int (hval 4 3 v4 rfl rfl) h4; obtain ⟨a5, rfl, la5, ua5⟩ := op_int (hval 5 3 v5 rfl rfl) h5; clear hA0 hval0; obtain ⟨m, hm⟩ := maxLen_of hSh; have hit := itoaG_of (pow10_of hX); refine (law_Hands pm0 pv0 pr0 cm0 cv0 cr0 p0 g1 pe1 ce1 b2 c2 xs2 a3 a4 a5 m W rd0 rd1 rd2 hm hit).mono fun e W' ⟨he, bel⟩ => ?_
  subst he; exact ⟨_, rfl, _, _, _, [], _, [], hW', trodAll_mk1 (shut_bool Tryz.underlying4 _), (trodAll_cons_mk (Below.trod laidOutT (by kernel_rfl) (of_decide_eq_true (by kernel_rfl)) h0 bel (trod_lt h0)) (trodAll_cons_mk (Below.trod laidOutT (by kernel_rfl) (of_decide_eq_true (by kernel_rfl)) h1 bel (trod_lt h1)) (trodAll_cons_mk (Below.trod laidOutT (by kernel_rfl) (of_decide_eq_true (by kernel_rfl)) h2 bel (trod_lt h2)) (trodAll_cons_mk (Below.trod laidOutT (by kernel_rfl) (of_decide_eq_true (by kernel_rfl)) h3 bel (trod_lt h3)) (trodAll_cons_mk (Below.trod laidOutT (by kernel_rfl) (of_decide_eq_true (by kernel_rfl)) h4 bel (trod_lt h4)) (trodAll_cons_mk (Below.trod laidOutT (by kernel_rfl) (of_decide_eq_true (by kernel_rfl)) h5 bel (trod_lt h5)) trodAll_mk0)))))), rfl, bel.frame _, fun h => by cases h⟩
theorem slackHands_wf : Rows.slackHandsRow.wf (OpenSpec.ofChange Rows.slackHandsSpec) = true := by kernel_rfl
theorem slackHands_inPlace : (Rows.slackHandsRow.inPlace == Tryz.prog.inPlace 4) = true := by kernel_rfl
theorem slackHands_unfollowed : (Rows.slackHandsRow.unfollowed == Tryz.prog.unfollowed 4) = true := by kernel_rfl
theorem slackHands_recurses : (Rows.slackHandsRow.recurses == Tryz.prog.recurses 4) = true := by kernel_rfl
theorem slackHands_named : (Rows.slackHandsRow.named == Tryz.prog.varsNamed 4) = true := by kernel_rfl
theorem slackHands_goes : false = Rows.slackHandsRow.goesBy Tryz.prog := by kernel_rfl
theorem slackHands_func : Tryz.prog.funcNamed Rows.slackHandsRow.func = some 4 := by kernel_rfl
theorem slackHands_text : Rows.slackHandsRow.wfByText (OpenSpec.ofChange Rows.slackHandsSpec) = true := by kernel_rfl
theorem slackHands_closed : joinedFacts Tryz.prog 4 Tryz.f4 Rows.slackHandsSpec Rows.slackHandsRow = true :=
  (and_t (and_t (and_t (and_t (and_t (and_t (and_t (and_t (and_t (and_t (and_t (and_t (and_t (and_t (and_t (and_t (and_t (and_t (and_t (and_t (and_t (and_t (and_t (and_t (and_t (and_t (and_t (and_t (and_t (and_t (and_t slackHands_wf tLaidOut) tMaps) (by kernel_rfl)) (by kernel_rfl)) (by kernel_rfl)) (by kernel_rfl)) (by kernel_rfl)) (by kernel_rfl)) slackHands_inPlace) slackHands_unfollowed) slackHands_recurses) slackHands_named) (by kernel_rfl)) (by kernel_rfl)) (by kernel_rfl)) (by kernel_rfl)) (by kernel_rfl)) (by kernel_rfl)) (by kernel_rfl)) (by kernel_rfl)) (by kernel_rfl)) (by kernel_rfl)) (by kernel_rfl)) tHeard) tMayEnter) (eq_t (α := Bool) tFinal.symm)) (eq_t tMake)) (by kernel_rfl)) (by kernel_rfl)) (by kernel_rfl)) (by kernel_rfl))
theorem slackHands_wrap : Func.isWrapper Tryz.prog Tryz.f4 Rows.slackHandsRow.wrapper Rows.slackHandsRow.mainSum := by unfold Func.isWrapper; rw [if_neg (of_decide_eq_false (by kernel_rfl))]; exact ⟨rfl, rfl⟩
theorem slackHands_row : Rows.SlackHandsSaid :=
  OpenClaim.holds_of_wide 4 Tryz.f4 rfl rfl rfl rfl rfl rfl rfl ⟨rfl, rfl, rfl, rfl, rfl⟩ rfl rfl rfl rfl rfl slackHands_func Tryz.func4 slackHands_closed (of_decide_eq_true (by kernel_rfl)) slackHands_wrap (fun os started H enc _ => slackHands_lifted os started H enc)
theorem slackHands_plain : ∀ (j : Nat) t, Tryz.f4.params[j]? = some t → Tryz.prog.wantsStandIn t = false := fun j t ht => by
  rw [Tryz.params4] at ht; have hm : t ∈ [26, 29, 23, 3, 3, 3] := by simpa using Array.mem_of_getElem? ht
  have hall : ([26, 29, 23, 3, 3, 3].all fun u => !Tryz.prog.wantsStandIn u) = true := by kernel_rfl
  exact (show Tryz.prog.wantsStandIn t = false by simpa using List.all_eq_true.1 hall t hm)
theorem slackHands_holds : Rows.SlackHandsCardSaid :=
  Claim7.holds_tied_plain_at .later [] [.data, .data, .data, .data, .pinned] true (true, "be822bbd39a17464ee6526ca2e9d32d2a3a9815fece3866167cb0f3f46fef96e") true slackHands_row (fun _ h => by cases h) slackHands_text (fun _ h => by cases h) slackHands_row_tie rfl ⟨rfl, rfl⟩ tMainIs rfl
    (fun f fn hf hfn => by
      obtain rfl : f = 4 := Option.some.inj (slackHands_func.symm.trans hf) |>.symm
      obtain rfl : fn = Tryz.f4 := (Option.some.inj (Tryz.func4.symm.trans hfn)).symm; exact ⟨tLooks, slackHands_plain⟩)
    slackHands_goes
#print axioms slackHands_holds
end Go.Proofs.YtlednchfifphgabGreatDoor
end
