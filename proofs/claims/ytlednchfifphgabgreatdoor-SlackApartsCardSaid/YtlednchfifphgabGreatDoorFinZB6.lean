/-
  Plain laws of chains of arbors (no program in sight): where all arbors are before the first move, and after a move.
  Plain laws of pieces: plays that are tried, truths, and what all truths have (no program in sight).
  Base words of these seats' walks: what slices that are only read hold; regions that draw their order; boxes; owned rows.
  Plain laws of hands, and of aims (no program in sight).
  What the references do, step by step: hulls, all plays mesh by mesh, lists of meshes; no program in sight.
  What a hand reads as.
  What is a hand, in the document's words; a number rounded down: contracts.
  A move made in two parts: what the moves are then, and where the arbors are (no program in sight).
  A negation in a quiet walk.
  A drawn region whose cells are known: its beginning, in short words.
  The document's move of all arbors, and where all arbors are: contracts.
  The document's places before the first move and after each one: contract.
  Whether plays are a truth, in the document's words: contract.
  All truths, in the document's words: contract.
  Where all arbors are after all moves, in each of some truths: contract.
  How many truths are left, and which arbor should be read, in the document's words: contracts.
  The least and the greatest number at each place of some lists: contracts.
  What a hand shows, in the document's words: contracts (printed by ref.py).
  A drawn region with eleven to fourteen cells: its beginning.
  By how much more one hand shows than another one, in the document's words: contract (printed by ref.py).
  Whether a hand has a short list, in the law's words: contract.
  What the laws ask: a piece's truths, or its error; contracts.
  By how much the crank can be turned before an arbor moves (the walk).
  By how much more any hand shows than another one (the walk; printed by ref.py, aparts.py).
  The law SlackAparts: its card. Conditions: none of the input; the tables of the library that the row lists are as the program lays them (the tie is given).
-/
import Derived.Test.YtlednchfifphgabGreatDoorGA
import Derived.Test.YtlednchfifphgabGreatDoorProg
import Derived.WalkKit
import Derived.WalkSpells
import Derived.WalkLawsBesides
import Derived.Handy
import Derived.Deep.QuietTactic
import Derived.BigQuiet
import Derived.Outline
import Derived.Below
import Derived.Lib.Hide
import Derived.Maps.RangeWalk
import Derived.StillTailTactics
import Derived.WalkMore
import Derived.Deep.RegionHeld3
import Derived.Deep.Cut
import Derived.RangeFuncBox
import Derived.Test.YtlednchfifphgabGreatDoorGC
import Derived.Test.YtlednchfifphgabGreatDoorGZ
import Derived.Test.YtlednchfifphgabGreatDoorGO
import Derived.Test.YtlednchfifphgabGreatDoorGG
import Derived.Test.YtlednchfifphgabGreatDoorGH
import Derived.Test.YtlednchfifphgabGreatDoorGL
import Derived.Test.YtlednchfifphgabGreatDoorGD
import Derived.Deep.Upon
import Derived.Deep.AppendLies
import Derived.Deep.RegionLaw
import Derived.OwnWalk
import Derived.Maps.AppendAt
import Derived.Test.YtlednchfifphgabGreatDoorGJ
import Derived.Test.YtlednchfifphgabGreatDoorGM
import Derived.Test.YtlednchfifphgabGreatDoorGN
import Derived.Test.YtlednchfifphgabGreatDoorGP
import Derived.Test.YtlednchfifphgabGreatDoorGQ
import Derived.Test.YtlednchfifphgabGreatDoorGR
import Derived.Test.YtlednchfifphgabGreatDoorGY
import Derived.Test.YtlednchfifphgabGreatDoorCards
section
namespace Go.Proofs.YtlednchfifphgabGreatDoor

theorem mvF_stepBack {pl pc : List Int} {m : Int} (hc : Chain pl pc) (hm : ¬ 0 ≤ m) (k : Nat) (h : k < pl.length) : gi (mvF pl pc m) (k + 1) = min (gi pc (k + 1)) (gi (mvF pl pc m) k) := by
  rw [mvF_back hm k (by omega), mvF_back hm (k + 1) (by omega)]; have := hc.le k h; omega
theorem mvF_stepRef {pl pc : List Int} {m : Int} (hp : Pos pl) (hc : Chain pl pc) (k : Nat) (h : k < pl.length) : gi (mvF pl pc m) (k + 1) = min (gi (mvF pl pc m) k) (max (gi (mvF pl pc m) k - gi pl k) (gi pc (k + 1))) := by
  have h3 := (mvF_chain hp hc m).le k h; have h4 := hp k h
  by_cases hm : 0 ≤ m
  · rw [mvF_stepOn hc hm k h] at h3 ⊢; omega
  · have h5 := hc.ge k h
    have h6 := mvF_back hm k (pc := pc) (pl := pl) (by omega); rw [mvF_stepBack hc hm k h] at h3 ⊢; omega
end Go.Proofs.YtlednchfifphgabGreatDoor
end

section
namespace Go.Proofs.YtlednchfifphgabGreatDoor

theorem prodF_snoc (ms : List (Int × Int)) (m : Int × Int) : prodF (ms ++ [m]) = (prodF ms).flatMap fun a => (rng m.1 m.2).map fun n => a ++ [n] := by
  induction ms with
  | nil =>
    simp only [List.nil_append, prodF, List.flatMap_cons, List.flatMap_nil, List.append_nil, List.map_cons, List.map_nil]
    induction rng m.1 m.2 with
    | nil => rfl
    | cons x r ih => simp only [List.flatMap_cons, List.map_cons, ih]; rfl
  | cons m0 r ih =>
    simp only [List.cons_append, prodF, ih, List.flatMap_assoc]
    congr 1
    funext n
    simp only [List.map_flatMap, List.flatMap_map, List.map_map]
    rfl
end Go.Proofs.YtlednchfifphgabGreatDoor
end

section
namespace Go.Proofs.YtlednchfifphgabGreatDoor
open Go Go.RowKit Go.Proofs
set_option linter.unusedVariables false

section
variable {P : Program} {C : World → Prop} {K : Act → Prop} {a : Act} {ops : Array Oper} {Q : Act → Prop} {o : Oper} {rest : List Oper}

variable {d : Nat} {x y : Operand} {t t' ty : TypeId} {pos : String} {af : Array Edge} {g : Option (Nat × Bool)} {m n : Int}

variable {z : Operand} {l : Int} {ats : Array TypeId}
end


section
variable {P : Program} {ops : Array Oper} {C : World → Prop} {Q : Act → Prop} {rest : List Oper} {a : Act} {d : Nat} {x y : Operand} {ty t t' : TypeId} {pos : String} {af : Array Edge} {g : Option (Nat × Bool)}
theorem wq_ixn (j : Nat) {e : TypeId} {sz : Nat} (hu : P.underlying t = some (.slice e)) (hs : ((P.info? e).map fun i => i.size) = some sz)
    (hw : Region.wanted ⟨some d, .indexAddr t x y, ty, pos, af, g⟩ (yielded ops a.tmps) = true) {b off len cap : Nat} {n : Int} (hx : a.eval x = .slice (some ⟨b, off, none⟩) len cap) (hy : a.eval y = .int .i64 n) (hn : n = (j : Int)) (h1 : j < len)
    (hk : wpQuiet P ops C Q rest (a.put (some d) (.pointer (some ⟨b, off + j * sz, none⟩)))) : wpQuiet P ops C Q (⟨some d, .indexAddr t x y, ty, pos, af, g⟩ :: rest) a := by
  subst hn; exact wq_ix hu hs hw hx hy h1 hk
end
theorem inV_length (a : List Int) : (inV a).length = a.length := by simp [inV]
section
variable {P : Program} {ops : Array Oper} {md : Region.Mode} {C : World → Prop}

end
end Go.Proofs.YtlednchfifphgabGreatDoor
end

section
namespace Go.Proofs.YtlednchfifphgabGreatDoor
set_option linter.unusedVariables false

theorem sh_plain {p : Pc} (hp : PieceOk p) {h : Hd} (hh : HandOk p.ms.length h) {pl : List Int} (hpl : pl ∈ truthsF p) : -280030 ≤ (shF p h pl).1 ∧ (shF p h pl).1 ≤ (shF p h pl).2 ∧ (shF p h pl).2 ≤ 240030 := by
  have hk := truth_plays hp hpl; refine shown_plain hh (place_range hp hk p.mv.length h.arb.toNat (Nat.le_refl _) ?_); have := hh.arb; have := hk.len; omega
end Go.Proofs.YtlednchfifphgabGreatDoor
end

section
namespace Go.Proofs.YtlednchfifphgabGreatDoor
set_option linter.unusedVariables false

theorem gl_get (xs : List (List Int)) (i : Nat) (h : i < xs.length) : gl xs i = xs[i] := by
  unfold gl; simp [h]
theorem take_step {α : Type} (l : List α) (k : Nat) (h : k < l.length) : l.take (k + 1) = l.take k ++ [l[k]] := List.take_succ_eq_append_getElem h
theorem take_gl (ls : List (List Int)) (k : Nat) (h : k < ls.length) : ls.take (k + 1) = ls.take k ++ [gl ls k] := by rw [gl_get ls k h]; exact take_step ls k h
theorem ne_take {α : Type} {l : List α} {k : Nat} (h0 : 0 < k) (hk : k ≤ l.length) : l.take k ≠ [] := by
  intro h; have := congrArg List.length h; rw [List.length_take, List.length_nil] at this; omega

def hullTo (ls : List (List Int)) (i k : Nat) : Int × Int := overF ((ls.take k).map fun x => just (gi x i))
theorem hullTo_one (ls : List (List Int)) (i : Nat) (h : 0 < ls.length) : hullTo ls i 1 = (gi (gl ls 0) i, gi (gl ls 0) i) := by
  unfold hullTo; rw [take_gl ls 0 h]
  rfl
theorem hullTo_succ (ls : List (List Int)) (i k : Nat) (h0 : 0 < k) (h : k < ls.length) : hullTo ls i (k + 1) = (min (hullTo ls i k).1 (gi (gl ls k) i), max (hullTo ls i k).2 (gi (gl ls k) i)) := by
  unfold hullTo; rw [take_gl ls k h, List.map_append]; show overF (_ ++ [just (gi (gl ls k) i)]) = _
  rw [overF_snoc, if_neg (by
    intro hc; exact ne_take h0 (Nat.le_of_lt h) (List.map_eq_nil_iff.1 hc))]
  rfl
def hullsF (ls : List (List Int)) (n : Nat) : List (Int × Int) := (List.range n).map fun i => hullTo ls i ls.length
theorem hullsF_len (ls : List (List Int)) (n : Nat) : (hullsF ls n).length = n := by simp [hullsF]
theorem hullsF_succ (ls : List (List Int)) (n : Nat) : hullsF ls (n + 1) = hullsF ls n ++ [hullTo ls n ls.length] := by
  unfold hullsF; rw [List.range_succ, List.map_append]; rfl
theorem hullTo_map (p : Pc) (f : List Int → List Int) (i : Nat) : hullTo ((truthsF p).map f) i ((truthsF p).map f).length = ovF p fun pl => just (gi (f pl) i) := by
  unfold hullTo ovF; rw [List.take_length, List.map_map]; rfl
theorem over_fst {l : List (Int × Int)} : (overF l).1 = (overF (l.map fun m => just m.1)).1 := by
  have h : ∀ (r : List (Int × Int)) (x y : Int × Int), x.1 = y.1 → (r.foldl stepO x).1 = ((r.map fun m => just m.1).foldl stepO y).1 := by
    intro r
    induction r with
    | nil => intro x y h; exact h
    | cons z r ih => intro x y h; exact ih _ _ (by show min x.1 z.1 = min y.1 z.1; rw [h])
  cases l with
  | nil => rfl
  | cons x r => exact h r x _ rfl
theorem over_snd {l : List (Int × Int)} : (overF l).2 = (overF (l.map fun m => just m.2)).2 := by
  have h : ∀ (r : List (Int × Int)) (x y : Int × Int), x.2 = y.2 → (r.foldl stepO x).2 = ((r.map fun m => just m.2).foldl stepO y).2 := by
    intro r
    induction r with
    | nil => intro x y h; exact h
    | cons z r ih => intro x y h; exact ih _ _ (by show max x.2 z.2 = max y.2 z.2; rw [h])
  cases l with
  | nil => rfl
  | cons x r => exact h r x _ rfl
theorem ov_fst (p : Pc) (of : List Int → Int × Int) : (ovF p of).1 = (ovF p fun pl => just (of pl).1).1 := by
  unfold ovF; rw [over_fst, List.map_map]; rfl
theorem ov_snd (p : Pc) (of : List Int → Int × Int) : (ovF p of).2 = (ovF p fun pl => just (of pl).2).2 := by
  unfold ovF; rw [over_snd, List.map_map]; rfl
theorem gm_take (ms : List (Int × Int)) (k : Nat) (h : k < ms.length) : ms.take (k + 1) = ms.take k ++ [gm ms k] := by rw [gm_get ms k h]; exact take_step ms k h
def nextTo (m : Int × Int) (all : List (List Int)) (k : Nat) : List (List Int) := (all.take k).flatMap fun a => (rng m.1 m.2).map fun n => a ++ [n]
theorem nextTo_zero (m : Int × Int) (all : List (List Int)) : nextTo m all 0 = [] := by simp [nextTo]
theorem nextTo_succ (m : Int × Int) (all : List (List Int)) (k : Nat) (h : k < all.length) : nextTo m all (k + 1) = nextTo m all k ++ (rng m.1 m.2).map fun n => gl all k ++ [n] := by
  unfold nextTo; rw [take_gl all k h, List.flatMap_append]
  simp
theorem nextTo_prod (ms : List (Int × Int)) (k : Nat) (h : k < ms.length) : nextTo (gm ms k) (prodF (ms.take k)) (prodF (ms.take k)).length = prodF (ms.take (k + 1)) := by
  unfold nextTo; rw [List.take_length, gm_take ms k h, prodF_snoc]
def rowTo (a : List Int) (lo : Int) (j : Nat) : List (List Int) := (List.range j).map fun (i : Nat) => a ++ [lo + (i : Int)]
theorem rowTo_zero (a : List Int) (lo : Int) : rowTo a lo 0 = [] := rfl
theorem rowTo_succ (a : List Int) (lo : Int) (j : Nat) : rowTo a lo (j + 1) = rowTo a lo j ++ [a ++ [lo + (j : Int)]] := by
  unfold rowTo; rw [List.range_succ, List.map_append]; rfl
theorem rowTo_all (a : List Int) (lo hi : Int) (j : Nat) (h : (j : Int) = hi - lo + 1) : rowTo a lo j = (rng lo hi).map fun n => a ++ [n] := by
  unfold rowTo rng; rw [List.map_map, show (hi - lo + 1).toNat = j by omega]; rfl
theorem prodF_lens (ms : List (Int × Int)) : ∀ k, k ≤ ms.length → ∀ i, i < (prodF (ms.take k)).length → (gl (prodF (ms.take k)) i).length = k := by
  intro k hk i hi; rw [gl_get _ i hi]; have := (mem_prodF.1 (List.getElem_mem hi)).1; rw [this, List.length_take]; omega
theorem prodF_count (ms : List (Int × Int)) (h : ∀ i, i < ms.length → (gm ms i).2 - (gm ms i).1 ≤ 4) : (prodF ms).length ≤ 5 ^ ms.length := by
  induction ms with
  | nil => simp [prodF]
  | cons m r ih =>
    have h0 := h 0 (by simp); have e0 : gm (m :: r) 0 = m := rfl; rw [e0] at h0
    have ih' := ih fun i hi => by
      have := h (i + 1) (by simp; omega); exact this
    have : (prodF (m :: r)).length = (rng m.1 m.2).length * (prodF r).length := by
      show ((rng m.1 m.2).flatMap fun n => (prodF r).map (n :: ·)).length = _; rw [List.length_flatMap]; simp [List.map_const']
    rw [this, rng_len, List.length_cons, Nat.pow_succ, Nat.mul_comm (5 ^ r.length) 5]; exact Nat.mul_le_mul (by omega) ih'
theorem filter_take (f : List Int → Bool) (ls : List (List Int)) (k : Nat) (h : k < ls.length) : (ls.take (k + 1)).filter f = (ls.take k).filter f ++ (if f (gl ls k) = true then [gl ls k] else []) := by
  rw [take_gl ls k h, List.filter_append]
  cases hf : f (gl ls k) <;> simp [hf]

theorem down_ediv (n b : Int) (hb : 0 < b) : (if n.tdiv b * b > n then n.tdiv b - 1 else n.tdiv b) = n / b := by
  have e2 : (n / b) * b + n % b = n := by have := Int.emod_add_mul_ediv n b; rw [Int.mul_comm (n / b) b]; omega
  have h1 := Int.emod_nonneg n (show b ≠ 0 by omega); have h2 := Int.emod_lt_of_pos n hb
  rcases Int.le_total 0 n with h | h
  · rw [Int.tdiv_eq_ediv_of_nonneg h, if_neg (by omega)]
  · rw [Int.tdiv_eq_ediv]
    by_cases hd : 0 ≤ n ∨ b ∣ n
    · rw [if_pos hd, Int.add_zero, if_neg (by omega)]
    · rw [if_neg hd, Int.sign_eq_one_of_pos hb]
      have hne : n % b ≠ 0 := fun hc => hd (.inr (Int.dvd_of_emod_eq_zero hc))
      rw [if_pos (by rw [Int.add_mul, Int.one_mul]; omega)]; omega

end Go.Proofs.YtlednchfifphgabGreatDoor
end

section
namespace Go.Proofs.YtlednchfifphgabGreatDoor
open Go Go.ChangeShapes Go.WideShapes Go.ChangeAt Go.RowKit Go.Proofs
set_option linter.unusedVariables false
theorem tc_span : Tryz.prog.cellsOf 36 = 2 := by kernel_rfl
theorem tc_hand : Tryz.prog.cellsOf 29 = 4 := by kernel_rfl
section
variable {H : Type} {enc : TypeId × Value → H} {W : World}
set_option maxRecDepth 100000 in
theorem rd_spansT {fuel : Nat} {v : Value} {x : DataW H × List MemPlace} (h : DataW.trod enc Tryz.prog W 0 (fun _ => true) true fuel 27 [v] = some x) :
    ∃ p cap, ∃ xs : List (Int × Int), v = .slice p xs.length cap ∧ RdS W p xs ∧ xs.length ≤ maxLen := by
  rcases Deep.open_slice Tryz.underlying27 h with ⟨hcs, _⟩ | ⟨a, l, c, m, n, D, Pl, hcs, _, hl, hm, hmm, _, hx⟩
  · exact ⟨none, 0, [], by simpa using hcs, .inl rfl, by simp⟩
  · obtain rfl : v = .slice (some a) l c := by simpa using hcs
    simp only [if_true] at hmm; subst hmm; rw [tc_span] at hx
    have each : ∀ i, i < l → ∃ g : Int × Int, W.cell? (a.add (i * 2)) = some (.int .i64 g.1) ∧ W.cell? ((a.add (i * 2)).add 1) = some (.int .i64 g.2) := by
      intro i hi; obtain ⟨cs', h1, h2⟩ := hx i (by omega); obtain ⟨_, hlen, hcell⟩ := World.cells?_some h1; obtain ⟨y0, y1, k, _, _, t0, t1⟩ := trod_struct2 Tryz.underlying36 h2
      match cs', hlen with
      | [c0, c1], _ =>
        simp only [tc_int] at t0 t1; obtain ⟨x0, rfl, _⟩ := int_ofT (v := c0) t0; obtain ⟨x1, rfl, _⟩ := int_ofT (v := c1) t1; refine ⟨(x0, x1), ?_, ?_⟩
        · have := hcell 0 (by omega)
          simpa [Addr.add] using this
        · exact hcell 1 (by omega)
    obtain ⟨gs, h1, h2⟩ := list_of (0, 0) (fun i g => W.cell? (a.add (i * 2)) = some (.int .i64 g.1) ∧ W.cell? ((a.add (i * 2)).add 1) = some (.int .i64 g.2)) l each; refine ⟨some a, _, gs, by rw [h1], ?_, by omega⟩
    rcases Nat.eq_zero_or_pos l with h0 | h0
    · left; exact List.length_eq_zero_iff.1 (by omega)
    · obtain ⟨b, off, spot⟩ := a
      have hc := (h2 0 h0).1; have hspot : spot = none := by simpa [Addr.add] using World.cell?_spot hc
      subst hspot; refine .inr ⟨b, off, rfl, fun i hi => ?_⟩; have := h2 i (by omega); rw [add_plainT, add_plainT] at this; exact this
set_option maxRecDepth 100000 in
theorem op_hand {base : Nat} {v : Value} {d : DataW H} {ps : List MemPlace} (hv : Value.okWide Tryz.prog W .any base 29 v) (h : DataW.Trod enc Tryz.prog W 0 (fun _ => true) true 29 v d ps) :
    ∃ (g : Hd) (pe : Option Addr) (ce : Nat), v = hdV g pe ce ∧ RdS W pe g.er := by
  obtain ⟨v0, v1, v2, v3, y0, y1, y2, y3, n, rfl, _, _, h0, h1, h2, h3⟩ := Joins.open_agg4 Tryz.underlying29 (by kernel_rfl) tc_hand hv h; obtain ⟨a, rfl, _⟩ := int_ofT h0; obtain ⟨b, rfl, _⟩ := int_ofT h1; obtain ⟨c, rfl, _⟩ := int_ofT h2; obtain ⟨pe, ce, er, rfl, r3, _⟩ := rd_spansT h3; exact ⟨⟨a, b, c, er⟩, pe, ce, rfl, r3⟩
end
end Go.Proofs.YtlednchfifphgabGreatDoor
end

section
namespace Go.Proofs.YtlednchfifphgabGreatDoor
open Go Go.RowKit Go.Proofs
set_option linter.unusedVariables false
set_option linter.unusedSimpArgs false
attribute [local go_sem] imax2 imin2

set_option maxHeartbeats 1600000 in
set_option maxRecDepth 100000 in
theorem r_Hand (pm pv pr : Option Addr) (cm cv cr : Nat) (p : Pc) (h : Hd) (pe : Option Addr) (ce : Nat) (w : World) (hh : RdS w pe h.er) (hl : h.er.length ≤ 1000000) :
    Calls Tryz.prog 21 #[.agg #[.slice pm p.ms.length cm, .slice pv p.mv.length cv, .slice pr p.rs.length cr], hdV h pe ce] w fun e w' => e = .returned (.bool (handB p.ms.length h)) ∧ Below w.heap.size w w' := by
  unfold hdV; obtain ⟨w0, e0, HS0, k0, k1, k2, b0⟩ := box3 w (.slice pm p.ms.length cm) (.slice pv p.mv.length cv) (.slice pr p.rs.length cr) 26; obtain ⟨w1, e1, HS1, q0, q1, q2, q3, b1⟩ := box4 w0 (.int .i64 h.arb) (.int .i64 h.num) (.int .i64 h.den) (.slice pe h.er.length ce) 29; have HE := Lib.hid ((hh.below b0).below b1); have HB := Lib.hid (b0.trans (b1.mono b0.size)); have k0 := (b1.cell (lt_of_cellq k0)).trans k0; have HQ := Lib.hid (handB_parts p.ms.length h); have HKK := Lib.hid (And.intro k0 (And.intro q0 (And.intro q1 (And.intro q2 q3)))); clear b0 b1 hh k0 k1 k2 q0 q1 q2
  go_enter Tryz.func21, Tryz.ntmps21
  go_wp2; clear e0 e1 q3
  go_loopw [5] (fun i wr => ∃ k : Nat, k ≤ h.er.length ∧ i = .int .i64 k ∧ Hid (∀ j, j < k → errB (gm h.er j) = true) ∧ Hid (Below w1.heap.size w1 wr)) (fun i _ => h.er.length - (intOf i).toNat)
  case atStart => exact ⟨0, Nat.zero_le _, rfl, Lib.hid (fun j hj => by omega), Lib.hid (Below.refl _ _)⟩
  case round =>
    obtain ⟨k, hk, rfl, HK, HY⟩ := hrel; have HBB := Lib.hid (HB.out.trans (HY.out.mono HB.out.size)); have q3 := (HY.out.cell (lt_of_cellq HKK.out.2.2.2.2)).trans HKK.out.2.2.2.2
    by_cases hlt : k < h.er.length
    · have hki : (k : Int) < (h.er.length : Int) := by omega
      obtain ⟨b, off, rfl, hc⟩ := (HE.out.below HY.out).at hlt; obtain ⟨d0, d1⟩ := hc k hlt; have HBAD := Lib.hid (show errB (gm h.er k) = false → handB p.ms.length h = false from fun g => by rw [HQ.out, all_badP (0, 0) hlt (show errB (h.er.getD k (0, 0)) = false from g)]; simp); have HNX := Lib.hid (show errB (gm h.er k) = true → ∀ j, j < k + 1 → errB (gm h.er j) = true from upto_succ HK.out); obtain ⟨M, hM⟩ : ∃ M, gm h.er k = M := ⟨_, rfl⟩; rw [hM] at d0 d1 HBAD HNX; obtain ⟨lo, hi⟩ := M; obtain ⟨w4, e4, HS4, y0, y1, b4⟩ := box2 wr (.int .i64 lo) (.int .i64 hi) 36; have HB4 := Lib.hid (HBB.out.trans (b4.mono HBB.out.size)); have HY4 := Lib.hid (HY.out.trans (b4.mono HY.out.size)); clear hc hM b4
      by_cases g1 : lo < -30
      · have H := Lib.hid (HBAD.out (by unfold errB; simp; omega))
        go_wp2; go_ret; exact ⟨by rw [H.out]; rfl, HB4.out⟩
      by_cases g2 : lo > hi
      · have H := Lib.hid (HBAD.out (by unfold errB; simp; omega))
        go_wp2; go_ret; exact ⟨by rw [H.out]; rfl, HB4.out⟩
      by_cases g3 : hi > 30
      · have H := Lib.hid (HBAD.out (by unfold errB; simp; omega))
        go_wp2; go_ret; exact ⟨by rw [H.out]; rfl, HB4.out⟩
      · have H := Lib.hid (HNX.out (by unfold errB; simp; omega))
        go_wp2; go_roundw
        case rel => exact ⟨k + 1, by omega, by go_num, H, HY4⟩
        case measure => simp [intOf]; omega
    · obtain rfl : k = h.er.length := by omega
      have hki : ¬ (h.er.length : Int) < (h.er.length : Int) := by omega
      have HMS := Lib.hid (show h.er.all errB = true from (all_at (0, 0) h.er).2 HK.out); have k0 := (HY.out.cell (lt_of_cellq HKK.out.1)).trans HKK.out.1; have q0 := (HY.out.cell (lt_of_cellq HKK.out.2.1)).trans HKK.out.2.1; have q1 := (HY.out.cell (lt_of_cellq HKK.out.2.2.1)).trans HKK.out.2.2.1; have q2 := (HY.out.cell (lt_of_cellq HKK.out.2.2.2.1)).trans HKK.out.2.2.2.1; clear HK
      rcases h1 : inB h.arb 0 p.ms.length with _ | _
      · have H := Lib.hid (show handB p.ms.length h = false by rw [HQ.out]; simp [h1])
        go_wp2_with fail; refine (r_in _ _ _ _).mono ?_; rw [h1]; rintro e wn ⟨rfl, rfl⟩; go_wp2; go_ret; exact ⟨by rw [H.out]; rfl, HBB.out⟩
      rcases h2 : inB h.num 1 100 with _ | _
      · have H := Lib.hid (show handB p.ms.length h = false by rw [HQ.out]; simp [h1, h2])
        go_wp2_with fail; refine (r_in _ _ _ _).mono ?_; rw [h1]; rintro e wn ⟨rfl, rfl⟩; go_wp2_with fail; refine (r_in _ _ _ _).mono ?_; rw [h2]; rintro e wn ⟨rfl, rfl⟩; go_wp2; go_ret; exact ⟨by rw [H.out]; rfl, HBB.out⟩
      rcases h3 : inB h.den 1 100 with _ | _
      · have H := Lib.hid (show handB p.ms.length h = false by rw [HQ.out]; simp [h1, h2, h3])
        go_wp2_with fail; refine (r_in _ _ _ _).mono ?_; rw [h1]; rintro e wn ⟨rfl, rfl⟩; go_wp2_with fail; refine (r_in _ _ _ _).mono ?_; rw [h2]; rintro e wn ⟨rfl, rfl⟩; go_wp2_with fail; refine (r_in _ _ _ _).mono ?_; rw [h3]; rintro e wn ⟨rfl, rfl⟩; go_wp2; go_ret; exact ⟨by rw [H.out]; rfl, HBB.out⟩
      have H := Lib.hid (show handB p.ms.length h = inB (h.er.length : Int) 1 8 by rw [HQ.out, HMS.out, h1, h2, h3]; simp); go_wp2_with fail; refine (r_in _ _ _ _).mono ?_; rw [h1]; rintro e wn ⟨rfl, rfl⟩; go_wp2_with fail; refine (r_in _ _ _ _).mono ?_; rw [h2]; rintro e wn ⟨rfl, rfl⟩; go_wp2_with fail; refine (r_in _ _ _ _).mono ?_; rw [h3]; rintro e wn ⟨rfl, rfl⟩; go_wp2_with fail; refine (r_in _ _ _ _).mono ?_; rintro e wn ⟨rfl, rfl⟩; go_wp2; go_ret; exact ⟨by rw [H.out]; rfl, HBB.out⟩

set_option maxRecDepth 100000 in
theorem r_down (a b : Int) (w : World) (hb : 0 < b) (hb2 : b ≤ 100000) (ha : -1000000000 ≤ a ∧ a ≤ 1000000000) :
    Calls Tryz.prog 81 #[.int .i64 a, .int .i64 b] w fun e w' => e = .returned (.int .i64 (a / b)) ∧ w = w' := by
  obtain ⟨ha1, ha2⟩ := ha; have hb0 : ¬ b = 0 := by omega
  have HD := Lib.hid (down_ediv a b hb); have h2 := Int.tmod_lt_of_pos a hb; have h2b := Int.lt_tmod_of_pos a hb; have h5 := Int.mul_tdiv_add_tmod a b; have h6 : a.tdiv b * b = b * a.tdiv b := Int.mul_comm _ _
  have h3 : -1000000000 ≤ a.tdiv b ∧ a.tdiv b ≤ 1000000000 := by
    have h7 : (a.tdiv b).natAbs ≤ a.natAbs := by rw [Int.natAbs_tdiv]; exact Nat.div_le_self _ _
    omega
  obtain ⟨h31, h32⟩ := h3; obtain ⟨D, hD⟩ : ∃ D, a.tdiv b = D := ⟨_, rfl⟩; obtain ⟨E, hE⟩ : ∃ E, D * b = E := ⟨_, rfl⟩; rw [hD] at HD h5 h6 h31 h32; rw [hE] at HD h6; have w1 : IntKind.i64.wrap D = D := w64 _ (by omega) (by omega); have w2 : IntKind.i64.wrap E = E := w64 _ (by omega) (by omega); have w3 : IntKind.i64.wrap (D - 1) = D - 1 := w64 _ (by omega) (by omega); clear h5 h6 h31 h32 h2 h2b
  by_cases h : E > a
  · have H := Lib.hid (show a / b = D - 1 by rw [← HD.out, if_pos h])
    go_enter Tryz.func81, Tryz.ntmps81
    go_wp2; go_ret; exact ⟨by rw [H.out]; rfl, rfl⟩
  · have H := Lib.hid (show a / b = D by rw [← HD.out, if_neg h])
    go_enter Tryz.func81, Tryz.ntmps81
    go_wp2; go_ret; exact ⟨by rw [H.out]; rfl, rfl⟩
end Go.Proofs.YtlednchfifphgabGreatDoor
end

section
namespace Go.Proofs.YtlednchfifphgabGreatDoor
set_option linter.unusedVariables false

theorem gi_take (a : List Int) (k i : Nat) (h : i < k) : gi (a.take k) i = gi a i := by
  unfold gi; rw [List.getD_eq_getElem?_getD, List.getElem?_take, if_pos h, ← List.getD_eq_getElem?_getD]
end Go.Proofs.YtlednchfifphgabGreatDoor
end

section
namespace Go.Proofs.YtlednchfifphgabGreatDoor
open Go Go.RowKit
set_option linter.unusedVariables false
theorem wq_not {P : Program} {C : World → Prop} {ops : Array Oper} {Q : Act → Prop} {rest : List Oper} {a : Act} {d : Nat} {t ty : TypeId} {x : Operand} {pos : String} {af : Array Edge} {g : Option (Nat × Bool)} {b : Bool}
    (hw : Region.wanted ⟨some d, .unOp .not t x, ty, pos, af, g⟩ (yielded ops a.tmps) = true) (hx : a.eval x = .bool b)
    (hk : wpQuiet P ops C Q rest (a.put (some d) (.bool (!b)))) : wpQuiet P ops C Q (⟨some d, .unOp .not t x, ty, pos, af, g⟩ :: rest) a :=
  wq hw (q_val (o := ⟨some d, .unOp .not t x, ty, pos, af, g⟩) (.bool (!b)) (fun w _ => by unfold execOp; dsimp only; rw [hx]; simp [go_sem]) hk)
end Go.Proofs.YtlednchfifphgabGreatDoor
end

section
namespace Go.Proofs.YtlednchfifphgabGreatDoor
open Go Go.RowKit
set_option linter.unusedVariables false
section
variable {P : Program} {ops : Array Oper} {Q : Exit → Act → World → Prop} {id : Nat} {a : Act} {w : World}
theorem cl1 {a0 : Addr} {v0 : Value} (h0 : w.cell? a0 = some v0) : ∀ w', Below w.heap.size w w' → w'.cell? a0 = some v0 := fun w' hb => (hb.cell (lt_of_cellq h0)).trans h0
theorem held1 {a0 : Addr} {v0 : Value} (h0 : w.cell? a0 = some v0)
    (k : ∀ W0, Below w.heap.size w W0 → wpAnyH P .any ops Q (fun w' => w'.cell? a0 = some v0) ops.size (Array.replicate ops.size false) a W0)
    (hm : P.follows .mixedOrders = true := by kernel_rfl) : (Code.region id ops true).wp P Q a w :=
  wp_region_held_drew (S := fun w' => w'.cell? a0 = some v0) hm (cl1 h0 _ (Below.refl _ _).drew) (fun _ => k _ (Below.refl _ _).drew)
theorem cl2 {a0 a1 : Addr} {v0 v1 : Value} (h0 : w.cell? a0 = some v0) (h1 : w.cell? a1 = some v1) : ∀ w', Below w.heap.size w w' → w'.cell? a0 = some v0 ∧ w'.cell? a1 = some v1 := fun w' hb => ⟨(hb.cell (lt_of_cellq h0)).trans h0, (hb.cell (lt_of_cellq h1)).trans h1⟩
theorem held2 {a0 a1 : Addr} {v0 v1 : Value} (h0 : w.cell? a0 = some v0) (h1 : w.cell? a1 = some v1)
    (k : ∀ W0, Below w.heap.size w W0 → wpAnyH P .any ops Q (fun w' => w'.cell? a0 = some v0 ∧ w'.cell? a1 = some v1) ops.size (Array.replicate ops.size false) a W0)
    (hm : P.follows .mixedOrders = true := by kernel_rfl) : (Code.region id ops true).wp P Q a w :=
  wp_region_held_drew (S := fun w' => w'.cell? a0 = some v0 ∧ w'.cell? a1 = some v1) hm (cl2 h0 h1 _ (Below.refl _ _).drew) (fun _ => k _ (Below.refl _ _).drew)
theorem cl3 {a0 a1 a2 : Addr} {v0 v1 v2 : Value} (h0 : w.cell? a0 = some v0) (h1 : w.cell? a1 = some v1) (h2 : w.cell? a2 = some v2) : ∀ w', Below w.heap.size w w' → w'.cell? a0 = some v0 ∧ w'.cell? a1 = some v1 ∧ w'.cell? a2 = some v2 := fun w' hb => ⟨(hb.cell (lt_of_cellq h0)).trans h0, (hb.cell (lt_of_cellq h1)).trans h1, (hb.cell (lt_of_cellq h2)).trans h2⟩
theorem held3 {a0 a1 a2 : Addr} {v0 v1 v2 : Value} (h0 : w.cell? a0 = some v0) (h1 : w.cell? a1 = some v1) (h2 : w.cell? a2 = some v2)
    (k : ∀ W0, Below w.heap.size w W0 → wpAnyH P .any ops Q (fun w' => w'.cell? a0 = some v0 ∧ w'.cell? a1 = some v1 ∧ w'.cell? a2 = some v2) ops.size (Array.replicate ops.size false) a W0)
    (hm : P.follows .mixedOrders = true := by kernel_rfl) : (Code.region id ops true).wp P Q a w :=
  wp_region_held_drew (S := fun w' => w'.cell? a0 = some v0 ∧ w'.cell? a1 = some v1 ∧ w'.cell? a2 = some v2) hm (cl3 h0 h1 h2 _ (Below.refl _ _).drew) (fun _ => k _ (Below.refl _ _).drew)
theorem cl4 {a0 a1 a2 a3 : Addr} {v0 v1 v2 v3 : Value} (h0 : w.cell? a0 = some v0) (h1 : w.cell? a1 = some v1) (h2 : w.cell? a2 = some v2) (h3 : w.cell? a3 = some v3) : ∀ w', Below w.heap.size w w' → w'.cell? a0 = some v0 ∧ w'.cell? a1 = some v1 ∧ w'.cell? a2 = some v2 ∧ w'.cell? a3 = some v3 := fun w' hb => ⟨(hb.cell (lt_of_cellq h0)).trans h0, (hb.cell (lt_of_cellq h1)).trans h1, (hb.cell (lt_of_cellq h2)).trans h2, (hb.cell (lt_of_cellq h3)).trans h3⟩
theorem held4 {a0 a1 a2 a3 : Addr} {v0 v1 v2 v3 : Value} (h0 : w.cell? a0 = some v0) (h1 : w.cell? a1 = some v1) (h2 : w.cell? a2 = some v2) (h3 : w.cell? a3 = some v3)
    (k : ∀ W0, Below w.heap.size w W0 → wpAnyH P .any ops Q (fun w' => w'.cell? a0 = some v0 ∧ w'.cell? a1 = some v1 ∧ w'.cell? a2 = some v2 ∧ w'.cell? a3 = some v3) ops.size (Array.replicate ops.size false) a W0)
    (hm : P.follows .mixedOrders = true := by kernel_rfl) : (Code.region id ops true).wp P Q a w :=
  wp_region_held_drew (S := fun w' => w'.cell? a0 = some v0 ∧ w'.cell? a1 = some v1 ∧ w'.cell? a2 = some v2 ∧ w'.cell? a3 = some v3) hm (cl4 h0 h1 h2 h3 _ (Below.refl _ _).drew) (fun _ => k _ (Below.refl _ _).drew)
theorem tu {md : Region.Mode} {S : World → Prop} (i : Nat) {oi : Oper} {d : Nat} {fuel : Nat} {listed : Array Bool} {a : Act} {w : World} (hi : ops[i]? = some oi) (hS : S w)
    (h : wpAnyH P md ops Q S fuel (listed.setIfInBounds i true) { a with tmps := a.tmps.setIfInBounds d undef } w)
    (hs : Region.noSelect ops = true := by kernel_rfl) (hf : Region.free md ops listed i = true := by kernel_rfl) (hr : (Region.ready md ops listed).contains i = true := by kernel_rfl)
    (hd : oi.dst = some d := by rfl)
    (hQ : ∀ c a w, Q (.panic c) (a.put oi.dst undef) w → Q (.panic c) a w := by intro _ _ _ h; first | exact h | (exact absurd h.1 (by intro hh; cases hh)))
    (hw : Region.wanted oi (yielded ops a.tmps) = false := by kernel_rfl) : wpAnyH P md ops Q S (fuel + 1) listed a w :=
  wpAnyH_take hi hs hf hr hQ (Or.inr ⟨hw, rfl⟩) hS (by rw [hd]; exact h)
end
end Go.Proofs.YtlednchfifphgabGreatDoor
end

section
namespace Go.Proofs.YtlednchfifphgabGreatDoor
open Go Go.RowKit Go.Proofs
set_option linter.unusedVariables false
set_option linter.unusedSimpArgs false
attribute [local go_sem] imax2 imin2

theorem run_append_src {P : Program} (w : World) (base : Nat) (t ty e : TypeId) (i : TypeInfo) (z : Value) (size bytes : Nat) (ht : P.underlying t = some (.slice e)) (hi : P.info? e = some i) (hz : i.zero = some z)
    (hsize : i.size = size) (hby : i.bytes = bytes) (hzs : z.cells.size = size) (hsz : 0 < size)
    (v : Value) (n : Nat) (xs : List Value) (hown : w.ownsRow base e size v n xs)
    (po : Option Addr) (m c : Nat) (news : List Value) (hl : news.length = m * size) (hnews : m = 0 ∨ ∃ ad, po = some ad ∧ ∀ j u, news[j]? = some u → w.cell? (ad.add j) = some u) (h1 : ∀ u ∈ news, u.oneCell' = true)
    (h63 : n + m ≤ maxLen) (hbytes : (n + m) * bytes ≤ 140737488355328) (hbase : base ≤ w.heap.size) :
    ∃ v' w', (Builtin.append_ #[t, t] ty #[v, .slice po m c]).run P w = .ok v' w' ∧ w'.ownsRow base e size v' (n + m) (xs ++ news) ∧ w.grownBy w' v.ownBlock ∧ (v'.ownBlock = v.ownBlock ∨ v'.ownBlock = some w.heap.size) := by
  by_cases hm : m = 0
  · subst hm
    have hn : news = [] := List.length_eq_zero_iff.1 (by rw [hl, Nat.zero_mul]); subst hn
    have hs : Src P i.size t (.slice po 0 c) 0 [] w := by
      cases po with
      | none => exact Src.ofNil w ht c
      | some a => exact Src.ofSlice w ht a 0 c [] (by simp) (by intro j u hu; simp at hu) (by intro u hu; cases hu)
    rcases hown.2 with ⟨rfl, rfl⟩ | ⟨g, cap, cur, rfl, hb, hg, hnc, hrest⟩
    · exact ⟨_, w, run_append_nothing w t t ty e i ht hi none 0 0 (Nat.le_refl _) _ hs, by simpa using hown, World.grownBy.refl _ _, .inl rfl⟩
    · exact ⟨_, w, run_append_nothing w t t ty e i ht hi (some ⟨g, 0, none⟩) n cap hnc _ hs, by simpa using hown, World.grownBy.refl _ _, .inl rfl⟩
  · obtain ⟨ad, rfl, hc⟩ := hnews.resolve_left hm
    obtain ⟨v', w', hr, h2, h3, _, h5⟩ := run_append_own_at (P := P) w base t ty e i z size bytes ht hi hz hsize hby hzs hsz v n xs hown ad m c news hl hc h1 h63 hbytes hbase; exact ⟨v', w', hr, h2, h3, h5⟩
theorem step_append_src {P : Program} (w : World) {ops : Array Oper} {o : Oper} {a : Act} {K : Act → World → Prop} {Q : Exit → Act → World → Prop} {E : Prop} (hgd : o.guard = none) (s x : Operand) (t : TypeId)
    (ho : o.op = .call { callee := .builtin .append, args := #[s, x], argTypes := #[t, t] })
    (base : Nat) (e : TypeId) (i : TypeInfo) (z : Value) (size bytes : Nat) (ht : P.underlying t = some (.slice e)) (hi : P.info? e = some i) (hz : i.zero = some z)
    (hsize : i.size = size) (hby : i.bytes = bytes) (hzs : z.cells.size = size) (hsz : 0 < size)
    (v : Value) (n : Nat) (xs : List Value) (hs : a.eval s = v) (hown : w.ownsRow base e size v n xs)
    (po : Option Addr) (m c : Nat) (news : List Value) (hx : a.eval x = .slice po m c) (hl : news.length = m * size) (hnews : m = 0 ∨ ∃ ad, po = some ad ∧ ∀ j u, news[j]? = some u → w.cell? (ad.add j) = some u) (h1 : ∀ u ∈ news, u.oneCell' = true)
    (h63 : n + m ≤ maxLen) (hbytes : (n + m) * bytes ≤ 140737488355328) (hbase : base ≤ w.heap.size)
    (h : ∀ v' w', w'.ownsRow base e size v' (n + m) (xs ++ news) → w.grownBy w' v.ownBlock → (v'.ownBlock = v.ownBlock ∨ v'.ownBlock = some w.heap.size) → K (a.put o.dst v') w') :
    if Region.wanted o (yielded ops a.tmps) = true then Oper.wp P o a w K Q else E := by
  have hw : Region.wanted o (yielded ops a.tmps) = true := by simp [Region.wanted, hgd]
  rw [if_pos hw]; obtain ⟨v', w', hr, h2, h3, h5⟩ := run_append_src (P := P) w base t o.type e i z size bytes ht hi hz hsize hby hzs hsz v n xs hown po m c news hl hnews h1 h63 hbytes hbase; unfold Oper.wp execOp; simp only [ho, resolve, invoke, builtin, Sem.run_bind, Sem.run_pure, Result.andThen_ok, List.map_toArray, List.map_cons, List.map_nil, hs, hx, hr]; exact h v' w' h2 h3 h5
theorem wpList_append_src {P : Program} (w : World) {ops : Array Oper} {rest : List Oper} {o : Oper} {a : Act} {Q : Exit → Act → World → Prop} (hgd : o.guard = none) (s x : Operand) (t : TypeId)
    (ho : o.op = .call { callee := .builtin .append, args := #[s, x], argTypes := #[t, t] })
    (base : Nat) (e : TypeId) (i : TypeInfo) (z : Value) (size bytes : Nat) (ht : P.underlying t = some (.slice e)) (hi : P.info? e = some i) (hz : i.zero = some z)
    (hsize : i.size = size) (hby : i.bytes = bytes) (hzs : z.cells.size = size) (hsz : 0 < size)
    (v : Value) (n : Nat) (xs : List Value) (hs : a.eval s = v) (hown : w.ownsRow base e size v n xs)
    (po : Option Addr) (m c : Nat) (news : List Value) (hx : a.eval x = .slice po m c) (hl : news.length = m * size) (hnews : m = 0 ∨ ∃ ad, po = some ad ∧ ∀ j u, news[j]? = some u → w.cell? (ad.add j) = some u) (h1 : ∀ u ∈ news, u.oneCell' = true)
    (h63 : n + m ≤ maxLen) (hbytes : (n + m) * bytes ≤ 140737488355328) (hbase : base ≤ w.heap.size)
    (h : ∀ v' w', w'.ownsRow base e size v' (n + m) (xs ++ news) → w.grownBy w' v.ownBlock → (v'.ownBlock = v.ownBlock ∨ v'.ownBlock = some w.heap.size) → wpList P ops Q rest (a.put o.dst v') w') : wpList P ops Q (o :: rest) a w :=
  wpList_plain hgd fun K hK => by
    obtain ⟨v', w', hr, h2, h3, h5⟩ := run_append_src (P := P) w base t o.type e i z size bytes ht hi hz hsize hby hzs hsz v n xs hown po m c news hl hnews h1 h63 hbytes hbase; unfold Oper.wp execOp; simp only [ho, resolve, invoke, builtin, Sem.run_bind, Sem.run_pure, Result.andThen_ok, List.map_toArray, List.map_cons, List.map_nil, hs, hx, hr]; exact hK _ _ (h v' w' h2 h3 h5)

theorem append_keeps {P : Program} (w : World) (t ty e : TypeId) (i : TypeInfo) (z : Value) (base size bytes : Nat) (ht : P.underlying t = some (.slice e)) (hi : P.info? e = some i) (hz : i.zero = some z) (hsize : i.size = size) (hby : i.bytes = bytes)
    (g n cap : Nat) (xs : List Value) (hown : w.ownsRow base e size (.slice (some ⟨g, 0, none⟩) n cap) n xs)
    (ad : Addr) (m c : Nat) (news : List Value) (hl : news.length = m * size) (hnews : ∀ j u, news[j]? = some u → w.cell? (ad.add j) = some u) (h1 : ∀ u ∈ news, u.oneCell' = true)
    (h63 : n + m ≤ maxLen) (hbytes : (n + m) * bytes ≤ 140737488355328) {v' : Value} {w' : World}
    (hr : (Builtin.append_ #[t, t] ty #[.slice (some ⟨g, 0, none⟩) n cap, .slice (some ad) m c]).run P w = .ok v' w') : ∀ j u, xs[j]? = some u → w'.cell? ⟨g, j, none⟩ = some u := by
  subst hsize; subst hby
  have holds := hown.cells (g := g) rfl
  have hlt : g < w.heap.size := by
    obtain ⟨g', _, h, _, h2⟩ := (show ∃ g' cap', (Value.slice (some ⟨g, 0, none⟩) n cap) = .slice (some ⟨g', 0, none⟩) n cap' ∧ base ≤ g' ∧ g' < w.heap.size from by
      rcases hown.2 with ⟨h, _⟩ | ⟨g', cap', cur, h, hbg, hg, _⟩
      · cases h
      · refine ⟨g', cap', h, hbg, ?_⟩
        rcases Nat.lt_or_ge g' w.heap.size with h1 | h1
        · exact h1
        · rw [Array.getElem?_eq_none h1] at hg; cases hg)
    cases h; exact h2
  rcases hown.2 with ⟨h, _⟩ | ⟨g', cap', cur, h, hbg, hg, hnc, hcm, hcs, htake⟩
  · cases h
  · cases h
    by_cases hroom : n + m ≤ cap
    · have hfit : n * i.size + news.length ≤ cur.size := by rw [hl, hcs, ← Nat.add_mul]; exact Nat.mul_le_mul_right _ hroom
      rw [run_append_room (P := P) w t ty e i ht hi g n cap cur hg ad m c news hl hnews h1 hroom hfit] at hr
      cases hr
      intro j u hj; rw [cell_of_row _ g j _ e (0, 0) (setRow_heap w g cur _ e _ hg), htake]; have hj' : j < xs.length := (List.getElem?_eq_some_iff.1 hj).1; simp only [List.getElem?_toArray]; rw [List.append_assoc, List.getElem?_append_left hj']; exact hj
    · have hsmall : n + m ≤ 9223372036854775807 := by simp only [maxLen] at h63; omega
      rw [run_append_grow (P := P) w t ty e i z ht hi hz ⟨g, 0, none⟩ n cap xs hown.1 holds ad m c news hl hnews (by omega) (by omega) (growslice_fits (by omega) hbytes)] at hr
      cases hr
      intro j u hj; have h := holds j u hj; rw [add_new] at h; rw [World.cell?_alloc_lt _ _ _ (by simpa using hlt)]; exact h
theorem step_append_keep {P : Program} (w : World) {ops : Array Oper} {o : Oper} {a : Act} {K : Act → World → Prop} {Q : Exit → Act → World → Prop} {E : Prop} (hgd : o.guard = none) (s x : Operand) (t : TypeId)
    (ho : o.op = .call { callee := .builtin .append, args := #[s, x], argTypes := #[t, t] })
    (base : Nat) (e : TypeId) (i : TypeInfo) (z : Value) (size bytes : Nat) (ht : P.underlying t = some (.slice e)) (hi : P.info? e = some i) (hz : i.zero = some z)
    (hsize : i.size = size) (hby : i.bytes = bytes) (hzs : z.cells.size = size) (hsz : 0 < size)
    (g n cap : Nat) (xs : List Value) (hs : a.eval s = .slice (some ⟨g, 0, none⟩) n cap) (hown : w.ownsRow base e size (.slice (some ⟨g, 0, none⟩) n cap) n xs)
    (ad : Addr) (m c : Nat) (news : List Value) (hx : a.eval x = .slice (some ad) m c) (hl : news.length = m * size) (hnews : ∀ j u, news[j]? = some u → w.cell? (ad.add j) = some u) (h1 : ∀ u ∈ news, u.oneCell' = true)
    (h63 : n + m ≤ maxLen) (hbytes : (n + m) * bytes ≤ 140737488355328) (hbase : base ≤ w.heap.size)
    (h : ∀ v' w', w'.ownsRow base e size v' (n + m) (xs ++ news) → w.grownBy w' (some g) → (∀ j u, xs[j]? = some u → w'.cell? ⟨g, j, none⟩ = some u) → K (a.put o.dst v') w') :
    if Region.wanted o (yielded ops a.tmps) = true then Oper.wp P o a w K Q else E := by
  have hw : Region.wanted o (yielded ops a.tmps) = true := by simp [Region.wanted, hgd]
  rw [if_pos hw]; obtain ⟨v', w', hr, h2, h3, _, h5⟩ := run_append_own_at (P := P) w base t o.type e i z size bytes ht hi hz hsize hby hzs hsz _ n xs hown ad m c news hl hnews h1 h63 hbytes hbase; have hk := append_keeps w t o.type e i z base size bytes ht hi hz hsize hby g n cap xs hown ad m c news hl hnews h1 h63 hbytes hr; unfold Oper.wp execOp; simp only [ho, resolve, invoke, builtin, Sem.run_bind, Sem.run_pure, Result.andThen_ok, List.map_toArray, List.map_cons, List.map_nil, hs, hx, hr]; exact h v' w' h2 h3 hk

def IntsPost (xs : List Int) (w : World) (e : Ending) (w' : World) : Prop :=
  ∃ g cap, e = .returned (.slice (some ⟨g, 0, none⟩) xs.length cap) ∧ w'.ownsRow w.heap.size 3 1 (.slice (some ⟨g, 0, none⟩) xs.length cap) xs.length (inV xs) ∧ Below w.heap.size w w'
theorem mv_range {pl pc : List Int} (hp : PlOk pl) (hch : Chain pl pc) (hr : ∀ i, i < pc.length → -100000 ≤ gi pc i ∧ gi pc i ≤ 100000) {m : Int} (hm : -100000 ≤ m ∧ m ≤ 100000) : ∀ k, k ≤ pl.length → -300000 ≤ gi (mvF pl pc m) k ∧ gi (mvF pl pc m) k ≤ 300000 := by
  intro k hk; have hpos : Pos pl := fun i hi => (hp.in' i hi).1
  have h1 := (mvF_chain hpos hch m).top k hk; have h2 := (mvF_chain hpos hch m).low k hk; have h3 := hp.sum k hk; rw [mvF_zero] at h1 h2; have h4 := hr 0 (by rw [hch.len]; omega); omega
set_option maxHeartbeats 800000 in
set_option maxRecDepth 100000 in
theorem r_Moved (pp : Option Addr) (cp n : Nat) (pc : List Int) (q : Option Addr) (cq : Nat) (pl : List Int) (m : Int) (w : World) (hpc : RdI w pp pc) (hn : pc.length = n) (hq : RdI w q pl) (hp : PlOk pl) (hch : Chain pl pc) (hr : ∀ i, i < pc.length → -100000 ≤ gi pc i ∧ gi pc i ≤ 100000) (hm : -100000 ≤ m ∧ m ≤ 100000) :
    Calls Tryz.prog 126 #[.slice pp n cp, .slice q pl.length cq, .int .i64 m] w (IntsPost (mvF pl pc m) w) := by
  obtain ⟨i0, hi0, hz0, hz1, hz2⟩ := info_parts infI; have hpos : Pos pl := fun i hi => (hp.in' i hi).1
  have hlen := hch.len; obtain ⟨b, off, rfl, hc⟩ := hpc.at (i := 0) (by rw [hlen]; omega); have d0 := hc 0 (by rw [hlen]; omega); rw [Nat.add_zero] at d0; have h0 := hr 0 (by rw [hlen]; omega); have hz := mvF_zero pl pc m; have HM := Lib.hid (show (mvF pl pc m).length = pl.length + 1 from mvF_len pl pc m); have HST := Lib.hid (fun (k : Nat) (hk : k < pl.length) => (mvF_stepRef (m := m) hpos hch k hk)); have HRM := Lib.hid (mv_range hp hch hr hm); have HC := Lib.hid (show ∀ i, i < pl.length + 1 → w.cell? ⟨b, off + i, none⟩ = some (.int .i64 (gi pc i)) from fun i hi => hc i (by rw [hlen]; exact hi)); have HR := Lib.hid (show ∀ i, i < pl.length + 1 → -100000 ≤ gi pc i ∧ gi pc i ≤ 100000 from fun i hi => hr i (by rw [hlen]; exact hi)); have HP := Lib.hid hp; have HQ := Lib.hid hq; obtain rfl : n = pl.length + 1 := by rw [← hn, hlen]
  obtain ⟨M, hMe⟩ : ∃ M, mvF pl pc m = M := ⟨_, rfl⟩; rw [hMe] at HM HST HRM hz ⊢; obtain ⟨X0, hX0⟩ : ∃ x, gi pc 0 = x := ⟨_, rfl⟩; rw [hX0] at d0 h0 hz; have hw0 : IntKind.i64.wrap (X0 + m) = X0 + m := w64 _ (by omega) (by omega); have hrow := World.ownsRow_lit (base := w.heap.size) (e := 3) (size := 1) w #[.int .i64 (X0 + m)] 1 (Nat.le_refl _) (by unfold maxLen; omega) (by simp); obtain ⟨w2, e2, HS2, _, _, b2⟩ := box1 w (.int .i64 (X0 + m)) 3; rw [e2] at hrow
  have HO0 := Lib.hid (show w2.ownsRow w.heap.size 3 1 (.slice (some ⟨w.heap.size, 0, none⟩) 1 1) 1 (inV (M.take 1)) by
    have : M.take 1 = [X0 + m] := by
      rw [show (1 : Nat) = 0 + 1 by rfl, List.take_succ_eq_append_getElem (by rw [HM.out]; omega), ← gi_get M 0 (by rw [HM.out]; omega), hz]; rfl
    rw [this]; exact hrow)
  have HB2 := Lib.hid b2; have hlP := hp.len; clear hpc hq hp hc hr hn hch hpos hMe hX0 hrow b2 hz hlen
  go_enter Tryz.func126, Tryz.ntmps126
  go_wp2; clear e2
  go_loopw [7, 8] (fun v i wr => ∃ k : Nat, k ≤ pl.length ∧ i = .int .i64 k ∧ (∃ g cap, v = .slice (some ⟨g, 0, none⟩) (k + 1) cap ∧ Hid (wr.ownsRow w.heap.size 3 1 (.slice (some ⟨g, 0, none⟩) (k + 1) cap) (k + 1) (inV (M.take (k + 1))))) ∧ Hid (Below w.heap.size w wr)) (fun _ i _ => pl.length - (intOf i).toNat)
  case atStart => exact ⟨0, Nat.zero_le _, rfl, ⟨_, _, rfl, HO0⟩, HB2⟩
  case round =>
    obtain ⟨k, hk, rfl, ⟨g, cap, rfl, HO⟩, HN⟩ := hrel
    by_cases hlt : k < pl.length
    · have hki : (k : Int) < (pl.length : Int) := by omega
      obtain ⟨bq, oq, rfl, hcq⟩ := HQ.out.at hlt; have HQB := Lib.hid (show bq < w.heap.size from lt_of_cellq (hcq k hlt)); have HPB := Lib.hid (show b < w.heap.size from lt_of_cellq (HC.out (k + 1) (by omega))); have HGB := Lib.hid (show w.heap.size ≤ g from (HO.out.lt g rfl).1); have e1 := (HN.out.cell (lt_of_cellq (hcq k hlt))).trans (hcq k hlt)
      have e2 : wr.cell? ⟨g, k, none⟩ = some (.int .i64 (gi M k)) := by
        have h := own_cell HO.out (j := k) (by rw [List.length_take, HM.out]; omega); rw [gi_take _ _ _ (by omega)] at h; exact h
      have h0k : (0 : Int) ≤ (k : Int) := by omega
      have hkk : (k : Int) < (k : Int) + 1 := by omega
      have hkk1 : (0 : Int) ≤ (k : Int) + 1 := by omega
      have hkk2 : (k : Int) + 1 < (pl.length : Int) + 1 := by omega
      have e3 := (HN.out.cell (lt_of_cellq (HC.out (k + 1) (by omega)))).trans (HC.out (k + 1) (by omega)); have hst := HST.out k hlt; have hr1 := HRM.out k hk; have hr2 := HR.out (k + 1) (by omega); have hr3 := HP.out.in' k hlt
      have HT := Lib.hid (show inV (M.take (k + 1 + 1)) = inV (M.take (k + 1)) ++ [.int .i64 (gi M (k + 1))] by
        rw [List.take_succ_eq_append_getElem (by rw [HM.out]; omega), inV_append, gi_get M (k + 1) (by rw [HM.out]; omega)]; rfl)
      obtain ⟨A, hA⟩ : ∃ A, gi M k = A := ⟨_, rfl⟩; obtain ⟨X, hX⟩ : ∃ X, gi pc (k + 1) = X := ⟨_, rfl⟩; obtain ⟨Y, hY⟩ : ∃ Y, gi M (k + 1) = Y := ⟨_, rfl⟩; obtain ⟨P, hP⟩ : ∃ P, gi pl k = P := ⟨_, rfl⟩; have HMA := Lib.hid hA; rw [hA] at e2 hst hr1; rw [hX] at e3 hst hr2; rw [hY] at hst HT; rw [hP] at e1 hst hr3; have HSQ := Lib.hid hst; have hw1 : IntKind.i64.wrap (A - P) = A - P := w64 _ (by omega) (by omega); have hw2 : IntKind.i64.wrap ((k : Int) + 1) = (k : Int) + 1 := w64 _ (by omega) (by omega); have HKS := Lib.hid (show (k : Int) + 1 = ((k + 1 : Nat) : Int) by omega); clear hcq hA hX hY hP hst; go_wp2; have HSB := Lib.hid (cl3 e1 e2 e3); refine held3 e1 e2 e3 (fun W0 HB0 => ?_); refine tk 0 rfl (by exact HSB.out _ HB0) ?_; (try simp only [Act.put, ptL]); refine tk 1 rfl (by exact HSB.out _ HB0) ?_; (try simp only [Act.put, ptL]); refine tk 2 rfl (by exact HSB.out _ HB0) ?_; (try simp only [Act.put, ptL]); refine tk 3 rfl (by exact HSB.out _ HB0) ?_; (try simp only [Act.put, ptL]); refine tk 4 rfl (by exact HSB.out _ HB0) ?_; (try simp only [Act.put, ptL]); refine tk 5 rfl (by exact HSB.out _ HB0) ?_; (try simp only [Act.put, ptL]); refine tk 6 rfl (by exact HSB.out _ HB0) ?_; (try simp only [Act.put, ptL]); refine tk 7 rfl (by exact HSB.out _ HB0) ?_; (try simp only [Act.put, ptL]); refine tk 8 rfl (by exact HSB.out _ HB0) ?_; (try simp only [Act.put, ptL]); refine tk 9 rfl (by exact HSB.out _ HB0) ?_; (try simp only [Act.put, ptL]); refine tk 10 rfl (by exact HSB.out _ HB0) ?_; (try simp only [Act.put, ptL]); refine tk 11 rfl (by exact HSB.out _ HB0) ?_; (try simp only [Act.put, ptL]); refine tk 12 rfl (by exact HSB.out _ HB0) ?_; (try simp only [Act.put, ptL]); refine tk 13 rfl (by exact HSB.out _ HB0) ?_; (try simp only [Act.put, ptL]); refine tk 14 rfl (by exact HSB.out _ HB0) ?_; (try simp only [Act.put, ptL]); refine tk 15 rfl (by exact HSB.out _ HB0) ?_; (try simp only [Act.put, ptL]); refine tk 16 rfl (by exact HSB.out _ HB0) ?_; (try simp only [Act.put, ptL]); refine tk 17 rfl (by exact HSB.out _ HB0) ?_; (try simp only [Act.put, ptL]); refine tk 18 rfl (by exact HSB.out _ HB0) ?_; (try simp only [Act.put, ptL]); refine tk 19 rfl (by exact HSB.out _ HB0) ?_; (try simp only [Act.put, ptL]); refine tk 20 rfl (by exact HSB.out _ HB0) ?_; (try simp only [Act.put, ptL])
      refine rz1 21 rfl ?_; intro K hK; go_simp; refine kz hK (by exact HSB.out _ (HB0.alloc HB0.size _)) ?_; clear hK K; (try simp only [Act.put, ptL]); have hO1 := (own_kept HO.out HB0).alloc (.cells #[.int .i64 (min A (max (A - P) X))] 3); have hB1 := HB0.alloc HB0.size (.cells #[.int .i64 (min A (max (A - P) X))] 3); refine rz1 22 rfl ?_; intro K hK; refine step_append_keep _ rfl _ _ 23 rfl w.heap.size 3 i0 _ 1 8 Tryz.underlying23 hi0 hz0 hz1 hz2 rfl (by decide) g (k + 1) cap _ rfl hO1 ⟨W0.heap.size, 0, none⟩ 1 1 [.int .i64 (min A (max (A - P) X))] rfl rfl (news_of W0 _ _) (by intro u hu; simp at hu; subst hu; rfl) (by unfold maxLen; omega) (by omega) (by have := HN.out.size; have := hB1.size; omega) ?_; intro v' w3 hown' hgrow hkeep; have hB3 := (HN.out.trans (hB1.mono HN.out.size)).grown hgrow (by have := HN.out.size; have := hB1.size; omega) (fun j hj => (hO1.lt j hj).1); have f2 := hkeep k (.int .i64 A) (by rw [inV_get _ _ (by rw [List.length_take, HM.out]; omega), gi_take _ _ _ (by omega), HMA.out])
      have f1 := (hgrow.cell_far ⟨bq, oq + k, none⟩ (lt_of_cellq ((hB1.cell (lt_of_cellq e1)).trans e1)) (by have := HQB.out; have := HGB.out; simp; omega)).trans ((hB1.cell (lt_of_cellq e1)).trans e1); have f3 := (hgrow.cell_far ⟨b, off + (k + 1), none⟩ (lt_of_cellq ((hB1.cell (lt_of_cellq e3)).trans e3)) (by have := HPB.out; have := HGB.out; simp; omega)).trans ((hB1.cell (lt_of_cellq e3)).trans e3); refine kz hK (by exact ⟨f1, f2, f3⟩) ?_; clear hK K; (try simp only [Act.put, ptL]); obtain ⟨g', cap', rfl⟩ := own_form hown'; refine tk 23 rfl (by exact ⟨f1, f2, f3⟩) ?_; (try simp only [Act.put, ptL]); refine wpAnyH_done (by kernel_rfl) ?_ _; have HO' := Lib.hid hown'; have HN' := Lib.hid hB3; clear hown' hgrow hkeep f1 f2 f3 hO1 hB1 hB3 HB0 HSB e1 e2 e3; go_wp2; go_roundw
      case rel =>
        refine ⟨k + 1, by omega, by go_num, ⟨g', cap', rfl, Lib.hid ?_⟩, HN'⟩; rw [HT.out, HSQ.out]; exact HO'.out
      case measure => simp [intOf]; omega
    · obtain rfl : k = pl.length := by omega
      have hki : ¬ (pl.length : Int) < (pl.length : Int) := by omega
      go_wp2; go_ret; refine ⟨g, cap, by rw [HM.out]; rfl, ?_, HN.out⟩; have h := HO.out; rw [List.take_of_length_le (by rw [HM.out]; exact Nat.le_refl _)] at h; rw [HM.out]; exact h
def ElV (w : World) (B : Nat) (css : List (List Int)) (hs : List Value) : Prop := hs.length = css.length ∧ ∀ i, i < css.length → ∃ v, hs[i]? = some v ∧ w.ownsRow B 3 1 v (gl css i).length (inV (gl css i))
theorem ElV.below {w w' : World} {B : Nat} {css : List (List Int)} {hs : List Value} (h : ElV w B css hs) (hb : Below w.heap.size w w') : ElV w' B css hs := by
  refine ⟨h.1, fun i hi => ?_⟩; obtain ⟨v, e1, e2⟩ := h.2 i hi; exact ⟨v, e1, own_kept e2 hb⟩
theorem ElV.mono {w : World} {B B' : Nat} {css : List (List Int)} {hs : List Value} (h : ElV w B css hs) (hB : B' ≤ B) : ElV w B' css hs := by
  refine ⟨h.1, fun i hi => ?_⟩; obtain ⟨v, e1, e2⟩ := h.2 i hi; exact ⟨v, e1, own_mono e2 hB⟩
theorem ElV.grown {w w' : World} {B B' n size e : Nat} {css : List (List Int)} {hs xs : List Value} {v : Value} (h : ElV w B css hs) (ho : w.ownsRow B' e size v n xs) (he : e ≠ 3) (hg : w.grownBy w' v.ownBlock) : ElV w' B css hs := by
  refine ⟨h.1, fun i hi => ?_⟩; obtain ⟨u, e1, e2⟩ := h.2 i hi; exact ⟨u, e1, e2.kept hg (own_apart e2 ho (Ne.symm he))⟩
theorem ElV.snoc {w : World} {B : Nat} {css : List (List Int)} {hs : List Value} {x : List Int} {v : Value} (h : ElV w B css hs) (hx : w.ownsRow B 3 1 v x.length (inV x)) : ElV w B (css ++ [x]) (hs ++ [v]) := by
  refine ⟨by simp [h.1], fun i hi => ?_⟩; rw [List.length_append, List.length_singleton] at hi; rw [gl_snoc]
  by_cases h1 : i < css.length
  · obtain ⟨u, e1, e2⟩ := h.2 i h1
    rw [if_pos h1]; exact ⟨u, by rw [List.getElem?_append_left (by rw [h.1]; omega)]; exact e1, e2⟩
  · obtain rfl : i = css.length := by omega
    rw [if_neg h1, if_pos rfl]; exact ⟨v, by rw [← h.1]; simp, hx⟩
def OwLs (w : World) (B : Nat) (v : Value) (ls : List (List Int)) : Prop := ∃ hs, w.ownsRow B 23 1 v ls.length hs ∧ ElV w B ls hs
theorem OwLs.nil (w : World) (B : Nat) : OwLs w B (.slice none 0 0) [] := ⟨[], World.ownsRow_nil _ _ _ _, rfl, fun i hi => by simp at hi⟩
theorem OwLs.below {w w' : World} {B : Nat} {v : Value} {ls : List (List Int)} (h : OwLs w B v ls) (hb : Below w.heap.size w w') : OwLs w' B v ls := by
  obtain ⟨hs, h1, h2⟩ := h; exact ⟨hs, own_kept h1 hb, h2.below hb⟩
theorem OwLs.mono {w : World} {B B' : Nat} {v : Value} {ls : List (List Int)} (h : OwLs w B v ls) (hB : B' ≤ B) : OwLs w B' v ls := by
  obtain ⟨hs, h1, h2⟩ := h; exact ⟨hs, own_mono h1 hB, h2.mono hB⟩
theorem OwLs.read {w : World} {B : Nat} {v : Value} {ls : List (List Int)} (h : OwLs w B v ls) : ∃ q c, v = .slice q ls.length c ∧ RdLs w q ls := by
  obtain ⟨hs, h1, h2⟩ := h
  rcases h1.2 with ⟨rfl, h0⟩ | ⟨g, cap, cur, rfl, hrest⟩
  · have : ls = [] := List.length_eq_zero_iff.1 h0
    subst this; exact ⟨none, 0, rfl, .inl rfl⟩
  · refine ⟨some ⟨g, 0, none⟩, cap, rfl, .inr ⟨g, 0, rfl, fun i hi => ?_⟩⟩
    obtain ⟨u, e1, e2⟩ := h2.2 i hi; obtain ⟨q, c, hu, hr⟩ := rd_of_own e2; subst hu; have h3 := h1.cells (g := g) rfl i _ e1; rw [add_new] at h3; exact ⟨q, c, by rw [Nat.zero_add]; exact h3, hr⟩
def LsPost (ls : List (List Int)) (w : World) (e : Ending) (w' : World) : Prop := (∃ v, e = .returned v ∧ OwLs w' w.heap.size v ls) ∧ Below w.heap.size w w'
theorem OwLs.app {w w' : World} {B : Nat} {v v' u : Value} {ls : List (List Int)} {x : List Int} {hs : List Value} (h1 : w.ownsRow B 23 1 v ls.length hs) (h2 : ElV w B ls hs) (hu : w.ownsRow B 3 1 u x.length (inV x)) (hg : w.grownBy w' v.ownBlock) (ho : w'.ownsRow B 23 1 v' (ls.length + 1) (hs ++ [u])) : OwLs w' B v' (ls ++ [x]) := by
  refine ⟨hs ++ [u], by rw [List.length_append]; exact ho, ?_⟩; exact (h2.grown h1 (by decide) hg).snoc (hu.kept hg (own_apart hu h1 (by decide)))
end Go.Proofs.YtlednchfifphgabGreatDoor
end

section
namespace Go.Proofs.YtlednchfifphgabGreatDoor
open Go Go.RowKit Go.Proofs
set_option linter.unusedVariables false
set_option linter.unusedSimpArgs false
attribute [local go_sem] imax2 imin2

set_option maxHeartbeats 1600000 in
set_option maxRecDepth 100000 in
theorem r_Run (pm pv pr : Option Addr) (cm cv cr : Nat) (p : Pc) (q : Option Addr) (cq : Nat) (pl : List Int) (w : World) (hp : RdP w pm pv pr p) (hq : RdI w q pl) (hpo : PieceOk p) (hpl : PlaysOk p pl) :
    Calls Tryz.prog 80 #[.agg #[.slice pm p.ms.length cm, .slice pv p.mv.length cv, .slice pr p.rs.length cr], .slice q pl.length cq] w (LsPost (allF pl p.mv p.mv.length) w) := by
  obtain ⟨i0, hi0, hz0, hz1, hz2⟩ := info_parts infI; obtain ⟨j0, hj0, hy0, hy1, hy2⟩ := info_parts infL; obtain ⟨w1, e1, HS1, k0, k1, k2, b1⟩ := box3 w (.slice pm p.ms.length cm) (.slice pv p.mv.length cv) (.slice pr p.rs.length cr) 26; have hpk := hpl.plok hpo
  have hrow : (w1.alloc (.cells #[.int .i64 0] 3)).ownsRow w1.heap.size 3 1 (.slice (some ⟨w1.heap.size, 0, none⟩) 1 1) 1 (inV (begTo pl 0)) := by
    rw [begTo_zero]; exact World.ownsRow_lit w1 #[.int .i64 0] 1 (Nat.le_refl _) (by unfold maxLen; omega) (by simp)
  obtain ⟨w2, e2, HS2, _, _, b2⟩ := box1 w1 (.int .i64 0) 3; rw [e2] at hrow; have HO0 := Lib.hid hrow; have HB2 := Lib.hid b2; have HB1 := Lib.hid b1; have HV := Lib.hid (hp.mv.below b1); have HQ := Lib.hid (hq.below b1); have HP := Lib.hid hpk; have HPO := Lib.hid hpo; have HPL := Lib.hid hpl; have K1 := Lib.hid k1; have hl := hpk.len; clear hp hq hpo hpl hpk hrow b1 b2 k0 k1 k2
  go_enter Tryz.func80, Tryz.ntmps80
  go_wp2; clear e1 e2
  go_loopw [5, 6] (fun v i wr => ∃ k : Nat, k ≤ pl.length ∧ i = .int .i64 k ∧ (∃ g cap, v = .slice (some ⟨g, 0, none⟩) (k + 1) cap ∧ Hid (wr.ownsRow w1.heap.size 3 1 (.slice (some ⟨g, 0, none⟩) (k + 1) cap) (k + 1) (inV (begTo pl k)))) ∧ Below w1.heap.size w1 wr) (fun _ i _ => pl.length - (intOf i).toNat)
  case atStart => exact ⟨0, by omega, rfl, ⟨w1.heap.size, 1, rfl, HO0⟩, HB2.out⟩
  case round =>
    obtain ⟨k, hk, rfl, ⟨g, cap, rfl, HO⟩, hnx⟩ := hrel; have HN := Lib.hid hnx
    by_cases hlt : k < pl.length
    · have hki : (k : Int) < (pl.length : Int) := by omega
      have h0k : (0 : Int) ≤ (k : Int) := by omega
      have hkk : (k : Int) < (k : Int) + 1 := by omega
      obtain ⟨b, off, rfl, hc⟩ := HQ.out.at hlt; have HQB := Lib.hid (show b < w1.heap.size from lt_of_cellq (hc k hlt)); have HGB := Lib.hid (show w1.heap.size ≤ g from (HO.out.lt g rfl).1); have e1 := (HN.out.cell (lt_of_cellq (hc k hlt))).trans (hc k hlt); have e2 := own_cell HO.out (j := k) (by rw [begTo_len]; omega); have hsk := HP.out.sum k (by omega); have hsp := HP.out.in' k hlt; have HE := Lib.hid (begTo_at pl k k (Nat.le_refl _)); have hw : IntKind.i64.wrap (gi (begTo pl k) k - gi pl k) = gi (begTo pl k) k - gi pl k := by rw [HE.out]; exact w64 _ (by omega) (by omega)
      have HT := Lib.hid (begTo_succ pl k); have HBL := Lib.hid (begTo_len pl k); obtain ⟨A, hA⟩ : ∃ A, gi (begTo pl k) k = A := ⟨_, rfl⟩; obtain ⟨P, hP⟩ : ∃ P, gi pl k = P := ⟨_, rfl⟩; have HMA := Lib.hid hA; rw [hA] at e2 hw HT; rw [hP] at e1 hw HT; clear hc hnx hsk hsp hA hP HE; go_wp2; have HSB := Lib.hid (cl2 e1 e2); refine held2 e1 e2 (fun W0 HB0 => ?_); refine tk 0 rfl (by exact HSB.out _ HB0) ?_; (try simp only [Act.put, ptL]); refine tk 1 rfl (by exact HSB.out _ HB0) ?_; (try simp only [Act.put, ptL]); refine tk 2 rfl (by exact HSB.out _ HB0) ?_; (try simp only [Act.put, ptL]); refine tk 3 rfl (by exact HSB.out _ HB0) ?_; (try simp only [Act.put, ptL]); refine tk 4 rfl (by exact HSB.out _ HB0) ?_; (try simp only [Act.put, ptL]); refine tk 5 rfl (by exact HSB.out _ HB0) ?_; (try simp only [Act.put, ptL]); refine tk 6 rfl (by exact HSB.out _ HB0) ?_; (try simp only [Act.put, ptL]); refine tk 7 rfl (by exact HSB.out _ HB0) ?_; (try simp only [Act.put, ptL]); refine tk 8 rfl (by exact HSB.out _ HB0) ?_; (try simp only [Act.put, ptL]); refine tk 9 rfl (by exact HSB.out _ HB0) ?_; (try simp only [Act.put, ptL])
      refine rz1 10 rfl ?_; intro K hK; go_simp; refine kz hK (by exact HSB.out _ (HB0.alloc HB0.size _)) ?_; clear hK K; (try simp only [Act.put, ptL]); have hO1 := (own_kept HO.out HB0).alloc (.cells #[.int .i64 (A - P)] 3); have hB1 := HB0.alloc HB0.size (.cells #[.int .i64 (A - P)] 3); refine rz1 11 rfl ?_; intro K hK; refine step_append_keep _ rfl _ _ 23 rfl w1.heap.size 3 i0 _ 1 8 Tryz.underlying23 hi0 hz0 hz1 hz2 rfl (by decide) g (k + 1) cap _ rfl hO1 ⟨W0.heap.size, 0, none⟩ 1 1 [.int .i64 (A - P)] rfl rfl (news_of W0 _ _) (by intro u hu; simp at hu; subst hu; rfl) (by unfold maxLen; omega) (by omega) (by have := HN.out.size; have := hB1.size; omega) ?_; intro v' w3 hown' hgrow hkeep; have hB3 := (HN.out.trans (hB1.mono HN.out.size)).grown hgrow (by have := HN.out.size; have := hB1.size; omega) (fun j hj => (hO1.lt j hj).1); have f2 := hkeep k (.int .i64 A) (by rw [inV_get _ _ (by rw [HBL.out]; omega), HMA.out])
      have f1 := (hgrow.cell_far ⟨b, off + k, none⟩ (lt_of_cellq ((hB1.cell (lt_of_cellq e1)).trans e1)) (by have := HQB.out; have := HGB.out; simp; omega)).trans ((hB1.cell (lt_of_cellq e1)).trans e1); refine kz hK (by exact ⟨f1, f2⟩) ?_; clear hK K; (try simp only [Act.put, ptL]); obtain ⟨g', cap', rfl⟩ := own_form hown'; refine tk 12 rfl (by exact ⟨f1, f2⟩) ?_; (try simp only [Act.put, ptL]); refine wpAnyH_done (by kernel_rfl) ?_ _; have HO' := Lib.hid hown'; have HN' := Lib.hid hB3; clear hown' hgrow hkeep f1 f2 hO1 hB1 hB3 HB0 HSB e1 e2; go_wp2; go_roundw
      case rel =>
        refine ⟨k + 1, by omega, by go_num, ⟨g', cap', rfl, Lib.hid ?_⟩, HN'.out⟩; rw [HT.out, inV_append]; exact HO'.out
      case measure => simp [intOf]; omega
    · obtain rfl : k = pl.length := by omega
      obtain ⟨wn, rfl⟩ : ∃ wn : World, wn = wr := ⟨_, rfl⟩; obtain ⟨w3, e3, HS3, _, _, b3⟩ := box1 wn (.slice (some ⟨g, 0, none⟩) (pl.length + 1) cap) 23; have hrow3 := World.ownsRow_lit (base := w1.heap.size) (e := 23) (size := 1) wn #[.slice (some ⟨g, 0, none⟩) (pl.length + 1) cap] 1 hnx.size (by unfold maxLen; omega) (by simp); rw [e3] at hrow3; have ho3 := own_kept HO.out b3; rw [begTo_all] at ho3; have HOW := Lib.hid (show w3.ownsRow w1.heap.size 23 1 (.slice (some ⟨wn.heap.size, 0, none⟩) (0 + 1) 1) (0 + 1) [.slice (some ⟨g, 0, none⟩) (pl.length + 1) cap] from hrow3)
      have HEL := Lib.hid (show ElC w3 w1.heap.size (allF pl p.mv 0) [.slice (some ⟨g, 0, none⟩) (pl.length + 1) cap] by
        rw [allF_zero]; refine ⟨rfl, fun i hi => ?_⟩; obtain rfl : i = 0 := by simp at hi; exact hi
        have e : (gl [begF pl] 0).length = pl.length + 1 := begF_len pl; rw [e]; exact ⟨g, cap, rfl, ho3⟩)
      have HR0 := Lib.hid (show RdI w3 (some ⟨g, 0, none⟩) (runF pl p.mv 0) from rd_of_own0 ho3); have HB3 := Lib.hid (show Below w1.heap.size w1 w3 from hnx.trans (b3.mono hnx.size)); clear hnx hlt b3 hrow3 ho3 HO HO0; go_wp2; clear e3
      go_loopw [5, 7, 8] (fun v o i wr => ∃ (k g1 c1 g cap : Nat) (hs : List Value), k ≤ p.mv.length ∧ i = .int .i64 k ∧ v = .slice (some ⟨g1, 0, none⟩) (pl.length + 1) c1 ∧ Hid (RdI wr (some ⟨g1, 0, none⟩) (runF pl p.mv k)) ∧ o = .slice (some ⟨g, 0, none⟩) (k + 1) cap ∧ Hid (wr.ownsRow w1.heap.size 23 1 (.slice (some ⟨g, 0, none⟩) (k + 1) cap) (k + 1) hs) ∧ Hid (ElC wr w1.heap.size (allF pl p.mv k) hs) ∧ Hid (Below w1.heap.size w1 wr)) (fun _ _ i _ => p.mv.length - (intOf i).toNat)
      case atStart => exact ⟨0, g, cap, wn.heap.size, 1, [.slice (some ⟨g, 0, none⟩) (pl.length + 1) cap], by omega, rfl, rfl, HR0, rfl, HOW, HEL, HB3⟩
      case round =>
        obtain ⟨k, g1, c1, g, cap, hs, hk, rfl, rfl, HRN, rfl, HO, HE, HN⟩ := hrel; have k1 := (HN.out.cell (lt_of_cellq K1.out)).trans K1.out
        by_cases hlt : k < p.mv.length
        · have hki : (k : Int) < (p.mv.length : Int) := by omega
          obtain ⟨b, off, rfl, hc⟩ := (HV.out.below HN.out).at hlt; have e1 := hc k hlt; have hm := HPO.out.move k hlt; have hch := runF_chain HPL.out.pos p.mv k
          have HCL := Lib.hid (r_Moved (some ⟨g1, 0, none⟩) c1 (pl.length + 1) (runF pl p.mv k) q cq pl (gi p.mv k) wr HRN.out hch.len (HQ.out.below HN.out) HP.out hch (fun i hi => by
            have := place_range HPO.out HPL.out k i (by omega) (by have := hch.len; omega); omega) (by omega))
          have hm8 := (piece_len HPO.out).2.1; clear hc hm hch; go_wp2_with fail; refine HCL.out.mono ?_; rintro e w4 ⟨g2, c2, he, ho4, b4⟩; rw [mvF_len] at he ho4; subst he; have HO4 := Lib.hid (own_kept HO.out b4); have HE4 := Lib.hid (HE.out.below b4); have HX4 := Lib.hid (own_mono ho4 HN.out.size); have HN4 := Lib.hid (HN.out.trans (b4.mono HN.out.size)); clear ho4 b4; go_wp2_with (at_builtin; refine wpList_append_own _ rfl _ _ 43 rfl w1.heap.size 23 j0 _ 1 24 Tryz.underlying43 hj0 hy0 hy1 hy2 rfl (by decide) _ _ _ rfl (HO4.out.alloc _) ⟨w4.heap.size, 0, none⟩ 1 1 [.slice (some ⟨g2, 0, none⟩) (pl.length + 1) c2] rfl rfl ?c1 ?c2 ?c3 ?c4 ?c5 ?_)
          case c1 => exact news_of _ _ _
          case c2 => intro u hu; simp at hu; subst hu; rfl
          case c3 => unfold maxLen; omega
          case c4 => omega
          case c5 => have := HN4.out.size; simp; omega
          intro v' w7 hown' hgrow _; obtain ⟨g', cap', rfl⟩ := own_form hown'; have HO7 := Lib.hid hown'; have HN7 := Lib.hid ((HN4.out.alloc HN4.out.size _).grown hgrow (by have := HN4.out.size; simp; omega) (fun j hj => (HO4.out.lt j hj).1)); have h3 := own_kept HX4.out (below_alloc1 w4 (.cells #[.slice (some ⟨g2, 0, none⟩) (pl.length + 1) c2] 23)); have h2 := h3.kept hgrow (own_apart h3 (HO4.out.alloc _) (by decide)); have HR7 := Lib.hid (show RdI w7 (some ⟨g2, 0, none⟩) (runF pl p.mv (k + 1)) from rd_of_own0 h2)
          have HE7 := Lib.hid (show ElC w7 w1.heap.size (allF pl p.mv (k + 1)) (hs ++ [.slice (some ⟨g2, 0, none⟩) (pl.length + 1) c2]) by
            have h1 := (HE4.out.below (below_alloc1 w4 (.cells #[.slice (some ⟨g2, 0, none⟩) (pl.length + 1) c2] 23))).grown (HO4.out.alloc _) (by decide) hgrow; have hl : (runF pl p.mv (k + 1)).length = pl.length + 1 := mvF_len _ _ _; rw [allF_succ, ← hl]; refine h1.snoc ?_; rw [hl]; exact h2)
          clear hown' hgrow h2 h3; go_wp2; go_roundw
          case rel => exact ⟨k + 1, g2, c2, g', cap', _, by omega, by go_num, rfl, HR7, rfl, HO7, HE7, HN7⟩
          case measure => simp [intOf]; omega
        · obtain rfl : k = p.mv.length := by omega
          have hki : ¬ (p.mv.length : Int) < (p.mv.length : Int) := by omega
          go_wp2; go_ret; refine ⟨⟨_, rfl, hs, ?_, ?_⟩, HB1.out.trans (HN.out.mono HB1.out.size)⟩
          · rw [allF_len]; exact own_mono HO.out HB1.out.size
          · refine ⟨HE.out.1, fun i hi => ?_⟩
            obtain ⟨u, c, h1, h2⟩ := HE.out.2 i hi; exact ⟨_, h1, own_mono h2 HB1.out.size⟩
end Go.Proofs.YtlednchfifphgabGreatDoor
end

section
namespace Go.Proofs.YtlednchfifphgabGreatDoor
open Go Go.RowKit Go.Proofs
set_option linter.unusedVariables false
set_option linter.unusedSimpArgs false
attribute [local go_sem] imax2 imin2

theorem fits_no {p : Pc} {pl : List Int} (h : withinB p pl = false) : fitsB p pl = false := by unfold fitsB; rw [h]; rfl
set_option maxHeartbeats 1600000 in
set_option maxRecDepth 100000 in
theorem r_Fits (pm pv pr : Option Addr) (cm cv cr : Nat) (p : Pc) (q : Option Addr) (cq : Nat) (pl : List Int) (w : World) (hp : RdP w pm pv pr p) (hq : RdI w q pl) (hpo : PieceOk p) (hpl : PlaysOk p pl) :
    Calls Tryz.prog 28 #[.agg #[.slice pm p.ms.length cm, .slice pv p.mv.length cv, .slice pr p.rs.length cr], .slice q pl.length cq] w fun e w' => e = .returned (.bool (fitsB p pl)) ∧ Below w.heap.size w w' := by
  obtain ⟨w1, e1, HS1, k0, k1, k2, b1⟩ := box3 w (.slice pm p.ms.length cm) (.slice pv p.mv.length cv) (.slice pr p.rs.length cr) 26; have HP := Lib.hid (hp.below b1); have HQ := Lib.hid (hq.below b1); have HB := Lib.hid b1; have HPO := Lib.hid hpo; have HPL := Lib.hid hpl; have HLN := Lib.hid (piece_len hpo); have HPN := Lib.hid hpl.len; have hrl6 : p.rs.length ≤ 1000 := by have := (piece_len hpo).2.2; omega
  clear hp hq b1 hpo hpl
  go_enter Tryz.func28, Tryz.ntmps28
  go_wp2_with fail; refine (r_Within pm pv pr cm cv cr p q cq pl _ HP.out.ms HQ.out (by rw [HPN.out]; exact Nat.le_refl _) (by have := HLN.out.1; omega)).mono ?_; clear e1
  rcases hw : withinB p pl with _ | _
  · have H := Lib.hid (fits_no hw)
    clear hw; rintro e wn ⟨rfl, bq⟩; have HBB := Lib.hid (HB.out.trans (bq.mono HB.out.size)); clear bq; go_wp2; go_ret; exact ⟨by rw [H.out]; rfl, HBB.out⟩
  have HW := Lib.hid hw; clear hw; rintro e wn ⟨rfl, bq⟩; replace HB := Lib.hid (HB.out.trans (bq.mono HB.out.size)); replace HP := Lib.hid (HP.out.below bq); replace HQ := Lib.hid (HQ.out.below bq); have k0 := (bq.cell (lt_of_cellq k0)).trans k0; have k1 := (bq.cell (lt_of_cellq k1)).trans k1; have k2 := (bq.cell (lt_of_cellq k2)).trans k2; clear bq; go_wp2_with fail; refine (r_Run pm pv pr cm cv cr p q cq pl _ HP.out HQ.out HPO.out HPL.out).mono ?_; rintro e w2 ⟨⟨v, rfl, ho⟩, bq⟩; obtain ⟨lq, lc, rfl, hls⟩ := ho.read; have HL := Lib.hid hls; rw [allF_len]; have k2 := (bq.cell (lt_of_cellq k2)).trans k2; have HR := Lib.hid (HP.out.rs.below bq); have HB2 := Lib.hid (HB.out.trans (bq.mono HB.out.size)); clear ho hls bq HP HQ k0 k1; go_wp2
  go_loopw [6] (fun v wr => ∃ k : Nat, k ≤ p.rs.length ∧ v = .int .i64 k ∧ Hid (∀ j, j < k → agreeB pl p.mv (gr p.rs j) = true) ∧ Hid (Below w2.heap.size w2 wr)) (fun v _ => p.rs.length - (intOf v).toNat)
  case atStart => exact ⟨0, Nat.zero_le _, rfl, Lib.hid (by intro j hj; omega), Lib.hid (Below.refl _ _)⟩
  case round =>
    obtain ⟨k, hk, rfl, HH, HN⟩ := hrel; have k2 := (HN.out.cell (lt_of_cellq k2)).trans k2
    by_cases hlt : k < p.rs.length
    · have hki : (k : Int) < (p.rs.length : Int) := by omega
      obtain ⟨b, off, rfl, hc⟩ := (HR.out.below HN.out).at hlt; obtain ⟨a0, a1, a2, a3⟩ := hc k hlt; obtain ⟨⟨ha1, ha2⟩, ⟨hb1, hb2⟩, ⟨hs1, hs2⟩, ho1, ho2⟩ := HPO.out.read k hlt; have HAG := Lib.hid (show agreeB pl p.mv (gr p.rs k) = inB (gi (runF pl p.mv (gr p.rs k).aft.toNat) (gr p.rs k).arb.toNat) ((gr p.rs k).seen - (gr p.rs k).off) ((gr p.rs k).seen + (gr p.rs k).off) from rfl)
      have HNO := Lib.hid (show agreeB pl p.mv (gr p.rs k) = false → fitsB p pl = false from fun h => by
        unfold fitsB; rw [HW.out, all_bad (f := agreeB pl p.mv) (d := rd0) (l := p.rs) hlt h]; rfl)
      obtain ⟨a, ha⟩ : ∃ a : Nat, (gr p.rs k).aft = (a : Int) := ⟨(gr p.rs k).aft.toNat, by omega⟩; obtain ⟨c, hcc⟩ : ∃ c : Nat, (gr p.rs k).arb = (c : Int) := ⟨(gr p.rs k).arb.toNat, by omega⟩; have HG := Lib.hid (show agreeB pl p.mv (gr p.rs k) = agreeB pl p.mv (gr p.rs k) from rfl); obtain ⟨S, hS⟩ : ∃ S, (gr p.rs k).seen = S := ⟨_, rfl⟩; obtain ⟨O, hO⟩ : ∃ O, (gr p.rs k).off = O := ⟨_, rfl⟩; obtain ⟨A, hA⟩ : ∃ A, agreeB pl p.mv (gr p.rs k) = A := ⟨_, rfl⟩; rw [hA] at HNO HAG HG; rw [hS] at a2 hs1 hs2 HAG; rw [hO] at a3 ho1 ho2 HAG; rw [ha] at a0 ha2 HAG; rw [hcc] at a1 hb2 HAG; rw [Int.toNat_natCast, Int.toNat_natCast] at HAG; have hpn := HPN.out; obtain ⟨bl, ol, rfl, hcl⟩ := (HL.out.below HN.out).at (i := a) (by rw [allF_len]; omega); obtain ⟨qa, ca, r0, hra⟩ := hcl a (by rw [allF_len]; omega); rw [allF_at _ _ _ _ (by omega)] at r0 hra; have hrl := (runF_chain HPL.out.pos p.mv a).len
      rw [hrl] at r0; obtain ⟨b1, o1, rfl, hc1⟩ := hra.at (i := c) (by rw [hrl]; omega); have r1 := hc1 c (by rw [hrl]; omega); obtain ⟨w4, e4, HS4, y0, y1, y2, y3, b4⟩ := box4 wr (.int .i64 (a : Int)) (.int .i64 (c : Int)) (.int .i64 S) (.int .i64 O) 116; have r0 := (b4.cell (lt_of_cellq r0)).trans r0; have r1 := (b4.cell (lt_of_cellq r1)).trans r1; have HN4 := Lib.hid (HN.out.trans (b4.mono HN.out.size)); have hw1 : IntKind.i64.wrap (S - O) = S - O := w64 _ (by omega) (by omega); have hw2 : IntKind.i64.wrap (S + O) = S + O := w64 _ (by omega) (by omega); have hai : (a : Int) < (p.mv.length : Int) + 1 := by omega
      have hci : (c : Int) < (pl.length : Int) + 1 := by omega
      clear hpn
      have HC := Lib.hid (fun W => show Calls Tryz.prog 76 #[.int .i64 (gi (runF pl p.mv a) c), .int .i64 (S - O), .int .i64 (S + O)] W fun e w' => e = .returned (.bool A) ∧ Below W.heap.size W w' by
        rw [HAG.out]; exact (r_in _ _ _ W).mono fun e w' h => ⟨h.1, h.2 ▸ Below.refl _ _⟩)
      have HST := Lib.hid (show A = true → ∀ j, j < k + 1 → agreeB pl p.mv (gr p.rs j) = true from fun h j hj => by
        rcases Nat.lt_or_ge j k with h' | h'
        · exact HH.out j h'
        · obtain rfl : j = k := by omega
          rw [hA]; exact h)
      clear hc hcl hra hc1 hrl b4 ha hcc hS hO hA; go_upto_region 8 with (fail); clear e4 a0 a1 a2 a3
      cases A with
      | false =>
        refine wp_region_quiet_below (by kernel_rfl) (by kernel_rfl) ?_; (repeat (first | ((with_reducible first | apply wq_fg faP0 | apply wq_fg faP1 | apply wq_fg faP2 | apply wq_fg faM0 | apply wq_fg faS0 | apply wq_fg faS1 | apply wq_fg faR0 | apply wq_fg faR1 | apply wq_fg faR2 | apply wq_fg faR3 | apply wq_fg faT0 | apply wq_fg faT1 | apply wq_fg faQ0 | apply wq_fg faQ1 | apply wq_fg faH0 | apply wq_fg faH1 | apply wq_fg faH2 | apply wq_fg faH3); (focus rfl); (focus rfl); go_frame) | ((with_reducible apply wq_not); (focus rfl); (focus rfl); go_frame) | ((with_reducible first | apply wq_ix Tryz.underlying23 szI | apply wq_ix Tryz.underlying27 szSp | apply wq_ix Tryz.underlying22 szM | apply wq_ix Tryz.underlying24 szR | apply wq_ix Tryz.underlying43 szL | apply wq_ix Tryz.underlying103 szT); (focus rfl); (focus rfl); (focus rfl); (focus omega); (try simp only [Nat.mul_one]); go_frame) | ((with_reducible first | apply wq_ld agI | apply wq_ld agB | apply wq_ld agLI | apply wq_ld agLS | apply wq_ld agLM | apply wq_ld agLR | apply wq_ld agLL | apply wq_ld agLT); (focus rfl); (focus rfl); (focus (intro _ hbq; first | exact (hbq.cell (lt_of_cellq y0)).trans y0 | exact (hbq.cell (lt_of_cellq y1)).trans y1 | exact (hbq.cell (lt_of_cellq y2)).trans y2 | exact (hbq.cell (lt_of_cellq y3)).trans y3 | exact (hbq.cell (lt_of_cellq r0)).trans r0 | exact (hbq.cell (lt_of_cellq r1)).trans r1)); go_frame) | ((with_reducible first | apply wq_add | apply wq_sub | apply wq_mul | apply wq_rem); (focus rfl); (focus rfl); (focus rfl); (focus omega); (focus omega); go_frame) | ((with_reducible first | apply wq_eql | apply wq_neq | apply wq_lss | apply wq_leq | apply wq_gtr | apply wq_geq | apply wq_max2 | apply wq_min2); (focus rfl); (focus rfl); (focus rfl); go_frame) | ((with_reducible first | apply wq_max3 | apply wq_min3); (focus rfl); (focus rfl); (focus rfl); (focus rfl); go_frame) | go_big_quiet_step ((intro hbq; exact calls_below hbq (HC.out _))))); refine wpQuiet_nil ?_; intro wq hbq
        have HN5 := Lib.hid (HN4.out.trans (hbq.mono HN4.out.size)); clear hbq y0 y1 y2 y3 r0 r1; go_wp2; go_ret; exact ⟨by rw [HNO.out trivial]; rfl, HB2.out.trans (HN5.out.mono HB2.out.size)⟩
      | true =>
        refine wp_region_quiet_below (by kernel_rfl) (by kernel_rfl) ?_; (repeat (first | ((with_reducible first | apply wq_fg faP0 | apply wq_fg faP1 | apply wq_fg faP2 | apply wq_fg faM0 | apply wq_fg faS0 | apply wq_fg faS1 | apply wq_fg faR0 | apply wq_fg faR1 | apply wq_fg faR2 | apply wq_fg faR3 | apply wq_fg faT0 | apply wq_fg faT1 | apply wq_fg faQ0 | apply wq_fg faQ1 | apply wq_fg faH0 | apply wq_fg faH1 | apply wq_fg faH2 | apply wq_fg faH3); (focus rfl); (focus rfl); go_frame) | ((with_reducible apply wq_not); (focus rfl); (focus rfl); go_frame) | ((with_reducible first | apply wq_ix Tryz.underlying23 szI | apply wq_ix Tryz.underlying27 szSp | apply wq_ix Tryz.underlying22 szM | apply wq_ix Tryz.underlying24 szR | apply wq_ix Tryz.underlying43 szL | apply wq_ix Tryz.underlying103 szT); (focus rfl); (focus rfl); (focus rfl); (focus omega); (try simp only [Nat.mul_one]); go_frame) | ((with_reducible first | apply wq_ld agI | apply wq_ld agB | apply wq_ld agLI | apply wq_ld agLS | apply wq_ld agLM | apply wq_ld agLR | apply wq_ld agLL | apply wq_ld agLT); (focus rfl); (focus rfl); (focus (intro _ hbq; first | exact (hbq.cell (lt_of_cellq y0)).trans y0 | exact (hbq.cell (lt_of_cellq y1)).trans y1 | exact (hbq.cell (lt_of_cellq y2)).trans y2 | exact (hbq.cell (lt_of_cellq y3)).trans y3 | exact (hbq.cell (lt_of_cellq r0)).trans r0 | exact (hbq.cell (lt_of_cellq r1)).trans r1)); go_frame) | ((with_reducible first | apply wq_add | apply wq_sub | apply wq_mul | apply wq_rem); (focus rfl); (focus rfl); (focus rfl); (focus omega); (focus omega); go_frame) | ((with_reducible first | apply wq_eql | apply wq_neq | apply wq_lss | apply wq_leq | apply wq_gtr | apply wq_geq | apply wq_max2 | apply wq_min2); (focus rfl); (focus rfl); (focus rfl); go_frame) | ((with_reducible first | apply wq_max3 | apply wq_min3); (focus rfl); (focus rfl); (focus rfl); (focus rfl); go_frame) | go_big_quiet_step ((intro hbq; exact calls_below hbq (HC.out _))))); refine wpQuiet_nil ?_; intro wq hbq
        have HN5 := Lib.hid (HN4.out.trans (hbq.mono HN4.out.size)); clear hbq y0 y1 y2 y3 r0 r1; go_wp2; go_roundw
        case rel => exact ⟨k + 1, by omega, by go_num, Lib.hid (HST.out rfl), HN5⟩
        case measure => simp [intOf]; omega
    · obtain rfl : k = p.rs.length := by omega
      have hki : ¬ (p.rs.length : Int) < (p.rs.length : Int) := by omega
      have H := Lib.hid (show fitsB p pl = true by
        unfold fitsB; rw [HW.out, all_ok (f := agreeB pl p.mv) (d := rd0) (l := p.rs) HH.out]; rfl)
      go_wp2; go_ret; exact ⟨by rw [H.out]; rfl, HB2.out.trans (HN.out.mono HB2.out.size)⟩
end Go.Proofs.YtlednchfifphgabGreatDoor
end

section
namespace Go.Proofs.YtlednchfifphgabGreatDoor
open Go Go.RowKit Go.Proofs
set_option linter.unusedVariables false
set_option linter.unusedSimpArgs false
attribute [local go_sem] imax2 imin2

def RdlPost (ls : List (List Int)) (w : World) (e : Ending) (w' : World) : Prop := ∃ q c, e = .returned (.slice q ls.length c) ∧ RdLs w' q ls ∧ Below w.heap.size w w'
def ElR (w : World) (css : List (List Int)) (hs : List Value) : Prop := hs.length = css.length ∧ ∀ i, i < css.length → ∃ q c, hs[i]? = some (.slice q (gl css i).length c) ∧ RdI w q (gl css i)
theorem ElR.snoc {w : World} {css : List (List Int)} {hs : List Value} {x : List Int} {q : Option Addr} {c : Nat} (h : ElR w css hs) (hx : RdI w q x) : ElR w (css ++ [x]) (hs ++ [.slice q x.length c]) := by
  refine ⟨by simp [h.1], fun i hi => ?_⟩; rw [List.length_append, List.length_singleton] at hi; rw [gl_snoc]
  by_cases h1 : i < css.length
  · obtain ⟨q', c', e1, e2⟩ := h.2 i h1
    rw [if_pos h1]; exact ⟨q', c', by rw [List.getElem?_append_left (by rw [h.1]; omega)]; exact e1, e2⟩
  · obtain rfl : i = css.length := by omega
    rw [if_neg h1, if_pos rfl]; exact ⟨q, c, by rw [← h.1]; simp, hx⟩
theorem ElR.read {w w' : World} {B : Nat} {v : Value} {css : List (List Int)} {hs : List Value} (h : ElR w css hs) (ho : w'.ownsRow B 23 1 v css.length hs) (hb : Below w.heap.size w w') : ∃ q c, v = .slice q css.length c ∧ RdLs w' q css := by
  rcases ho.2 with ⟨rfl, h0⟩ | ⟨g, cap, cur, rfl, hrest⟩
  · have : css = [] := List.length_eq_zero_iff.1 h0
    subst this; exact ⟨none, 0, rfl, .inl rfl⟩
  · refine ⟨some ⟨g, 0, none⟩, cap, rfl, .inr ⟨g, 0, rfl, fun i hi => ?_⟩⟩
    obtain ⟨q, c, e1, e2⟩ := h.2 i hi; have h3 := ho.cells (g := g) rfl i _ e1; rw [add_new] at h3; exact ⟨q, c, by rw [Nat.zero_add]; exact h3, e2.below hb⟩
theorem bcells3 {w w' : World} {b : Nat} {v0 v1 v2 : Value} (h0 : w.cell? ⟨b, 0, none⟩ = some v0) (h1 : w.cell? ⟨b, 1, none⟩ = some v1) (h2 : w.cell? ⟨b, 2, none⟩ = some v2) (hb : Below w.heap.size w w') :
    ∀ j v, [v0, v1, v2][j]? = some v → w'.cell? ((⟨b, 0, none⟩ : Addr).add j) = some v := by
  intro j v hj; rw [add_new]
  match j, hj with
  | 0, hj => simp at hj; subst hj; exact (hb.cell (lt_of_cellq h0)).trans h0
  | 1, hj => simp at hj; subst hj; exact (hb.cell (lt_of_cellq h1)).trans h1
  | 2, hj => simp at hj; subst hj; exact (hb.cell (lt_of_cellq h2)).trans h2
theorem inV_cell1 (xs : List Int) : ∀ u ∈ inV xs, u.oneCell' = true := by intro u hu; simp [inV] at hu; obtain ⟨x, _, rfl⟩ := hu; rfl
theorem news_rd {w : World} {q : Option Addr} {xs : List Int} (h : RdI w q xs) : xs.length = 0 ∨ ∃ ad, q = some ad ∧ ∀ i u, (inV xs)[i]? = some u → w.cell? (ad.add i) = some u := by
  rcases h with rfl | ⟨b, off, rfl, hc⟩
  · exact .inl rfl
  · refine .inr ⟨_, rfl, fun i u hu => ?_⟩
    have hi : i < xs.length := by have := (List.getElem?_eq_some_iff.1 hu).1; rw [inV_length] at this; exact this
    rw [inV_get _ i hi] at hu
    cases hu
    have : (⟨b, off, none⟩ : Addr).add i = ⟨b, off + i, none⟩ := by unfold Addr.add; split <;> simp_all
    rw [this]; exact hc i hi
theorem take_len_le (ms : List (Int × Int)) (k : Nat) (h4 : ms.length ≤ 4) (h : ∀ i, i < ms.length → (gm ms i).2 - (gm ms i).1 ≤ 4) : (prodF (ms.take k)).length ≤ 625 := by
  have h1 := prodF_count (ms.take k) (fun i hi => by
    rw [List.length_take] at hi; have e : gm (ms.take k) i = gm ms i := by unfold gm; rw [List.getD_eq_getElem?_getD, List.getD_eq_getElem?_getD, List.getElem?_take, if_pos (by omega)]
    rw [e]; exact h i (by omega))
  have h2 : (5 : Nat) ^ (ms.take k).length ≤ 5 ^ 4 := Nat.pow_le_pow_right (by omega) (by rw [List.length_take]; omega); omega
theorem next_len (m : Int × Int) (hm : m.2 - m.1 ≤ 4) (A : List (List Int)) : ∀ k, k ≤ A.length → (nextTo m A k).length ≤ 5 * k := by
  intro k
  induction k with
  | zero => intro _; simp [nextTo]
  | succ k ih =>
    intro hk; rw [nextTo_succ _ _ _ (by omega), List.length_append, List.length_map, rng_len]; have := ih (by omega); omega
theorem rowTo_len (a : List Int) (lo : Int) (j : Nat) : (rowTo a lo j).length = j := by simp [rowTo]
set_option maxHeartbeats 3200000 in
set_option maxRecDepth 100000 in
theorem r_Truths (pm pv pr : Option Addr) (cm cv cr : Nat) (p : Pc) (w : World) (hp : RdP w pm pv pr p) (hpo : PieceOk p) :
    Calls Tryz.prog 77 #[.agg #[.slice pm p.ms.length cm, .slice pv p.mv.length cv, .slice pr p.rs.length cr]] w (RdlPost (truthsF p) w) := by
  obtain ⟨i0, hi0, hz0, hz1, hz2⟩ := info_parts infI; obtain ⟨j0, hj0, hy0, hy1, hy2⟩ := info_parts infL; obtain ⟨w1, e1, HS1, k0, k1, k2, b1⟩ := box3 w (.slice pm p.ms.length cm) (.slice pv p.mv.length cv) (.slice pr p.rs.length cr) 26; obtain ⟨w2, e2, HS2, c0, _, b2⟩ := box1 w1 (.slice none 0 0) 23; have HB := Lib.hid b1; have HP := Lib.hid (hp.below b1); have HPO := Lib.hid hpo; have HK := Lib.hid (And.intro k0 (And.intro k1 k2)); have HB2 := Lib.hid b2
  have HR0 := Lib.hid (show RdLs w2 (some ⟨w1.heap.size, 0, none⟩) [[]] from .inr ⟨w1.heap.size, 0, rfl, fun i hi => by
    obtain rfl : i = 0 := by simp at hi; exact hi
    exact ⟨none, 0, c0, .inl rfl⟩⟩)
  have hn4 := hpo.n4; clear hp hpo b1 b2 c0 k0 k1 k2
  go_enter Tryz.func77, Tryz.ntmps77
  go_wp2; clear e1 e2
  go_loopw [3, 4] (fun v i wr => ∃ (k : Nat) (q : Option Addr) (c : Nat), k ≤ p.ms.length ∧ i = .int .i64 k ∧ v = .slice q (prodF (p.ms.take k)).length c ∧ Hid (RdLs wr q (prodF (p.ms.take k))) ∧ Hid (Below w1.heap.size w1 wr)) (fun _ i _ => p.ms.length - (intOf i).toNat)
  case atStart => exact ⟨0, some ⟨w1.heap.size, 0, none⟩, 1, Nat.zero_le _, rfl, by rw [List.take_zero]; rfl, by rw [List.take_zero]; exact HR0, HB2⟩
  case round =>
    obtain ⟨k, q, c, hk, rfl, rfl, HR, HN⟩ := hrel; have q0 := (HN.out.cell (lt_of_cellq HK.out.1)).trans HK.out.1
    by_cases hlt : k < p.ms.length
    · have hki : (k : Int) < (p.ms.length : Int) := by omega
      obtain ⟨b, off, rfl, hc⟩ := (HP.out.ms.below HN.out).at hlt; obtain ⟨m0, m1⟩ := hc k hlt; obtain ⟨hm1, hm2, hm3, hm4⟩ := HPO.out.mesh k hlt; have HAL := Lib.hid (take_len_le p.ms k hn4 (fun i hi => (HPO.out.mesh i hi).2.2.2)); have HAK := Lib.hid (prodF_lens p.ms k (by omega)); have HNX := Lib.hid (nextTo_prod p.ms k hlt); have HNL := Lib.hid (next_len (gm p.ms k) hm4 (prodF (p.ms.take k))); obtain ⟨A, hA⟩ : ∃ A, prodF (p.ms.take k) = A := ⟨_, rfl⟩; obtain ⟨M, hM⟩ : ∃ M, gm p.ms k = M := ⟨_, rfl⟩; rw [hA] at HAL HAK HNX HNL HR ⊢; rw [hM] at HNX HNL m0 m1 hm1 hm2 hm3 hm4; have hal := HAL.out; clear hA hM hc; obtain ⟨wn, rfl⟩ : ∃ wn : World, wn = wr := ⟨_, rfl⟩; go_wp2
      go_loopw [5, 6] (fun v i wr => ∃ j : Nat, j ≤ A.length ∧ i = .int .i64 j ∧ Hid (OwLs wr wn.heap.size v (nextTo M A j)) ∧ Hid (Below wn.heap.size wn wr)) (fun _ i _ => A.length - (intOf i).toNat)
      case atStart => exact ⟨0, Nat.zero_le _, rfl, Lib.hid (by rw [nextTo_zero]; exact OwLs.nil _ _), Lib.hid (Below.refl _ _)⟩
      case round =>
        obtain ⟨j, hj, rfl, HO, HM⟩ := hrel
        by_cases hlt2 : j < A.length
        · have hji : (j : Int) < (A.length : Int) := by omega
          obtain ⟨bA, oA, rfl, hcA⟩ := HR.out.at hlt2; obtain ⟨qj, cj, s0, sr⟩ := hcA j hlt2; rw [HAK.out j hlt2] at s0; have q1 := (HM.out.cell (lt_of_cellq q0)).trans q0; have m2 := (HM.out.cell (lt_of_cellq m0)).trans m0; have m3 := (HM.out.cell (lt_of_cellq m1)).trans m1; have HSR := Lib.hid sr; have hnl := HNL.out j hj; obtain ⟨N, hN⟩ : ∃ N, nextTo M A j = N := ⟨_, rfl⟩; have HNS := Lib.hid (show nextTo M A (j + 1) = N ++ (rng M.1 M.2).map fun n => gl A j ++ [n] by rw [nextTo_succ _ _ _ hlt2, hN]); rw [hN] at HO hnl; have HKK := Lib.hid (HAK.out j hlt2); obtain ⟨a, ha⟩ : ∃ a, gl A j = a := ⟨_, rfl⟩; obtain ⟨lo, hlo⟩ : ∃ lo, M.1 = lo := ⟨_, rfl⟩; obtain ⟨hi, hhi⟩ : ∃ hi, M.2 = hi := ⟨_, rfl⟩; rw [ha] at HNS HKK HSR; rw [hlo] at HNS m0 m2 hm1 hm2 hm4; rw [hhi] at HNS m1 m3 hm2 hm3 hm4; clear hN ha hlo hhi hcA sr; obtain ⟨wm, rfl⟩ : ∃ wm : World, wm = wr := ⟨_, rfl⟩; go_wp2
          go_loopw [5, 7] (fun v i wr => ∃ x : Nat, (x : Int) ≤ hi - lo + 1 ∧ i = .int .i64 (lo + (x : Int)) ∧ Hid (OwLs wr wn.heap.size v (N ++ rowTo a lo x)) ∧ Hid (Below wn.heap.size wn wr)) (fun _ i _ => (hi + 1 - intOf i).toNat)
          case atStart => exact ⟨0, by omega, by simp, by rw [rowTo_zero, List.append_nil]; exact HO, HM⟩
          case round =>
            obtain ⟨x, hx, rfl, HOX, HX⟩ := hrel; have s1 := (HX.out.cell (lt_of_cellq s0)).trans s0; have q2 := (HX.out.cell (lt_of_cellq q0)).trans q0; have m4 := (HX.out.cell (lt_of_cellq m0)).trans m0; have m5 := (HX.out.cell (lt_of_cellq m1)).trans m1
            by_cases hlt3 : lo + (x : Int) ≤ hi
            · obtain ⟨hs, ho, he⟩ := HOX.out
              have HO1 := Lib.hid ho; have HE1 := Lib.hid he
              have HNW := Lib.hid (show k = 0 ∨ ∃ ad, qj = some ad ∧ ∀ i u, (inV a)[i]? = some u → wr.cell? (ad.add i) = some u by
                have h := news_rd (HSR.out.below HX.out); rw [HKK.out] at h; exact h)
              have hL : (N ++ rowTo a lo x).length ≤ 4000 := by rw [List.length_append, rowTo_len]; omega
              have hwx : IntKind.i64.wrap (lo + (x : Int) + 1) = lo + ((x + 1 : Nat) : Int) := by rw [w64 _ (by omega) (by omega)]; omega
              clear ho he; go_wp2_with (at_builtin; refine wpList_append_src _ rfl _ _ 23 rfl wr.heap.size 3 i0 _ 1 8 Tryz.underlying23 hi0 hz0 hz1 hz2 rfl (by decide) (.slice none 0 0) 0 [] rfl (World.ownsRow_nil _ _ _ _) qj k cj (inV a) rfl ?a1 ?a2 ?a3 ?a4 ?a5 ?a6 ?_)
              case a1 => rw [inV_length, HKK.out, Nat.mul_one]
              case a2 => exact HNW.out
              case a3 => exact inV_cell1 _
              case a4 => unfold maxLen; omega
              case a5 => omega
              case a6 => exact Nat.le_refl _
              intro v1 wa hown1 hgrow1 hat1; have HBA := Lib.hid (show Below wr.heap.size wr wa from (Below.refl _ _).grown hgrow1 (Nat.le_refl _) (fun j hj => by simp [Value.ownBlock] at hj)); have HW1 := Lib.hid hown1; clear hown1 hgrow1 hat1; go_wp2_with (at_builtin; refine wpList_append_own _ rfl _ _ 23 rfl wr.heap.size 3 i0 _ 1 8 Tryz.underlying23 hi0 hz0 hz1 hz2 rfl (by decide) _ _ _ rfl (HW1.out.alloc _) ⟨wa.heap.size, 0, none⟩ 1 1 [.int .i64 (lo + (x : Int))] rfl rfl ?b1 ?b2 ?b3 ?b4 ?b5 ?_)
              case b1 => exact news_of _ _ _
              case b2 => intro u hu; simp at hu; subst hu; rfl
              case b3 => unfold maxLen; omega
              case b4 => omega
              case b5 => have := HBA.out.size; simp; omega
              intro v2 wb hown2 hgrow2 _; obtain ⟨g2, c2, rfl⟩ := own_form hown2; have HBB := Lib.hid (show Below wr.heap.size wr wb from (HBA.out.alloc HBA.out.size _).grown hgrow2 (by have := HBA.out.size; simp; omega) (fun j hj => (HW1.out.lt j hj).1)); have HW2 := Lib.hid hown2; have HO2 := Lib.hid (own_kept HO1.out HBB.out); have HE2 := Lib.hid (HE1.out.below HBB.out); clear hown2 hgrow2; go_wp2_with (at_builtin; refine wpList_append_own _ rfl _ _ 43 rfl wn.heap.size 23 j0 _ 1 24 Tryz.underlying43 hj0 hy0 hy1 hy2 rfl (by decide) _ _ _ rfl (HO2.out.alloc _) ⟨wb.heap.size, 0, none⟩ 1 1 [.slice (some ⟨g2, 0, none⟩) (k + 1) c2] rfl rfl ?d1 ?d2 ?d3 ?d4 ?d5 ?_)
              case d1 => exact news_of _ _ _
              case d2 => intro u hu; simp at hu; subst hu; rfl
              case d3 => unfold maxLen; omega
              case d4 => omega
              case d5 => have := HX.out.size; have := HBB.out.size; simp; omega
              intro v3 w5 hown3 hgrow3 _; have hbw := HX.out.trans (HBB.out.mono HX.out.size); have HB5 := Lib.hid ((hbw.alloc hbw.size (.cells #[.slice (some ⟨g2, 0, none⟩) (k + 1) c2] 23)).grown hgrow3 (by have := hbw.size; simp; omega) (fun j hj => (HO2.out.lt j hj).1)); have ba := below_alloc1 wb (.cells #[.slice (some ⟨g2, 0, none⟩) (k + 1) c2] 23)
              have HOX' := Lib.hid (show OwLs w5 wn.heap.size v3 (N ++ rowTo a lo (x + 1)) by
                rw [rowTo_succ, ← List.append_assoc]; refine OwLs.app (own_kept HO2.out ba) (HE2.out.below ba) ?_ hgrow3 (by rw [List.length_append]; exact hown3); have h := own_mono (own_kept HW2.out ba) (B' := wn.heap.size) HX.out.size; have e : (a ++ [lo + (x : Int)]).length = k + 1 := by rw [List.length_append, HKK.out]; rfl
                rw [e, inV_append]; exact h)
              clear hown3 hgrow3 hbw ba; go_wp2; go_roundw
              case rel => exact ⟨x + 1, by omega, by go_num, HOX', HB5⟩
              case measure => simp [intOf]; omega
            · have HOX' := Lib.hid (show OwLs wr wn.heap.size _ ((N ++ (rng lo hi).map fun n => a ++ [n])) by
                rw [← rowTo_all a lo hi x (by omega)]; exact HOX.out)
              have hlt3' : decide (lo + (x : Int) ≤ hi) = false := decide_eq_false hlt3; have hwj : IntKind.i64.wrap ((j : Int) + 1) = (j : Int) + 1 := w64 _ (by omega) (by omega); clear hlt3; go_wp2; go_roundw
              case rel => exact ⟨j + 1, by omega, by go_num, by rw [HNS.out]; exact HOX', HX⟩
              case measure => simp [intOf]; omega
        · obtain rfl : j = A.length := by omega
          have hji : ¬ (A.length : Int) < (A.length : Int) := by omega
          obtain ⟨q', c', rfl, hr'⟩ := HO.out.read; have HR' := Lib.hid hr'; rw [HNX.out] at HR' ⊢; clear hr'; go_wp2; go_roundw
          case rel => exact ⟨k + 1, q', c', by omega, by go_num, rfl, HR', Lib.hid (HN.out.trans (HM.out.mono HN.out.size))⟩
          case measure => simp [intOf]; omega
    · obtain rfl : k = p.ms.length := by omega
      have hki : ¬ (p.ms.length : Int) < (p.ms.length : Int) := by omega
      rw [List.take_length] at HR ⊢
      have HAL := Lib.hid (show (prodF p.ms).length ≤ 625 by
        have h := take_len_le p.ms p.ms.length hn4 (fun i hi => (HPO.out.mesh i hi).2.2.2); rw [List.take_length] at h; exact h)
      have HPW := Lib.hid (show ∀ j, j < (prodF p.ms).length → PlaysOk p (gl (prodF p.ms) j) from fun j hj => by
        have hmem : gl (prodF p.ms) j ∈ prodF p.ms := by rw [gl_get _ _ hj]; exact List.getElem_mem hj
        obtain ⟨h1, h2⟩ := mem_prodF.1 hmem
        exact ⟨h1, fun i hi => by
          have := HPO.out.mesh i (by omega); have := h2 i hi; omega⟩)
      have HTF := Lib.hid (show truthsF p = (prodF p.ms).filter (fitsB p) from rfl); obtain ⟨A, hA⟩ : ∃ A, prodF p.ms = A := ⟨_, rfl⟩; rw [hA] at HAL HPW HTF HR ⊢; have hal := HAL.out; clear hA; have k1 := (HN.out.cell (lt_of_cellq HK.out.2.1)).trans HK.out.2.1; have k2 := (HN.out.cell (lt_of_cellq HK.out.2.2)).trans HK.out.2.2; obtain ⟨wn, rfl⟩ : ∃ wn : World, wn = wr := ⟨_, rfl⟩; go_wp2; clear hki
      go_loopw [8, 9] (fun v i wr => ∃ (j : Nat) (hs : List Value), j ≤ A.length ∧ i = .int .i64 j ∧ Hid (wr.ownsRow wn.heap.size 23 1 v ((A.take j).filter (fitsB p)).length hs) ∧ Hid (ElR wn ((A.take j).filter (fitsB p)) hs) ∧ Hid (Below wn.heap.size wn wr)) (fun _ i _ => A.length - (intOf i).toNat)
      case atStart => exact ⟨0, [], Nat.zero_le _, rfl, Lib.hid (by rw [List.take_zero]; exact World.ownsRow_nil _ _ _ _), Lib.hid ⟨by rw [List.take_zero]; rfl, fun i hi => by simp at hi⟩, Lib.hid (Below.refl _ _)⟩
      case round =>
        obtain ⟨j, hs, hj, rfl, HO, HE, HX⟩ := hrel
        by_cases hlt2 : j < A.length
        · have hji : (j : Int) < (A.length : Int) := by omega
          obtain ⟨bA, oA, rfl, hcA⟩ := HR.out.at hlt2; obtain ⟨qj, cj, s0, sr⟩ := hcA j hlt2; have HSR := Lib.hid sr; have s1 := (HX.out.cell (lt_of_cellq s0)).trans s0; have z0 := (HX.out.cell (lt_of_cellq q0)).trans q0; have z1 := (HX.out.cell (lt_of_cellq k1)).trans k1; have z2 := (HX.out.cell (lt_of_cellq k2)).trans k2; have HC := Lib.hid (fun W (hb : Below wr.heap.size wr W) => r_Fits pm pv pr cm cv cr p qj cj (gl A j) W (((HP.out.below HN.out).below HX.out).below hb) ((HSR.out.below HX.out).below hb) HPO.out (HPW.out j hlt2)); have HFT := Lib.hid (filter_take (fitsB p) A j hlt2)
          have hfl : ((A.take j).filter (fitsB p)).length ≤ 1000 := by
            have h1 := List.length_filter_le (fitsB p) (A.take j); rw [List.length_take] at h1; omega
          have hwj : IntKind.i64.wrap ((j : Int) + 1) = (j : Int) + 1 := w64 _ (by omega) (by omega); clear hcA sr
          rcases hf : fitsB p (gl A j) with _ | _
          · rw [hf] at HC
            have HFT' := Lib.hid (show (A.take (j + 1)).filter (fitsB p) = (A.take j).filter (fitsB p) by rw [HFT.out, hf]; simp); clear hf; go_wp2; refine wp_region_quiet_below (by kernel_rfl) (by kernel_rfl) ?_; (repeat (first | ((with_reducible first | apply wq_fg faP0 | apply wq_fg faP1 | apply wq_fg faP2 | apply wq_fg faM0 | apply wq_fg faS0 | apply wq_fg faS1 | apply wq_fg faR0 | apply wq_fg faR1 | apply wq_fg faR2 | apply wq_fg faR3 | apply wq_fg faT0 | apply wq_fg faT1 | apply wq_fg faQ0 | apply wq_fg faQ1 | apply wq_fg faH0 | apply wq_fg faH1 | apply wq_fg faH2 | apply wq_fg faH3); (focus rfl); (focus rfl); go_frame) | ((with_reducible refine wq_lda agP szP ?_ ?_ ?_ (fun _ hbq => bcells3 z0 z1 z2 hbq) ?_); (focus rfl); (focus rfl); (focus rfl); go_frame) | ((with_reducible first | apply wq_ix Tryz.underlying23 szI | apply wq_ix Tryz.underlying27 szSp | apply wq_ix Tryz.underlying22 szM | apply wq_ix Tryz.underlying24 szR | apply wq_ix Tryz.underlying43 szL | apply wq_ix Tryz.underlying103 szT); (focus rfl); (focus rfl); (focus rfl); (focus omega); (try simp only [Nat.mul_one]); go_frame) | ((with_reducible first | apply wq_ld agI | apply wq_ld agB | apply wq_ld agLI | apply wq_ld agLS | apply wq_ld agLM | apply wq_ld agLR | apply wq_ld agLL | apply wq_ld agLT); (focus rfl); (focus rfl); (focus (intro _ hbq; first | exact (hbq.cell (lt_of_cellq s1)).trans s1)); go_frame) | ((with_reducible first | apply wq_add | apply wq_sub | apply wq_mul | apply wq_rem); (focus rfl); (focus rfl); (focus rfl); (focus omega); (focus omega); go_frame) | ((with_reducible first | apply wq_eql | apply wq_neq | apply wq_lss | apply wq_leq | apply wq_gtr | apply wq_geq | apply wq_max2 | apply wq_min2); (focus rfl); (focus rfl); (focus rfl); go_frame) | ((with_reducible first | apply wq_max3 | apply wq_min3); (focus rfl); (focus rfl); (focus rfl); (focus rfl); go_frame) | go_big_quiet_step ((intro hbq; exact calls_below hbq (HC.out _ hbq))))); refine wpQuiet_nil ?_; intro wq hbq
            have HO' := Lib.hid (own_kept HO.out hbq); have HX' := Lib.hid (HX.out.trans (hbq.mono HX.out.size)); clear hbq s1 z0 z1 z2; go_wp2; go_roundw
            case rel => exact ⟨j + 1, hs, by omega, by go_num, by rw [HFT'.out]; exact HO', by rw [HFT'.out]; exact HE, HX'⟩
            case measure => simp [intOf]; omega
          · rw [hf] at HC
            have HFT' := Lib.hid (show (A.take (j + 1)).filter (fitsB p) = (A.take j).filter (fitsB p) ++ [gl A j] by rw [HFT.out, hf]; simp); clear hf; go_wp2; refine wp_region_quiet_below (by kernel_rfl) (by kernel_rfl) ?_; (repeat (first | ((with_reducible first | apply wq_fg faP0 | apply wq_fg faP1 | apply wq_fg faP2 | apply wq_fg faM0 | apply wq_fg faS0 | apply wq_fg faS1 | apply wq_fg faR0 | apply wq_fg faR1 | apply wq_fg faR2 | apply wq_fg faR3 | apply wq_fg faT0 | apply wq_fg faT1 | apply wq_fg faQ0 | apply wq_fg faQ1 | apply wq_fg faH0 | apply wq_fg faH1 | apply wq_fg faH2 | apply wq_fg faH3); (focus rfl); (focus rfl); go_frame) | ((with_reducible refine wq_lda agP szP ?_ ?_ ?_ (fun _ hbq => bcells3 z0 z1 z2 hbq) ?_); (focus rfl); (focus rfl); (focus rfl); go_frame) | ((with_reducible first | apply wq_ix Tryz.underlying23 szI | apply wq_ix Tryz.underlying27 szSp | apply wq_ix Tryz.underlying22 szM | apply wq_ix Tryz.underlying24 szR | apply wq_ix Tryz.underlying43 szL | apply wq_ix Tryz.underlying103 szT); (focus rfl); (focus rfl); (focus rfl); (focus omega); (try simp only [Nat.mul_one]); go_frame) | ((with_reducible first | apply wq_ld agI | apply wq_ld agB | apply wq_ld agLI | apply wq_ld agLS | apply wq_ld agLM | apply wq_ld agLR | apply wq_ld agLL | apply wq_ld agLT); (focus rfl); (focus rfl); (focus (intro _ hbq; first | exact (hbq.cell (lt_of_cellq s1)).trans s1)); go_frame) | ((with_reducible first | apply wq_add | apply wq_sub | apply wq_mul | apply wq_rem); (focus rfl); (focus rfl); (focus rfl); (focus omega); (focus omega); go_frame) | ((with_reducible first | apply wq_eql | apply wq_neq | apply wq_lss | apply wq_leq | apply wq_gtr | apply wq_geq | apply wq_max2 | apply wq_min2); (focus rfl); (focus rfl); (focus rfl); go_frame) | ((with_reducible first | apply wq_max3 | apply wq_min3); (focus rfl); (focus rfl); (focus rfl); (focus rfl); go_frame) | go_big_quiet_step ((intro hbq; exact calls_below hbq (HC.out _ hbq))))); refine wpQuiet_nil ?_; intro wq hbq
            have HO' := Lib.hid (own_kept HO.out hbq); have HX' := Lib.hid (HX.out.trans (hbq.mono HX.out.size)); have s2 := (hbq.cell (lt_of_cellq s1)).trans s1; clear hbq s1 z0 z1 z2; go_wp2_with (at_builtin; refine wpList_append_own _ rfl _ _ 43 rfl wn.heap.size 23 j0 _ 1 24 Tryz.underlying43 hj0 hy0 hy1 hy2 rfl (by decide) _ _ _ rfl (HO'.out.alloc _) ⟨wq.heap.size, 0, none⟩ 1 1 [.slice qj (gl A j).length cj] rfl rfl ?d1 ?d2 ?d3 ?d4 ?d5 ?_)
            case d1 => exact news_of _ _ _
            case d2 => intro u hu; simp at hu; subst hu; rfl
            case d3 => unfold maxLen; omega
            case d4 => omega
            case d5 => have := HX'.out.size; simp; omega
            intro v3 w5 hown3 hgrow3 _; have HB5 := Lib.hid ((HX'.out.alloc HX'.out.size (.cells #[.slice qj (gl A j).length cj] 23)).grown hgrow3 (by have := HX'.out.size; simp; omega) (fun j hj => (HO'.out.lt j hj).1)); have HO5 := Lib.hid hown3; have HE5 := Lib.hid (HE.out.snoc (c := cj) HSR.out); clear hown3 hgrow3; go_wp2; go_roundw
            case rel => exact ⟨j + 1, _, by omega, by go_num, by rw [HFT'.out, List.length_append]; exact HO5, by rw [HFT'.out]; exact HE5, HB5⟩
            case measure => simp [intOf]; omega
        · obtain rfl : j = A.length := by omega
          have hji : ¬ (A.length : Int) < (A.length : Int) := by omega
          rw [List.take_length] at HO HE; obtain ⟨qz, cz, rfl, hrz⟩ := HE.out.read HO.out HX.out; have HZ := Lib.hid hrz; clear hrz; go_wp2; go_ret; rw [HTF.out]; exact ⟨qz, cz, rfl, HZ.out, HB.out.trans ((HN.out.trans (HX.out.mono HN.out.size)).mono HB.out.size)⟩
end Go.Proofs.YtlednchfifphgabGreatDoor
end

section
namespace Go.Proofs.YtlednchfifphgabGreatDoor
open Go Go.RowKit Go.Proofs
set_option linter.unusedVariables false
set_option linter.unusedSimpArgs false
attribute [local go_sem] imax2 imin2

set_option maxHeartbeats 1600000 in
set_option maxRecDepth 100000 in
theorem r_Ends (pm pv pr : Option Addr) (cm cv cr : Nat) (p : Pc) (q : Option Addr) (cq : Nat) (ts : List (List Int)) (w : World) (hp : RdP w pm pv pr p) (hq : RdLs w q ts) (hpo : PieceOk p) (hts : ∀ i, i < ts.length → PlaysOk p (gl ts i)) (hl : ts.length ≤ 1000) :
    Calls Tryz.prog 78 #[.agg #[.slice pm p.ms.length cm, .slice pv p.mv.length cv, .slice pr p.rs.length cr], .slice q ts.length cq] w (RdlPost (ts.map (endF p)) w) := by
  obtain ⟨j0, hj0, hy0, hy1, hy2⟩ := info_parts infL; obtain ⟨w1, e1, HS1, k0, k1, k2, b1⟩ := box3 w (.slice pm p.ms.length cm) (.slice pv p.mv.length cv) (.slice pr p.rs.length cr) 26; have HB := Lib.hid b1; have HP := Lib.hid (hp.below b1); have HQ := Lib.hid (hq.below b1); have HPO := Lib.hid hpo; have HT := Lib.hid hts; have HK := Lib.hid (And.intro k0 (And.intro k1 k2)); have hmv : p.mv.length ≤ 8 := hpo.m8; clear hp hq hpo hts b1 k0 k1 k2
  go_enter Tryz.func78, Tryz.ntmps78
  go_wp2; clear e1
  go_loopw [5, 6] (fun v i wr => ∃ k : Nat, k ≤ ts.length ∧ i = .int .i64 k ∧ Hid (OwLs wr w1.heap.size v ((ts.take k).map (endF p))) ∧ Hid (Below w1.heap.size w1 wr)) (fun _ i _ => ts.length - (intOf i).toNat)
  case atStart => exact ⟨0, Nat.zero_le _, rfl, Lib.hid (OwLs.nil _ _), Lib.hid (Below.refl _ _)⟩
  case round =>
    obtain ⟨k, hk, rfl, HO, HN⟩ := hrel
    by_cases hlt : k < ts.length
    · have hki : (k : Int) < (ts.length : Int) := by omega
      obtain ⟨b, off, rfl, hc⟩ := HQ.out.at hlt; obtain ⟨qk, ck, s0, sr⟩ := hc k hlt; have HSR := Lib.hid sr; have HSB := Lib.hid (cl4 HK.out.1 HK.out.2.1 HK.out.2.2 s0); obtain ⟨z0, z1, z2, s1⟩ := HSB.out wr HN.out; have HTK := Lib.hid (take_step ts k hlt); have HGK := Lib.hid (gl_get ts k hlt); have HPK := Lib.hid (HT.out k hlt); have hnn : (p.mv.length : Int) < (p.mv.length : Int) + 1 := by omega
      have hn0 : (0 : Int) ≤ (p.mv.length : Int) := by omega
      have hwk : IntKind.i64.wrap ((k : Int) + 1) = (k : Int) + 1 := w64 _ (by omega) (by omega); have hlk : ((ts.take k).map (endF p)).length = k := by rw [List.length_map, List.length_take]; omega
      obtain ⟨hs, ho, he⟩ := HO.out; rw [hlk] at ho; have HO1 := Lib.hid ho; have HE1 := Lib.hid he; have HLK := Lib.hid hlk; clear hc sr s0 ho he hlk; go_wp2; refine held4 z0 z1 z2 s1 (fun W0 HBW => ?_); have HB0 := HN.out.trans (HBW.mono HN.out.size); refine tk 0 rfl (by exact HSB.out _ HB0) ?_; (try simp only [Act.put, ptL]); refine tk 1 rfl (by exact HSB.out _ HB0) ?_; (try simp only [Act.put, ptL]); refine tk 2 rfl (by exact HSB.out _ HB0) ?_; (try simp only [Act.put, ptL]); refine tk 3 rfl (by exact HSB.out _ HB0) ?_; (try simp only [Act.put, ptL]); refine tk 4 rfl (by exact HSB.out _ HB0) ?_; (try simp only [Act.put, ptL]); refine tk 5 rfl (by exact HSB.out _ HB0) ?_; (try simp only [Act.put, ptL]); refine tk 7 rfl (by exact HSB.out _ HB0) ?_; (try simp only [Act.put, ptL]); refine tk 8 rfl (by exact HSB.out _ HB0) ?_; (try simp only [Act.put, ptL]); refine tk 9 rfl (by exact HSB.out _ HB0) ?_; (try simp only [Act.put, ptL])
      have HR := Lib.hid (r_Run pm pv pr cm cv cr p qk ck (gl ts k) W0 (HP.out.below HB0) (HSR.out.below HB0) HPO.out HPK.out); refine rz1 6 rfl ?_; intro K hK; go_simp; refine HR.out.mono ?_; rintro e W1 ⟨⟨v1, rfl, hs1, ho1, he1⟩, bq⟩; have HB1 := HB0.trans (bq.mono HB0.size); obtain ⟨v2, hv2, ho2⟩ := he1.2 p.mv.length (by rw [allF_len]; omega); have hgl : gl (allF (gl ts k) p.mv p.mv.length) p.mv.length = endF p (gl ts k) := allF_at _ _ _ _ (Nat.le_refl _); rw [hgl] at ho2; rw [allF_len] at ho1; obtain ⟨g1, c1, rfl⟩ := own_form ho1; have hcell := ho1.cells (g := g1) rfl _ _ hv2; rw [add_new] at hcell; have hel : (endF p (gl ts k)).length = (gl ts k).length + 1 := end_len HPK.out.pos; rw [hel] at ho2; obtain ⟨g2, c2, rfl⟩ := own_form ho2; refine kz hK (by exact HSB.out _ HB1) ?_; clear hK K; (try simp only [Act.put, ptL]); refine tk 10 rfl (by exact HSB.out _ HB1) ?_; (try simp only [Act.put, ptL])
      refine rz1 11 rfl ?_; intro K hK; go_simp; refine kz hK (by exact HSB.out _ HB1) ?_; clear hK K; (try simp only [Act.put, ptL]); refine rz1 12 rfl ?_; intro K hK; go_simp; refine kz hK (by exact HSB.out _ (HB1.alloc HB1.size _)) ?_; clear hK K; (try simp only [Act.put, ptL]); have ba : Below wr.heap.size wr W1 := HBW.trans (bq.mono HBW.size); have hO2 := (own_kept HO1.out ba).alloc (.cells #[.slice (some ⟨g2, 0, none⟩) ((gl ts k).length + 1) c2] 23); have hE2 := (HE1.out.below ba).below (below_alloc1 W1 (.cells #[.slice (some ⟨g2, 0, none⟩) ((gl ts k).length + 1) c2] 23)); have hX2 := own_kept ho2 (below_alloc1 W1 (.cells #[.slice (some ⟨g2, 0, none⟩) ((gl ts k).length + 1) c2] 23)); have hB2 := HB1.alloc HB1.size (.cells #[.slice (some ⟨g2, 0, none⟩) ((gl ts k).length + 1) c2] 23); refine rz1 13 rfl ?_; intro K hK; refine step_append_src _ rfl _ _ 43 rfl w1.heap.size 23 j0 _ 1 24 Tryz.underlying43 hj0 hy0 hy1 hy2 rfl (by decide) _ _ _ rfl hO2 (some ⟨W1.heap.size, 0, none⟩) 1 1 [.slice (some ⟨g2, 0, none⟩) ((gl ts k).length + 1) c2] rfl rfl (.inr ⟨_, rfl, news_of W1 _ _⟩) (by intro u hu; simp at hu; subst hu; rfl) (by unfold maxLen; omega) (by omega) hB2.size ?_
      intro v' w3 hown' hgrow _; have hB3 := hB2.grown hgrow hB2.size (fun j hj => (hO2.lt j hj).1); refine kz hK (by exact HSB.out _ hB3) ?_; clear hK K; (try simp only [Act.put, ptL]); refine tk 14 rfl (by exact HSB.out _ hB3) ?_; (try simp only [Act.put, ptL]); refine wpAnyH_done (by kernel_rfl) ?_ _; have HN' := Lib.hid hB3
      have HO' := Lib.hid (show OwLs w3 w1.heap.size v' ((ts.take (k + 1)).map (endF p)) by
        rw [HTK.out, List.map_append, ← HGK.out]; show OwLs w3 w1.heap.size v' ((ts.take k).map (endF p) ++ [endF p (gl ts k)]); refine OwLs.app (hs := hs) (by rw [HLK.out]; exact hO2) hE2 ?_ hgrow (by rw [HLK.out]; exact hown'); rw [hel]; exact own_mono hX2 HB0.size)
      clear hown' hgrow hB3 hB2 hX2 hE2 hO2 ba hel hgl ho2 ho1 he1 hv2 hcell HB1 HB0 HBW bq HR HSB z0 z1 z2 s1; go_wp2; go_roundw
      case rel => exact ⟨k + 1, by omega, by go_num, HO', HN'⟩
      case measure => simp [intOf]; omega
    · obtain rfl : k = ts.length := by omega
      have hki : ¬ (ts.length : Int) < (ts.length : Int) := by omega
      rw [List.take_length] at HO; obtain ⟨q', c', rfl, hr'⟩ := HO.out.read; have HR' := Lib.hid hr'; clear hr'; go_wp2; go_ret; exact ⟨q', c', by rw [List.length_map]; rfl, HR'.out, HB.out.trans (HN.out.mono HB.out.size)⟩
end Go.Proofs.YtlednchfifphgabGreatDoor
end

section
namespace Go.Proofs.YtlednchfifphgabGreatDoor
open Go Go.RowKit Go.Proofs
set_option linter.unusedVariables false
set_option linter.unusedSimpArgs false
attribute [local go_sem] imax2 imin2

theorem truthOk {p : Pc} (hpo : PieceOk p) : ∀ i, i < (truthsF p).length → PlaysOk p (gl (truthsF p) i) := fun i hi => truth_plays hpo (by rw [gl_get _ _ hi]; exact List.getElem_mem hi)
theorem truthsFew {p : Pc} (hpo : PieceOk p) : (truthsF p).length ≤ 625 := by
  have h1 := List.length_filter_le (fitsB p) (prodF p.ms); have h2 := take_len_le p.ms p.ms.length hpo.n4 (fun i hi => (hpo.mesh i hi).2.2.2); rw [List.take_length] at h2; exact Nat.le_trans h1 h2
theorem ends_cell {w : World} {q : Option Addr} {p : Pc} (h : RdLs w q ((truthsF p).map (endF p))) (hpo : PieceOk p) (ht : 0 < (truthsF p).length) (a : Nat) (ha : a ≤ p.ms.length) :
    ∃ b off, q = some ⟨b, off, none⟩ ∧ ∀ i, i < (truthsF p).length → ∃ b1 o1 c1, w.cell? ⟨b, off + i, none⟩ = some (.slice (some ⟨b1, o1, none⟩) (p.ms.length + 1) c1) ∧ w.cell? ⟨b1, o1 + a, none⟩ = some (.int .i64 (gi (endF p (gl (truthsF p) i)) a)) ∧ RdI w (some ⟨b1, o1, none⟩) (endF p (gl (truthsF p) i)) := by
  obtain ⟨b, off, rfl, hc⟩ := h.at (i := 0) (by rw [List.length_map]; exact ht); refine ⟨b, off, rfl, fun i hi => ?_⟩; obtain ⟨qk, ck, s0, sr⟩ := hc i (by rw [List.length_map]; exact hi); have hgl : gl ((truthsF p).map (endF p)) i = endF p (gl (truthsF p) i) := by rw [gl_get _ _ (by rw [List.length_map]; exact hi), List.getElem_map, ← gl_get _ _ hi]
  have hel : (endF p (gl (truthsF p) i)).length = p.ms.length + 1 := by rw [end_len (truthOk hpo i hi).pos, (truthOk hpo i hi).len]
  rw [hgl] at s0 sr; rw [hel] at s0; obtain ⟨b1, o1, rfl, hc1⟩ := sr.at (i := a) (by rw [hel]; omega); exact ⟨b1, o1, ck, s0, hc1 a (by rw [hel]; omega), sr⟩
end Go.Proofs.YtlednchfifphgabGreatDoor
end

section
namespace Go.Proofs.YtlednchfifphgabGreatDoor
open Go Go.RowKit Go.Proofs
set_option linter.unusedVariables false
set_option linter.unusedSimpArgs false
attribute [local go_sem] imax2 imin2

def HullPost (L : List (Int × Int)) (n : Nat) (w : World) (e : Ending) (w' : World) : Prop := ∃ v, e = .returned v ∧ w'.ownsRow w.heap.size 36 2 v n (spV L) ∧ Below w.heap.size w w'
def RdsPost (L : List (Int × Int)) (w : World) (e : Ending) (w' : World) : Prop := ∃ q c, e = .returned (.slice q L.length c) ∧ RdS w' q L ∧ Below w.heap.size w w'
set_option maxHeartbeats 1600000 in
set_option maxRecDepth 100000 in
theorem r_hullsO (q : Option Addr) (c : Nat) (ls : List (List Int)) (n : Nat) (w : World) (hr : RdLs w q ls) (h0 : 0 < ls.length) (hl : ls.length ≤ 100000) (hn : ∀ i, i < ls.length → (gl ls i).length = n) (hn2 : n ≤ 1000) :
    Calls Tryz.prog 83 #[.slice q ls.length c] w (HullPost (hullsF ls n) n w) := by
  obtain ⟨i0, hi0, hz0, hz1, hz2⟩ := info_parts infSp; obtain ⟨b, off, rfl, hc⟩ := hr.at h0; obtain ⟨q0, c0, s0, r0⟩ := hc 0 h0; rw [hn 0 h0, Nat.add_zero] at s0; have HS0 := Lib.hid s0; have HR0 := Lib.hid r0; have HC := Lib.hid hc; have HNN := Lib.hid hn; have hl0 : (0 : Int) < (ls.length : Int) := by omega
  clear hr hc r0 s0 hn
  go_enter Tryz.func83, Tryz.ntmps83
  go_wp2
  go_loopw [3, 4] (fun v i wr => ∃ k : Nat, k ≤ n ∧ i = .int .i64 k ∧ Hid (wr.ownsRow w.heap.size 36 2 v k (spV (hullsF ls k))) ∧ Hid (Below w.heap.size w wr)) (fun _ i _ => n - (intOf i).toNat)
  case atStart => exact ⟨0, Nat.zero_le _, rfl, Lib.hid (World.ownsRow_nil _ _ _ _), Lib.hid (Below.refl _ _)⟩
  case round =>
    obtain ⟨k, hk, rfl, HO, HN⟩ := hrel; have s0 := (HN.out.cell (lt_of_cellq HS0.out)).trans HS0.out
    by_cases hlt : k < n
    · have hki : (k : Int) < (n : Int) := by omega
      have h0k : (0 : Int) ≤ (k : Int) := by omega
      obtain ⟨b0, o0, rfl, hc0⟩ := HR0.out.at (i := k) (by rw [HNN.out 0 h0]; exact hlt); have d0 := hc0 k (by rw [HNN.out 0 h0]; exact hlt); have d0 := (HN.out.cell (lt_of_cellq d0)).trans d0; have HH1 := Lib.hid (hullTo_one ls k h0); obtain ⟨A, hA⟩ : ∃ A, gi (gl ls 0) k = A := ⟨_, rfl⟩; rw [hA] at d0 HH1; clear hc0 hA; obtain ⟨wn, rfl⟩ : ∃ wn : World, wn = wr := ⟨_, rfl⟩; go_wp2; have HSB := Lib.hid (cl2 s0 d0); refine held2 s0 d0 (fun W0 HB0 => ?_); refine tk 0 rfl (by exact HSB.out _ HB0) ?_; (try simp only [Act.put, ptL]); refine tk 1 rfl (by exact HSB.out _ HB0) ?_; (try simp only [Act.put, ptL]); refine tk 2 rfl (by exact HSB.out _ HB0) ?_; (try simp only [Act.put, ptL]); refine tk 3 rfl (by exact HSB.out _ HB0) ?_; (try simp only [Act.put, ptL]); refine tk 4 rfl (by exact HSB.out _ HB0) ?_; (try simp only [Act.put, ptL]); refine tk 5 rfl (by exact HSB.out _ HB0) ?_; (try simp only [Act.put, ptL]); refine tk 6 rfl (by exact HSB.out _ HB0) ?_; (try simp only [Act.put, ptL]); refine tk 7 rfl (by exact HSB.out _ HB0) ?_; (try simp only [Act.put, ptL]); refine tk 8 rfl (by exact HSB.out _ HB0) ?_; (try simp only [Act.put, ptL]); refine tk 9 rfl (by exact HSB.out _ HB0) ?_; (try simp only [Act.put, ptL]); refine tk 10 rfl (by exact HSB.out _ HB0) ?_; (try simp only [Act.put, ptL]); refine tk 11 rfl (by exact HSB.out _ HB0) ?_; (try simp only [Act.put, ptL]); refine tk 12 rfl (by exact HSB.out _ HB0) ?_; (try simp only [Act.put, ptL])
      refine rz1 13 rfl ?_; intro K hK; go_simp; refine kz hK (by exact HSB.out _ (HB0.alloc HB0.size _)) ?_; clear hK K; (try simp only [Act.put, ptL]); refine wpAnyH_gen (fun W1 hW1 => ?_); have hB1 : Below wn.heap.size wn W1 := by rw [hW1]; exact HB0.alloc HB0.size _
      have hx : W1.heap[W0.heap.size]? = some (.cells #[.int .i64 0, .int .i64 0] 36 (0, 0)) := by rw [hW1]; exact alloc_new _ _
      have hBl := HB0.size; obtain ⟨B, hB⟩ : ∃ B, W0.heap.size = B := ⟨_, rfl⟩; rw [hB] at hx hBl ⊢; clear hW1 hB; obtain ⟨w5, w6, t1, t2, ⟨x0, f0⟩, ⟨x1, f1⟩, hx4, hxk, HZ6, hxb⟩ := set2 W1 B 36 _ _ (.int .i64 A) (.int .i64 A) hx; have hB6 : Below wn.heap.size wn w6 := hxb wn wn.heap.size hBl hB1; refine rz1 14 rfl ?_; intro K hK; go_simp; refine kz hK (by exact HSB.out _ hB6) ?_; clear hK K; (try simp only [Act.put, ptL]); refine wpAnyH_done (by kernel_rfl) ?_ _; have HO6 := Lib.hid (show w6.heap[B]? = some (.cells #[.int .i64 (hullTo ls k 1).1, .int .i64 (hullTo ls k 1).2] 36 (0, 0)) by rw [HH1.out]; exact hx4); have HX6 := Lib.hid hB6; have HBL := Lib.hid hBl; clear t1 t2 x0 f0 x1 f1 hx4 hxk HZ6 hxb hB6 hBl hB1 hx HSB HB0; go_wp2
      go_loopw [6] (fun i wr => ∃ m : Nat, 1 ≤ m ∧ m ≤ ls.length ∧ i = .int .i64 m ∧ Hid (wr.heap[B]? = some (.cells #[.int .i64 (hullTo ls k m).1, .int .i64 (hullTo ls k m).2] 36 (0, 0))) ∧ Hid (Below wn.heap.size wn wr)) (fun i _ => ls.length - (intOf i).toNat)
      case atStart => exact ⟨1, Nat.le_refl _, h0, rfl, HO6, HX6⟩
      case round =>
        obtain ⟨m, hm1, hm, rfl, HOM, HX⟩ := hrel
        by_cases hlt2 : m < ls.length
        · have hmi : (m : Int) < (ls.length : Int) := by omega
          obtain ⟨qm, cm, s1, r1⟩ := HC.out m hlt2; rw [HNN.out m hlt2] at s1; obtain ⟨b1, o1, rfl, hc1⟩ := r1.at (i := k) (by rw [HNN.out m hlt2]; exact hlt); have d1 := hc1 k (by rw [HNN.out m hlt2]; exact hlt); have hbw : Below w.heap.size w wr := HN.out.trans (HX.out.mono HN.out.size); have s1 := (hbw.cell (lt_of_cellq s1)).trans s1; have d1 := (hbw.cell (lt_of_cellq d1)).trans d1; obtain ⟨y0, y1⟩ := cells2 HOM.out; have HHS := Lib.hid (hullTo_succ ls k m (by omega) hlt2); obtain ⟨A1, hA1⟩ : ∃ A, gi (gl ls m) k = A := ⟨_, rfl⟩; obtain ⟨L, hL⟩ : ∃ A, (hullTo ls k m).1 = A := ⟨_, rfl⟩; obtain ⟨U, hU⟩ : ∃ A, (hullTo ls k m).2 = A := ⟨_, rfl⟩; rw [hA1] at d1 HHS; rw [hL] at y0 HHS HOM; rw [hU] at y1 HHS HOM; have hwm : IntKind.i64.wrap ((m : Int) + 1) = (m : Int) + 1 := w64 _ (by omega) (by omega); clear hc1 r1 hbw hA1 hL hU; go_wp2; refine wp_region_below_tail 20 (by kernel_rfl) (by kernel_rfl) ?_; simp only [List.take_succ_cons, List.take_zero, List.drop_succ_cons, List.drop_zero]; (repeat (first | ((with_reducible first | apply wq_fg faP0 | apply wq_fg faP1 | apply wq_fg faP2 | apply wq_fg faM0 | apply wq_fg faS0 | apply wq_fg faS1 | apply wq_fg faR0 | apply wq_fg faR1 | apply wq_fg faR2 | apply wq_fg faR3 | apply wq_fg faT0 | apply wq_fg faT1 | apply wq_fg faQ0 | apply wq_fg faQ1 | apply wq_fg faH0 | apply wq_fg faH1 | apply wq_fg faH2 | apply wq_fg faH3); (focus rfl); (focus rfl); go_frame) | ((with_reducible first | apply wq_ix Tryz.underlying23 szI | apply wq_ix Tryz.underlying27 szSp | apply wq_ix Tryz.underlying22 szM | apply wq_ix Tryz.underlying24 szR | apply wq_ix Tryz.underlying43 szL | apply wq_ix Tryz.underlying103 szT); (focus rfl); (focus rfl); (focus rfl); (focus omega); (try simp only [Nat.mul_one]); go_frame) | ((with_reducible first | apply wq_ld agI | apply wq_ld agB | apply wq_ld agLI | apply wq_ld agLS | apply wq_ld agLM | apply wq_ld agLR | apply wq_ld agLL | apply wq_ld agLT); (focus rfl); (focus rfl); (focus (intro _ hbq; first | exact (hbq.cell (lt_of_cellq y0)).trans y0 | exact (hbq.cell (lt_of_cellq y1)).trans y1 | exact (hbq.cell (lt_of_cellq s1)).trans s1 | exact (hbq.cell (lt_of_cellq d1)).trans d1)); go_frame) | ((with_reducible first | apply wq_add | apply wq_sub | apply wq_mul | apply wq_rem); (focus rfl); (focus rfl); (focus rfl); (focus omega); (focus omega); go_frame) | ((with_reducible first | apply wq_eql | apply wq_neq | apply wq_lss | apply wq_leq | apply wq_gtr | apply wq_geq | apply wq_max2 | apply wq_min2); (focus rfl); (focus rfl); (focus rfl); go_frame) | ((with_reducible first | apply wq_max3 | apply wq_min3); (focus rfl); (focus rfl); (focus rfl); (focus rfl); go_frame) | go_big_quiet_step (fail))); refine wpQuiet_nil ?_; intro wq hbq
          have hox := (hbq.block _ (block_lt HOM.out)).trans HOM.out; obtain ⟨w5, w6, t1, t2, ⟨x0, f0⟩, ⟨x1, f1⟩, hx4, hxk, HZ6, hxb⟩ := set2 wq B 36 _ _ (.int .i64 (min L A1)) (.int .i64 (max U A1)) hox; have HX7 := Lib.hid (hxb wn wn.heap.size HBL.out (HX.out.trans (hbq.mono HX.out.size))); have HO7 := Lib.hid (show w6.heap[B]? = some (.cells #[.int .i64 (hullTo ls k (m + 1)).1, .int .i64 (hullTo ls k (m + 1)).2] 36 (0, 0)) by rw [HHS.out]; exact hx4); clear hx4 hxk hxb hox hbq y0 y1 s1 d1; go_wp2; go_roundw
          case rel => exact ⟨m + 1, by omega, by omega, by go_num, HO7, HX7⟩
          case measure => simp [intOf]; omega
        · obtain rfl : m = ls.length := by omega
          have hmi : ¬ (ls.length : Int) < (ls.length : Int) := by omega
          obtain ⟨y0, y1⟩ := cells2 HOM.out; have HO1 := Lib.hid (own_kept HO.out HX.out); have HT := Lib.hid (show spV (hullsF ls (k + 1)) = spV (hullsF ls k) ++ [.int .i64 (hullTo ls k ls.length).1, .int .i64 (hullTo ls k ls.length).2] by rw [hullsF_succ, spV_append, spV_one]); have HBN := Lib.hid (HN.out.trans (HX.out.mono HN.out.size)); obtain ⟨L, hL⟩ : ∃ A, (hullTo ls k ls.length).1 = A := ⟨_, rfl⟩; obtain ⟨U, hU⟩ : ∃ A, (hullTo ls k ls.length).2 = A := ⟨_, rfl⟩; rw [hL] at y0 HT; rw [hU] at y1 HT; have hwk : IntKind.i64.wrap ((k : Int) + 1) = (k : Int) + 1 := w64 _ (by omega) (by omega); clear hL hU; go_wp2_with (at_builtin; refine wpList_append_own _ rfl _ _ 27 rfl w.heap.size 36 i0 _ 2 16 Tryz.underlying27 hi0 hz0 hz1 hz2 rfl (by decide) _ _ _ rfl (HO1.out.alloc _) ⟨wr.heap.size, 0, none⟩ 1 1 [.int .i64 L, .int .i64 U] rfl rfl ?n1 ?n2 ?n3 ?n4 ?n5 ?_)
          case n2 => exact ⟨rfl, rfl⟩
          case n3 => unfold maxLen; omega
          case n4 => omega
          case n5 => have := HBN.out.size; simp; omega
          intro v3 w7 hown3 hgrow3 _; have HB7 := Lib.hid ((HBN.out.alloc HBN.out.size (.cells #[.int .i64 L, .int .i64 U] 36)).grown hgrow3 (by have := HBN.out.size; simp; omega) (fun j hj => (HO1.out.lt j hj).1)); have HO7 := Lib.hid hown3; clear hown3 hgrow3; go_wp2; go_roundw
          case rel => exact ⟨k + 1, by omega, by go_num, by rw [HT.out]; exact HO7, HB7⟩
          case measure => simp [intOf]; omega
    · obtain rfl : k = n := by omega
      have hki : ¬ (k : Int) < (k : Int) := by omega
      go_wp2; go_ret; exact ⟨_, rfl, HO.out, HN.out⟩
theorem r_hulls (q : Option Addr) (c : Nat) (ls : List (List Int)) (n : Nat) (w : World) (hr : RdLs w q ls) (h0 : 0 < ls.length) (hl : ls.length ≤ 100000) (hn : ∀ i, i < ls.length → (gl ls i).length = n) (hn2 : n ≤ 1000) :
    Calls Tryz.prog 83 #[.slice q ls.length c] w (RdsPost (hullsF ls n) w) := by
  refine (r_hullsO q c ls n w hr h0 hl hn hn2).mono fun e w' h => ?_
  obtain ⟨v, rfl, ho, hb⟩ := h; have hlen : (hullsF ls n).length = n := hullsF_len ls n; obtain ⟨qr, cr, rfl, hrd⟩ := rds_of_own (ss := hullsF ls n) (by rw [hlen]; exact ho); exact ⟨qr, cr, rfl, hrd, hb⟩
end Go.Proofs.YtlednchfifphgabGreatDoor
end

section
namespace Go.Proofs.YtlednchfifphgabGreatDoor
open Go Go.RowKit Go.Proofs
set_option linter.unusedVariables false
set_option linter.unusedSimpArgs false
attribute [local go_sem] imax2 imin2

def ShPost (s : Int × Int) (w : World) (e : Ending) (w' : World) : Prop := e = .returned (.agg #[.int .i64 s.1, .int .i64 s.2]) ∧ Below w.heap.size w w'
set_option maxHeartbeats 1600000 in
set_option maxRecDepth 100000 in
theorem r_Shown (h : Hd) (pe : Option Addr) (ce nn : Nat) (pc : Int) (w : World) (hE : RdS w pe h.er) (hh : HandOk nn h) (hr : -2800 ≤ pc ∧ pc ≤ 2400) :
    Calls Tryz.prog 30 #[hdV h pe ce, .int .i64 pc] w (ShPost (shownF h pc) w) := by
  unfold hdV; obtain ⟨w1, e1, HS1, q0, q1, q2, q3, b1⟩ := box4 w (.int .i64 h.arb) (.int .i64 h.num) (.int .i64 h.den) (.slice pe h.er.length ce) 29; have kb := alloc_new w1 (.cells #[.int .i64 0, .int .i64 0] 36); obtain ⟨w2, e2, HS2, _, _, b2⟩ := box2 w1 (.int .i64 0) (.int .i64 0) 36; rw [e2] at kb; have b12 := b1.trans (b2.mono b1.size); have q1 := (b2.cell (lt_of_cellq q1)).trans q1; have q2 := (b2.cell (lt_of_cellq q2)).trans q2; have q3 := (b2.cell (lt_of_cellq q3)).trans q3; obtain ⟨hr1, hr2⟩ := hr; obtain ⟨num, hnum⟩ : ∃ x : Int, h.num = x := ⟨_, rfl⟩; obtain ⟨den, hden⟩ : ∃ x : Int, h.den = x := ⟨_, rfl⟩; have hnu := hh.num; have hde := hh.den; have hle := hh.len; have har := atF_range hh (pc := pc) ⟨hr1, hr2⟩; have hsl := stepF_lt hh pc; have her := hh.err _ hsl
  have hst : (stepF h pc : Int) = (atF h pc % 21600 * h.er.length) / 21600 := by
    unfold stepF; refine Int.toNat_of_nonneg (Int.ediv_nonneg (Int.mul_nonneg (Int.emod_nonneg _ (by omega)) (by omega)) (by omega))
  have hatd : atF h pc = pc * num / den := by unfold atF; rw [hnum, hden]
  rw [hnum] at hnu q1; rw [hden] at hde q2
  have hp1 : -280000 ≤ pc * num := by
    have := Int.mul_le_mul_of_nonneg_right (a := -2800) (b := pc) (c := num) hr1 (by omega); omega
  have hp2 : pc * num ≤ 240000 := by
    have := Int.mul_le_mul_of_nonneg_right (a := pc) (b := 2400) (c := num) hr2 (by omega); omega
  obtain ⟨at_, hA⟩ : ∃ x : Int, atF h pc = x := ⟨_, rfl⟩; obtain ⟨s, hs⟩ : ∃ x : Nat, stepF h pc = x := ⟨_, rfl⟩; have HS := Lib.hid (show shownF h pc = (at_ + (gm h.er s).1, at_ + (gm h.er s).2) by unfold shownF; rw [hA, hs]); rw [hA] at har hst hatd; rw [hs] at hsl her hst; obtain ⟨bE, oE, rfl, hcE⟩ := (hE.below b12).at (i := s) hsl; obtain ⟨x0, x1⟩ := hcE s hsl; obtain ⟨L, hL⟩ : ∃ L : Nat, h.er.length = L := ⟨_, rfl⟩; rw [hL] at hsl hle hst q3 ⊢
  have HD1 := Lib.hid (fun W => show Calls Tryz.prog 81 #[.int .i64 (pc * num), .int .i64 den] W fun e w' => e = .returned (.int .i64 at_) ∧ W = w' by
    have h := r_down (pc * num) den W (by omega) (by omega) (by omega); rw [← hatd] at h; exact h)
  have hdm := Int.emod_add_mul_ediv at_ 21600; obtain ⟨D, hD⟩ : ∃ D : Int, at_ / 21600 = D := ⟨_, rfl⟩; obtain ⟨R, hR⟩ : ∃ R : Int, at_ % 21600 = R := ⟨_, rfl⟩; have hR0 : 0 ≤ R := by rw [← hR]; exact Int.emod_nonneg _ (by omega)
  have hR1 : R < 21600 := by rw [← hR]; exact Int.emod_lt_of_pos _ (by omega)
  have HD2 := Lib.hid (fun W => show Calls Tryz.prog 81 #[.int .i64 at_, .int .i64 21600] W fun e w' => e = .returned (.int .i64 D) ∧ W = w' by
    have h := r_down at_ 21600 W (by omega) (by omega) (by omega); rw [hD] at h; exact h)
  rw [hR] at hst hdm; rw [hD] at hdm; obtain ⟨E, hE2⟩ : ∃ E : Int, D * 21600 = E := ⟨_, rfl⟩; have hwE : IntKind.i64.wrap (D * 21600) = E := by rw [w64 _ (by omega) (by omega)]; exact hE2
  have hwR : IntKind.i64.wrap (at_ - E) = R := by rw [w64 _ (by omega) (by omega)]; omega
  have hRL0 : 0 ≤ R * (L : Int) := Int.mul_nonneg hR0 (by omega); have hRL1 : R * (L : Int) ≤ 21600 * (L : Int) := Int.mul_le_mul_of_nonneg_right (by omega) (by omega); have hwm : IntKind.i64.wrap (R * (L : Int)) = R * (L : Int) := w64 _ (by omega) (by omega); have hqd : (R * (L : Int)).tdiv 21600 = (s : Int) := by rw [Int.tdiv_eq_ediv_of_nonneg hRL0, hst]
  obtain ⟨lo, hlo⟩ : ∃ x : Int, (gm h.er s).1 = x := ⟨_, rfl⟩; obtain ⟨hi, hhi⟩ : ∃ x : Int, (gm h.er s).2 = x := ⟨_, rfl⟩; rw [hlo, hhi] at HS; rw [hlo] at x0 her; rw [hhi] at x1 her; have hw1 : IntKind.i64.wrap (at_ + lo) = at_ + lo := w64 _ (by omega) (by omega); have hw2 : IntKind.i64.wrap (at_ + hi) = at_ + hi := w64 _ (by omega) (by omega); have hsI : (s : Int) < (L : Int) := by omega
  have hws : IntKind.i64.wrap (s : Int) = (s : Int) := w64 _ (by omega) (by omega); have hs0 : (0 : Int) ≤ (s : Int) := by omega
  have hwp : IntKind.i64.wrap (pc * num) = pc * num := w64 _ (by omega) (by omega); have HRG := Lib.hid (show -280000 ≤ at_ ∧ at_ ≤ 240000 ∧ -30 ≤ lo ∧ lo ≤ hi ∧ hi ≤ 30 by omega); have HB := Lib.hid b12; have HKB := Lib.hid kb; have HZ := Lib.hid (show w.heap.size ≤ w1.heap.size ∧ w1.heap.size < w2.heap.size from ⟨b1.size, by have := HS2.out; omega⟩); rw [HS.out]; rw [hL] at e1; clear hatd hR kb b1 b2 b12 hcE hE hh hnum hden hA hs hL hlo hhi her hst har hde hle HS hr1 hr2 hR0 hR1 hRL0 hRL1 hnu hD hE2 hdm hp1 hp2 q0
  go_enter Tryz.func30, Tryz.ntmps30
  (go_wp2_with fail); refine (HD1.out _).mono ?_
  rintro e wn ⟨rfl, rfl⟩; clear e1 e2 q1 q2; go_wp2; have HSB := Lib.hid (cl1 q3); refine held1 q3 (fun W0 HB0 => ?_); refine tk 0 rfl (by exact HSB.out _ HB0) ?_; (try simp only [Act.put, ptL]); refine tk 1 rfl (by exact HSB.out _ HB0) ?_; (try simp only [Act.put, ptL]); refine tk 5 rfl (by exact HSB.out _ HB0) ?_; (try simp only [Act.put, ptL]); refine tk 6 rfl (by exact HSB.out _ HB0) ?_; (try simp only [Act.put, ptL]); refine tk 7 rfl (by exact HSB.out _ HB0) ?_; (try simp only [Act.put, ptL]); refine rz1 2 rfl ?_; intro K hK; go_simp; refine (HD2.out _).mono ?_; rintro e W1 ⟨rfl, rfl⟩; have HB1 := HB0; refine kz hK (by exact HSB.out _ HB1) ?_; clear hK K; (try simp only [Act.put, ptL]); refine tk 3 rfl (by exact HSB.out _ HB1) ?_; (try simp only [Act.put, ptL]); refine tk 4 rfl (by exact HSB.out _ HB1) ?_; (try simp only [Act.put, ptL]); refine tk 8 rfl (by exact HSB.out _ HB1) ?_; (try simp only [Act.put, ptL]); refine tk 9 rfl (by exact HSB.out _ HB1) ?_; (try simp only [Act.put, ptL]); refine tk 10 rfl (by exact HSB.out _ HB1) ?_; (try simp only [Act.put, ptL])
  refine wpAnyH_done (by kernel_rfl) ?_ _
  skip
  have q3 := (HB0.cell (lt_of_cellq q3)).trans q3; have x0 := (HB0.cell (lt_of_cellq x0)).trans x0; have x1 := (HB0.cell (lt_of_cellq x1)).trans x1; have HB02 := Lib.hid HB0; clear HSB HB0 HB1 hwE hwR hwm hqd hws hwp HD1 HD2; go_wp2; obtain ⟨g1, g2, g3, g4, g5⟩ := HRG.out; refine wp_region_below_tail 16 (by kernel_rfl) (by kernel_rfl) ?_; simp only [List.take_succ_cons, List.take_zero, List.drop_succ_cons, List.drop_zero]; (repeat (first | ((with_reducible first | apply wq_fg faP0 | apply wq_fg faP1 | apply wq_fg faP2 | apply wq_fg faM0 | apply wq_fg faS0 | apply wq_fg faS1 | apply wq_fg faR0 | apply wq_fg faR1 | apply wq_fg faR2 | apply wq_fg faR3 | apply wq_fg faT0 | apply wq_fg faT1 | apply wq_fg faQ0 | apply wq_fg faQ1 | apply wq_fg faH0 | apply wq_fg faH1 | apply wq_fg faH2 | apply wq_fg faH3); (focus rfl); (focus rfl); go_frame) | ((with_reducible first | apply wq_ix Tryz.underlying23 szI | apply wq_ix Tryz.underlying27 szSp | apply wq_ix Tryz.underlying22 szM | apply wq_ix Tryz.underlying24 szR | apply wq_ix Tryz.underlying43 szL | apply wq_ix Tryz.underlying103 szT); (focus rfl); (focus rfl); (focus rfl); (focus omega); (try simp only [Nat.mul_one]); go_frame) | ((with_reducible first | apply wq_ld agI | apply wq_ld agB | apply wq_ld agLI | apply wq_ld agLS | apply wq_ld agLM | apply wq_ld agLR | apply wq_ld agLL | apply wq_ld agLT); (focus rfl); (focus rfl); (focus (intro _ hbq; first | exact (hbq.cell (lt_of_cellq q3)).trans q3 | exact (hbq.cell (lt_of_cellq x0)).trans x0 | exact (hbq.cell (lt_of_cellq x1)).trans x1)); go_frame) | ((with_reducible first | apply wq_add | apply wq_sub | apply wq_mul | apply wq_rem); (focus rfl); (focus rfl); (focus rfl); (focus omega); (focus omega); go_frame) | ((with_reducible first | apply wq_eql | apply wq_neq | apply wq_lss | apply wq_leq | apply wq_gtr | apply wq_geq | apply wq_max2 | apply wq_min2); (focus rfl); (focus rfl); (focus rfl); go_frame) | ((with_reducible first | apply wq_max3 | apply wq_min3); (focus rfl); (focus rfl); (focus rfl); (focus rfl); go_frame) | go_big_quiet_step (fail))); refine wpQuiet_nil ?_; intro wq hbq
  have hb2 := HB02.out.trans (hbq.mono HB02.out.size); obtain ⟨w6, w7, s1, s2, ⟨c0', f0⟩, ⟨c1', f1⟩, hx4, hxk, HZ5, hxb⟩ := set2 wq w1.heap.size 36 _ _ (.int .i64 (at_ + lo)) (.int .i64 (at_ + hi)) ((hb2.block _ (block_lt HKB.out)).trans HKB.out); obtain ⟨r0, r1⟩ := cells2 hx4; have HBB := Lib.hid (hxb w w.heap.size HZ.out.1 (HB.out.trans (hb2.mono HB.out.size))); clear hx4 hxk hxb hb2 hbq; go_wp2; refine bodyPost_ret (v := .agg #[.int .i64 (at_ + lo), .int .i64 (at_ + hi)]) ?_ rfl ⟨rfl, HBB.out⟩; simp [results, Tryz.results30, go_sem, r0, r1]
theorem shown_at {p : Pc} (hpo : PieceOk p) {h : Hd} (hh : HandOk p.ms.length h) {pe : Option Addr} {ce : Nat} {w : World} (hE : RdS w pe h.er) {a : Nat} (ha : h.arb.toNat = a) (i : Nat) (hi : i < (truthsF p).length) :
    ∀ W, Below w.heap.size w W → Calls Tryz.prog 30 #[.agg #[.int .i64 h.arb, .int .i64 h.num, .int .i64 h.den, .slice pe h.er.length ce], .int .i64 (gi (endF p (gl (truthsF p) i)) a)] W (ShPost (shF p h (gl (truthsF p) i)) W) := fun W hb => by
  have h1 := hand_place hpo (truthOk hpo i hi) hh; have e : shF p h (gl (truthsF p) i) = shownF h (gi (endF p (gl (truthsF p) i)) a) := by unfold shF; rw [ha]
  rw [ha] at h1; rw [e]; exact r_Shown h pe ce _ _ W (hE.below hb) hh h1
end Go.Proofs.YtlednchfifphgabGreatDoor
end

section
namespace Go.Proofs.YtlednchfifphgabGreatDoor
open Go Go.RowKit
set_option linter.unusedVariables false
section
variable {P : Program} {ops : Array Oper} {Q : Exit → Act → World → Prop} {id : Nat} {a : Act} {w : World}
theorem cl11 {a0 a1 a2 a3 a4 a5 a6 a7 a8 a9 a10 : Addr} {v0 v1 v2 v3 v4 v5 v6 v7 v8 v9 v10 : Value} (h0 : w.cell? a0 = some v0) (h1 : w.cell? a1 = some v1) (h2 : w.cell? a2 = some v2) (h3 : w.cell? a3 = some v3) (h4 : w.cell? a4 = some v4) (h5 : w.cell? a5 = some v5) (h6 : w.cell? a6 = some v6) (h7 : w.cell? a7 = some v7) (h8 : w.cell? a8 = some v8) (h9 : w.cell? a9 = some v9) (h10 : w.cell? a10 = some v10) : ∀ w', Below w.heap.size w w' → w'.cell? a0 = some v0 ∧ w'.cell? a1 = some v1 ∧ w'.cell? a2 = some v2 ∧ w'.cell? a3 = some v3 ∧ w'.cell? a4 = some v4 ∧ w'.cell? a5 = some v5 ∧ w'.cell? a6 = some v6 ∧ w'.cell? a7 = some v7 ∧ w'.cell? a8 = some v8 ∧ w'.cell? a9 = some v9 ∧ w'.cell? a10 = some v10 := fun w' hb => ⟨(hb.cell (lt_of_cellq h0)).trans h0, (hb.cell (lt_of_cellq h1)).trans h1, (hb.cell (lt_of_cellq h2)).trans h2, (hb.cell (lt_of_cellq h3)).trans h3, (hb.cell (lt_of_cellq h4)).trans h4, (hb.cell (lt_of_cellq h5)).trans h5, (hb.cell (lt_of_cellq h6)).trans h6, (hb.cell (lt_of_cellq h7)).trans h7, (hb.cell (lt_of_cellq h8)).trans h8, (hb.cell (lt_of_cellq h9)).trans h9, (hb.cell (lt_of_cellq h10)).trans h10⟩
theorem held11 {a0 a1 a2 a3 a4 a5 a6 a7 a8 a9 a10 : Addr} {v0 v1 v2 v3 v4 v5 v6 v7 v8 v9 v10 : Value} (h0 : w.cell? a0 = some v0) (h1 : w.cell? a1 = some v1) (h2 : w.cell? a2 = some v2) (h3 : w.cell? a3 = some v3) (h4 : w.cell? a4 = some v4) (h5 : w.cell? a5 = some v5) (h6 : w.cell? a6 = some v6) (h7 : w.cell? a7 = some v7) (h8 : w.cell? a8 = some v8) (h9 : w.cell? a9 = some v9) (h10 : w.cell? a10 = some v10)
    (k : ∀ W0, Below w.heap.size w W0 → wpAnyH P .any ops Q (fun w' => w'.cell? a0 = some v0 ∧ w'.cell? a1 = some v1 ∧ w'.cell? a2 = some v2 ∧ w'.cell? a3 = some v3 ∧ w'.cell? a4 = some v4 ∧ w'.cell? a5 = some v5 ∧ w'.cell? a6 = some v6 ∧ w'.cell? a7 = some v7 ∧ w'.cell? a8 = some v8 ∧ w'.cell? a9 = some v9 ∧ w'.cell? a10 = some v10) ops.size (Array.replicate ops.size false) a W0)
    (hm : P.follows .mixedOrders = true := by kernel_rfl) : (Code.region id ops true).wp P Q a w :=
  wp_region_held_drew (S := fun w' => w'.cell? a0 = some v0 ∧ w'.cell? a1 = some v1 ∧ w'.cell? a2 = some v2 ∧ w'.cell? a3 = some v3 ∧ w'.cell? a4 = some v4 ∧ w'.cell? a5 = some v5 ∧ w'.cell? a6 = some v6 ∧ w'.cell? a7 = some v7 ∧ w'.cell? a8 = some v8 ∧ w'.cell? a9 = some v9 ∧ w'.cell? a10 = some v10) hm (cl11 h0 h1 h2 h3 h4 h5 h6 h7 h8 h9 h10 _ (Below.refl _ _).drew) (fun _ => k _ (Below.refl _ _).drew)
theorem cl13 {a0 a1 a2 a3 a4 a5 a6 a7 a8 a9 a10 a11 a12 : Addr} {v0 v1 v2 v3 v4 v5 v6 v7 v8 v9 v10 v11 v12 : Value} (h0 : w.cell? a0 = some v0) (h1 : w.cell? a1 = some v1) (h2 : w.cell? a2 = some v2) (h3 : w.cell? a3 = some v3) (h4 : w.cell? a4 = some v4) (h5 : w.cell? a5 = some v5) (h6 : w.cell? a6 = some v6) (h7 : w.cell? a7 = some v7) (h8 : w.cell? a8 = some v8) (h9 : w.cell? a9 = some v9) (h10 : w.cell? a10 = some v10) (h11 : w.cell? a11 = some v11) (h12 : w.cell? a12 = some v12) : ∀ w', Below w.heap.size w w' → w'.cell? a0 = some v0 ∧ w'.cell? a1 = some v1 ∧ w'.cell? a2 = some v2 ∧ w'.cell? a3 = some v3 ∧ w'.cell? a4 = some v4 ∧ w'.cell? a5 = some v5 ∧ w'.cell? a6 = some v6 ∧ w'.cell? a7 = some v7 ∧ w'.cell? a8 = some v8 ∧ w'.cell? a9 = some v9 ∧ w'.cell? a10 = some v10 ∧ w'.cell? a11 = some v11 ∧ w'.cell? a12 = some v12 := fun w' hb => ⟨(hb.cell (lt_of_cellq h0)).trans h0, (hb.cell (lt_of_cellq h1)).trans h1, (hb.cell (lt_of_cellq h2)).trans h2, (hb.cell (lt_of_cellq h3)).trans h3, (hb.cell (lt_of_cellq h4)).trans h4, (hb.cell (lt_of_cellq h5)).trans h5, (hb.cell (lt_of_cellq h6)).trans h6, (hb.cell (lt_of_cellq h7)).trans h7, (hb.cell (lt_of_cellq h8)).trans h8, (hb.cell (lt_of_cellq h9)).trans h9, (hb.cell (lt_of_cellq h10)).trans h10, (hb.cell (lt_of_cellq h11)).trans h11, (hb.cell (lt_of_cellq h12)).trans h12⟩
theorem held13 {a0 a1 a2 a3 a4 a5 a6 a7 a8 a9 a10 a11 a12 : Addr} {v0 v1 v2 v3 v4 v5 v6 v7 v8 v9 v10 v11 v12 : Value} (h0 : w.cell? a0 = some v0) (h1 : w.cell? a1 = some v1) (h2 : w.cell? a2 = some v2) (h3 : w.cell? a3 = some v3) (h4 : w.cell? a4 = some v4) (h5 : w.cell? a5 = some v5) (h6 : w.cell? a6 = some v6) (h7 : w.cell? a7 = some v7) (h8 : w.cell? a8 = some v8) (h9 : w.cell? a9 = some v9) (h10 : w.cell? a10 = some v10) (h11 : w.cell? a11 = some v11) (h12 : w.cell? a12 = some v12)
    (k : ∀ W0, Below w.heap.size w W0 → wpAnyH P .any ops Q (fun w' => w'.cell? a0 = some v0 ∧ w'.cell? a1 = some v1 ∧ w'.cell? a2 = some v2 ∧ w'.cell? a3 = some v3 ∧ w'.cell? a4 = some v4 ∧ w'.cell? a5 = some v5 ∧ w'.cell? a6 = some v6 ∧ w'.cell? a7 = some v7 ∧ w'.cell? a8 = some v8 ∧ w'.cell? a9 = some v9 ∧ w'.cell? a10 = some v10 ∧ w'.cell? a11 = some v11 ∧ w'.cell? a12 = some v12) ops.size (Array.replicate ops.size false) a W0)
    (hm : P.follows .mixedOrders = true := by kernel_rfl) : (Code.region id ops true).wp P Q a w :=
  wp_region_held_drew (S := fun w' => w'.cell? a0 = some v0 ∧ w'.cell? a1 = some v1 ∧ w'.cell? a2 = some v2 ∧ w'.cell? a3 = some v3 ∧ w'.cell? a4 = some v4 ∧ w'.cell? a5 = some v5 ∧ w'.cell? a6 = some v6 ∧ w'.cell? a7 = some v7 ∧ w'.cell? a8 = some v8 ∧ w'.cell? a9 = some v9 ∧ w'.cell? a10 = some v10 ∧ w'.cell? a11 = some v11 ∧ w'.cell? a12 = some v12) hm (cl13 h0 h1 h2 h3 h4 h5 h6 h7 h8 h9 h10 h11 h12 _ (Below.refl _ _).drew) (fun _ => k _ (Below.refl _ _).drew)
end
end Go.Proofs.YtlednchfifphgabGreatDoor
end

section
namespace Go.Proofs.YtlednchfifphgabGreatDoor
open Go Go.RowKit Go.Proofs
set_option linter.unusedVariables false
set_option linter.unusedSimpArgs false
attribute [local go_sem] imax2 imin2

def apartR (p : Pc) (h k : Hd) (pl : List Int) : List Int := [(shF p h pl).1 - (shF p k pl).2, (shF p h pl).2 - (shF p k pl).1]
theorem apartR_hulls (p : Pc) (h k : Hd) : hullsF ((truthsF p).map (apartR p h k)) 2 = [ovF p fun pl => just ((shF p h pl).1 - (shF p k pl).2), ovF p fun pl => just ((shF p h pl).2 - (shF p k pl).1)] := by
  have e : ∀ i, hullTo ((truthsF p).map (apartR p h k)) i ((truthsF p).map (apartR p h k)).length = ovF p fun pl => just (gi (apartR p h k pl) i) := hullTo_map p (apartR p h k)
  unfold hullsF; simp only [List.range_succ, List.range_zero, List.nil_append, List.map_append, List.map_cons, List.map_nil, List.cons_append, e]
  rfl
theorem apart_ends (p : Pc) (h k : Hd) : ((ovF p fun pl => just ((shF p h pl).1 - (shF p k pl).2)).1, (ovF p fun pl => just ((shF p h pl).2 - (shF p k pl).1)).2) = apartF p h k := by
  have e1 := ov_fst p (apF p h k); have e2 := ov_snd p (apF p h k); unfold apartF; rw [Prod.ext_iff]; exact ⟨e1.symm, e2.symm⟩
set_option maxHeartbeats 6400000 in
set_option maxRecDepth 100000 in
theorem r_Apart (pm pv pr : Option Addr) (cm cv cr : Nat) (p : Pc) (q : Option Addr) (cq : Nat) (h k : Hd) (pe pf : Option Addr) (ce cf : Nat) (w : World) (hp : RdP w pm pv pr p) (hq : RdLs w q (truthsF p)) (hpo : PieceOk p) (ht : truthsF p ≠ []) (hE : RdS w pe h.er) (hh : HandOk p.ms.length h) (hF : RdS w pf k.er) (hk : HandOk p.ms.length k) :
    Calls Tryz.prog 32 #[.agg #[.slice pm p.ms.length cm, .slice pv p.mv.length cv, .slice pr p.rs.length cr], .slice q (truthsF p).length cq, hdV h pe ce, hdV k pf cf] w (ShPost (apartF p h k) w) := by
  unfold hdV; obtain ⟨j0, hj0, hy0, hy1, hy2⟩ := info_parts infL; obtain ⟨w1, e1, HS1, k0, k1, k2, b1⟩ := box3 w (.slice pm p.ms.length cm) (.slice pv p.mv.length cv) (.slice pr p.rs.length cr) 26; obtain ⟨w2, e2, HS2, q0, q1, q2, q3, b2⟩ := box4 w1 (.int .i64 h.arb) (.int .i64 h.num) (.int .i64 h.den) (.slice pe h.er.length ce) 29; obtain ⟨w2', e2', HS2', p0, p1, p2, p3, b2'⟩ := box4 w2 (.int .i64 k.arb) (.int .i64 k.num) (.int .i64 k.den) (.slice pf k.er.length cf) 29; have kb := alloc_new w2' (.cells #[.int .i64 0, .int .i64 0] 36); obtain ⟨w3, e3, HS3, _, _, b3⟩ := box2 w2' (.int .i64 0) (.int .i64 0) 36; rw [e3] at kb; have b23' := b2'.trans (b3.mono b2'.size); have b23 := b2.trans (b23'.mono b2.size); have b13 := b1.trans (b23.mono b1.size); have k0 := (b23.cell (lt_of_cellq k0)).trans k0; have k1 := (b23.cell (lt_of_cellq k1)).trans k1; have k2 := (b23.cell (lt_of_cellq k2)).trans k2
  have q0 := (b23'.cell (lt_of_cellq q0)).trans q0; have q1 := (b23'.cell (lt_of_cellq q1)).trans q1; have q2 := (b23'.cell (lt_of_cellq q2)).trans q2; have q3 := (b23'.cell (lt_of_cellq q3)).trans q3; have p0 := (b3.cell (lt_of_cellq p0)).trans p0; have p1 := (b3.cell (lt_of_cellq p1)).trans p1; have p2 := (b3.cell (lt_of_cellq p2)).trans p2; have p3 := (b3.cell (lt_of_cellq p3)).trans p3; have HB := Lib.hid b13; have HKB := Lib.hid kb; have HZ := Lib.hid (show w.heap.size ≤ w2'.heap.size ∧ w2'.heap.size < w3.heap.size from ⟨Nat.le_trans b1.size (Nat.le_trans b2.size b2'.size), by have := HS3.out; omega⟩); have hEn := r_Ends pm pv pr cm cv cr p q cq (truthsF p) w3 (hp.below b13) (hq.below b13) hpo (truthOk hpo) (by have := truthsFew hpo; omega); have HE := Lib.hid (hE.below b13); have HF := Lib.hid (hF.below b13); have HPO := Lib.hid hpo; have HH := Lib.hid hh; have HK := Lib.hid hk; have HT := Lib.hid (List.length_pos_iff.2 ht)
  have htl := truthsFew hpo; have hn4 := hpo.n4; obtain ⟨a, hab⟩ : ∃ a : Nat, h.arb = (a : Int) := ⟨h.arb.toNat, by have := hh.arb; omega⟩; have HAT := Lib.hid (show h.arb.toNat = a by rw [hab]; rfl); have hlt : a ≤ p.ms.length := by have := hh.arb; omega
  obtain ⟨c, hac⟩ : ∃ c : Nat, k.arb = (c : Int) := ⟨k.arb.toNat, by have := hk.arb; omega⟩; have HCT := Lib.hid (show k.arb.toNat = c by rw [hac]; rfl); have hlc : c ≤ p.ms.length := by have := hk.arb; omega
  have HAB := Lib.hid hab; have HAC := Lib.hid hac; rw [hab] at q0 e2; rw [hac] at p0 e2'; clear hp hq hpo ht hE hh hF hk b1 b2 b2' b3 b23 b23' b13 kb; rw [hab, hac]; clear hab hac
  go_enter Tryz.func32, Tryz.ntmps32
  (go_wp2_with fail); refine hEn.mono ?_
  rintro e w4 ⟨q2', c2, rfl, hr, bq⟩; rw [List.length_map]; have HB4 := Lib.hid bq; have HQ4 := Lib.hid (And.intro ((bq.cell (lt_of_cellq q0)).trans q0) (And.intro ((bq.cell (lt_of_cellq q1)).trans q1) (And.intro ((bq.cell (lt_of_cellq q2)).trans q2) ((bq.cell (lt_of_cellq q3)).trans q3)))); have HP4 := Lib.hid (And.intro ((bq.cell (lt_of_cellq p0)).trans p0) (And.intro ((bq.cell (lt_of_cellq p1)).trans p1) (And.intro ((bq.cell (lt_of_cellq p2)).trans p2) ((bq.cell (lt_of_cellq p3)).trans p3)))); have HE4 := Lib.hid (HE.out.below bq); have HF4 := Lib.hid (HF.out.below bq); obtain ⟨bl, ol, rfl, hc⟩ := ends_cell hr HPO.out HT.out a hlt; have HC := Lib.hid hc; obtain ⟨bl', ol', hbl', hc'⟩ := ends_cell hr HPO.out HT.out c hlc
  cases hbl'
  have HC2 := Lib.hid hc'; have hai : (a : Int) < (p.ms.length : Int) + 1 := by omega
  have ha0 : (0 : Int) ≤ (a : Int) := by omega
  have hci : (c : Int) < (p.ms.length : Int) + 1 := by omega
  have hc0 : (0 : Int) ≤ (c : Int) := by omega
  clear hr hc hc' bq e1 e2 e2' e3 hEn k0 k1 k2 q0 q1 q2 q3 p0 p1 p2 p3; go_wp2
  go_loopw [10, 11] (fun v i wr => ∃ k' : Nat, k' ≤ (truthsF p).length ∧ i = .int .i64 k' ∧ Hid (OwLs wr w4.heap.size v (((truthsF p).take k').map (apartR p h k))) ∧ Hid (Below w4.heap.size w4 wr)) (fun _ i _ => (truthsF p).length - (intOf i).toNat)
  case atStart => exact ⟨0, Nat.zero_le _, rfl, Lib.hid (OwLs.nil _ _), Lib.hid (Below.refl _ _)⟩
  case round =>
    obtain ⟨i, hi, rfl, HO, HN⟩ := hrel
    by_cases hltk : i < (truthsF p).length
    · have hki : (i : Int) < ((truthsF p).length : Int) := by omega
      have q0 := (HN.out.cell (lt_of_cellq HQ4.out.1)).trans HQ4.out.1; have q1 := (HN.out.cell (lt_of_cellq HQ4.out.2.1)).trans HQ4.out.2.1; have q2 := (HN.out.cell (lt_of_cellq HQ4.out.2.2.1)).trans HQ4.out.2.2.1; have q3 := (HN.out.cell (lt_of_cellq HQ4.out.2.2.2)).trans HQ4.out.2.2.2; have p0 := (HN.out.cell (lt_of_cellq HP4.out.1)).trans HP4.out.1; have p1 := (HN.out.cell (lt_of_cellq HP4.out.2.1)).trans HP4.out.2.1; have p2 := (HN.out.cell (lt_of_cellq HP4.out.2.2.1)).trans HP4.out.2.2.1; have p3 := (HN.out.cell (lt_of_cellq HP4.out.2.2.2)).trans HP4.out.2.2.2; obtain ⟨b1, o1, c1, s0, d0, _⟩ := HC.out i hltk; obtain ⟨b1', o1', c1', s0', d1, _⟩ := HC2.out i hltk
      obtain ⟨rfl, rfl, rfl⟩ : b1' = b1 ∧ o1' = o1 ∧ c1' = c1 := by
        rw [s0] at s0'
        cases s0'
        exact ⟨rfl, rfl, rfl⟩
      have s0 := (HN.out.cell (lt_of_cellq s0)).trans s0; have d0 := (HN.out.cell (lt_of_cellq d0)).trans d0; have d1 := (HN.out.cell (lt_of_cellq d1)).trans d1
      have HSK := Lib.hid (show ∀ W, Below wr.heap.size wr W → Calls Tryz.prog 30 #[.agg #[.int .i64 (a : Int), .int .i64 h.num, .int .i64 h.den, .slice pe h.er.length ce], .int .i64 (gi (endF p (gl (truthsF p) i)) a)] W (ShPost (shF p h (gl (truthsF p) i)) W) by
        have h1 := shown_at (ce := ce) HPO.out HH.out (HE4.out.below HN.out) HAT.out i hltk; rw [HAB.out] at h1; exact h1)
      have HSF := Lib.hid (show ∀ W, Below wr.heap.size wr W → Calls Tryz.prog 30 #[.agg #[.int .i64 (c : Int), .int .i64 k.num, .int .i64 k.den, .slice pf k.er.length cf], .int .i64 (gi (endF p (gl (truthsF p) i)) c)] W (ShPost (shF p k (gl (truthsF p) i)) W) by
        have h1 := shown_at (ce := cf) HPO.out HK.out (HF4.out.below HN.out) HCT.out i hltk; rw [HAC.out] at h1; exact h1)
      have hp1 := sh_plain HPO.out HH.out (pl := gl (truthsF p) i) (by rw [gl_get _ _ hltk]; exact List.getElem_mem hltk); have hp2 := sh_plain HPO.out HK.out (pl := gl (truthsF p) i) (by rw [gl_get _ _ hltk]; exact List.getElem_mem hltk); have HTK := Lib.hid (take_step (truthsF p) i hltk); have HGK := Lib.hid (gl_get (truthsF p) i hltk); have HLR := Lib.hid (show apartR p h k (gl (truthsF p) i) = [(shF p h (gl (truthsF p) i)).1 - (shF p k (gl (truthsF p) i)).2, (shF p h (gl (truthsF p) i)).2 - (shF p k (gl (truthsF p) i)).1] from rfl); have hlk : (((truthsF p).take i).map (apartR p h k)).length = i := by rw [List.length_map, List.length_take]; omega
      obtain ⟨hs, ho, he⟩ := HO.out; rw [hlk] at ho; have HO1 := Lib.hid ho; have HE1 := Lib.hid he; have HLK := Lib.hid hlk; obtain ⟨T, hT⟩ : ∃ T, gl (truthsF p) i = T := ⟨_, rfl⟩; rw [hT] at d0 d1 HSK HSF hp1 hp2 HGK HLR; obtain ⟨G1, hG1⟩ : ∃ x, gi (endF p T) a = x := ⟨_, rfl⟩; obtain ⟨G2, hG2⟩ : ∃ x, gi (endF p T) c = x := ⟨_, rfl⟩; obtain ⟨L1, hL1⟩ : ∃ x, (shF p h T).1 = x := ⟨_, rfl⟩; obtain ⟨U1, hU1⟩ : ∃ x, (shF p h T).2 = x := ⟨_, rfl⟩; obtain ⟨L2, hL2⟩ : ∃ x, (shF p k T).1 = x := ⟨_, rfl⟩; obtain ⟨U2, hU2⟩ : ∃ x, (shF p k T).2 = x := ⟨_, rfl⟩; unfold ShPost at HSK HSF; rw [hG1] at d0 HSK; rw [hG2] at d1 HSF; rw [hL1, hU1] at HSK hp1; rw [hL2, hU2] at HSF hp2; rw [hL1, hU1, hL2, hU2] at HLR; have hw1 : IntKind.i64.wrap (L1 - U2) = L1 - U2 := w64 _ (by omega) (by omega); have hw2 : IntKind.i64.wrap (U1 - L2) = U1 - L2 := w64 _ (by omega) (by omega); have hwk : IntKind.i64.wrap ((i : Int) + 1) = (i : Int) + 1 := w64 _ (by omega) (by omega)
      clear hG1 hG2 hL1 hU1 hL2 hU2 hT ho he hlk hp1 hp2 HC HC2; go_wp2; have HSB := Lib.hid (cl11 q0 q1 q2 q3 p0 p1 p2 p3 s0 d0 d1); refine held11 q0 q1 q2 q3 p0 p1 p2 p3 s0 d0 d1 (fun W0 HB0 => ?_); refine tk 0 rfl (by exact HSB.out _ HB0) ?_; (try simp only [Act.put, ptL]); refine tk 1 rfl (by exact HSB.out _ HB0) ?_; (try simp only [Act.put, ptL]); refine tk 2 rfl (by exact HSB.out _ HB0) ?_; (try simp only [Act.put, ptL]); refine tk 3 rfl (by exact HSB.out _ HB0) ?_; (try simp only [Act.put, ptL]); refine tk 4 rfl (by exact HSB.out _ HB0) ?_; (try simp only [Act.put, ptL]); refine tk 5 rfl (by exact HSB.out _ HB0) ?_; (try simp only [Act.put, ptL]); refine tk 6 rfl (by exact HSB.out _ HB0) ?_; (try simp only [Act.put, ptL]); refine tk 7 rfl (by exact HSB.out _ HB0) ?_; (try simp only [Act.put, ptL]); refine tk 8 rfl (by exact HSB.out _ HB0) ?_; (try simp only [Act.put, ptL]); refine tk 10 rfl (by exact HSB.out _ HB0) ?_; (try simp only [Act.put, ptL]); refine tk 11 rfl (by exact HSB.out _ HB0) ?_; (try simp only [Act.put, ptL]); refine tk 12 rfl (by exact HSB.out _ HB0) ?_; (try simp only [Act.put, ptL]); refine tk 13 rfl (by exact HSB.out _ HB0) ?_; (try simp only [Act.put, ptL]); refine tk 14 rfl (by exact HSB.out _ HB0) ?_; (try simp only [Act.put, ptL]); refine tk 15 rfl (by exact HSB.out _ HB0) ?_; (try simp only [Act.put, ptL]); refine tk 16 rfl (by exact HSB.out _ HB0) ?_; (try simp only [Act.put, ptL]); refine tk 17 rfl (by exact HSB.out _ HB0) ?_; (try simp only [Act.put, ptL]); refine tk 18 rfl (by exact HSB.out _ HB0) ?_; (try simp only [Act.put, ptL])
      refine rz3 9 20 21 rfl rfl rfl ?_ ?_ ?_
      focus
        intro K hK; go_simp; refine (HSK.out _ HB0).mono ?_; rintro e W19 ⟨rfl, hbn⟩; have HB19 : Below wr.heap.size wr W19 := HB0.trans (hbn.mono HB0.size); clear hbn; go_simp; refine kz hK (by exact HSB.out _ HB19) ?_; clear hK K; (try simp only [Act.put, ptL]); clear HB0; refine rz3 19 20 21 rfl rfl rfl ?_ ?_ ?_
        focus
          intro K hK; go_simp; refine (HSF.out _ HB19).mono ?_; rintro e W20 ⟨rfl, hbn⟩; have HB20 : Below wr.heap.size wr W20 := HB19.trans (hbn.mono HB19.size); clear hbn; go_simp; refine kz hK (by exact HSB.out _ HB20) ?_; clear hK K; (try simp only [Act.put, ptL]); clear HB19; refine rz2 20 21 rfl rfl ?_ ?_
          focus
            intro K hK; go_simp; refine kz hK (by exact HSB.out _ (HB20.alloc HB20.size _)) ?_; clear hK K; (try simp only [Act.put, ptL]); refine wpAnyH_gen (fun W21 hWn => ?_); have HB21 : Below wr.heap.size wr W21 := by rw [hWn]; exact HB20.alloc HB20.size _
            have hx_s : W21.heap[W20.heap.size]? = some (.cells #[.int .i64 0, .int .i64 0] 36) := by rw [hWn]; exact alloc_new _ _
            have hl_s : wr.heap.size ≤ W20.heap.size := HB20.size; clear hWn; obtain ⟨b_s, hb_s⟩ : ∃ b, W20.heap.size = b := ⟨_, rfl⟩; rw [hb_s] at hx_s hl_s ⊢; clear HB20 hb_s; refine rz1 21 rfl ?_; intro K hK; go_simp; refine kz hK (by exact HSB.out _ (HB21.alloc HB21.size _)) ?_; clear hK K; (try simp only [Act.put, ptL]); refine wpAnyH_gen (fun W22 hWn => ?_); have HB22 : Below wr.heap.size wr W22 := by rw [hWn]; exact HB21.alloc HB21.size _
            have hlt_s := block_lt hx_s; have hx_s : W22.heap[b_s]? = some (.cells #[.int .i64 0, .int .i64 0] 36) := by rw [hWn]; exact alloc_old _ _ hx_s
            have hx_t : W22.heap[W21.heap.size]? = some (.cells #[.int .i64 0, .int .i64 0] 36) := by rw [hWn]; exact alloc_new _ _
            have hl_t : wr.heap.size ≤ W21.heap.size := HB21.size; clear hWn; obtain ⟨b_t, hb_t⟩ : ∃ b, W21.heap.size = b := ⟨_, rfl⟩; rw [hb_t] at hx_t hl_t ⊢; have hn_s_t : b_s ≠ b_t := by have := hlt_s; omega
            clear HB21 hb_t hlt_s; refine rz1 22 rfl ?_; intro K hK; refine set2K W22 b_s 36 _ _ (.int .i64 L1) (.int .i64 U1) hx_s (fun wa23 W23 sa sb ca0 fa0 ca1 fa1 hx4 hxk HZs hxb => ?_); have HB23 : Below wr.heap.size wr W23 := hxb wr wr.heap.size hl_s HB22; have hx_t := (hxk b_t (by first | exact hn_t_s | exact Ne.symm hn_s_t)).trans hx_t; have hx_s := hx4; clear hx4 hxk hxb HZs; go_simp; refine kz hK (by exact HSB.out _ HB23) ?_; clear hK K; (try simp only [Act.put, ptL]); clear ca0 fa0 ca1 fa1 sa sb HB22; refine rz1 23 rfl ?_; intro K hK; refine set2K W23 b_t 36 _ _ (.int .i64 L2) (.int .i64 U2) hx_t (fun wa24 W24 sa sb ca0 fa0 ca1 fa1 hx4 hxk HZs hxb => ?_); have HB24 : Below wr.heap.size wr W24 := hxb wr wr.heap.size hl_t HB23; have hx_s := (hxk b_s (by first | exact hn_s_t | exact Ne.symm hn_t_s)).trans hx_s; have hx_t := hx4; clear hx4 hxk hxb HZs; go_simp; refine kz hK (by exact HSB.out _ HB24) ?_; clear hK K; (try simp only [Act.put, ptL])
            clear ca0 fa0 ca1 fa1 sa sb HB23; refine wpAnyH_done (by kernel_rfl) ?_ _; obtain ⟨wz, hwz⟩ : ∃ wz, wz = W24 := ⟨_, rfl⟩; subst hwz; have HBZ := HB24; clear HB24
            
          rotate_left 1
          focus
            intro K hK; go_simp; refine kz hK (by exact HSB.out _ (HB20.alloc HB20.size _)) ?_; clear hK K; (try simp only [Act.put, ptL]); refine wpAnyH_gen (fun W25 hWn => ?_); have HB25 : Below wr.heap.size wr W25 := by rw [hWn]; exact HB20.alloc HB20.size _
            have hx_t : W25.heap[W20.heap.size]? = some (.cells #[.int .i64 0, .int .i64 0] 36) := by rw [hWn]; exact alloc_new _ _
            have hl_t : wr.heap.size ≤ W20.heap.size := HB20.size; clear hWn; obtain ⟨b_t, hb_t⟩ : ∃ b, W20.heap.size = b := ⟨_, rfl⟩; rw [hb_t] at hx_t hl_t ⊢; clear HB20 hb_t; refine rz1 20 rfl ?_; intro K hK; go_simp; refine kz hK (by exact HSB.out _ (HB25.alloc HB25.size _)) ?_; clear hK K; (try simp only [Act.put, ptL]); refine wpAnyH_gen (fun W26 hWn => ?_); have HB26 : Below wr.heap.size wr W26 := by rw [hWn]; exact HB25.alloc HB25.size _
            have hlt_t := block_lt hx_t; have hx_t : W26.heap[b_t]? = some (.cells #[.int .i64 0, .int .i64 0] 36) := by rw [hWn]; exact alloc_old _ _ hx_t
            have hx_s : W26.heap[W25.heap.size]? = some (.cells #[.int .i64 0, .int .i64 0] 36) := by rw [hWn]; exact alloc_new _ _
            have hl_s : wr.heap.size ≤ W25.heap.size := HB25.size; clear hWn; obtain ⟨b_s, hb_s⟩ : ∃ b, W25.heap.size = b := ⟨_, rfl⟩; rw [hb_s] at hx_s hl_s ⊢; have hn_t_s : b_t ≠ b_s := by have := hlt_t; omega
            clear HB25 hb_s hlt_t; refine rz1 22 rfl ?_; intro K hK; refine set2K W26 b_s 36 _ _ (.int .i64 L1) (.int .i64 U1) hx_s (fun wa27 W27 sa sb ca0 fa0 ca1 fa1 hx4 hxk HZs hxb => ?_); have HB27 : Below wr.heap.size wr W27 := hxb wr wr.heap.size hl_s HB26; have hx_t := (hxk b_t (by first | exact hn_t_s | exact Ne.symm hn_s_t)).trans hx_t; have hx_s := hx4; clear hx4 hxk hxb HZs; go_simp; refine kz hK (by exact HSB.out _ HB27) ?_; clear hK K; (try simp only [Act.put, ptL]); clear ca0 fa0 ca1 fa1 sa sb HB26; refine rz1 23 rfl ?_; intro K hK; refine set2K W27 b_t 36 _ _ (.int .i64 L2) (.int .i64 U2) hx_t (fun wa28 W28 sa sb ca0 fa0 ca1 fa1 hx4 hxk HZs hxb => ?_); have HB28 : Below wr.heap.size wr W28 := hxb wr wr.heap.size hl_t HB27; have hx_s := (hxk b_s (by first | exact hn_s_t | exact Ne.symm hn_t_s)).trans hx_s; have hx_t := hx4; clear hx4 hxk hxb HZs; go_simp; refine kz hK (by exact HSB.out _ HB28) ?_; clear hK K; (try simp only [Act.put, ptL])
            clear ca0 fa0 ca1 fa1 sa sb HB27; refine wpAnyH_done (by kernel_rfl) ?_ _; obtain ⟨wz, hwz⟩ : ∃ wz, wz = W28 := ⟨_, rfl⟩; subst hwz; have HBZ := HB28; clear HB28
            
          rotate_left 1
        rotate_left 2
        focus
          intro K hK; go_simp; refine kz hK (by exact HSB.out _ (HB19.alloc HB19.size _)) ?_; clear hK K; (try simp only [Act.put, ptL]); refine wpAnyH_gen (fun W29 hWn => ?_); have HB29 : Below wr.heap.size wr W29 := by rw [hWn]; exact HB19.alloc HB19.size _
          have hx_s : W29.heap[W19.heap.size]? = some (.cells #[.int .i64 0, .int .i64 0] 36) := by rw [hWn]; exact alloc_new _ _
          have hl_s : wr.heap.size ≤ W19.heap.size := HB19.size; clear hWn; obtain ⟨b_s, hb_s⟩ : ∃ b, W19.heap.size = b := ⟨_, rfl⟩; rw [hb_s] at hx_s hl_s ⊢; clear HB19 hb_s; refine rz2 19 21 rfl rfl ?_ ?_
          focus
            intro K hK; go_simp; refine (HSF.out _ HB29).mono ?_; rintro e W30 ⟨rfl, hbn⟩; have HB30 : Below wr.heap.size wr W30 := HB29.trans (hbn.mono HB29.size); have hx_s : W30.heap[b_s]? = some (.cells #[.int .i64 0, .int .i64 0] 36) := (hbn.block _ (block_lt hx_s)).trans hx_s; clear hbn; go_simp; refine kz hK (by exact HSB.out _ HB30) ?_; clear hK K; (try simp only [Act.put, ptL]); clear HB29; refine rz1 21 rfl ?_; intro K hK; go_simp; refine kz hK (by exact HSB.out _ (HB30.alloc HB30.size _)) ?_; clear hK K; (try simp only [Act.put, ptL]); refine wpAnyH_gen (fun W31 hWn => ?_); have HB31 : Below wr.heap.size wr W31 := by rw [hWn]; exact HB30.alloc HB30.size _
            have hlt_s := block_lt hx_s; have hx_s : W31.heap[b_s]? = some (.cells #[.int .i64 0, .int .i64 0] 36) := by rw [hWn]; exact alloc_old _ _ hx_s
            have hx_t : W31.heap[W30.heap.size]? = some (.cells #[.int .i64 0, .int .i64 0] 36) := by rw [hWn]; exact alloc_new _ _
            have hl_t : wr.heap.size ≤ W30.heap.size := HB30.size; clear hWn; obtain ⟨b_t, hb_t⟩ : ∃ b, W30.heap.size = b := ⟨_, rfl⟩; rw [hb_t] at hx_t hl_t ⊢; have hn_s_t : b_s ≠ b_t := by have := hlt_s; omega
            clear HB30 hb_t hlt_s; refine rz1 22 rfl ?_; intro K hK; refine set2K W31 b_s 36 _ _ (.int .i64 L1) (.int .i64 U1) hx_s (fun wa32 W32 sa sb ca0 fa0 ca1 fa1 hx4 hxk HZs hxb => ?_); have HB32 : Below wr.heap.size wr W32 := hxb wr wr.heap.size hl_s HB31; have hx_t := (hxk b_t (by first | exact hn_t_s | exact Ne.symm hn_s_t)).trans hx_t; have hx_s := hx4; clear hx4 hxk hxb HZs; go_simp; refine kz hK (by exact HSB.out _ HB32) ?_; clear hK K; (try simp only [Act.put, ptL]); clear ca0 fa0 ca1 fa1 sa sb HB31; refine rz1 23 rfl ?_; intro K hK; refine set2K W32 b_t 36 _ _ (.int .i64 L2) (.int .i64 U2) hx_t (fun wa33 W33 sa sb ca0 fa0 ca1 fa1 hx4 hxk HZs hxb => ?_); have HB33 : Below wr.heap.size wr W33 := hxb wr wr.heap.size hl_t HB32; have hx_s := (hxk b_s (by first | exact hn_s_t | exact Ne.symm hn_t_s)).trans hx_s; have hx_t := hx4; clear hx4 hxk hxb HZs; go_simp; refine kz hK (by exact HSB.out _ HB33) ?_; clear hK K; (try simp only [Act.put, ptL])
            clear ca0 fa0 ca1 fa1 sa sb HB32; refine wpAnyH_done (by kernel_rfl) ?_ _; obtain ⟨wz, hwz⟩ : ∃ wz, wz = W33 := ⟨_, rfl⟩; subst hwz; have HBZ := HB33; clear HB33
            
          rotate_left 1
          focus
            intro K hK; go_simp; refine kz hK (by exact HSB.out _ (HB29.alloc HB29.size _)) ?_; clear hK K; (try simp only [Act.put, ptL]); refine wpAnyH_gen (fun W34 hWn => ?_); have HB34 : Below wr.heap.size wr W34 := by rw [hWn]; exact HB29.alloc HB29.size _
            have hlt_s := block_lt hx_s; have hx_s : W34.heap[b_s]? = some (.cells #[.int .i64 0, .int .i64 0] 36) := by rw [hWn]; exact alloc_old _ _ hx_s
            have hx_t : W34.heap[W29.heap.size]? = some (.cells #[.int .i64 0, .int .i64 0] 36) := by rw [hWn]; exact alloc_new _ _
            have hl_t : wr.heap.size ≤ W29.heap.size := HB29.size; clear hWn; obtain ⟨b_t, hb_t⟩ : ∃ b, W29.heap.size = b := ⟨_, rfl⟩; rw [hb_t] at hx_t hl_t ⊢; have hn_s_t : b_s ≠ b_t := by have := hlt_s; omega
            clear HB29 hb_t hlt_s; refine rz1 19 rfl ?_; intro K hK; go_simp; refine (HSF.out _ HB34).mono ?_; rintro e W35 ⟨rfl, hbn⟩; have HB35 : Below wr.heap.size wr W35 := HB34.trans (hbn.mono HB34.size); have hx_s : W35.heap[b_s]? = some (.cells #[.int .i64 0, .int .i64 0] 36) := (hbn.block _ (block_lt hx_s)).trans hx_s; have hx_t : W35.heap[b_t]? = some (.cells #[.int .i64 0, .int .i64 0] 36) := (hbn.block _ (block_lt hx_t)).trans hx_t; clear hbn; go_simp; refine kz hK (by exact HSB.out _ HB35) ?_; clear hK K; (try simp only [Act.put, ptL]); clear HB34; refine rz1 22 rfl ?_; intro K hK; refine set2K W35 b_s 36 _ _ (.int .i64 L1) (.int .i64 U1) hx_s (fun wa36 W36 sa sb ca0 fa0 ca1 fa1 hx4 hxk HZs hxb => ?_); have HB36 : Below wr.heap.size wr W36 := hxb wr wr.heap.size hl_s HB35; have hx_t := (hxk b_t (by first | exact hn_t_s | exact Ne.symm hn_s_t)).trans hx_t; have hx_s := hx4; clear hx4 hxk hxb HZs
            go_simp; refine kz hK (by exact HSB.out _ HB36) ?_; clear hK K; (try simp only [Act.put, ptL]); clear ca0 fa0 ca1 fa1 sa sb HB35; refine rz1 23 rfl ?_; intro K hK; refine set2K W36 b_t 36 _ _ (.int .i64 L2) (.int .i64 U2) hx_t (fun wa37 W37 sa sb ca0 fa0 ca1 fa1 hx4 hxk HZs hxb => ?_); have HB37 : Below wr.heap.size wr W37 := hxb wr wr.heap.size hl_t HB36; have hx_s := (hxk b_s (by first | exact hn_s_t | exact Ne.symm hn_t_s)).trans hx_s; have hx_t := hx4; clear hx4 hxk hxb HZs; go_simp; refine kz hK (by exact HSB.out _ HB37) ?_; clear hK K; (try simp only [Act.put, ptL]); clear ca0 fa0 ca1 fa1 sa sb HB36; refine wpAnyH_done (by kernel_rfl) ?_ _; obtain ⟨wz, hwz⟩ : ∃ wz, wz = W37 := ⟨_, rfl⟩; subst hwz; have HBZ := HB37; clear HB37
            
          rotate_left 1
        rotate_left 2
        focus
          intro K hK; go_simp; refine kz hK (by exact HSB.out _ (HB19.alloc HB19.size _)) ?_; clear hK K; (try simp only [Act.put, ptL]); refine wpAnyH_gen (fun W38 hWn => ?_); have HB38 : Below wr.heap.size wr W38 := by rw [hWn]; exact HB19.alloc HB19.size _
          have hx_t : W38.heap[W19.heap.size]? = some (.cells #[.int .i64 0, .int .i64 0] 36) := by rw [hWn]; exact alloc_new _ _
          have hl_t : wr.heap.size ≤ W19.heap.size := HB19.size; clear hWn; obtain ⟨b_t, hb_t⟩ : ∃ b, W19.heap.size = b := ⟨_, rfl⟩; rw [hb_t] at hx_t hl_t ⊢; clear HB19 hb_t; refine rz2 19 20 rfl rfl ?_ ?_
          focus
            intro K hK; go_simp; refine (HSF.out _ HB38).mono ?_; rintro e W39 ⟨rfl, hbn⟩; have HB39 : Below wr.heap.size wr W39 := HB38.trans (hbn.mono HB38.size); have hx_t : W39.heap[b_t]? = some (.cells #[.int .i64 0, .int .i64 0] 36) := (hbn.block _ (block_lt hx_t)).trans hx_t; clear hbn; go_simp; refine kz hK (by exact HSB.out _ HB39) ?_; clear hK K; (try simp only [Act.put, ptL]); clear HB38; refine rz1 20 rfl ?_; intro K hK; go_simp; refine kz hK (by exact HSB.out _ (HB39.alloc HB39.size _)) ?_; clear hK K; (try simp only [Act.put, ptL]); refine wpAnyH_gen (fun W40 hWn => ?_); have HB40 : Below wr.heap.size wr W40 := by rw [hWn]; exact HB39.alloc HB39.size _
            have hlt_t := block_lt hx_t; have hx_t : W40.heap[b_t]? = some (.cells #[.int .i64 0, .int .i64 0] 36) := by rw [hWn]; exact alloc_old _ _ hx_t
            have hx_s : W40.heap[W39.heap.size]? = some (.cells #[.int .i64 0, .int .i64 0] 36) := by rw [hWn]; exact alloc_new _ _
            have hl_s : wr.heap.size ≤ W39.heap.size := HB39.size; clear hWn; obtain ⟨b_s, hb_s⟩ : ∃ b, W39.heap.size = b := ⟨_, rfl⟩; rw [hb_s] at hx_s hl_s ⊢; have hn_t_s : b_t ≠ b_s := by have := hlt_t; omega
            clear HB39 hb_s hlt_t; refine rz1 22 rfl ?_; intro K hK; refine set2K W40 b_s 36 _ _ (.int .i64 L1) (.int .i64 U1) hx_s (fun wa41 W41 sa sb ca0 fa0 ca1 fa1 hx4 hxk HZs hxb => ?_); have HB41 : Below wr.heap.size wr W41 := hxb wr wr.heap.size hl_s HB40; have hx_t := (hxk b_t (by first | exact hn_t_s | exact Ne.symm hn_s_t)).trans hx_t; have hx_s := hx4; clear hx4 hxk hxb HZs; go_simp; refine kz hK (by exact HSB.out _ HB41) ?_; clear hK K; (try simp only [Act.put, ptL]); clear ca0 fa0 ca1 fa1 sa sb HB40; refine rz1 23 rfl ?_; intro K hK; refine set2K W41 b_t 36 _ _ (.int .i64 L2) (.int .i64 U2) hx_t (fun wa42 W42 sa sb ca0 fa0 ca1 fa1 hx4 hxk HZs hxb => ?_); have HB42 : Below wr.heap.size wr W42 := hxb wr wr.heap.size hl_t HB41; have hx_s := (hxk b_s (by first | exact hn_s_t | exact Ne.symm hn_t_s)).trans hx_s; have hx_t := hx4; clear hx4 hxk hxb HZs; go_simp; refine kz hK (by exact HSB.out _ HB42) ?_; clear hK K; (try simp only [Act.put, ptL])
            clear ca0 fa0 ca1 fa1 sa sb HB41; refine wpAnyH_done (by kernel_rfl) ?_ _; obtain ⟨wz, hwz⟩ : ∃ wz, wz = W42 := ⟨_, rfl⟩; subst hwz; have HBZ := HB42; clear HB42
            
          rotate_left 1
          focus
            intro K hK; go_simp; refine kz hK (by exact HSB.out _ (HB38.alloc HB38.size _)) ?_; clear hK K; (try simp only [Act.put, ptL]); refine wpAnyH_gen (fun W43 hWn => ?_); have HB43 : Below wr.heap.size wr W43 := by rw [hWn]; exact HB38.alloc HB38.size _
            have hlt_t := block_lt hx_t; have hx_t : W43.heap[b_t]? = some (.cells #[.int .i64 0, .int .i64 0] 36) := by rw [hWn]; exact alloc_old _ _ hx_t
            have hx_s : W43.heap[W38.heap.size]? = some (.cells #[.int .i64 0, .int .i64 0] 36) := by rw [hWn]; exact alloc_new _ _
            have hl_s : wr.heap.size ≤ W38.heap.size := HB38.size; clear hWn; obtain ⟨b_s, hb_s⟩ : ∃ b, W38.heap.size = b := ⟨_, rfl⟩; rw [hb_s] at hx_s hl_s ⊢; have hn_t_s : b_t ≠ b_s := by have := hlt_t; omega
            clear HB38 hb_s hlt_t; refine rz1 19 rfl ?_; intro K hK; go_simp; refine (HSF.out _ HB43).mono ?_; rintro e W44 ⟨rfl, hbn⟩; have HB44 : Below wr.heap.size wr W44 := HB43.trans (hbn.mono HB43.size); have hx_t : W44.heap[b_t]? = some (.cells #[.int .i64 0, .int .i64 0] 36) := (hbn.block _ (block_lt hx_t)).trans hx_t; have hx_s : W44.heap[b_s]? = some (.cells #[.int .i64 0, .int .i64 0] 36) := (hbn.block _ (block_lt hx_s)).trans hx_s; clear hbn; go_simp; refine kz hK (by exact HSB.out _ HB44) ?_; clear hK K; (try simp only [Act.put, ptL]); clear HB43; refine rz1 22 rfl ?_; intro K hK; refine set2K W44 b_s 36 _ _ (.int .i64 L1) (.int .i64 U1) hx_s (fun wa45 W45 sa sb ca0 fa0 ca1 fa1 hx4 hxk HZs hxb => ?_); have HB45 : Below wr.heap.size wr W45 := hxb wr wr.heap.size hl_s HB44; have hx_t := (hxk b_t (by first | exact hn_t_s | exact Ne.symm hn_s_t)).trans hx_t; have hx_s := hx4; clear hx4 hxk hxb HZs
            go_simp; refine kz hK (by exact HSB.out _ HB45) ?_; clear hK K; (try simp only [Act.put, ptL]); clear ca0 fa0 ca1 fa1 sa sb HB44; refine rz1 23 rfl ?_; intro K hK; refine set2K W45 b_t 36 _ _ (.int .i64 L2) (.int .i64 U2) hx_t (fun wa46 W46 sa sb ca0 fa0 ca1 fa1 hx4 hxk HZs hxb => ?_); have HB46 : Below wr.heap.size wr W46 := hxb wr wr.heap.size hl_t HB45; have hx_s := (hxk b_s (by first | exact hn_s_t | exact Ne.symm hn_t_s)).trans hx_s; have hx_t := hx4; clear hx4 hxk hxb HZs; go_simp; refine kz hK (by exact HSB.out _ HB46) ?_; clear hK K; (try simp only [Act.put, ptL]); clear ca0 fa0 ca1 fa1 sa sb HB45; refine wpAnyH_done (by kernel_rfl) ?_ _; obtain ⟨wz, hwz⟩ : ∃ wz, wz = W46 := ⟨_, rfl⟩; subst hwz; have HBZ := HB46; clear HB46
            
          rotate_left 1
        rotate_left 2
      rotate_left 6
      focus
        intro K hK; go_simp; refine kz hK (by exact HSB.out _ (HB0.alloc HB0.size _)) ?_; clear hK K; (try simp only [Act.put, ptL]); refine wpAnyH_gen (fun W47 hWn => ?_); have HB47 : Below wr.heap.size wr W47 := by rw [hWn]; exact HB0.alloc HB0.size _
        have hx_s : W47.heap[W0.heap.size]? = some (.cells #[.int .i64 0, .int .i64 0] 36) := by rw [hWn]; exact alloc_new _ _
        have hl_s : wr.heap.size ≤ W0.heap.size := HB0.size; clear hWn; obtain ⟨b_s, hb_s⟩ : ∃ b, W0.heap.size = b := ⟨_, rfl⟩; rw [hb_s] at hx_s hl_s ⊢; clear HB0 hb_s; refine rz2 9 21 rfl rfl ?_ ?_
        focus
          intro K hK; go_simp; refine (HSK.out _ HB47).mono ?_; rintro e W48 ⟨rfl, hbn⟩; have HB48 : Below wr.heap.size wr W48 := HB47.trans (hbn.mono HB47.size); have hx_s : W48.heap[b_s]? = some (.cells #[.int .i64 0, .int .i64 0] 36) := (hbn.block _ (block_lt hx_s)).trans hx_s; clear hbn; go_simp; refine kz hK (by exact HSB.out _ HB48) ?_; clear hK K; (try simp only [Act.put, ptL]); clear HB47; refine rz2 19 21 rfl rfl ?_ ?_
          focus
            intro K hK; go_simp; refine (HSF.out _ HB48).mono ?_; rintro e W49 ⟨rfl, hbn⟩; have HB49 : Below wr.heap.size wr W49 := HB48.trans (hbn.mono HB48.size); have hx_s : W49.heap[b_s]? = some (.cells #[.int .i64 0, .int .i64 0] 36) := (hbn.block _ (block_lt hx_s)).trans hx_s; clear hbn; go_simp; refine kz hK (by exact HSB.out _ HB49) ?_; clear hK K; (try simp only [Act.put, ptL]); clear HB48; refine rz1 21 rfl ?_; intro K hK; go_simp; refine kz hK (by exact HSB.out _ (HB49.alloc HB49.size _)) ?_; clear hK K; (try simp only [Act.put, ptL]); refine wpAnyH_gen (fun W50 hWn => ?_); have HB50 : Below wr.heap.size wr W50 := by rw [hWn]; exact HB49.alloc HB49.size _
            have hlt_s := block_lt hx_s; have hx_s : W50.heap[b_s]? = some (.cells #[.int .i64 0, .int .i64 0] 36) := by rw [hWn]; exact alloc_old _ _ hx_s
            have hx_t : W50.heap[W49.heap.size]? = some (.cells #[.int .i64 0, .int .i64 0] 36) := by rw [hWn]; exact alloc_new _ _
            have hl_t : wr.heap.size ≤ W49.heap.size := HB49.size; clear hWn; obtain ⟨b_t, hb_t⟩ : ∃ b, W49.heap.size = b := ⟨_, rfl⟩; rw [hb_t] at hx_t hl_t ⊢; have hn_s_t : b_s ≠ b_t := by have := hlt_s; omega
            clear HB49 hb_t hlt_s; refine rz1 22 rfl ?_; intro K hK; refine set2K W50 b_s 36 _ _ (.int .i64 L1) (.int .i64 U1) hx_s (fun wa51 W51 sa sb ca0 fa0 ca1 fa1 hx4 hxk HZs hxb => ?_); have HB51 : Below wr.heap.size wr W51 := hxb wr wr.heap.size hl_s HB50; have hx_t := (hxk b_t (by first | exact hn_t_s | exact Ne.symm hn_s_t)).trans hx_t; have hx_s := hx4; clear hx4 hxk hxb HZs; go_simp; refine kz hK (by exact HSB.out _ HB51) ?_; clear hK K; (try simp only [Act.put, ptL]); clear ca0 fa0 ca1 fa1 sa sb HB50; refine rz1 23 rfl ?_; intro K hK; refine set2K W51 b_t 36 _ _ (.int .i64 L2) (.int .i64 U2) hx_t (fun wa52 W52 sa sb ca0 fa0 ca1 fa1 hx4 hxk HZs hxb => ?_); have HB52 : Below wr.heap.size wr W52 := hxb wr wr.heap.size hl_t HB51; have hx_s := (hxk b_s (by first | exact hn_s_t | exact Ne.symm hn_t_s)).trans hx_s; have hx_t := hx4; clear hx4 hxk hxb HZs; go_simp; refine kz hK (by exact HSB.out _ HB52) ?_; clear hK K; (try simp only [Act.put, ptL])
            clear ca0 fa0 ca1 fa1 sa sb HB51; refine wpAnyH_done (by kernel_rfl) ?_ _; obtain ⟨wz, hwz⟩ : ∃ wz, wz = W52 := ⟨_, rfl⟩; subst hwz; have HBZ := HB52; clear HB52
            
          rotate_left 1
          focus
            intro K hK; go_simp; refine kz hK (by exact HSB.out _ (HB48.alloc HB48.size _)) ?_; clear hK K; (try simp only [Act.put, ptL]); refine wpAnyH_gen (fun W53 hWn => ?_); have HB53 : Below wr.heap.size wr W53 := by rw [hWn]; exact HB48.alloc HB48.size _
            have hlt_s := block_lt hx_s; have hx_s : W53.heap[b_s]? = some (.cells #[.int .i64 0, .int .i64 0] 36) := by rw [hWn]; exact alloc_old _ _ hx_s
            have hx_t : W53.heap[W48.heap.size]? = some (.cells #[.int .i64 0, .int .i64 0] 36) := by rw [hWn]; exact alloc_new _ _
            have hl_t : wr.heap.size ≤ W48.heap.size := HB48.size; clear hWn; obtain ⟨b_t, hb_t⟩ : ∃ b, W48.heap.size = b := ⟨_, rfl⟩; rw [hb_t] at hx_t hl_t ⊢; have hn_s_t : b_s ≠ b_t := by have := hlt_s; omega
            clear HB48 hb_t hlt_s; refine rz1 19 rfl ?_; intro K hK; go_simp; refine (HSF.out _ HB53).mono ?_; rintro e W54 ⟨rfl, hbn⟩; have HB54 : Below wr.heap.size wr W54 := HB53.trans (hbn.mono HB53.size); have hx_s : W54.heap[b_s]? = some (.cells #[.int .i64 0, .int .i64 0] 36) := (hbn.block _ (block_lt hx_s)).trans hx_s; have hx_t : W54.heap[b_t]? = some (.cells #[.int .i64 0, .int .i64 0] 36) := (hbn.block _ (block_lt hx_t)).trans hx_t; clear hbn; go_simp; refine kz hK (by exact HSB.out _ HB54) ?_; clear hK K; (try simp only [Act.put, ptL]); clear HB53; refine rz1 22 rfl ?_; intro K hK; refine set2K W54 b_s 36 _ _ (.int .i64 L1) (.int .i64 U1) hx_s (fun wa55 W55 sa sb ca0 fa0 ca1 fa1 hx4 hxk HZs hxb => ?_); have HB55 : Below wr.heap.size wr W55 := hxb wr wr.heap.size hl_s HB54; have hx_t := (hxk b_t (by first | exact hn_t_s | exact Ne.symm hn_s_t)).trans hx_t; have hx_s := hx4; clear hx4 hxk hxb HZs
            go_simp; refine kz hK (by exact HSB.out _ HB55) ?_; clear hK K; (try simp only [Act.put, ptL]); clear ca0 fa0 ca1 fa1 sa sb HB54; refine rz1 23 rfl ?_; intro K hK; refine set2K W55 b_t 36 _ _ (.int .i64 L2) (.int .i64 U2) hx_t (fun wa56 W56 sa sb ca0 fa0 ca1 fa1 hx4 hxk HZs hxb => ?_); have HB56 : Below wr.heap.size wr W56 := hxb wr wr.heap.size hl_t HB55; have hx_s := (hxk b_s (by first | exact hn_s_t | exact Ne.symm hn_t_s)).trans hx_s; have hx_t := hx4; clear hx4 hxk hxb HZs; go_simp; refine kz hK (by exact HSB.out _ HB56) ?_; clear hK K; (try simp only [Act.put, ptL]); clear ca0 fa0 ca1 fa1 sa sb HB55; refine wpAnyH_done (by kernel_rfl) ?_ _; obtain ⟨wz, hwz⟩ : ∃ wz, wz = W56 := ⟨_, rfl⟩; subst hwz; have HBZ := HB56; clear HB56
            
          rotate_left 1
        rotate_left 2
        focus
          intro K hK; go_simp; refine kz hK (by exact HSB.out _ (HB47.alloc HB47.size _)) ?_; clear hK K; (try simp only [Act.put, ptL]); refine wpAnyH_gen (fun W57 hWn => ?_); have HB57 : Below wr.heap.size wr W57 := by rw [hWn]; exact HB47.alloc HB47.size _
          have hlt_s := block_lt hx_s; have hx_s : W57.heap[b_s]? = some (.cells #[.int .i64 0, .int .i64 0] 36) := by rw [hWn]; exact alloc_old _ _ hx_s
          have hx_t : W57.heap[W47.heap.size]? = some (.cells #[.int .i64 0, .int .i64 0] 36) := by rw [hWn]; exact alloc_new _ _
          have hl_t : wr.heap.size ≤ W47.heap.size := HB47.size; clear hWn; obtain ⟨b_t, hb_t⟩ : ∃ b, W47.heap.size = b := ⟨_, rfl⟩; rw [hb_t] at hx_t hl_t ⊢; have hn_s_t : b_s ≠ b_t := by have := hlt_s; omega
          clear HB47 hb_t hlt_s; refine rz1 9 rfl ?_; intro K hK; go_simp; refine (HSK.out _ HB57).mono ?_; rintro e W58 ⟨rfl, hbn⟩; have HB58 : Below wr.heap.size wr W58 := HB57.trans (hbn.mono HB57.size); have hx_s : W58.heap[b_s]? = some (.cells #[.int .i64 0, .int .i64 0] 36) := (hbn.block _ (block_lt hx_s)).trans hx_s; have hx_t : W58.heap[b_t]? = some (.cells #[.int .i64 0, .int .i64 0] 36) := (hbn.block _ (block_lt hx_t)).trans hx_t; clear hbn; go_simp; refine kz hK (by exact HSB.out _ HB58) ?_; clear hK K; (try simp only [Act.put, ptL]); clear HB57; refine rz1 19 rfl ?_; intro K hK; go_simp; refine (HSF.out _ HB58).mono ?_; rintro e W59 ⟨rfl, hbn⟩; have HB59 : Below wr.heap.size wr W59 := HB58.trans (hbn.mono HB58.size); have hx_s : W59.heap[b_s]? = some (.cells #[.int .i64 0, .int .i64 0] 36) := (hbn.block _ (block_lt hx_s)).trans hx_s; have hx_t : W59.heap[b_t]? = some (.cells #[.int .i64 0, .int .i64 0] 36) := (hbn.block _ (block_lt hx_t)).trans hx_t
          clear hbn; go_simp; refine kz hK (by exact HSB.out _ HB59) ?_; clear hK K; (try simp only [Act.put, ptL]); clear HB58; refine rz1 22 rfl ?_; intro K hK; refine set2K W59 b_s 36 _ _ (.int .i64 L1) (.int .i64 U1) hx_s (fun wa60 W60 sa sb ca0 fa0 ca1 fa1 hx4 hxk HZs hxb => ?_); have HB60 : Below wr.heap.size wr W60 := hxb wr wr.heap.size hl_s HB59; have hx_t := (hxk b_t (by first | exact hn_t_s | exact Ne.symm hn_s_t)).trans hx_t; have hx_s := hx4; clear hx4 hxk hxb HZs; go_simp; refine kz hK (by exact HSB.out _ HB60) ?_; clear hK K; (try simp only [Act.put, ptL]); clear ca0 fa0 ca1 fa1 sa sb HB59; refine rz1 23 rfl ?_; intro K hK; refine set2K W60 b_t 36 _ _ (.int .i64 L2) (.int .i64 U2) hx_t (fun wa61 W61 sa sb ca0 fa0 ca1 fa1 hx4 hxk HZs hxb => ?_); have HB61 : Below wr.heap.size wr W61 := hxb wr wr.heap.size hl_t HB60; have hx_s := (hxk b_s (by first | exact hn_s_t | exact Ne.symm hn_t_s)).trans hx_s
          have hx_t := hx4; clear hx4 hxk hxb HZs; go_simp; refine kz hK (by exact HSB.out _ HB61) ?_; clear hK K; (try simp only [Act.put, ptL]); clear ca0 fa0 ca1 fa1 sa sb HB60; refine wpAnyH_done (by kernel_rfl) ?_ _; obtain ⟨wz, hwz⟩ : ∃ wz, wz = W61 := ⟨_, rfl⟩; subst hwz; have HBZ := HB61; clear HB61
          
        rotate_left 1
      rotate_left 3
      focus
        intro K hK; go_simp; refine kz hK (by exact HSB.out _ (HB0.alloc HB0.size _)) ?_; clear hK K; (try simp only [Act.put, ptL]); refine wpAnyH_gen (fun W62 hWn => ?_); have HB62 : Below wr.heap.size wr W62 := by rw [hWn]; exact HB0.alloc HB0.size _
        have hx_t : W62.heap[W0.heap.size]? = some (.cells #[.int .i64 0, .int .i64 0] 36) := by rw [hWn]; exact alloc_new _ _
        have hl_t : wr.heap.size ≤ W0.heap.size := HB0.size; clear hWn; obtain ⟨b_t, hb_t⟩ : ∃ b, W0.heap.size = b := ⟨_, rfl⟩; rw [hb_t] at hx_t hl_t ⊢; clear HB0 hb_t; refine rz2 9 20 rfl rfl ?_ ?_
        focus
          intro K hK; go_simp; refine (HSK.out _ HB62).mono ?_; rintro e W63 ⟨rfl, hbn⟩; have HB63 : Below wr.heap.size wr W63 := HB62.trans (hbn.mono HB62.size); have hx_t : W63.heap[b_t]? = some (.cells #[.int .i64 0, .int .i64 0] 36) := (hbn.block _ (block_lt hx_t)).trans hx_t; clear hbn; go_simp; refine kz hK (by exact HSB.out _ HB63) ?_; clear hK K; (try simp only [Act.put, ptL]); clear HB62; refine rz2 19 20 rfl rfl ?_ ?_
          focus
            intro K hK; go_simp; refine (HSF.out _ HB63).mono ?_; rintro e W64 ⟨rfl, hbn⟩; have HB64 : Below wr.heap.size wr W64 := HB63.trans (hbn.mono HB63.size); have hx_t : W64.heap[b_t]? = some (.cells #[.int .i64 0, .int .i64 0] 36) := (hbn.block _ (block_lt hx_t)).trans hx_t; clear hbn; go_simp; refine kz hK (by exact HSB.out _ HB64) ?_; clear hK K; (try simp only [Act.put, ptL]); clear HB63; refine rz1 20 rfl ?_; intro K hK; go_simp; refine kz hK (by exact HSB.out _ (HB64.alloc HB64.size _)) ?_; clear hK K; (try simp only [Act.put, ptL]); refine wpAnyH_gen (fun W65 hWn => ?_); have HB65 : Below wr.heap.size wr W65 := by rw [hWn]; exact HB64.alloc HB64.size _
            have hlt_t := block_lt hx_t; have hx_t : W65.heap[b_t]? = some (.cells #[.int .i64 0, .int .i64 0] 36) := by rw [hWn]; exact alloc_old _ _ hx_t
            have hx_s : W65.heap[W64.heap.size]? = some (.cells #[.int .i64 0, .int .i64 0] 36) := by rw [hWn]; exact alloc_new _ _
            have hl_s : wr.heap.size ≤ W64.heap.size := HB64.size; clear hWn; obtain ⟨b_s, hb_s⟩ : ∃ b, W64.heap.size = b := ⟨_, rfl⟩; rw [hb_s] at hx_s hl_s ⊢; have hn_t_s : b_t ≠ b_s := by have := hlt_t; omega
            clear HB64 hb_s hlt_t; refine rz1 22 rfl ?_; intro K hK; refine set2K W65 b_s 36 _ _ (.int .i64 L1) (.int .i64 U1) hx_s (fun wa66 W66 sa sb ca0 fa0 ca1 fa1 hx4 hxk HZs hxb => ?_); have HB66 : Below wr.heap.size wr W66 := hxb wr wr.heap.size hl_s HB65; have hx_t := (hxk b_t (by first | exact hn_t_s | exact Ne.symm hn_s_t)).trans hx_t; have hx_s := hx4; clear hx4 hxk hxb HZs; go_simp; refine kz hK (by exact HSB.out _ HB66) ?_; clear hK K; (try simp only [Act.put, ptL]); clear ca0 fa0 ca1 fa1 sa sb HB65; refine rz1 23 rfl ?_; intro K hK; refine set2K W66 b_t 36 _ _ (.int .i64 L2) (.int .i64 U2) hx_t (fun wa67 W67 sa sb ca0 fa0 ca1 fa1 hx4 hxk HZs hxb => ?_); have HB67 : Below wr.heap.size wr W67 := hxb wr wr.heap.size hl_t HB66; have hx_s := (hxk b_s (by first | exact hn_s_t | exact Ne.symm hn_t_s)).trans hx_s; have hx_t := hx4; clear hx4 hxk hxb HZs; go_simp; refine kz hK (by exact HSB.out _ HB67) ?_; clear hK K; (try simp only [Act.put, ptL])
            clear ca0 fa0 ca1 fa1 sa sb HB66; refine wpAnyH_done (by kernel_rfl) ?_ _; obtain ⟨wz, hwz⟩ : ∃ wz, wz = W67 := ⟨_, rfl⟩; subst hwz; have HBZ := HB67; clear HB67
            
          rotate_left 1
          focus
            intro K hK; go_simp; refine kz hK (by exact HSB.out _ (HB63.alloc HB63.size _)) ?_; clear hK K; (try simp only [Act.put, ptL]); refine wpAnyH_gen (fun W68 hWn => ?_); have HB68 : Below wr.heap.size wr W68 := by rw [hWn]; exact HB63.alloc HB63.size _
            have hlt_t := block_lt hx_t; have hx_t : W68.heap[b_t]? = some (.cells #[.int .i64 0, .int .i64 0] 36) := by rw [hWn]; exact alloc_old _ _ hx_t
            have hx_s : W68.heap[W63.heap.size]? = some (.cells #[.int .i64 0, .int .i64 0] 36) := by rw [hWn]; exact alloc_new _ _
            have hl_s : wr.heap.size ≤ W63.heap.size := HB63.size; clear hWn; obtain ⟨b_s, hb_s⟩ : ∃ b, W63.heap.size = b := ⟨_, rfl⟩; rw [hb_s] at hx_s hl_s ⊢; have hn_t_s : b_t ≠ b_s := by have := hlt_t; omega
            clear HB63 hb_s hlt_t; refine rz1 19 rfl ?_; intro K hK; go_simp; refine (HSF.out _ HB68).mono ?_; rintro e W69 ⟨rfl, hbn⟩; have HB69 : Below wr.heap.size wr W69 := HB68.trans (hbn.mono HB68.size); have hx_t : W69.heap[b_t]? = some (.cells #[.int .i64 0, .int .i64 0] 36) := (hbn.block _ (block_lt hx_t)).trans hx_t; have hx_s : W69.heap[b_s]? = some (.cells #[.int .i64 0, .int .i64 0] 36) := (hbn.block _ (block_lt hx_s)).trans hx_s; clear hbn; go_simp; refine kz hK (by exact HSB.out _ HB69) ?_; clear hK K; (try simp only [Act.put, ptL]); clear HB68; refine rz1 22 rfl ?_; intro K hK; refine set2K W69 b_s 36 _ _ (.int .i64 L1) (.int .i64 U1) hx_s (fun wa70 W70 sa sb ca0 fa0 ca1 fa1 hx4 hxk HZs hxb => ?_); have HB70 : Below wr.heap.size wr W70 := hxb wr wr.heap.size hl_s HB69; have hx_t := (hxk b_t (by first | exact hn_t_s | exact Ne.symm hn_s_t)).trans hx_t; have hx_s := hx4; clear hx4 hxk hxb HZs
            go_simp; refine kz hK (by exact HSB.out _ HB70) ?_; clear hK K; (try simp only [Act.put, ptL]); clear ca0 fa0 ca1 fa1 sa sb HB69; refine rz1 23 rfl ?_; intro K hK; refine set2K W70 b_t 36 _ _ (.int .i64 L2) (.int .i64 U2) hx_t (fun wa71 W71 sa sb ca0 fa0 ca1 fa1 hx4 hxk HZs hxb => ?_); have HB71 : Below wr.heap.size wr W71 := hxb wr wr.heap.size hl_t HB70; have hx_s := (hxk b_s (by first | exact hn_s_t | exact Ne.symm hn_t_s)).trans hx_s; have hx_t := hx4; clear hx4 hxk hxb HZs; go_simp; refine kz hK (by exact HSB.out _ HB71) ?_; clear hK K; (try simp only [Act.put, ptL]); clear ca0 fa0 ca1 fa1 sa sb HB70; refine wpAnyH_done (by kernel_rfl) ?_ _; obtain ⟨wz, hwz⟩ : ∃ wz, wz = W71 := ⟨_, rfl⟩; subst hwz; have HBZ := HB71; clear HB71
            
          rotate_left 1
        rotate_left 2
        focus
          intro K hK; go_simp; refine kz hK (by exact HSB.out _ (HB62.alloc HB62.size _)) ?_; clear hK K; (try simp only [Act.put, ptL]); refine wpAnyH_gen (fun W72 hWn => ?_); have HB72 : Below wr.heap.size wr W72 := by rw [hWn]; exact HB62.alloc HB62.size _
          have hlt_t := block_lt hx_t; have hx_t : W72.heap[b_t]? = some (.cells #[.int .i64 0, .int .i64 0] 36) := by rw [hWn]; exact alloc_old _ _ hx_t
          have hx_s : W72.heap[W62.heap.size]? = some (.cells #[.int .i64 0, .int .i64 0] 36) := by rw [hWn]; exact alloc_new _ _
          have hl_s : wr.heap.size ≤ W62.heap.size := HB62.size; clear hWn; obtain ⟨b_s, hb_s⟩ : ∃ b, W62.heap.size = b := ⟨_, rfl⟩; rw [hb_s] at hx_s hl_s ⊢; have hn_t_s : b_t ≠ b_s := by have := hlt_t; omega
          clear HB62 hb_s hlt_t; refine rz1 9 rfl ?_; intro K hK; go_simp; refine (HSK.out _ HB72).mono ?_; rintro e W73 ⟨rfl, hbn⟩; have HB73 : Below wr.heap.size wr W73 := HB72.trans (hbn.mono HB72.size); have hx_t : W73.heap[b_t]? = some (.cells #[.int .i64 0, .int .i64 0] 36) := (hbn.block _ (block_lt hx_t)).trans hx_t; have hx_s : W73.heap[b_s]? = some (.cells #[.int .i64 0, .int .i64 0] 36) := (hbn.block _ (block_lt hx_s)).trans hx_s; clear hbn; go_simp; refine kz hK (by exact HSB.out _ HB73) ?_; clear hK K; (try simp only [Act.put, ptL]); clear HB72; refine rz1 19 rfl ?_; intro K hK; go_simp; refine (HSF.out _ HB73).mono ?_; rintro e W74 ⟨rfl, hbn⟩; have HB74 : Below wr.heap.size wr W74 := HB73.trans (hbn.mono HB73.size); have hx_t : W74.heap[b_t]? = some (.cells #[.int .i64 0, .int .i64 0] 36) := (hbn.block _ (block_lt hx_t)).trans hx_t; have hx_s : W74.heap[b_s]? = some (.cells #[.int .i64 0, .int .i64 0] 36) := (hbn.block _ (block_lt hx_s)).trans hx_s
          clear hbn; go_simp; refine kz hK (by exact HSB.out _ HB74) ?_; clear hK K; (try simp only [Act.put, ptL]); clear HB73; refine rz1 22 rfl ?_; intro K hK; refine set2K W74 b_s 36 _ _ (.int .i64 L1) (.int .i64 U1) hx_s (fun wa75 W75 sa sb ca0 fa0 ca1 fa1 hx4 hxk HZs hxb => ?_); have HB75 : Below wr.heap.size wr W75 := hxb wr wr.heap.size hl_s HB74; have hx_t := (hxk b_t (by first | exact hn_t_s | exact Ne.symm hn_s_t)).trans hx_t; have hx_s := hx4; clear hx4 hxk hxb HZs; go_simp; refine kz hK (by exact HSB.out _ HB75) ?_; clear hK K; (try simp only [Act.put, ptL]); clear ca0 fa0 ca1 fa1 sa sb HB74; refine rz1 23 rfl ?_; intro K hK; refine set2K W75 b_t 36 _ _ (.int .i64 L2) (.int .i64 U2) hx_t (fun wa76 W76 sa sb ca0 fa0 ca1 fa1 hx4 hxk HZs hxb => ?_); have HB76 : Below wr.heap.size wr W76 := hxb wr wr.heap.size hl_t HB75; have hx_s := (hxk b_s (by first | exact hn_s_t | exact Ne.symm hn_t_s)).trans hx_s
          have hx_t := hx4; clear hx4 hxk hxb HZs; go_simp; refine kz hK (by exact HSB.out _ HB76) ?_; clear hK K; (try simp only [Act.put, ptL]); clear ca0 fa0 ca1 fa1 sa sb HB75; refine wpAnyH_done (by kernel_rfl) ?_ _; obtain ⟨wz, hwz⟩ : ∃ wz, wz = W76 := ⟨_, rfl⟩; subst hwz; have HBZ := HB76; clear HB76
          
        rotate_left 1
      rotate_left 3
      all_goals
        obtain ⟨z0, z1⟩ := cells2 hx_s; obtain ⟨y0, y1⟩ := cells2 hx_t; have HNZ := Lib.hid (HN.out.trans (HBZ.mono HN.out.size)); have HOZ := Lib.hid (own_kept HO1.out HBZ); have HEZ := Lib.hid (HE1.out.below HBZ); clear HBZ hx_s hx_t HSB q0 q1 q2 q3 p0 p1 p2 p3 s0 d0 d1 HSK HSF; obtain ⟨wx, ex, HSx, _, _, bx⟩ := box2 wz (.int .i64 (L1 - U2)) (.int .i64 (U1 - L2)) 3; have hrow := World.ownsRow_lit (base := w4.heap.size) (e := 3) (size := 1) wz #[.int .i64 (L1 - U2), .int .i64 (U1 - L2)] 2 HNZ.out.size (by unfold maxLen; omega) (by simp); rw [ex] at hrow; have HROW := Lib.hid hrow; have HOX := Lib.hid (own_kept HOZ.out bx); have HEX := Lib.hid (HEZ.out.below bx); have HNX := Lib.hid (HNZ.out.trans (bx.mono HNZ.out.size)); clear hrow bx; go_wp2_with (at_builtin; refine wpList_append_own _ rfl _ _ 43 rfl w4.heap.size 23 j0 _ 1 24 Tryz.underlying43 hj0 hy0 hy1 hy2 rfl (by decide) _ _ _ rfl (HOX.out.alloc _) ⟨wx.heap.size, 0, none⟩ 1 1 [.slice (some ⟨wz.heap.size, 0, none⟩) 2 2] rfl rfl (news_of _ _ _) ?_ ?_ ?_ ?_ ?_)
        · rfl
        · unfold maxLen; omega
        · omega
        · have := HNX.out.size; simp; omega
        intro v3 w7 hown3 hgrow3 _; have ba := below_alloc1 wx (.cells #[.slice (some ⟨wz.heap.size, 0, none⟩) 2 2] 23); have HB7 := Lib.hid ((HNX.out.alloc HNX.out.size (.cells #[.slice (some ⟨wz.heap.size, 0, none⟩) 2 2] 23)).grown hgrow3 (by have := HNX.out.size; simp; omega) (fun j hj => (HOX.out.lt j hj).1))
        have HO7 := Lib.hid (show OwLs w7 w4.heap.size v3 (((truthsF p).take (i + 1)).map (apartR p h k)) by
          rw [HTK.out, List.map_append, ← HGK.out]; show OwLs w7 w4.heap.size v3 (((truthsF p).take i).map (apartR p h k) ++ [apartR p h k T]); refine OwLs.app (hs := hs) (by rw [HLK.out]; exact own_kept HOX.out ba) (HEX.out.below ba) ?_ hgrow3 (by rw [HLK.out]; exact hown3); rw [HLR.out]; exact own_kept HROW.out ba)
        clear hown3 hgrow3 ba ex; go_wp2; go_roundw
        case rel => exact ⟨i + 1, by omega, by go_num, HO7, HB7⟩
        case measure => simp [intOf]; omega
    · obtain rfl : i = (truthsF p).length := by omega
      have hki : ¬ ((truthsF p).length : Int) < ((truthsF p).length : Int) := by omega
      rw [List.take_length] at HO; obtain ⟨q5, c5, rfl, hr5⟩ := HO.out.read
      have hH := Lib.hid (show Calls Tryz.prog 83 #[.slice q5 (truthsF p).length c5] wr (RdsPost [ovF p fun pl => just ((shF p h pl).1 - (shF p k pl).2), ovF p fun pl => just ((shF p h pl).2 - (shF p k pl).1)] wr) by
        have h := r_hulls q5 c5 ((truthsF p).map (apartR p h k)) 2 wr hr5 (by rw [List.length_map]; exact HT.out) (by rw [List.length_map]; omega) (fun i hi => by
          rw [List.length_map] at hi; rw [gl_get _ _ (by rw [List.length_map]; exact hi), List.getElem_map]; rfl) (by omega)
        rw [apartR_hulls, List.length_map] at h; exact h)
      rw [List.length_map]; have HAE := Lib.hid (apart_ends p h k); clear hr5 HO
      (go_wp2_with fail); refine hH.out.mono ?_
      rintro e w6 ⟨q6, c6, rfl, h6, b6⟩; obtain ⟨x6, y6, rfl, hc6⟩ := h6.at (i := 0) (by simp); obtain ⟨L0, hL0⟩ : ∃ x, (ovF p fun pl => just ((shF p h pl).1 - (shF p k pl).2)).1 = x := ⟨_, rfl⟩; obtain ⟨U0, hU0⟩ : ∃ x, (ovF p fun pl => just ((shF p h pl).2 - (shF p k pl).1)).2 = x := ⟨_, rfl⟩; have z0 : w6.cell? ⟨x6, y6, none⟩ = some (.int .i64 L0) := by rw [← hL0]; exact (hc6 0 (by simp)).1
      have z1 : w6.cell? ⟨x6, y6 + 2 + 1, none⟩ = some (.int .i64 U0) := by rw [← hU0]; exact (hc6 1 (by simp)).2
      rw [hL0, hU0] at HAE; have hb := HB4.out.trans ((HN.out.trans (b6.mono HN.out.size)).mono HB4.out.size); have HBZ := Lib.hid hb; clear hc6 h6 hL0 hU0 hb b6; go_wp2; refine wp_region_below_tail 8 (by kernel_rfl) (by kernel_rfl) ?_; simp only [List.take_succ_cons, List.take_zero, List.drop_succ_cons, List.drop_zero]; (repeat (first | ((with_reducible first | apply wq_fg faP0 | apply wq_fg faP1 | apply wq_fg faP2 | apply wq_fg faM0 | apply wq_fg faS0 | apply wq_fg faS1 | apply wq_fg faR0 | apply wq_fg faR1 | apply wq_fg faR2 | apply wq_fg faR3 | apply wq_fg faT0 | apply wq_fg faT1 | apply wq_fg faQ0 | apply wq_fg faQ1 | apply wq_fg faH0 | apply wq_fg faH1 | apply wq_fg faH2 | apply wq_fg faH3); (focus rfl); (focus rfl); go_frame) | ((with_reducible first | apply wq_ix Tryz.underlying23 szI | apply wq_ix Tryz.underlying27 szSp | apply wq_ix Tryz.underlying22 szM | apply wq_ix Tryz.underlying24 szR | apply wq_ix Tryz.underlying43 szL | apply wq_ix Tryz.underlying103 szT | apply wq_ix Tryz.underlying174 szS); (focus rfl); (focus rfl); (focus rfl); (focus omega); (try simp only [Nat.mul_one]); go_frame) | ((with_reducible apply wq_ixn 0 Tryz.underlying174 szS); (focus rfl); (focus rfl); (focus rfl); (focus rfl); (focus omega); (try simp only [Nat.mul_one]); go_frame) | ((with_reducible apply wq_ixn 1 Tryz.underlying174 szS); (focus rfl); (focus rfl); (focus rfl); (focus rfl); (focus omega); (try simp only [Nat.mul_one]); go_frame) | ((with_reducible apply wq_ixn 2 Tryz.underlying174 szS); (focus rfl); (focus rfl); (focus rfl); (focus rfl); (focus omega); (try simp only [Nat.mul_one]); go_frame) | ((with_reducible apply wq_ixn 3 Tryz.underlying174 szS); (focus rfl); (focus rfl); (focus rfl); (focus rfl); (focus omega); (try simp only [Nat.mul_one]); go_frame) | ((with_reducible apply wq_ixn 4 Tryz.underlying174 szS); (focus rfl); (focus rfl); (focus rfl); (focus rfl); (focus omega); (try simp only [Nat.mul_one]); go_frame) | ((with_reducible apply wq_ixn 0 Tryz.underlying23 szI); (focus rfl); (focus rfl); (focus rfl); (focus rfl); (focus omega); (try simp only [Nat.mul_one]); go_frame) | ((with_reducible apply wq_ixn 1 Tryz.underlying23 szI); (focus rfl); (focus rfl); (focus rfl); (focus rfl); (focus omega); (try simp only [Nat.mul_one]); go_frame) | ((with_reducible apply wq_ixn 2 Tryz.underlying23 szI); (focus rfl); (focus rfl); (focus rfl); (focus rfl); (focus omega); (try simp only [Nat.mul_one]); go_frame) | ((with_reducible apply wq_ixn 3 Tryz.underlying23 szI); (focus rfl); (focus rfl); (focus rfl); (focus rfl); (focus omega); (try simp only [Nat.mul_one]); go_frame) | ((with_reducible apply wq_ixn 4 Tryz.underlying23 szI); (focus rfl); (focus rfl); (focus rfl); (focus rfl); (focus omega); (try simp only [Nat.mul_one]); go_frame) | ((with_reducible apply wq_ixn 0 Tryz.underlying27 szSp); (focus rfl); (focus rfl); (focus rfl); (focus rfl); (focus omega); (try simp only [Nat.mul_one]); go_frame) | ((with_reducible apply wq_ixn 1 Tryz.underlying27 szSp); (focus rfl); (focus rfl); (focus rfl); (focus rfl); (focus omega); (try simp only [Nat.mul_one]); go_frame) | ((with_reducible apply wq_ixn 2 Tryz.underlying27 szSp); (focus rfl); (focus rfl); (focus rfl); (focus rfl); (focus omega); (try simp only [Nat.mul_one]); go_frame) | ((with_reducible apply wq_ixn 3 Tryz.underlying27 szSp); (focus rfl); (focus rfl); (focus rfl); (focus rfl); (focus omega); (try simp only [Nat.mul_one]); go_frame) | ((with_reducible apply wq_ixn 4 Tryz.underlying27 szSp); (focus rfl); (focus rfl); (focus rfl); (focus rfl); (focus omega); (try simp only [Nat.mul_one]); go_frame) | ((with_reducible first | apply wq_ld agI | apply wq_ld agB | apply wq_ld agS | apply wq_ld agLI | apply wq_ld agLS | apply wq_ld agLM | apply wq_ld agLR | apply wq_ld agLL | apply wq_ld agLT); (focus rfl); (focus rfl); (focus (intro _ hbq; first | exact (hbq.cell (lt_of_cellq z0)).trans z0 | exact (hbq.cell (lt_of_cellq z1)).trans z1)); go_frame) | ((with_reducible first | apply wq_add | apply wq_sub | apply wq_mul | apply wq_rem); (focus rfl); (focus rfl); (focus rfl); (focus omega); (focus omega); go_frame) | ((with_reducible first | apply wq_eql | apply wq_neq | apply wq_lss | apply wq_leq | apply wq_gtr | apply wq_geq | apply wq_max2 | apply wq_min2); (focus rfl); (focus rfl); (focus rfl); go_frame) | ((with_reducible first | apply wq_max3 | apply wq_min3); (focus rfl); (focus rfl); (focus rfl); (focus rfl); go_frame) | go_big_quiet_step (fail))); refine wpQuiet_nil ?_; intro wq hbq
      have hb2 := HBZ.out.trans (hbq.mono HBZ.out.size); obtain ⟨w8, w9, t1, t2, ⟨x0, f0⟩, ⟨x1, f1⟩, hx4, hxk, HZ6, hxb⟩ := set2 wq w2'.heap.size 36 _ _ (.int .i64 L0) (.int .i64 U0) ((hb2.block _ (block_lt HKB.out)).trans HKB.out); obtain ⟨r0, r1⟩ := cells2 hx4; have HBF := Lib.hid (hxb w w.heap.size HZ.out.1 (HB.out.trans (hb2.mono HB.out.size))); clear hx4 hxk hxb hb2 hbq; go_wp2; refine bodyPost_ret (v := .agg #[.int .i64 L0, .int .i64 U0]) ?_ rfl ⟨by rw [← HAE.out], HBF.out⟩; simp [results, Tryz.results32, go_sem, r0, r1]
end Go.Proofs.YtlednchfifphgabGreatDoor
end

section
namespace Go.Proofs.YtlednchfifphgabGreatDoor
open Go Go.RowKit Go.Proofs
set_option linter.unusedVariables false
set_option linter.unusedSimpArgs false

def briefB (h : Hd) : Bool := decide (h.er.length ≤ 10)
theorem l_brief (h : Hd) (pe : Option Addr) (ce : Nat) (w : World) : Calls Tryz.prog 15 #[hdV h pe ce] w fun e w' => e = .returned (.bool (briefB h)) ∧ Below w.heap.size w w' := by
  unfold hdV; obtain ⟨w1, e1, HS1, q0, q1, q2, q3, b1⟩ := box4 w (.int .i64 h.arb) (.int .i64 h.num) (.int .i64 h.den) (.slice pe h.er.length ce) 29; have HB := Lib.hid b1; have HD := Lib.hid (show decide ((h.er.length : Int) ≤ 10) = briefB h by unfold briefB; exact decide_eq_decide.2 (by omega)); clear b1
  by_cases hl : h.er.length ≤ 10
  · have h1 : decide ((h.er.length : Int) ≤ 10) = true := decide_eq_true (by omega)
    have H := Lib.hid (show briefB h = true from decide_eq_true hl); clear hl
    go_enter Tryz.func15, Tryz.ntmps15
    go_wp2; go_ret; exact ⟨by rw [H.out]; rfl, HB.out⟩
  · have h1 : decide ((h.er.length : Int) ≤ 10) = false := decide_eq_false (by omega)
    have H := Lib.hid (show briefB h = false from decide_eq_false hl); clear hl
    go_enter Tryz.func15, Tryz.ntmps15
    go_wp2; go_ret; exact ⟨by rw [H.out]; rfl, HB.out⟩
end Go.Proofs.YtlednchfifphgabGreatDoor
end

section
namespace Go.Proofs.YtlednchfifphgabGreatDoor
open Go Go.RowKit Go.Proofs
set_option linter.unusedVariables false
set_option linter.unusedSimpArgs false

def LAskNo (er : Int) (w : World) (e : Ending) (w' : World) : Prop := e = .returned (.tuple #[.slice none 0 0, .int .i64 er]) ∧ Below w.heap.size w w'
def LAskOk (p : Pc) (w : World) (e : Ending) (w' : World) : Prop := ∃ q c, e = .returned (.tuple #[.slice q (truthsF p).length c, .int .i64 0]) ∧ RdLs w' q (truthsF p) ∧ Below w.heap.size w w'
set_option maxRecDepth 100000 in
theorem l_asked_no (pm pv pr : Option Addr) (cm cv cr : Nat) (p : Pc) (is : Bool) (w : World) (hp : RdP w pm pv pr p) (hl : LenOk p) (h : (pieceB p && is) = false) :
    Calls Tryz.prog 22 #[.agg #[.slice pm p.ms.length cm, .slice pv p.mv.length cv, .slice pr p.rs.length cr], .bool is] w (LAskNo 2 w) := by
  obtain ⟨w1, e1, HS1, k0, k1, k2, b1⟩ := box3 w (.slice pm p.ms.length cm) (.slice pv p.mv.length cv) (.slice pr p.rs.length cr) 26; have HP := Lib.hid (hp.below b1); have HB := Lib.hid b1; clear hp b1
  rcases h2 : pieceB p with _ | _
  · clear h
    go_enter Tryz.func22, Tryz.ntmps22
    go_wp2_with fail; refine (r_Piece pm pv pr cm cv cr p _ HP.out hl).mono ?_; rw [h2]; rintro e wn ⟨rfl, bq⟩; have HBB := Lib.hid (HB.out.trans (bq.mono HB.out.size)); clear bq e1; go_wp2; refine bodyPost_ret (v := .tuple #[.slice none 0 0, .int .i64 2]) (by simp [results, Tryz.results22, go_sem]) rfl ?_; exact ⟨rfl, HBB.out⟩
  · obtain rfl : is = false := by rw [h2] at h; simpa using h
    clear h
    go_enter Tryz.func22, Tryz.ntmps22
    go_wp2_with fail; refine (r_Piece pm pv pr cm cv cr p _ HP.out hl).mono ?_; rw [h2]; rintro e wn ⟨rfl, bq⟩; have HBB := Lib.hid (HB.out.trans (bq.mono HB.out.size)); clear bq e1; go_wp2; refine bodyPost_ret (v := .tuple #[.slice none 0 0, .int .i64 2]) (by simp [results, Tryz.results22, go_sem]) rfl ?_; exact ⟨rfl, HBB.out⟩
set_option maxRecDepth 100000 in
theorem l_asked_rule (pm pv pr : Option Addr) (cm cv cr : Nat) (p : Pc) (w : World) (hp : RdP w pm pv pr p) (hl : LenOk p) (h : pieceB p = true) (ht : truthsF p = []) :
    Calls Tryz.prog 22 #[.agg #[.slice pm p.ms.length cm, .slice pv p.mv.length cv, .slice pr p.rs.length cr], .bool true] w (LAskNo 7 w) := by
  obtain ⟨w1, e1, HS1, k0, k1, k2, b1⟩ := box3 w (.slice pm p.ms.length cm) (.slice pv p.mv.length cv) (.slice pr p.rs.length cr) 26; have HP := Lib.hid (hp.below b1); have HB := Lib.hid b1; have HT := Lib.hid ht; clear hp b1 ht
  go_enter Tryz.func22, Tryz.ntmps22
  go_wp2_with fail; refine (r_Piece pm pv pr cm cv cr p _ HP.out hl).mono ?_; rw [h]; clear e1; rintro e wn ⟨rfl, bq⟩; replace HB := Lib.hid (HB.out.trans (bq.mono HB.out.size)); replace HP := Lib.hid (HP.out.below bq); have k0 := (bq.cell (lt_of_cellq k0)).trans k0; have k1 := (bq.cell (lt_of_cellq k1)).trans k1; have k2 := (bq.cell (lt_of_cellq k2)).trans k2; clear bq; go_wp2_with fail; refine (r_Truths pm pv pr cm cv cr p _ HP.out (pieceB_iff.1 h)).mono ?_; rw [HT.out]; rintro e w2 ⟨q, c, rfl, hr, bq⟩; have HBB := Lib.hid (HB.out.trans (bq.mono HB.out.size)); clear bq hr; go_wp2; refine bodyPost_ret (v := .tuple #[.slice none 0 0, .int .i64 7]) (by simp [results, Tryz.results22, go_sem]) rfl ?_; exact ⟨rfl, HBB.out⟩
set_option maxRecDepth 100000 in
theorem l_asked_ok (pm pv pr : Option Addr) (cm cv cr : Nat) (p : Pc) (w : World) (hp : RdP w pm pv pr p) (hl : LenOk p) (h : pieceB p = true) (ht : truthsF p ≠ []) :
    Calls Tryz.prog 22 #[.agg #[.slice pm p.ms.length cm, .slice pv p.mv.length cv, .slice pr p.rs.length cr], .bool true] w (LAskOk p w) := by
  obtain ⟨w1, e1, HS1, k0, k1, k2, b1⟩ := box3 w (.slice pm p.ms.length cm) (.slice pv p.mv.length cv) (.slice pr p.rs.length cr) 26; have HP := Lib.hid (hp.below b1); have HB := Lib.hid b1
  have h0 : (((truthsF p).length : Int) == 0) = false := by
    rw [beq_eq_false_iff_ne]; have := List.length_pos_iff.2 ht; omega
  clear hp b1 ht
  go_enter Tryz.func22, Tryz.ntmps22
  go_wp2_with fail; refine (r_Piece pm pv pr cm cv cr p _ HP.out hl).mono ?_; rw [h]; clear e1; rintro e wn ⟨rfl, bq⟩; replace HB := Lib.hid (HB.out.trans (bq.mono HB.out.size)); replace HP := Lib.hid (HP.out.below bq); have k0 := (bq.cell (lt_of_cellq k0)).trans k0; have k1 := (bq.cell (lt_of_cellq k1)).trans k1; have k2 := (bq.cell (lt_of_cellq k2)).trans k2; clear bq; go_wp2_with fail; refine (r_Truths pm pv pr cm cv cr p _ HP.out (pieceB_iff.1 h)).mono ?_; rintro e w2 ⟨q, c, rfl, hr, bq⟩; have HBB := Lib.hid (HB.out.trans (bq.mono HB.out.size)); have HR := Lib.hid hr; clear bq hr; go_wp2; refine bodyPost_ret (v := .tuple #[.slice q (truthsF p).length c, .int .i64 0]) (by simp [results, Tryz.results22, go_sem]) rfl ?_; exact ⟨q, c, rfl, HR.out, HBB.out⟩
end Go.Proofs.YtlednchfifphgabGreatDoor
end

section
namespace Go.Proofs.YtlednchfifphgabGreatDoor
open Go Go.RowKit Go.Proofs
set_option linter.unusedVariables false
set_option linter.unusedSimpArgs false
attribute [local go_sem] imax2 imin2

theorem err_ok {p : Pc} {fine : Bool} (h : errF p fine = 0) : pieceB p = true ∧ fine = true ∧ truthsF p ≠ [] := by
  unfold errF at h
  by_cases h1 : (pieceB p && fine) = false
  · rw [if_pos h1] at h; cases h
  · rw [if_neg h1] at h
    by_cases h2 : truthsF p = []
    · rw [if_pos h2] at h; cases h
    · rw [Bool.not_eq_false, Bool.and_eq_true] at h1
      exact ⟨h1.1, h1.2, h2⟩
theorem lask_err (pm pv pr : Option Addr) (cm cv cr : Nat) (p : Pc) (fine : Bool) (W : World) (hp : RdP W pm pv pr p) (hl : LenOk p) (h : errF p fine ≠ 0) :
    Calls Tryz.prog 22 #[.agg #[.slice pm p.ms.length cm, .slice pv p.mv.length cv, .slice pr p.rs.length cr], .bool fine] W (LAskNo (errF p fine) W) := by
  by_cases h1 : (pieceB p && fine) = false
  · rw [err_bad h1]; exact l_asked_no pm pv pr cm cv cr p fine W hp hl h1
  · rw [Bool.not_eq_false] at h1
    by_cases h2 : truthsF p = []
    · rw [err_rule h1 h2]
      rw [Bool.and_eq_true] at h1; rw [h1.2]; exact l_asked_rule pm pv pr cm cv cr p W hp hl h1.1 h2
    · rw [Bool.and_eq_true] at h1
      exact absurd (err_good h1.1 h1.2 h2) h
end Go.Proofs.YtlednchfifphgabGreatDoor
end

section
namespace Go.Proofs.YtlednchfifphgabGreatDoor
open Go Go.RowKit Go.Proofs
set_option linter.unusedVariables false
set_option linter.unusedSimpArgs false
attribute [local go_sem] imax2 imin2

set_option maxHeartbeats 6400000 in
set_option maxRecDepth 100000 in
theorem law_Aparts (pm pv pr : Option Addr) (cm cv cr : Nat) (p : Pc) (h : Hd) (pe : Option Addr) (ce : Nat) (k : Hd) (pf : Option Addr) (cf : Nat) (m : Int) (w : World) (hp : RdP w pm pv pr p) (hE : RdS w pe h.er) (hF : RdS w pf k.er) (hm : MaxL m w) (hi : ItoaG w) :
    Calls Tryz.prog 5 #[.agg #[.slice pm p.ms.length cm, .slice pv p.mv.length cv, .slice pr p.rs.length cr], hdV h pe ce, hdV k pf cf] w (LawPost w) := by
  obtain ⟨w1, e1, HS1, k0, k1, k2, b1⟩ := box3 w (.slice pm p.ms.length cm) (.slice pv p.mv.length cv) (.slice pr p.rs.length cr) 26; obtain ⟨w2, e2, HS2, q0, q1, q2, q3, b2⟩ := box4 w1 (.int .i64 h.arb) (.int .i64 h.num) (.int .i64 h.den) (.slice pe h.er.length ce) 29; obtain ⟨w3, e3, HS3, p0, p1, p2, p3, b3⟩ := box4 w2 (.int .i64 k.arb) (.int .i64 k.num) (.int .i64 k.den) (.slice pf k.er.length cf) 29; have b23 := b2.trans (b3.mono b2.size); have b13 := b1.trans (b23.mono b1.size); have k0 := (b23.cell (lt_of_cellq k0)).trans k0; have k1 := (b23.cell (lt_of_cellq k1)).trans k1; have k2 := (b23.cell (lt_of_cellq k2)).trans k2; have q0 := (b3.cell (lt_of_cellq q0)).trans q0; have q1 := (b3.cell (lt_of_cellq q1)).trans q1; have q2 := (b3.cell (lt_of_cellq q2)).trans q2; have q3 := (b3.cell (lt_of_cellq q3)).trans q3; have HP := Lib.hid (hp.below b13); have HE := Lib.hid (hE.below b13); have HF := Lib.hid (hF.below b13)
  have HM := Lib.hid hm; have HI := Lib.hid hi; have HB := Lib.hid b13; have HLB := Lib.hid (l_brief h pe ce); have HLC := Lib.hid (l_brief k pf cf); have HKB := Lib.hid (fun W (h1 : RdP W pm pv pr p) hl (h2 : RdS W pe h.er) g2 (h3 : RdS W pf k.er) g3 => c_Apart pm pv pr cm cv cr p h k pe pf ce cf W h1 hl h2 g2 h3 g3); have HKD := Lib.hid (fun q c W (h1 : RdP W pm pv pr p) (hq : RdLs W q (truthsF p)) hpo ht (h2 : RdS W pe h.er) hh (h3 : RdS W pf k.er) hk => r_Apart pm pv pr cm cv cr p q c h k pe pf ce cf W h1 hq hpo ht h2 hh h3 hk); clear hp hE hF hm hi b1 b2 b3 b23 b13; unfold hdV at HLB HLC HKB HKD; unfold hdV
  go_enter Tryz.func5, Tryz.ntmps5
  (go_wp2_with fail); refine (c_short pm pv pr cm cv cr p _).mono ?_
  clear e1 e2 e3
  rcases hs : shortB p with _ | _
  · rintro e wn ⟨rfl, bq⟩; replace HB := Lib.hid (HB.out.trans (bq.mono HB.out.size)); clear bq
    (go_wp2_with fail); refine (c_known m _ (HM.out.below HB.out) (HI.out.below HB.out)).mono ?_; rintro e wn ⟨rfl, bq⟩; have HFK := Lib.hid (HB.out.trans (bq.mono HB.out.size)); clear bq; go_wp2; go_ret; exact ⟨rfl, HFK.out⟩
  rintro e wn ⟨rfl, bq⟩; replace HB := Lib.hid (HB.out.trans (bq.mono HB.out.size)); replace HP := Lib.hid (HP.out.below bq); replace HE := Lib.hid (HE.out.below bq); replace HF := Lib.hid (HF.out.below bq); have k0 := (bq.cell (lt_of_cellq k0)).trans k0; have k1 := (bq.cell (lt_of_cellq k1)).trans k1; have k2 := (bq.cell (lt_of_cellq k2)).trans k2; have q0 := (bq.cell (lt_of_cellq q0)).trans q0; have q1 := (bq.cell (lt_of_cellq q1)).trans q1; have q2 := (bq.cell (lt_of_cellq q2)).trans q2; have q3 := (bq.cell (lt_of_cellq q3)).trans q3; have p0 := (bq.cell (lt_of_cellq p0)).trans p0; have p1 := (bq.cell (lt_of_cellq p1)).trans p1; have p2 := (bq.cell (lt_of_cellq p2)).trans p2; have p3 := (bq.cell (lt_of_cellq p3)).trans p3; clear bq; have HLN := Lib.hid (short_len hs); clear hs
  (go_wp2_with fail); refine (HLB.out _).mono ?_
  rcases hl1 : briefB h with _ | _
  · rintro e wn ⟨rfl, bq⟩; replace HB := Lib.hid (HB.out.trans (bq.mono HB.out.size)); clear bq
    (go_wp2_with fail); refine (c_known m _ (HM.out.below HB.out) (HI.out.below HB.out)).mono ?_; rintro e wn ⟨rfl, bq⟩; have HFK := Lib.hid (HB.out.trans (bq.mono HB.out.size)); clear bq; go_wp2; go_ret; exact ⟨rfl, HFK.out⟩
  rintro e wn ⟨rfl, bq⟩; replace HB := Lib.hid (HB.out.trans (bq.mono HB.out.size)); replace HP := Lib.hid (HP.out.below bq); replace HE := Lib.hid (HE.out.below bq); replace HF := Lib.hid (HF.out.below bq); have k0 := (bq.cell (lt_of_cellq k0)).trans k0; have k1 := (bq.cell (lt_of_cellq k1)).trans k1; have k2 := (bq.cell (lt_of_cellq k2)).trans k2; have q0 := (bq.cell (lt_of_cellq q0)).trans q0; have q1 := (bq.cell (lt_of_cellq q1)).trans q1; have q2 := (bq.cell (lt_of_cellq q2)).trans q2; have q3 := (bq.cell (lt_of_cellq q3)).trans q3; have p0 := (bq.cell (lt_of_cellq p0)).trans p0; have p1 := (bq.cell (lt_of_cellq p1)).trans p1; have p2 := (bq.cell (lt_of_cellq p2)).trans p2; have p3 := (bq.cell (lt_of_cellq p3)).trans p3; clear bq
  (go_wp2_with fail); refine (HLC.out _).mono ?_
  rcases hl2 : briefB k with _ | _
  · rintro e wn ⟨rfl, bq⟩; replace HB := Lib.hid (HB.out.trans (bq.mono HB.out.size)); clear bq
    (go_wp2_with fail); refine (c_known m _ (HM.out.below HB.out) (HI.out.below HB.out)).mono ?_; rintro e wn ⟨rfl, bq⟩; have HFK := Lib.hid (HB.out.trans (bq.mono HB.out.size)); clear bq; go_wp2; go_ret; exact ⟨rfl, HFK.out⟩
  rintro e wn ⟨rfl, bq⟩; replace HB := Lib.hid (HB.out.trans (bq.mono HB.out.size)); replace HP := Lib.hid (HP.out.below bq); replace HE := Lib.hid (HE.out.below bq); replace HF := Lib.hid (HF.out.below bq); have k0 := (bq.cell (lt_of_cellq k0)).trans k0; have k1 := (bq.cell (lt_of_cellq k1)).trans k1; have k2 := (bq.cell (lt_of_cellq k2)).trans k2; have q0 := (bq.cell (lt_of_cellq q0)).trans q0; have q1 := (bq.cell (lt_of_cellq q1)).trans q1; have q2 := (bq.cell (lt_of_cellq q2)).trans q2; have q3 := (bq.cell (lt_of_cellq q3)).trans q3; have p0 := (bq.cell (lt_of_cellq p0)).trans p0; have p1 := (bq.cell (lt_of_cellq p1)).trans p1; have p2 := (bq.cell (lt_of_cellq p2)).trans p2; have p3 := (bq.cell (lt_of_cellq p3)).trans p3; clear bq; have hl1 : h.er.length ≤ 10 := of_decide_eq_true hl1; have hl2 : k.er.length ≤ 10 := of_decide_eq_true hl2; have HKA := Lib.hid (fun W (h1 : RdP W pm pv pr p) (h2 : RdS W pe h.er) (h3 : RdS W pf k.er) => HKB.out W h1 HLN.out h2 (by omega) h3 (by omega))
  clear HKB
  rcases g1 : pieceB p with _ | _
  · skip
    obtain ⟨Z, hZ⟩ : ∃ Z : Int, Z = 0 := ⟨0, rfl⟩; have hZ0 : (Z == 0) = true := by simp [hZ]
    have HK1 := Lib.hid (fun W (h1 : RdP W pm pv pr p) (h2 : RdS W pe h.er) (h3 : RdS W pf k.er) => show Calls Tryz.prog 31 #[.agg #[.slice pm p.ms.length cm, .slice pv p.mv.length cv, .slice pr p.rs.length cr], .agg #[.int .i64 h.arb, .int .i64 h.num, .int .i64 h.den, .slice pe h.er.length ce], .agg #[.int .i64 k.arb, .int .i64 k.num, .int .i64 k.den, .slice pf k.er.length cf]] W fun e w' => e = .returned (.tuple #[.agg #[.int .i64 Z, .int .i64 Z], .int .i64 2]) ∧ Below W.heap.size W w' by
      have hh := HKA.out W h1 h2 h3; unfold SpanPost AnsS okI at hh; rw [err_bad (by rw [g1]; rfl)] at hh; rw [hZ]; exact hh)
    have HK3 := Lib.hid (fun W (h : RdP W pm pv pr p) => l_asked_no pm pv pr cm cv cr p false W h HLN.out (Bool.and_false _)); unfold LAskNo at HK3; have t1 : ((2 : Int) != 0) = true := by decide
    have HPC := Lib.hid (fun W (h1 : RdP W pm pv pr p) => show Calls Tryz.prog 20 #[.agg #[.slice pm p.ms.length cm, .slice pv p.mv.length cv, .slice pr p.rs.length cr]] W fun e w' => e = .returned (.bool false) ∧ Below W.heap.size W w' by
      have hh := r_Piece pm pv pr cm cv cr p W h1 HLN.out; rw [g1] at hh; exact hh)
    clear hZ HKA
    (go_wp2_with fail); refine (HK1.out _ HP.out HE.out HF.out).mono ?_
    rintro e wn ⟨rfl, bq⟩; replace HB := Lib.hid (HB.out.trans (bq.mono HB.out.size)); replace HP := Lib.hid (HP.out.below bq); replace HE := Lib.hid (HE.out.below bq); replace HF := Lib.hid (HF.out.below bq); have k0 := (bq.cell (lt_of_cellq k0)).trans k0; have k1 := (bq.cell (lt_of_cellq k1)).trans k1; have k2 := (bq.cell (lt_of_cellq k2)).trans k2; have q0 := (bq.cell (lt_of_cellq q0)).trans q0; have q1 := (bq.cell (lt_of_cellq q1)).trans q1; have q2 := (bq.cell (lt_of_cellq q2)).trans q2; have q3 := (bq.cell (lt_of_cellq q3)).trans q3; have p0 := (bq.cell (lt_of_cellq p0)).trans p0; have p1 := (bq.cell (lt_of_cellq p1)).trans p1; have p2 := (bq.cell (lt_of_cellq p2)).trans p2; have p3 := (bq.cell (lt_of_cellq p3)).trans p3; clear bq; obtain ⟨x2, e2, HSx, r0, r1, bq⟩ := box2 wn (.int .i64 Z) (.int .i64 Z) 36; go_upto_region 4 with (fail); clear e2
    skip; replace HB := Lib.hid (HB.out.trans (bq.mono HB.out.size)); replace HP := Lib.hid (HP.out.below bq); replace HE := Lib.hid (HE.out.below bq); replace HF := Lib.hid (HF.out.below bq); have k0 := (bq.cell (lt_of_cellq k0)).trans k0; have k1 := (bq.cell (lt_of_cellq k1)).trans k1; have k2 := (bq.cell (lt_of_cellq k2)).trans k2; have q0 := (bq.cell (lt_of_cellq q0)).trans q0; have q1 := (bq.cell (lt_of_cellq q1)).trans q1; have q2 := (bq.cell (lt_of_cellq q2)).trans q2; have q3 := (bq.cell (lt_of_cellq q3)).trans q3; have p0 := (bq.cell (lt_of_cellq p0)).trans p0; have p1 := (bq.cell (lt_of_cellq p1)).trans p1; have p2 := (bq.cell (lt_of_cellq p2)).trans p2; have p3 := (bq.cell (lt_of_cellq p3)).trans p3; clear bq
    have HSB := Lib.hid (cl13 k0 k1 k2 q0 q1 q2 q3 p0 p1 p2 p3 r0 r1); refine held13 k0 k1 k2 q0 q1 q2 q3 p0 p1 p2 p3 r0 r1 (fun W0 HB0 => ?_); refine tk 0 rfl (by exact HSB.out _ HB0) ?_; (try simp only [Act.put, ptL]); refine tk 1 rfl (by exact HSB.out _ HB0) ?_; (try simp only [Act.put, ptL]); refine rz1 2 rfl ?_; intro K hK; go_simp; refine (HPC.out W0 (HP.out.below HB0)).mono ?_; rintro e W1 ⟨rfl, ba⟩; have HB1 := HB0.trans (ba.mono HB0.size); clear ba; refine kz hK (by exact HSB.out _ HB1) ?_; clear hK K; (try simp only [Act.put, ptL]); refine tk 3 rfl (by exact HSB.out _ HB1) ?_; (try simp only [Act.put, ptL]); refine tu 4 rfl (by exact HSB.out _ HB1) ?_; (try simp only [Act.put, ptL]); refine tu 5 rfl (by exact HSB.out _ HB1) ?_; (try simp only [Act.put, ptL]); refine tu 6 rfl (by exact HSB.out _ HB1) ?_; (try simp only [Act.put, ptL]); refine tk 7 rfl (by exact HSB.out _ HB1) ?_; (try simp only [Act.put, ptL]); refine tk 8 rfl (by exact HSB.out _ HB1) ?_; (try simp only [Act.put, ptL])
    refine tu 9 rfl (by exact HSB.out _ HB1) ?_; (try simp only [Act.put, ptL]); refine tu 10 rfl (by exact HSB.out _ HB1) ?_; (try simp only [Act.put, ptL]); refine tu 11 rfl (by exact HSB.out _ HB1) ?_; (try simp only [Act.put, ptL]); refine tk 12 rfl (by exact HSB.out _ HB1) ?_; (try simp only [Act.put, ptL]); refine rz1 13 rfl ?_; intro K hK; go_simp; refine (HK3.out W1 (HP.out.below HB1)).mono ?_; rintro e W2 ⟨rfl, ba⟩; have HB2 := HB1.trans (ba.mono HB1.size); clear ba; refine kz hK (by exact HSB.out _ HB2) ?_; clear hK K; (try simp only [Act.put, ptL]); refine tk 14 rfl (by exact HSB.out _ HB2) ?_; (try simp only [Act.put, ptL]); refine tk 15 rfl (by exact HSB.out _ HB2) ?_; (try simp only [Act.put, ptL]); refine tk 16 rfl (by exact HSB.out _ HB2) ?_; (try simp only [Act.put, ptL]); refine tk 17 rfl (by exact HSB.out _ HB2) ?_; (try simp only [Act.put, ptL]); refine tk 18 rfl (by exact HSB.out _ HB2) ?_; (try simp only [Act.put, ptL])
    refine wpAnyH_done (by kernel_rfl) ?_ _; obtain ⟨k0, k1, k2, q0, q1, q2, q3, p0, p1, p2, p3, r0, r1⟩ := HSB.out _ HB2; replace HB := Lib.hid (HB.out.trans (HB2.mono HB.out.size)); replace HP := Lib.hid (HP.out.below HB2); replace HE := Lib.hid (HE.out.below HB2); replace HF := Lib.hid (HF.out.below HB2); clear HSB HB0 HB1 HB2
    (go_wp2_with fail); refine (c_known m _ (HM.out.below HB.out) (HI.out.below HB.out)).mono ?_; rintro e wn ⟨rfl, bq⟩; have HFK := Lib.hid (HB.out.trans (bq.mono HB.out.size)); clear bq; go_wp2; go_ret; exact ⟨rfl, HFK.out⟩
  rcases g2 : handB p.ms.length h with _ | _
  · skip
    obtain ⟨Z, hZ⟩ : ∃ Z : Int, Z = 0 := ⟨0, rfl⟩; have hZ0 : (Z == 0) = true := by simp [hZ]
    have HK1 := Lib.hid (fun W (h1 : RdP W pm pv pr p) (h2 : RdS W pe h.er) (h3 : RdS W pf k.er) => show Calls Tryz.prog 31 #[.agg #[.slice pm p.ms.length cm, .slice pv p.mv.length cv, .slice pr p.rs.length cr], .agg #[.int .i64 h.arb, .int .i64 h.num, .int .i64 h.den, .slice pe h.er.length ce], .agg #[.int .i64 k.arb, .int .i64 k.num, .int .i64 k.den, .slice pf k.er.length cf]] W fun e w' => e = .returned (.tuple #[.agg #[.int .i64 Z, .int .i64 Z], .int .i64 2]) ∧ Below W.heap.size W w' by
      have hh := HKA.out W h1 h2 h3; unfold SpanPost AnsS okI at hh; rw [err_bad (by rw [g2, Bool.false_and, Bool.and_false])] at hh; rw [hZ]; exact hh)
    have HK3 := Lib.hid (fun W (h : RdP W pm pv pr p) => l_asked_no pm pv pr cm cv cr p false W h HLN.out (Bool.and_false _)); unfold LAskNo at HK3; have t1 : ((2 : Int) != 0) = true := by decide
    have HPC := Lib.hid (fun W (h1 : RdP W pm pv pr p) => show Calls Tryz.prog 20 #[.agg #[.slice pm p.ms.length cm, .slice pv p.mv.length cv, .slice pr p.rs.length cr]] W fun e w' => e = .returned (.bool true) ∧ Below W.heap.size W w' by
      have hh := r_Piece pm pv pr cm cv cr p W h1 HLN.out; rw [g1] at hh; exact hh)
    have HH1 := Lib.hid (fun W (h1 : RdS W pe h.er) => show Calls Tryz.prog 21 #[.agg #[.slice pm p.ms.length cm, .slice pv p.mv.length cv, .slice pr p.rs.length cr], .agg #[.int .i64 h.arb, .int .i64 h.num, .int .i64 h.den, .slice pe h.er.length ce]] W fun e w' => e = .returned (.bool false) ∧ Below W.heap.size W w' by
      have hh := r_Hand pm pv pr cm cv cr p h pe ce W h1 (by omega); rw [g2] at hh; exact hh)
    clear hZ HKA
    (go_wp2_with fail); refine (HK1.out _ HP.out HE.out HF.out).mono ?_
    rintro e wn ⟨rfl, bq⟩; replace HB := Lib.hid (HB.out.trans (bq.mono HB.out.size)); replace HP := Lib.hid (HP.out.below bq); replace HE := Lib.hid (HE.out.below bq); replace HF := Lib.hid (HF.out.below bq); have k0 := (bq.cell (lt_of_cellq k0)).trans k0; have k1 := (bq.cell (lt_of_cellq k1)).trans k1; have k2 := (bq.cell (lt_of_cellq k2)).trans k2; have q0 := (bq.cell (lt_of_cellq q0)).trans q0; have q1 := (bq.cell (lt_of_cellq q1)).trans q1; have q2 := (bq.cell (lt_of_cellq q2)).trans q2; have q3 := (bq.cell (lt_of_cellq q3)).trans q3; have p0 := (bq.cell (lt_of_cellq p0)).trans p0; have p1 := (bq.cell (lt_of_cellq p1)).trans p1; have p2 := (bq.cell (lt_of_cellq p2)).trans p2; have p3 := (bq.cell (lt_of_cellq p3)).trans p3; clear bq; obtain ⟨x2, e2, HSx, r0, r1, bq⟩ := box2 wn (.int .i64 Z) (.int .i64 Z) 36; go_upto_region 4 with (fail); clear e2
    skip; replace HB := Lib.hid (HB.out.trans (bq.mono HB.out.size)); replace HP := Lib.hid (HP.out.below bq); replace HE := Lib.hid (HE.out.below bq); replace HF := Lib.hid (HF.out.below bq); have k0 := (bq.cell (lt_of_cellq k0)).trans k0; have k1 := (bq.cell (lt_of_cellq k1)).trans k1; have k2 := (bq.cell (lt_of_cellq k2)).trans k2; have q0 := (bq.cell (lt_of_cellq q0)).trans q0; have q1 := (bq.cell (lt_of_cellq q1)).trans q1; have q2 := (bq.cell (lt_of_cellq q2)).trans q2; have q3 := (bq.cell (lt_of_cellq q3)).trans q3; have p0 := (bq.cell (lt_of_cellq p0)).trans p0; have p1 := (bq.cell (lt_of_cellq p1)).trans p1; have p2 := (bq.cell (lt_of_cellq p2)).trans p2; have p3 := (bq.cell (lt_of_cellq p3)).trans p3; clear bq
    have HSB := Lib.hid (cl13 k0 k1 k2 q0 q1 q2 q3 p0 p1 p2 p3 r0 r1); refine held13 k0 k1 k2 q0 q1 q2 q3 p0 p1 p2 p3 r0 r1 (fun W0 HB0 => ?_); refine tk 0 rfl (by exact HSB.out _ HB0) ?_; (try simp only [Act.put, ptL]); refine tk 1 rfl (by exact HSB.out _ HB0) ?_; (try simp only [Act.put, ptL]); refine rz1 2 rfl ?_; intro K hK; go_simp; refine (HPC.out W0 (HP.out.below HB0)).mono ?_; rintro e W1 ⟨rfl, ba⟩; have HB1 := HB0.trans (ba.mono HB0.size); clear ba; refine kz hK (by exact HSB.out _ HB1) ?_; clear hK K; (try simp only [Act.put, ptL]); refine tk 3 rfl (by exact HSB.out _ HB1) ?_; (try simp only [Act.put, ptL]); refine tk 4 rfl (by exact HSB.out _ HB1) ?_; (try simp only [Act.put, ptL]); refine tk 5 rfl (by exact HSB.out _ HB1) ?_; (try simp only [Act.put, ptL]); refine rz1 6 rfl ?_; intro K hK; go_simp; refine (HH1.out W1 (HE.out.below HB1)).mono ?_; rintro e W2 ⟨rfl, ba⟩; have HB2 := HB1.trans (ba.mono HB1.size)
    clear ba; refine kz hK (by exact HSB.out _ HB2) ?_; clear hK K; (try simp only [Act.put, ptL]); refine tk 7 rfl (by exact HSB.out _ HB2) ?_; (try simp only [Act.put, ptL]); refine tk 8 rfl (by exact HSB.out _ HB2) ?_; (try simp only [Act.put, ptL]); refine tu 9 rfl (by exact HSB.out _ HB2) ?_; (try simp only [Act.put, ptL]); refine tu 10 rfl (by exact HSB.out _ HB2) ?_; (try simp only [Act.put, ptL]); refine tu 11 rfl (by exact HSB.out _ HB2) ?_; (try simp only [Act.put, ptL]); refine tk 12 rfl (by exact HSB.out _ HB2) ?_; (try simp only [Act.put, ptL]); refine rz1 13 rfl ?_; intro K hK; go_simp; refine (HK3.out W2 (HP.out.below HB2)).mono ?_; rintro e W3 ⟨rfl, ba⟩; have HB3 := HB2.trans (ba.mono HB2.size); clear ba; refine kz hK (by exact HSB.out _ HB3) ?_; clear hK K; (try simp only [Act.put, ptL]); refine tk 14 rfl (by exact HSB.out _ HB3) ?_; (try simp only [Act.put, ptL]); refine tk 15 rfl (by exact HSB.out _ HB3) ?_; (try simp only [Act.put, ptL]); refine tk 16 rfl (by exact HSB.out _ HB3) ?_; (try simp only [Act.put, ptL]); refine tk 17 rfl (by exact HSB.out _ HB3) ?_; (try simp only [Act.put, ptL]); refine tk 18 rfl (by exact HSB.out _ HB3) ?_; (try simp only [Act.put, ptL])
    refine wpAnyH_done (by kernel_rfl) ?_ _; obtain ⟨k0, k1, k2, q0, q1, q2, q3, p0, p1, p2, p3, r0, r1⟩ := HSB.out _ HB3; replace HB := Lib.hid (HB.out.trans (HB3.mono HB.out.size)); replace HP := Lib.hid (HP.out.below HB3); replace HE := Lib.hid (HE.out.below HB3); replace HF := Lib.hid (HF.out.below HB3); clear HSB HB0 HB1 HB2 HB3
    (go_wp2_with fail); refine (c_known m _ (HM.out.below HB.out) (HI.out.below HB.out)).mono ?_; rintro e wn ⟨rfl, bq⟩; have HFK := Lib.hid (HB.out.trans (bq.mono HB.out.size)); clear bq; go_wp2; go_ret; exact ⟨rfl, HFK.out⟩
  rcases g3 : handB p.ms.length k with _ | _
  · skip
    obtain ⟨Z, hZ⟩ : ∃ Z : Int, Z = 0 := ⟨0, rfl⟩; have hZ0 : (Z == 0) = true := by simp [hZ]
    have HK1 := Lib.hid (fun W (h1 : RdP W pm pv pr p) (h2 : RdS W pe h.er) (h3 : RdS W pf k.er) => show Calls Tryz.prog 31 #[.agg #[.slice pm p.ms.length cm, .slice pv p.mv.length cv, .slice pr p.rs.length cr], .agg #[.int .i64 h.arb, .int .i64 h.num, .int .i64 h.den, .slice pe h.er.length ce], .agg #[.int .i64 k.arb, .int .i64 k.num, .int .i64 k.den, .slice pf k.er.length cf]] W fun e w' => e = .returned (.tuple #[.agg #[.int .i64 Z, .int .i64 Z], .int .i64 2]) ∧ Below W.heap.size W w' by
      have hh := HKA.out W h1 h2 h3; unfold SpanPost AnsS okI at hh; rw [err_bad (by rw [g3, Bool.and_false, Bool.and_false])] at hh; rw [hZ]; exact hh)
    have HK3 := Lib.hid (fun W (h : RdP W pm pv pr p) => l_asked_no pm pv pr cm cv cr p false W h HLN.out (Bool.and_false _)); unfold LAskNo at HK3; have t1 : ((2 : Int) != 0) = true := by decide
    have HPC := Lib.hid (fun W (h1 : RdP W pm pv pr p) => show Calls Tryz.prog 20 #[.agg #[.slice pm p.ms.length cm, .slice pv p.mv.length cv, .slice pr p.rs.length cr]] W fun e w' => e = .returned (.bool true) ∧ Below W.heap.size W w' by
      have hh := r_Piece pm pv pr cm cv cr p W h1 HLN.out; rw [g1] at hh; exact hh)
    have HH1 := Lib.hid (fun W (h1 : RdS W pe h.er) => show Calls Tryz.prog 21 #[.agg #[.slice pm p.ms.length cm, .slice pv p.mv.length cv, .slice pr p.rs.length cr], .agg #[.int .i64 h.arb, .int .i64 h.num, .int .i64 h.den, .slice pe h.er.length ce]] W fun e w' => e = .returned (.bool true) ∧ Below W.heap.size W w' by
      have hh := r_Hand pm pv pr cm cv cr p h pe ce W h1 (by omega); rw [g2] at hh; exact hh)
    have HH2 := Lib.hid (fun W (h1 : RdS W pf k.er) => show Calls Tryz.prog 21 #[.agg #[.slice pm p.ms.length cm, .slice pv p.mv.length cv, .slice pr p.rs.length cr], .agg #[.int .i64 k.arb, .int .i64 k.num, .int .i64 k.den, .slice pf k.er.length cf]] W fun e w' => e = .returned (.bool false) ∧ Below W.heap.size W w' by
      have hh := r_Hand pm pv pr cm cv cr p k pf cf W h1 (by omega); rw [g3] at hh; exact hh)
    clear hZ HKA
    (go_wp2_with fail); refine (HK1.out _ HP.out HE.out HF.out).mono ?_
    rintro e wn ⟨rfl, bq⟩; replace HB := Lib.hid (HB.out.trans (bq.mono HB.out.size)); replace HP := Lib.hid (HP.out.below bq); replace HE := Lib.hid (HE.out.below bq); replace HF := Lib.hid (HF.out.below bq); have k0 := (bq.cell (lt_of_cellq k0)).trans k0; have k1 := (bq.cell (lt_of_cellq k1)).trans k1; have k2 := (bq.cell (lt_of_cellq k2)).trans k2; have q0 := (bq.cell (lt_of_cellq q0)).trans q0; have q1 := (bq.cell (lt_of_cellq q1)).trans q1; have q2 := (bq.cell (lt_of_cellq q2)).trans q2; have q3 := (bq.cell (lt_of_cellq q3)).trans q3; have p0 := (bq.cell (lt_of_cellq p0)).trans p0; have p1 := (bq.cell (lt_of_cellq p1)).trans p1; have p2 := (bq.cell (lt_of_cellq p2)).trans p2; have p3 := (bq.cell (lt_of_cellq p3)).trans p3; clear bq; obtain ⟨x2, e2, HSx, r0, r1, bq⟩ := box2 wn (.int .i64 Z) (.int .i64 Z) 36; go_upto_region 4 with (fail); clear e2
    skip; replace HB := Lib.hid (HB.out.trans (bq.mono HB.out.size)); replace HP := Lib.hid (HP.out.below bq); replace HE := Lib.hid (HE.out.below bq); replace HF := Lib.hid (HF.out.below bq); have k0 := (bq.cell (lt_of_cellq k0)).trans k0; have k1 := (bq.cell (lt_of_cellq k1)).trans k1; have k2 := (bq.cell (lt_of_cellq k2)).trans k2; have q0 := (bq.cell (lt_of_cellq q0)).trans q0; have q1 := (bq.cell (lt_of_cellq q1)).trans q1; have q2 := (bq.cell (lt_of_cellq q2)).trans q2; have q3 := (bq.cell (lt_of_cellq q3)).trans q3; have p0 := (bq.cell (lt_of_cellq p0)).trans p0; have p1 := (bq.cell (lt_of_cellq p1)).trans p1; have p2 := (bq.cell (lt_of_cellq p2)).trans p2; have p3 := (bq.cell (lt_of_cellq p3)).trans p3; clear bq
    have HSB := Lib.hid (cl13 k0 k1 k2 q0 q1 q2 q3 p0 p1 p2 p3 r0 r1); refine held13 k0 k1 k2 q0 q1 q2 q3 p0 p1 p2 p3 r0 r1 (fun W0 HB0 => ?_); refine tk 0 rfl (by exact HSB.out _ HB0) ?_; (try simp only [Act.put, ptL]); refine tk 1 rfl (by exact HSB.out _ HB0) ?_; (try simp only [Act.put, ptL]); refine rz1 2 rfl ?_; intro K hK; go_simp; refine (HPC.out W0 (HP.out.below HB0)).mono ?_; rintro e W1 ⟨rfl, ba⟩; have HB1 := HB0.trans (ba.mono HB0.size); clear ba; refine kz hK (by exact HSB.out _ HB1) ?_; clear hK K; (try simp only [Act.put, ptL]); refine tk 3 rfl (by exact HSB.out _ HB1) ?_; (try simp only [Act.put, ptL]); refine tk 4 rfl (by exact HSB.out _ HB1) ?_; (try simp only [Act.put, ptL]); refine tk 5 rfl (by exact HSB.out _ HB1) ?_; (try simp only [Act.put, ptL]); refine rz1 6 rfl ?_; intro K hK; go_simp; refine (HH1.out W1 (HE.out.below HB1)).mono ?_; rintro e W2 ⟨rfl, ba⟩; have HB2 := HB1.trans (ba.mono HB1.size)
    clear ba; refine kz hK (by exact HSB.out _ HB2) ?_; clear hK K; (try simp only [Act.put, ptL]); refine tk 7 rfl (by exact HSB.out _ HB2) ?_; (try simp only [Act.put, ptL]); refine tk 8 rfl (by exact HSB.out _ HB2) ?_; (try simp only [Act.put, ptL]); refine tk 9 rfl (by exact HSB.out _ HB2) ?_; (try simp only [Act.put, ptL]); refine tk 10 rfl (by exact HSB.out _ HB2) ?_; (try simp only [Act.put, ptL]); refine rz1 11 rfl ?_; intro K hK; go_simp; refine (HH2.out W2 (HF.out.below HB2)).mono ?_; rintro e W3 ⟨rfl, ba⟩; have HB3 := HB2.trans (ba.mono HB2.size); clear ba; refine kz hK (by exact HSB.out _ HB3) ?_; clear hK K; (try simp only [Act.put, ptL]); refine tk 12 rfl (by exact HSB.out _ HB3) ?_; (try simp only [Act.put, ptL]); refine rz1 13 rfl ?_; intro K hK; go_simp; refine (HK3.out W3 (HP.out.below HB3)).mono ?_; rintro e W4 ⟨rfl, ba⟩; have HB4 := HB3.trans (ba.mono HB3.size); clear ba
    refine kz hK (by exact HSB.out _ HB4) ?_; clear hK K; (try simp only [Act.put, ptL]); refine tk 14 rfl (by exact HSB.out _ HB4) ?_; (try simp only [Act.put, ptL]); refine tk 15 rfl (by exact HSB.out _ HB4) ?_; (try simp only [Act.put, ptL]); refine tk 16 rfl (by exact HSB.out _ HB4) ?_; (try simp only [Act.put, ptL]); refine tk 17 rfl (by exact HSB.out _ HB4) ?_; (try simp only [Act.put, ptL]); refine tk 18 rfl (by exact HSB.out _ HB4) ?_; (try simp only [Act.put, ptL]); refine wpAnyH_done (by kernel_rfl) ?_ _; obtain ⟨k0, k1, k2, q0, q1, q2, q3, p0, p1, p2, p3, r0, r1⟩ := HSB.out _ HB4; replace HB := Lib.hid (HB.out.trans (HB4.mono HB.out.size)); replace HP := Lib.hid (HP.out.below HB4); replace HE := Lib.hid (HE.out.below HB4); replace HF := Lib.hid (HF.out.below HB4); clear HSB HB0 HB1 HB2 HB3 HB4
    (go_wp2_with fail); refine (c_known m _ (HM.out.below HB.out) (HI.out.below HB.out)).mono ?_; rintro e wn ⟨rfl, bq⟩; have HFK := Lib.hid (HB.out.trans (bq.mono HB.out.size)); clear bq; go_wp2; go_ret; exact ⟨rfl, HFK.out⟩
  have HPC := Lib.hid (fun W (h1 : RdP W pm pv pr p) => show Calls Tryz.prog 20 #[.agg #[.slice pm p.ms.length cm, .slice pv p.mv.length cv, .slice pr p.rs.length cr]] W fun e w' => e = .returned (.bool true) ∧ Below W.heap.size W w' by
    have hh := r_Piece pm pv pr cm cv cr p W h1 HLN.out; rw [g1] at hh; exact hh)
  have HH1 := Lib.hid (fun W (h1 : RdS W pe h.er) => show Calls Tryz.prog 21 #[.agg #[.slice pm p.ms.length cm, .slice pv p.mv.length cv, .slice pr p.rs.length cr], .agg #[.int .i64 h.arb, .int .i64 h.num, .int .i64 h.den, .slice pe h.er.length ce]] W fun e w' => e = .returned (.bool true) ∧ Below W.heap.size W w' by
    have hh := r_Hand pm pv pr cm cv cr p h pe ce W h1 (by omega); rw [g2] at hh; exact hh)
  have HH2 := Lib.hid (fun W (h1 : RdS W pf k.er) => show Calls Tryz.prog 21 #[.agg #[.slice pm p.ms.length cm, .slice pv p.mv.length cv, .slice pr p.rs.length cr], .agg #[.int .i64 k.arb, .int .i64 k.num, .int .i64 k.den, .slice pf k.er.length cf]] W fun e w' => e = .returned (.bool true) ∧ Below W.heap.size W w' by
    have hh := r_Hand pm pv pr cm cv cr p k pf cf W h1 (by omega); rw [g3] at hh; exact hh)
  have HFN := Lib.hid (show (handB p.ms.length h && handB p.ms.length k) = true by rw [g2, g3]; rfl)
  by_cases hok : errF p true = 0
  case neg =>
    obtain ⟨Z, hZ⟩ : ∃ Z : Int, Z = 0 := ⟨0, rfl⟩; have hZ0 : (Z == 0) = true := by simp [hZ]
    have HK1 := Lib.hid (fun W (h1 : RdP W pm pv pr p) (h2 : RdS W pe h.er) (h3 : RdS W pf k.er) => show Calls Tryz.prog 31 #[.agg #[.slice pm p.ms.length cm, .slice pv p.mv.length cv, .slice pr p.rs.length cr], .agg #[.int .i64 h.arb, .int .i64 h.num, .int .i64 h.den, .slice pe h.er.length ce], .agg #[.int .i64 k.arb, .int .i64 k.num, .int .i64 k.den, .slice pf k.er.length cf]] W fun e w' => e = .returned (.tuple #[.agg #[.int .i64 Z, .int .i64 Z], .int .i64 (errF p true)]) ∧ Below W.heap.size W w' by
      have hh := HKA.out W h1 h2 h3; unfold SpanPost AnsS okI at hh; rw [HFN.out] at hh; simp only [if_neg hok] at hh; rw [hZ]; exact hh)
    have HK3 := Lib.hid (fun W (h : RdP W pm pv pr p) => lask_err pm pv pr cm cv cr p true W h HLN.out hok); unfold LAskNo at HK3; obtain ⟨er, her⟩ : ∃ er, errF p true = er := ⟨_, rfl⟩; rw [her] at HK1 HK3 hok; have t1 : (er != 0) = true := by simp [hok]
    have t3 : (er == er) = true := by simp
    clear HKA her hok hZ g1 g2 g3
    (go_wp2_with fail); refine (HK1.out _ HP.out HE.out HF.out).mono ?_
    rintro e wn ⟨rfl, bq⟩; replace HB := Lib.hid (HB.out.trans (bq.mono HB.out.size)); replace HP := Lib.hid (HP.out.below bq); replace HE := Lib.hid (HE.out.below bq); replace HF := Lib.hid (HF.out.below bq); have k0 := (bq.cell (lt_of_cellq k0)).trans k0; have k1 := (bq.cell (lt_of_cellq k1)).trans k1; have k2 := (bq.cell (lt_of_cellq k2)).trans k2; have q0 := (bq.cell (lt_of_cellq q0)).trans q0; have q1 := (bq.cell (lt_of_cellq q1)).trans q1; have q2 := (bq.cell (lt_of_cellq q2)).trans q2; have q3 := (bq.cell (lt_of_cellq q3)).trans q3; have p0 := (bq.cell (lt_of_cellq p0)).trans p0; have p1 := (bq.cell (lt_of_cellq p1)).trans p1; have p2 := (bq.cell (lt_of_cellq p2)).trans p2; have p3 := (bq.cell (lt_of_cellq p3)).trans p3; clear bq; obtain ⟨x2, e2, HSx, r0, r1, bq⟩ := box2 wn (.int .i64 Z) (.int .i64 Z) 36; go_upto_region 4 with (fail); clear e2
    skip; replace HB := Lib.hid (HB.out.trans (bq.mono HB.out.size)); replace HP := Lib.hid (HP.out.below bq); replace HE := Lib.hid (HE.out.below bq); replace HF := Lib.hid (HF.out.below bq); have k0 := (bq.cell (lt_of_cellq k0)).trans k0; have k1 := (bq.cell (lt_of_cellq k1)).trans k1; have k2 := (bq.cell (lt_of_cellq k2)).trans k2; have q0 := (bq.cell (lt_of_cellq q0)).trans q0; have q1 := (bq.cell (lt_of_cellq q1)).trans q1; have q2 := (bq.cell (lt_of_cellq q2)).trans q2; have q3 := (bq.cell (lt_of_cellq q3)).trans q3; have p0 := (bq.cell (lt_of_cellq p0)).trans p0; have p1 := (bq.cell (lt_of_cellq p1)).trans p1; have p2 := (bq.cell (lt_of_cellq p2)).trans p2; have p3 := (bq.cell (lt_of_cellq p3)).trans p3; clear bq
    have HSB := Lib.hid (cl13 k0 k1 k2 q0 q1 q2 q3 p0 p1 p2 p3 r0 r1); refine held13 k0 k1 k2 q0 q1 q2 q3 p0 p1 p2 p3 r0 r1 (fun W0 HB0 => ?_); refine tk 0 rfl (by exact HSB.out _ HB0) ?_; (try simp only [Act.put, ptL]); refine tk 1 rfl (by exact HSB.out _ HB0) ?_; (try simp only [Act.put, ptL]); refine rz1 2 rfl ?_; intro K hK; go_simp; refine (HPC.out W0 (HP.out.below HB0)).mono ?_; rintro e W1 ⟨rfl, ba⟩; have HB1 := HB0.trans (ba.mono HB0.size); clear ba; refine kz hK (by exact HSB.out _ HB1) ?_; clear hK K; (try simp only [Act.put, ptL]); refine tk 3 rfl (by exact HSB.out _ HB1) ?_; (try simp only [Act.put, ptL]); refine tk 4 rfl (by exact HSB.out _ HB1) ?_; (try simp only [Act.put, ptL]); refine tk 5 rfl (by exact HSB.out _ HB1) ?_; (try simp only [Act.put, ptL]); refine rz1 6 rfl ?_; intro K hK; go_simp; refine (HH1.out W1 (HE.out.below HB1)).mono ?_; rintro e W2 ⟨rfl, ba⟩; have HB2 := HB1.trans (ba.mono HB1.size)
    clear ba; refine kz hK (by exact HSB.out _ HB2) ?_; clear hK K; (try simp only [Act.put, ptL]); refine tk 7 rfl (by exact HSB.out _ HB2) ?_; (try simp only [Act.put, ptL]); refine tk 8 rfl (by exact HSB.out _ HB2) ?_; (try simp only [Act.put, ptL]); refine tk 9 rfl (by exact HSB.out _ HB2) ?_; (try simp only [Act.put, ptL]); refine tk 10 rfl (by exact HSB.out _ HB2) ?_; (try simp only [Act.put, ptL]); refine rz1 11 rfl ?_; intro K hK; go_simp; refine (HH2.out W2 (HF.out.below HB2)).mono ?_; rintro e W3 ⟨rfl, ba⟩; have HB3 := HB2.trans (ba.mono HB2.size); clear ba; refine kz hK (by exact HSB.out _ HB3) ?_; clear hK K; (try simp only [Act.put, ptL]); refine tk 12 rfl (by exact HSB.out _ HB3) ?_; (try simp only [Act.put, ptL]); refine rz1 13 rfl ?_; intro K hK; go_simp; refine (HK3.out W3 (HP.out.below HB3)).mono ?_; rintro e W4 ⟨rfl, ba⟩; have HB4 := HB3.trans (ba.mono HB3.size); clear ba
    refine kz hK (by exact HSB.out _ HB4) ?_; clear hK K; (try simp only [Act.put, ptL]); refine tk 14 rfl (by exact HSB.out _ HB4) ?_; (try simp only [Act.put, ptL]); refine tk 15 rfl (by exact HSB.out _ HB4) ?_; (try simp only [Act.put, ptL]); refine tk 16 rfl (by exact HSB.out _ HB4) ?_; (try simp only [Act.put, ptL]); refine tk 17 rfl (by exact HSB.out _ HB4) ?_; (try simp only [Act.put, ptL]); refine tk 18 rfl (by exact HSB.out _ HB4) ?_; (try simp only [Act.put, ptL]); refine wpAnyH_done (by kernel_rfl) ?_ _; obtain ⟨k0, k1, k2, q0, q1, q2, q3, p0, p1, p2, p3, r0, r1⟩ := HSB.out _ HB4; replace HB := Lib.hid (HB.out.trans (HB4.mono HB.out.size)); replace HP := Lib.hid (HP.out.below HB4); replace HE := Lib.hid (HE.out.below HB4); replace HF := Lib.hid (HF.out.below HB4); clear HSB HB0 HB1 HB2 HB3 HB4
    (go_wp2_with fail); refine (c_known m _ (HM.out.below HB.out) (HI.out.below HB.out)).mono ?_; rintro e wn ⟨rfl, bq⟩; have HFK := Lib.hid (HB.out.trans (bq.mono HB.out.size)); clear bq; go_wp2; go_ret; exact ⟨rfl, HFK.out⟩
  obtain ⟨_, _, ht⟩ := err_ok hok; have HPO := Lib.hid (pieceB_iff.1 g1); have HHO := Lib.hid (handB_iff.1 g2); have HKO := Lib.hid (handB_iff.1 g3); have HT := Lib.hid ht; have HK3 := Lib.hid (fun W (h : RdP W pm pv pr p) => l_asked_ok pm pv pr cm cv cr p W h HLN.out g1 ht); obtain ⟨L0, hL0⟩ : ∃ x, (apartF p h k).1 = x := ⟨_, rfl⟩; obtain ⟨L1, hL1⟩ : ∃ x, (apartF p h k).2 = x := ⟨_, rfl⟩
  have HK1 := Lib.hid (fun W (h1 : RdP W pm pv pr p) (h2 : RdS W pe h.er) (h3 : RdS W pf k.er) => show Calls Tryz.prog 31 #[.agg #[.slice pm p.ms.length cm, .slice pv p.mv.length cv, .slice pr p.rs.length cr], .agg #[.int .i64 h.arb, .int .i64 h.num, .int .i64 h.den, .slice pe h.er.length ce], .agg #[.int .i64 k.arb, .int .i64 k.num, .int .i64 k.den, .slice pf k.er.length cf]] W fun e w' => e = .returned (.tuple #[.agg #[.int .i64 L0, .int .i64 L1], .int .i64 0]) ∧ Below W.heap.size W w' by
    have hh := HKA.out W h1 h2 h3; unfold SpanPost AnsS okI at hh; rw [HFN.out] at hh; simp only [if_pos hok, hok, hL0, hL1] at hh; exact hh)
  have HK4 := Lib.hid (fun W q c (h1 : RdP W pm pv pr p) (hq : RdLs W q (truthsF p)) (h2 : RdS W pe h.er) (h3 : RdS W pf k.er) => show Calls Tryz.prog 32 #[.agg #[.slice pm p.ms.length cm, .slice pv p.mv.length cv, .slice pr p.rs.length cr], .slice q (truthsF p).length c, .agg #[.int .i64 h.arb, .int .i64 h.num, .int .i64 h.den, .slice pe h.er.length ce], .agg #[.int .i64 k.arb, .int .i64 k.num, .int .i64 k.den, .slice pf k.er.length cf]] W fun e w' => e = .returned (.agg #[.int .i64 L0, .int .i64 L1]) ∧ Below W.heap.size W w' by
    have hh := HKD.out q c W h1 hq HPO.out HT.out h2 HHO.out h3 HKO.out; unfold ShPost at hh; rw [hL0, hL1] at hh; exact hh)
  clear HKA HKD hok hL0 hL1 g1 g2 g3 ht
  (go_wp2_with fail); refine (HK1.out _ HP.out HE.out HF.out).mono ?_
  rintro e wn ⟨rfl, bq⟩; replace HB := Lib.hid (HB.out.trans (bq.mono HB.out.size)); replace HP := Lib.hid (HP.out.below bq); replace HE := Lib.hid (HE.out.below bq); replace HF := Lib.hid (HF.out.below bq); have k0 := (bq.cell (lt_of_cellq k0)).trans k0; have k1 := (bq.cell (lt_of_cellq k1)).trans k1; have k2 := (bq.cell (lt_of_cellq k2)).trans k2; have q0 := (bq.cell (lt_of_cellq q0)).trans q0; have q1 := (bq.cell (lt_of_cellq q1)).trans q1; have q2 := (bq.cell (lt_of_cellq q2)).trans q2; have q3 := (bq.cell (lt_of_cellq q3)).trans q3; have p0 := (bq.cell (lt_of_cellq p0)).trans p0; have p1 := (bq.cell (lt_of_cellq p1)).trans p1; have p2 := (bq.cell (lt_of_cellq p2)).trans p2; have p3 := (bq.cell (lt_of_cellq p3)).trans p3; clear bq; obtain ⟨x2, e2, HSx, r0, r1, bq⟩ := box2 wn (.int .i64 L0) (.int .i64 L1) 36; go_upto_region 4 with (fail); clear e2
  skip; replace HB := Lib.hid (HB.out.trans (bq.mono HB.out.size)); replace HP := Lib.hid (HP.out.below bq); replace HE := Lib.hid (HE.out.below bq); replace HF := Lib.hid (HF.out.below bq); have k0 := (bq.cell (lt_of_cellq k0)).trans k0; have k1 := (bq.cell (lt_of_cellq k1)).trans k1; have k2 := (bq.cell (lt_of_cellq k2)).trans k2; have q0 := (bq.cell (lt_of_cellq q0)).trans q0; have q1 := (bq.cell (lt_of_cellq q1)).trans q1; have q2 := (bq.cell (lt_of_cellq q2)).trans q2; have q3 := (bq.cell (lt_of_cellq q3)).trans q3; have p0 := (bq.cell (lt_of_cellq p0)).trans p0; have p1 := (bq.cell (lt_of_cellq p1)).trans p1; have p2 := (bq.cell (lt_of_cellq p2)).trans p2; have p3 := (bq.cell (lt_of_cellq p3)).trans p3; clear bq
  have HSB := Lib.hid (cl13 k0 k1 k2 q0 q1 q2 q3 p0 p1 p2 p3 r0 r1); refine held13 k0 k1 k2 q0 q1 q2 q3 p0 p1 p2 p3 r0 r1 (fun W0 HB0 => ?_); refine tk 0 rfl (by exact HSB.out _ HB0) ?_; (try simp only [Act.put, ptL]); refine tk 1 rfl (by exact HSB.out _ HB0) ?_; (try simp only [Act.put, ptL]); refine rz1 2 rfl ?_; intro K hK; go_simp; refine (HPC.out W0 (HP.out.below HB0)).mono ?_; rintro e W1 ⟨rfl, ba⟩; have HB1 := HB0.trans (ba.mono HB0.size); clear ba; refine kz hK (by exact HSB.out _ HB1) ?_; clear hK K; (try simp only [Act.put, ptL]); refine tk 3 rfl (by exact HSB.out _ HB1) ?_; (try simp only [Act.put, ptL]); refine tk 4 rfl (by exact HSB.out _ HB1) ?_; (try simp only [Act.put, ptL]); refine tk 5 rfl (by exact HSB.out _ HB1) ?_; (try simp only [Act.put, ptL]); refine rz1 6 rfl ?_; intro K hK; go_simp; refine (HH1.out W1 (HE.out.below HB1)).mono ?_; rintro e W2 ⟨rfl, ba⟩; have HB2 := HB1.trans (ba.mono HB1.size)
  clear ba; refine kz hK (by exact HSB.out _ HB2) ?_; clear hK K; (try simp only [Act.put, ptL]); refine tk 7 rfl (by exact HSB.out _ HB2) ?_; (try simp only [Act.put, ptL]); refine tk 8 rfl (by exact HSB.out _ HB2) ?_; (try simp only [Act.put, ptL]); refine tk 9 rfl (by exact HSB.out _ HB2) ?_; (try simp only [Act.put, ptL]); refine tk 10 rfl (by exact HSB.out _ HB2) ?_; (try simp only [Act.put, ptL]); refine rz1 11 rfl ?_; intro K hK; go_simp; refine (HH2.out W2 (HF.out.below HB2)).mono ?_; rintro e W3 ⟨rfl, ba⟩; have HB3 := HB2.trans (ba.mono HB2.size); clear ba; refine kz hK (by exact HSB.out _ HB3) ?_; clear hK K; (try simp only [Act.put, ptL]); refine tk 12 rfl (by exact HSB.out _ HB3) ?_; (try simp only [Act.put, ptL]); refine rz1 13 rfl ?_; intro K hK; go_simp; refine (HK3.out W3 (HP.out.below HB3)).mono ?_; rintro e W4 ⟨q, c, rfl, hr, ba⟩; have HB4 := HB3.trans (ba.mono HB3.size)
  clear ba; refine kz hK (by exact HSB.out _ HB4) ?_; clear hK K; (try simp only [Act.put, ptL]); refine tk 14 rfl (by exact HSB.out _ HB4) ?_; (try simp only [Act.put, ptL]); refine tk 15 rfl (by exact HSB.out _ HB4) ?_; (try simp only [Act.put, ptL]); refine tk 16 rfl (by exact HSB.out _ HB4) ?_; (try simp only [Act.put, ptL]); refine tk 17 rfl (by exact HSB.out _ HB4) ?_; (try simp only [Act.put, ptL]); refine tk 18 rfl (by exact HSB.out _ HB4) ?_; (try simp only [Act.put, ptL]); refine wpAnyH_done (by kernel_rfl) ?_ _; obtain ⟨k0, k1, k2, q0, q1, q2, q3, p0, p1, p2, p3, r0, r1⟩ := HSB.out _ HB4; replace HB := Lib.hid (HB.out.trans (HB4.mono HB.out.size)); replace HP := Lib.hid (HP.out.below HB4); replace HE := Lib.hid (HE.out.below HB4); replace HF := Lib.hid (HF.out.below HB4); clear HSB HB0 HB1 HB2 HB3 HB4; have HR := Lib.hid hr; clear hr; go_wp2; have HSB := Lib.hid (cl13 k0 k1 k2 q0 q1 q2 q3 p0 p1 p2 p3 r0 r1)
  refine held13 k0 k1 k2 q0 q1 q2 q3 p0 p1 p2 p3 r0 r1 (fun W0 HB0 => ?_); refine tk 0 rfl (by exact HSB.out _ HB0) ?_; (try simp only [Act.put, ptL]); refine tk 1 rfl (by exact HSB.out _ HB0) ?_; (try simp only [Act.put, ptL]); refine tk 2 rfl (by exact HSB.out _ HB0) ?_; (try simp only [Act.put, ptL]); refine tk 3 rfl (by exact HSB.out _ HB0) ?_; (try simp only [Act.put, ptL]); refine tk 4 rfl (by exact HSB.out _ HB0) ?_; (try simp only [Act.put, ptL]); refine tk 5 rfl (by exact HSB.out _ HB0) ?_; (try simp only [Act.put, ptL]); refine tk 6 rfl (by exact HSB.out _ HB0) ?_; (try simp only [Act.put, ptL]); refine tk 7 rfl (by exact HSB.out _ HB0) ?_; (try simp only [Act.put, ptL]); refine rz1 8 rfl ?_; intro K hK; go_simp; refine (HK4.out W0 _ _ (HP.out.below HB0) (HR.out.below HB0) (HE.out.below HB0) (HF.out.below HB0)).mono ?_; rintro e W1 ⟨rfl, ba⟩; have HB1 := HB0.trans (ba.mono HB0.size)
  clear ba; refine kz hK (by exact HSB.out _ HB1) ?_; clear hK K; (try simp only [Act.put, ptL]); refine tk 9 rfl (by exact HSB.out _ HB1) ?_; (try simp only [Act.put, ptL]); refine tk 10 rfl (by exact HSB.out _ HB1) ?_; (try simp only [Act.put, ptL]); refine tk 11 rfl (by exact HSB.out _ HB1) ?_; (try simp only [Act.put, ptL]); refine rz1 12 rfl ?_; intro K hK; go_simp; refine (c_known m W1 (HM.out.below (HB.out.trans (HB1.mono HB.out.size))) (HI.out.below (HB.out.trans (HB1.mono HB.out.size)))).mono ?_; rintro e W2 ⟨rfl, ba⟩; have HB2 := HB1.trans (ba.mono HB1.size); clear ba; refine kz hK (by exact HSB.out _ HB2) ?_; clear hK K; (try simp only [Act.put, ptL]); refine tk 13 rfl (by exact HSB.out _ HB2) ?_; (try simp only [Act.put, ptL]); refine tk 14 rfl (by exact HSB.out _ HB2) ?_; (try simp only [Act.put, ptL]); refine wpAnyH_done (by kernel_rfl) ?_ _; obtain ⟨k0, k1, k2, q0, q1, q2, q3, p0, p1, p2, p3, r0, r1⟩ := HSB.out _ HB2
  replace HB := Lib.hid (HB.out.trans (HB2.mono HB.out.size)); replace HP := Lib.hid (HP.out.below HB2); replace HE := Lib.hid (HE.out.below HB2); replace HF := Lib.hid (HF.out.below HB2); clear HSB HB0 HB1 HB2; go_wp2; go_ret; exact ⟨rfl, HB.out⟩
end Go.Proofs.YtlednchfifphgabGreatDoor
end

section
namespace Go.Proofs.YtlednchfifphgabGreatDoor
open Go Go.ChangeShapes Go.WideShapes Go.ChangeAt Go.RowKit Go.Proofs
set_option linter.unusedVariables false

set_option maxRecDepth 100000 in
theorem slackAparts_lifted (os : Os) (started : os.Started) (H : Type) (enc : TypeId × Value → H) :
    ReturnsInHanded {} Tryz.checked os 5 .any (fun w args => (Rows.slackApartsSpec.pre enc Tryz.prog Tryz.f5 [] false w args ∧ laidMetH Tryz.prog lay5 w) ∧ sizedMet enc Tryz.prog Tryz.f5 (OpenSpec.ofChange Rows.slackApartsSpec) false w args)
      (Rows.slackApartsSpec.post enc Tryz.prog Tryz.f5 false true false false) := by
  refine returns_listed (C := Tryz.checked) (X := fun w _ => laidMetH Tryz.prog lay5 w) (fun _ _ _ hh h => h.of_heap hh) ownT started (by kernel_rfl) Tryz.func5
    (ChangeSpec.witness_shaped (enc := enc) (C := Tryz.checked) (os := os) (X := fun w _ => laidMetH Tryz.prog lay5 w) false (World.laidAll Tryz.prog os lay5) #[.agg #[.slice none 0 0, .slice none 0 0, .slice none 0 0], .agg #[.int .i64 0, .int .i64 0, .int .i64 0, .slice none 0 0], .agg #[.int .i64 0, .int .i64 0, .int .i64 0, .slice none 0 0]] 12 (World.laidAll_os _ _ _)
      (World.shaped_of_ZipB (by kernel_rfl) (by kernel_rfl)) (by kernel_rfl) (by kernel_rfl) (by kernel_rfl)
      (by rw [MakeChecks.laidMetH_plain _ _ _ (by kernel_rfl)]; exact laidMet_laidAll _ (by kernel_rfl) (by kernel_rfl))) ?_
  intro W base args ds gs before hval0 hW hX hSh; have hval : ∀ (j : Nat) t v, Tryz.f5.params[j]? = some t → args[j]? = some v → Value.okWide Tryz.prog W .any base t v := hval0; have hW' := hW; obtain ⟨p, q, hA0, hV, rfl, _, _⟩ := hW; have hA : DataW.TrodAll enc Tryz.prog W 0 (fun _ => true) true Tryz.f5.params.toList args.toList ds p := hA0; rw [Tryz.params5] at hA hval; obtain ⟨v0, vs0, d0, ds0, p0, q0, hargs, rfl, rfl, h0, r0⟩ := trodAll_cons hA; obtain ⟨v1, vs1, d1, ds1, p1, q1, rfl, rfl, rfl, h1, r1⟩ := trodAll_cons r0; obtain ⟨v2, vs2, d2, ds2, p2, q2, rfl, rfl, rfl, h2, r2⟩ := trodAll_cons r1; obtain ⟨rfl, rfl, rfl⟩ := trodAll_nil r2; obtain rfl : args = #[v0, v1, v2] := by cases args; simp_all
  obtain ⟨rfl, rfl⟩ := trodVars_none hV; obtain ⟨pm0, pv0, pr0, cm0, cv0, cr0, p0, rfl, rd0⟩ := op_piece (hval 0 26 v0 rfl rfl) h0; obtain ⟨g1, pe1, ce1, rfl, rd1⟩ := op_hand (hval 1 29 v1 rfl rfl) h1; obtain ⟨g2, pe2, ce2, rfl, rd2⟩ := op_hand (hval 2 29 v2 rfl rfl) h2; clear hA0 hval0; obtain ⟨m, hm⟩ := maxLen_of hSh; have hit := itoaG_of (pow10_of hX); refine (law_Aparts pm0 pv0 pr0 cm0 cv0 cr0 p0 g1 pe1 ce1 g2 pe2 ce2 m W rd0 rd1 rd2 hm hit).mono fun e W' ⟨he, bel⟩ => ?_
  subst he; exact ⟨_, rfl, _, _, _, [], _, [], hW', trodAll_mk1 (shut_bool Tryz.underlying4 _), (trodAll_cons_mk (Below.trod laidOutT (by kernel_rfl) (of_decide_eq_true (by kernel_rfl)) h0 bel (trod_lt h0)) (trodAll_cons_mk (Below.trod laidOutT (by kernel_rfl) (of_decide_eq_true (by kernel_rfl)) h1 bel (trod_lt h1)) (trodAll_cons_mk (Below.trod laidOutT (by kernel_rfl) (of_decide_eq_true (by kernel_rfl)) h2 bel (trod_lt h2)) trodAll_mk0))), rfl, bel.frame _, fun h => by cases h⟩
theorem slackAparts_wf : Rows.slackApartsRow.wf (OpenSpec.ofChange Rows.slackApartsSpec) = true := by kernel_rfl
theorem slackAparts_inPlace : (Rows.slackApartsRow.inPlace == Tryz.prog.inPlace 5) = true := by kernel_rfl
theorem slackAparts_unfollowed : (Rows.slackApartsRow.unfollowed == Tryz.prog.unfollowed 5) = true := by kernel_rfl
theorem slackAparts_recurses : (Rows.slackApartsRow.recurses == Tryz.prog.recurses 5) = true := by kernel_rfl
theorem slackAparts_named : (Rows.slackApartsRow.named == Tryz.prog.varsNamed 5) = true := by kernel_rfl
theorem slackAparts_goes : false = Rows.slackApartsRow.goesBy Tryz.prog := by kernel_rfl
theorem slackAparts_func : Tryz.prog.funcNamed Rows.slackApartsRow.func = some 5 := by kernel_rfl
theorem slackAparts_text : Rows.slackApartsRow.wfByText (OpenSpec.ofChange Rows.slackApartsSpec) = true := by kernel_rfl
theorem slackAparts_closed : joinedFacts Tryz.prog 5 Tryz.f5 Rows.slackApartsSpec Rows.slackApartsRow = true :=
  (and_t (and_t (and_t (and_t (and_t (and_t (and_t (and_t (and_t (and_t (and_t (and_t (and_t (and_t (and_t (and_t (and_t (and_t (and_t (and_t (and_t (and_t (and_t (and_t (and_t (and_t (and_t (and_t (and_t (and_t (and_t slackAparts_wf tLaidOut) tMaps) (by kernel_rfl)) (by kernel_rfl)) (by kernel_rfl)) (by kernel_rfl)) (by kernel_rfl)) (by kernel_rfl)) slackAparts_inPlace) slackAparts_unfollowed) slackAparts_recurses) slackAparts_named) (by kernel_rfl)) (by kernel_rfl)) (by kernel_rfl)) (by kernel_rfl)) (by kernel_rfl)) (by kernel_rfl)) (by kernel_rfl)) (by kernel_rfl)) (by kernel_rfl)) (by kernel_rfl)) (by kernel_rfl)) tHeard) tMayEnter) (eq_t (α := Bool) tFinal.symm)) (eq_t tMake)) (by kernel_rfl)) (by kernel_rfl)) (by kernel_rfl)) (by kernel_rfl))
theorem slackAparts_wrap : Func.isWrapper Tryz.prog Tryz.f5 Rows.slackApartsRow.wrapper Rows.slackApartsRow.mainSum := by unfold Func.isWrapper; rw [if_neg (of_decide_eq_false (by kernel_rfl))]; exact ⟨rfl, rfl⟩
theorem slackAparts_row : Rows.SlackApartsSaid :=
  OpenClaim.holds_of_wide 5 Tryz.f5 rfl rfl rfl rfl rfl rfl rfl ⟨rfl, rfl, rfl, rfl, rfl⟩ rfl rfl rfl rfl rfl slackAparts_func Tryz.func5 slackAparts_closed (of_decide_eq_true (by kernel_rfl)) slackAparts_wrap (fun os started H enc _ => slackAparts_lifted os started H enc)
theorem slackAparts_plain : ∀ (j : Nat) t, Tryz.f5.params[j]? = some t → Tryz.prog.wantsStandIn t = false := fun j t ht => by
  rw [Tryz.params5] at ht; have hm : t ∈ [26, 29, 29] := by simpa using Array.mem_of_getElem? ht
  have hall : ([26, 29, 29].all fun u => !Tryz.prog.wantsStandIn u) = true := by kernel_rfl
  exact (show Tryz.prog.wantsStandIn t = false by simpa using List.all_eq_true.1 hall t hm)
theorem slackAparts_holds : Rows.SlackApartsCardSaid :=
  Claim7.holds_tied_plain_at .later [] [.data, .data, .data, .data, .pinned] true (true, "be822bbd39a17464ee6526ca2e9d32d2a3a9815fece3866167cb0f3f46fef96e") true slackAparts_row (fun _ h => by cases h) slackAparts_text (fun _ h => by cases h) slackAparts_row_tie rfl ⟨rfl, rfl⟩ tMainIs rfl
    (fun f fn hf hfn => by
      obtain rfl : f = 5 := Option.some.inj (slackAparts_func.symm.trans hf) |>.symm
      obtain rfl : fn = Tryz.f5 := (Option.some.inj (Tryz.func5.symm.trans hfn)).symm; exact ⟨tLooks, slackAparts_plain⟩)
    slackAparts_goes
#print axioms slackAparts_holds
end Go.Proofs.YtlednchfifphgabGreatDoor
end
