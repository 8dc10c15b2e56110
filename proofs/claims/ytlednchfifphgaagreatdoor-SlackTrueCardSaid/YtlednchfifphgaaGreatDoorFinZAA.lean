/-
  Plain laws of pieces: plays that are tried, truths, and what all truths have (no program in sight).
  Base words of these seats' walks: what slices that are only read hold; regions that draw their order; boxes; owned rows.
  Plain laws of bounds, of lost motion, and of a crank that is turned on and back (no program in sight).
  Plain laws of truths: a reading more, a play that is known, how many are left (no program in sight).
  A move made in two parts: what the moves are then, and where the arbors are (no program in sight).
  A negation in a quiet walk.
  A drawn region whose cells are known: its beginning, in short words.
  The document's move of all arbors, and where all arbors are: contracts.
  The document's places before the first move and after each one: contract.
  Whether plays are a truth, in the document's words: contract.
  All truths, in the document's words: contract.
  Where all arbors are after all moves, in each of some truths: contract.
  The least and the greatest number at each place of some lists: contracts.
  Four moves more, and the windows that begin within an arbor's bounds: plain.
  By how much the crank can be turned before an arbor moves, in the document's words: contracts.
  What the laws ask: a piece's truths, or its error; contracts.
  The stage's theorem: what is known of a piece (the walk).
  By how much the crank can be turned before an arbor moves (the walk).
  A piece with some moves more, or with one reading more, in the document's words: contracts.
  The theorem of lost motion (the walk).
  A piece in which a mesh has a play that is known: contract.
  Check and Fits, the program's: contracts.
  The laws' word on plain spans: contract.
  The theorem of bounds (the walk).
  The law SlackTrue: its card. Conditions: none of the input; the tables of the library that the row lists are as the program lays them (the tie is given).
-/
import Derived.Test.YtlednchfifphgaaGreatDoorGA
import Derived.Test.YtlednchfifphgaaGreatDoorProg
import Derived.WalkKit
import Derived.WalkSpells
import Derived.WalkLawsBesides
import Derived.Handy
import Derived.Deep.QuietTactic
import Derived.BigQuiet
import Derived.Outline
import Derived.Below
import Derived.Lib.Hide
import Derived.Maps.RangeWalk
import Derived.StillTailTactics
import Derived.WalkMore
import Derived.Deep.RegionHeld3
import Derived.Deep.Cut
import Derived.RangeFuncBox
import Derived.Test.YtlednchfifphgaaGreatDoorGH
import Derived.Test.YtlednchfifphgaaGreatDoorGG
import Derived.Test.YtlednchfifphgaaGreatDoorGL
import Derived.Test.YtlednchfifphgaaGreatDoorGD
import Derived.Deep.Upon
import Derived.Deep.AppendLies
import Derived.Deep.RegionLaw
import Derived.OwnWalk
import Derived.Maps.AppendAt
import Derived.Test.YtlednchfifphgaaGreatDoorGM
import Derived.Test.YtlednchfifphgaaGreatDoorGJ
import Derived.Test.YtlednchfifphgaaGreatDoorGN
import Derived.Test.YtlednchfifphgaaGreatDoorGC
import Derived.Test.YtlednchfifphgaaGreatDoorGY
import Derived.Test.YtlednchfifphgaaGreatDoorGS
import Derived.Test.YtlednchfifphgaaGreatDoorGX2
import Derived.Test.YtlednchfifphgaaGreatDoorGE
import Derived.Test.YtlednchfifphgaaGreatDoorGZ
import Derived.Test.YtlednchfifphgaaGreatDoorCards
section
namespace Go.Proofs.YtlednchfifphgaaGreatDoor

theorem rng_nil {lo hi : Int} (h : hi < lo) : rng lo hi = [] := by
  unfold rng; rw [show (hi - lo + 1).toNat = 0 by omega]; rfl
theorem rng_cons {lo hi : Int} (h : lo ≤ hi) : rng lo hi = lo :: rng (lo + 1) hi := by
  unfold rng; rw [show (hi - lo + 1).toNat = (hi - (lo + 1) + 1).toNat + 1 by omega, List.range_succ_eq_map]; simp only [List.map_cons, List.map_map]
  congr 1
  · simp
  · apply List.map_congr_left; intro k _; simp only [Function.comp]; omega
end Go.Proofs.YtlednchfifphgaaGreatDoor
end

section
namespace Go.Proofs.YtlednchfifphgaaGreatDoor
open Go Go.RowKit Go.Proofs
set_option linter.unusedVariables false

section
variable {P : Program} {C : World → Prop} {K : Act → Prop} {a : Act} {ops : Array Oper} {Q : Act → Prop} {o : Oper} {rest : List Oper}

variable {d : Nat} {x y : Operand} {t t' ty : TypeId} {pos : String} {af : Array Edge} {g : Option (Nat × Bool)} {m n : Int}

variable {z : Operand} {l : Int} {ats : Array TypeId}
end


section
variable {P : Program} {ops : Array Oper} {C : World → Prop} {Q : Act → Prop} {rest : List Oper} {a : Act} {d : Nat} {x y : Operand} {ty t t' : TypeId} {pos : String} {af : Array Edge} {g : Option (Nat × Bool)}
end
theorem spV_length (a : List (Int × Int)) : (spV a).length = a.length * 2 := by
  induction a with
  | nil => rfl
  | cons s r ih => simp [spV, ih]; omega
section
variable {P : Program} {ops : Array Oper} {md : Region.Mode} {C : World → Prop}

end
end Go.Proofs.YtlednchfifphgaaGreatDoor
end

section
namespace Go.Proofs.YtlednchfifphgaaGreatDoor
set_option linter.unusedVariables false

theorem ne_of_mem {α : Type} {l : List α} {x : α} (h : x ∈ l) : l ≠ [] := by rintro rfl; cases h
theorem known_true {p : Pc} {pl : List Int} (h : pl ∈ truthsF p) (a : Nat) (ha : a ≤ p.ms.length) : (gm (knownF p) a).1 ≤ gi (endF p pl) a ∧ gi (endF p pl) a ≤ (gm (knownF p) a).2 := by
  rw [knownF_at p a ha]; exact ovF_mem (fun pl => just (gi (endF p pl) a)) h
theorem proved_true {p : Pc} {pl : List Int} (h : pl ∈ truthsF p) (i : Nat) (hi : i < p.ms.length) : (gm (provedF p) i).1 ≤ gi pl i ∧ gi pl i ≤ (gm (provedF p) i).2 := by
  rw [provedF_at p i hi]; exact ovF_mem (fun pl => just (gi pl i)) h
theorem known_plain {p : Pc} (hp : PieceOk p) (h : truthsF p ≠ []) (a : Nat) (ha : a ≤ p.ms.length) : -2800 ≤ (gm (knownF p) a).1 ∧ (gm (knownF p) a).1 ≤ (gm (knownF p) a).2 ∧ (gm (knownF p) a).2 ≤ 2400 := by
  rw [knownF_at p a ha]; refine ovF_in _ _ _ h fun pl hpl => ?_
  have hk := truth_plays hp hpl; have := place_range hp hk p.mv.length a (Nat.le_refl _) (by rw [hk.len]; exact ha); exact ⟨this.1, Int.le_refl _, this.2⟩
theorem proved_plain {p : Pc} (hp : PieceOk p) (h : truthsF p ≠ []) (i : Nat) (hi : i < p.ms.length) : 0 ≤ (gm (provedF p) i).1 ∧ (gm (provedF p) i).1 ≤ (gm (provedF p) i).2 ∧ (gm (provedF p) i).2 ≤ 100 := by
  rw [provedF_at p i hi]; refine ovF_in _ _ _ h fun pl hpl => ?_
  have hk := truth_plays hp hpl; have := hk.in' i (by rw [hk.len]; exact hi); exact ⟨this.1, Int.le_refl _, this.2⟩

end Go.Proofs.YtlednchfifphgaaGreatDoor
end

section
namespace Go.Proofs.YtlednchfifphgaaGreatDoor
set_option linter.unusedVariables false

def moreF (p : Pc) (r : Rd) : Pc := { p with rs := p.rs ++ [r] }
def withF (p : Pc) (a s o : Int) : Pc := moreF p ⟨p.mv.length, a, s, o⟩
theorem moreF_fits (p : Pc) (r : Rd) (pl : List Int) : fitsB (moreF p r) pl = (fitsB p pl && agreeB pl p.mv r) := by
  unfold fitsB; show (withinB p pl && (p.rs ++ [r]).all (agreeB pl p.mv)) = _; rw [List.all_append, List.all_cons, List.all_nil, Bool.and_true, Bool.and_assoc]
theorem moreF_truths (p : Pc) (r : Rd) : truthsF (moreF p r) = (truthsF p).filter fun pl => agreeB pl p.mv r := by
  unfold truthsF; rw [List.filter_filter]; show (prodF p.ms).filter _ = _
  congr 1
  funext pl
  rw [moreF_fits, Bool.and_comm]
theorem gr_app (a b : List Rd) (i : Nat) (h : i < a.length) : gr (a ++ b) i = gr a i := by
  unfold gr; rw [List.getD_eq_getElem?_getD, List.getD_eq_getElem?_getD, List.getElem?_append_left h]
theorem gr_end (a : List Rd) (r : Rd) : gr (a ++ [r]) a.length = r := by
  unfold gr; rw [List.getD_eq_getElem?_getD, List.getElem?_append_right (Nat.le_refl _), Nat.sub_self]; rfl
def ReadOk (p : Pc) (r : Rd) : Prop := (0 ≤ r.aft ∧ r.aft ≤ p.mv.length) ∧ (1 ≤ r.arb ∧ r.arb ≤ p.ms.length) ∧ (-5000 ≤ r.seen ∧ r.seen ≤ 5000) ∧ (0 ≤ r.off ∧ r.off ≤ 50)
theorem moreF_piece {p : Pc} (hp : PieceOk p) {r : Rd} (h6 : p.rs.length < 6) (hr : ReadOk p r) : PieceOk (moreF p r) := by
  refine ⟨hp.n1, hp.n4, hp.m8, by simp [moreF]; omega, hp.mesh, hp.move, fun i hi => ?_⟩; have hi' : i < (p.rs ++ [r]).length := hi; rw [List.length_append, List.length_singleton] at hi'; show _ ∧ _
  by_cases h1 : i < p.rs.length
  · have : gr (moreF p r).rs i = gr p.rs i := gr_app _ _ _ h1
    rw [this]; exact hp.read i h1
  · obtain rfl : i = p.rs.length := by omega
    have : gr (moreF p r).rs p.rs.length = r := gr_end _ _; rw [this]; exact hr
theorem with_agree (p : Pc) (a s o : Int) (pl : List Int) : agreeB pl p.mv ⟨p.mv.length, a, s, o⟩ = inB (gi (endF p pl) a.toNat) (s - o) (s + o) := by
  unfold agreeB endF; simp
theorem withF_truths (p : Pc) (a s o : Int) : truthsF (withF p a s o) = (truthsF p).filter fun pl => inB (gi (endF p pl) a.toNat) (s - o) (s + o) := by
  unfold withF; rw [moreF_truths]; exact List.filter_congr fun pl _ => with_agree p a s o pl
theorem with_end {p : Pc} (h : truthsF p ≠ []) (a : Nat) (ha : a ≤ p.ms.length) : truthsF (withF p a (gm (knownF p) a).1 0) ≠ [] ∧ truthsF (withF p a (gm (knownF p) a).2 0) ≠ [] := by
  obtain ⟨x, hx, ex⟩ := ovF_low (p := p) (fun pl => just (gi (endF p pl) a)) h; obtain ⟨y, hy, ey⟩ := ovF_high (p := p) (fun pl => just (gi (endF p pl) a)) h; rw [← knownF_at p a ha] at ex ey; have ex' : (gm (knownF p) a).1 = gi (endF p x) a := ex; have ey' : (gm (knownF p) a).2 = gi (endF p y) a := ey
  constructor
  · refine ne_of_mem (x := x) ?_
    rw [withF_truths]; exact List.mem_filter.2 ⟨hx, inB_iff.2 (by rw [Int.toNat_natCast]; omega)⟩
  · refine ne_of_mem (x := y) ?_
    rw [withF_truths]; exact List.mem_filter.2 ⟨hy, inB_iff.2 (by rw [Int.toNat_natCast]; omega)⟩

def narrowF (p : Pc) (i : Nat) (v : Int) : Pc := { p with ms := p.ms.set i (v, v) }
theorem gm_set (l : List (Int × Int)) (i j : Nat) (m : Int × Int) (h : i < l.length) : gm (l.set i m) j = if i = j then m else gm l j := by
  unfold gm; rw [List.getD_eq_getElem?_getD, List.getD_eq_getElem?_getD, List.getElem?_set]
  by_cases e : i = j
  · subst e; simp [h]
  · simp [e]
theorem narrow_piece {p : Pc} (hp : PieceOk p) (i : Nat) (hi : i < p.ms.length) (v : Int) (hv : 0 ≤ v ∧ v ≤ 100) : PieceOk (narrowF p i v) := by
  have hl : (narrowF p i v).ms.length = p.ms.length := by simp [narrowF]
  refine ⟨by rw [hl]; exact hp.n1, by rw [hl]; exact hp.n4, hp.m8, hp.r6, fun k hk => ?_, hp.move, fun k hk => ?_⟩
  · rw [hl] at hk
    show 0 ≤ (gm (p.ms.set i (v, v)) k).1 ∧ _; have e : gm (narrowF p i v).ms k = if i = k then (v, v) else gm p.ms k := gm_set _ _ _ _ hi
    show 0 ≤ (gm (narrowF p i v).ms k).1 ∧ (gm (narrowF p i v).ms k).1 ≤ (gm (narrowF p i v).ms k).2 ∧ (gm (narrowF p i v).ms k).2 ≤ 100 ∧ (gm (narrowF p i v).ms k).2 - (gm (narrowF p i v).ms k).1 ≤ 4; rw [e]
    by_cases h : i = k
    · rw [if_pos h]; simp only; omega
    · rw [if_neg h]; exact hp.mesh k hk
  · have := hp.read k hk
    rw [hl]; exact this
theorem sub_flatMap2 {α β : Type} (a : List α) {f g : α → List β} (h : ∀ x, (f x).Sublist (g x)) : (a.flatMap f).Sublist (a.flatMap g) := by
  induction a with
  | nil => exact List.Sublist.refl _
  | cons x r ih => rw [List.flatMap_cons, List.flatMap_cons]; exact List.Sublist.append (h x) ih
theorem rng_one (v : Int) : rng v v = [v] := by rw [rng_cons (Int.le_refl v), rng_nil (by omega)]
theorem prod_narrow : ∀ (ms : List (Int × Int)) (i : Nat) (v : Int), i < ms.length → (gm ms i).1 ≤ v → v ≤ (gm ms i).2 → (prodF (ms.set i (v, v))).Sublist (prodF ms) := by
  intro ms
  induction ms with
  | nil => intro i v h; exact absurd h (Nat.not_lt_zero _)
  | cons m r ih =>
    intro i v hi h1 h2
    cases i with
    | zero =>
      rw [List.set_cons_zero, prodF, prodF]; refine sub_flatMap ?_ _; show (rng v v).Sublist (rng m.1 m.2); rw [rng_one, List.singleton_sublist]; exact mem_rng.2 ⟨h1, h2⟩
    | succ i =>
      rw [List.set_cons_succ, prodF, prodF]; exact sub_flatMap2 _ fun n => (ih i v (by simpa using hi) h1 h2).map _
theorem narrow_truths {p : Pc} (i : Nat) (hi : i < p.ms.length) (v : Int) (h1 : (gm p.ms i).1 ≤ v) (h2 : v ≤ (gm p.ms i).2) : (truthsF (narrowF p i v)).Sublist (truthsF p) := by
  have e : truthsF (narrowF p i v) = (prodF (p.ms.set i (v, v))).filter (fitsB p) := by
    unfold truthsF; refine List.filter_congr fun pl hpl => ?_
    obtain ⟨hl, hw⟩ := mem_prodF.1 hpl; have hw1 : withinB (narrowF p i v) pl = true := withinB_iff.2 hw
    have hw2 : withinB p pl = true := withinB_iff.2 fun k hk => by
      have := hw k hk; change (gm (p.ms.set i (v, v)) k).1 ≤ _ ∧ _ ≤ (gm (p.ms.set i (v, v)) k).2 at this; rw [gm_set _ _ _ _ hi] at this
      by_cases e : i = k
      · subst e; rw [if_pos rfl] at this; simp only at this; omega
      · rw [if_neg e] at this; exact this
    unfold fitsB; rw [hw1, hw2]; rfl
  rw [e]; exact (prod_narrow p.ms i v hi h1 h2).filter _
theorem narrow_mem {p : Pc} {pl : List Int} (h : pl ∈ truthsF p) (i : Nat) (hi : i < p.ms.length) : pl ∈ truthsF (narrowF p i (gi pl i)) := by
  obtain ⟨h1, h2⟩ := mem_truthsF.1 h; unfold fitsB at h2; rw [Bool.and_eq_true] at h2; have hw := withinB_iff.1 h2.1; refine mem_truthsF.2 ⟨by simp [narrowF, h1], ?_⟩; unfold fitsB; rw [Bool.and_eq_true]; refine ⟨withinB_iff.2 fun k hk => ?_, h2.2⟩; show (gm (p.ms.set i (gi pl i, gi pl i)) k).1 ≤ _ ∧ _ ≤ (gm (p.ms.set i (gi pl i, gi pl i)) k).2; rw [gm_set _ _ _ _ hi]
  by_cases e : i = k
  · subst e; rw [if_pos rfl]; exact ⟨Int.le_refl _, Int.le_refl _⟩
  · rw [if_neg e]; exact hw k hk
theorem narrow_end {p : Pc} (h : truthsF p ≠ []) (i : Nat) (hi : i < p.ms.length) : (truthsF (narrowF p i (gm (provedF p) i).1) ≠ [] ∧ (truthsF (narrowF p i (gm (provedF p) i).1)).length ≤ (truthsF p).length) ∧
    (truthsF (narrowF p i (gm (provedF p) i).2) ≠ [] ∧ (truthsF (narrowF p i (gm (provedF p) i).2)).length ≤ (truthsF p).length) := by
  obtain ⟨x, hx, ex⟩ := ovF_low (p := p) (fun pl => just (gi pl i)) h; obtain ⟨y, hy, ey⟩ := ovF_high (p := p) (fun pl => just (gi pl i)) h; rw [← provedF_at p i hi] at ex ey; have ex' : (gm (provedF p) i).1 = gi x i := ex; have ey' : (gm (provedF p) i).2 = gi y i := ey
  have key : ∀ pl ∈ truthsF p, (gm p.ms i).1 ≤ gi pl i ∧ gi pl i ≤ (gm p.ms i).2 := fun pl hpl => by
    obtain ⟨h1, h2⟩ := mem_truthsF.1 hpl; unfold fitsB at h2; rw [Bool.and_eq_true] at h2; exact withinB_iff.1 h2.1 i (by omega)
  rw [ex', ey']; exact ⟨⟨ne_of_mem (narrow_mem hx i hi), (narrow_truths i hi _ (key x hx).1 (key x hx).2).length_le⟩, ⟨ne_of_mem (narrow_mem hy i hi), (narrow_truths i hi _ (key y hy).1 (key y hy).2).length_le⟩⟩

end Go.Proofs.YtlednchfifphgaaGreatDoor
end

section
namespace Go.Proofs.YtlednchfifphgaaGreatDoor
set_option linter.unusedVariables false

end Go.Proofs.YtlednchfifphgaaGreatDoor
end

section
namespace Go.Proofs.YtlednchfifphgaaGreatDoor
open Go Go.RowKit
set_option linter.unusedVariables false
end Go.Proofs.YtlednchfifphgaaGreatDoor
end

section
namespace Go.Proofs.YtlednchfifphgaaGreatDoor
open Go Go.RowKit
set_option linter.unusedVariables false
section
variable {P : Program} {ops : Array Oper} {Q : Exit → Act → World → Prop} {id : Nat} {a : Act} {w : World}
theorem cl3 {a0 a1 a2 : Addr} {v0 v1 v2 : Value} (h0 : w.cell? a0 = some v0) (h1 : w.cell? a1 = some v1) (h2 : w.cell? a2 = some v2) : ∀ w', Below w.heap.size w w' → w'.cell? a0 = some v0 ∧ w'.cell? a1 = some v1 ∧ w'.cell? a2 = some v2 := fun w' hb => ⟨(hb.cell (lt_of_cellq h0)).trans h0, (hb.cell (lt_of_cellq h1)).trans h1, (hb.cell (lt_of_cellq h2)).trans h2⟩
theorem held3 {a0 a1 a2 : Addr} {v0 v1 v2 : Value} (h0 : w.cell? a0 = some v0) (h1 : w.cell? a1 = some v1) (h2 : w.cell? a2 = some v2)
    (k : ∀ W0, Below w.heap.size w W0 → wpAnyH P .any ops Q (fun w' => w'.cell? a0 = some v0 ∧ w'.cell? a1 = some v1 ∧ w'.cell? a2 = some v2) ops.size (Array.replicate ops.size false) a W0)
    (hm : P.follows .mixedOrders = true := by kernel_rfl) : (Code.region id ops true).wp P Q a w :=
  wp_region_held_drew (S := fun w' => w'.cell? a0 = some v0 ∧ w'.cell? a1 = some v1 ∧ w'.cell? a2 = some v2) hm (cl3 h0 h1 h2 _ (Below.refl _ _).drew) (fun _ => k _ (Below.refl _ _).drew)
theorem cl7 {a0 a1 a2 a3 a4 a5 a6 : Addr} {v0 v1 v2 v3 v4 v5 v6 : Value} (h0 : w.cell? a0 = some v0) (h1 : w.cell? a1 = some v1) (h2 : w.cell? a2 = some v2) (h3 : w.cell? a3 = some v3) (h4 : w.cell? a4 = some v4) (h5 : w.cell? a5 = some v5) (h6 : w.cell? a6 = some v6) : ∀ w', Below w.heap.size w w' → w'.cell? a0 = some v0 ∧ w'.cell? a1 = some v1 ∧ w'.cell? a2 = some v2 ∧ w'.cell? a3 = some v3 ∧ w'.cell? a4 = some v4 ∧ w'.cell? a5 = some v5 ∧ w'.cell? a6 = some v6 := fun w' hb => ⟨(hb.cell (lt_of_cellq h0)).trans h0, (hb.cell (lt_of_cellq h1)).trans h1, (hb.cell (lt_of_cellq h2)).trans h2, (hb.cell (lt_of_cellq h3)).trans h3, (hb.cell (lt_of_cellq h4)).trans h4, (hb.cell (lt_of_cellq h5)).trans h5, (hb.cell (lt_of_cellq h6)).trans h6⟩
theorem held7 {a0 a1 a2 a3 a4 a5 a6 : Addr} {v0 v1 v2 v3 v4 v5 v6 : Value} (h0 : w.cell? a0 = some v0) (h1 : w.cell? a1 = some v1) (h2 : w.cell? a2 = some v2) (h3 : w.cell? a3 = some v3) (h4 : w.cell? a4 = some v4) (h5 : w.cell? a5 = some v5) (h6 : w.cell? a6 = some v6)
    (k : ∀ W0, Below w.heap.size w W0 → wpAnyH P .any ops Q (fun w' => w'.cell? a0 = some v0 ∧ w'.cell? a1 = some v1 ∧ w'.cell? a2 = some v2 ∧ w'.cell? a3 = some v3 ∧ w'.cell? a4 = some v4 ∧ w'.cell? a5 = some v5 ∧ w'.cell? a6 = some v6) ops.size (Array.replicate ops.size false) a W0)
    (hm : P.follows .mixedOrders = true := by kernel_rfl) : (Code.region id ops true).wp P Q a w :=
  wp_region_held_drew (S := fun w' => w'.cell? a0 = some v0 ∧ w'.cell? a1 = some v1 ∧ w'.cell? a2 = some v2 ∧ w'.cell? a3 = some v3 ∧ w'.cell? a4 = some v4 ∧ w'.cell? a5 = some v5 ∧ w'.cell? a6 = some v6) hm (cl7 h0 h1 h2 h3 h4 h5 h6 _ (Below.refl _ _).drew) (fun _ => k _ (Below.refl _ _).drew)
end
end Go.Proofs.YtlednchfifphgaaGreatDoor
end

section
namespace Go.Proofs.YtlednchfifphgaaGreatDoor
open Go Go.RowKit Go.Proofs
set_option linter.unusedVariables false
set_option linter.unusedSimpArgs false
attribute [local go_sem] imax2 imin2

theorem run_append_src {P : Program} (w : World) (base : Nat) (t ty e : TypeId) (i : TypeInfo) (z : Value) (size bytes : Nat) (ht : P.underlying t = some (.slice e)) (hi : P.info? e = some i) (hz : i.zero = some z)
    (hsize : i.size = size) (hby : i.bytes = bytes) (hzs : z.cells.size = size) (hsz : 0 < size)
    (v : Value) (n : Nat) (xs : List Value) (hown : w.ownsRow base e size v n xs)
    (po : Option Addr) (m c : Nat) (news : List Value) (hl : news.length = m * size) (hnews : m = 0 ∨ ∃ ad, po = some ad ∧ ∀ j u, news[j]? = some u → w.cell? (ad.add j) = some u) (h1 : ∀ u ∈ news, u.oneCell' = true)
    (h63 : n + m ≤ maxLen) (hbytes : (n + m) * bytes ≤ 140737488355328) (hbase : base ≤ w.heap.size) :
    ∃ v' w', (Builtin.append_ #[t, t] ty #[v, .slice po m c]).run P w = .ok v' w' ∧ w'.ownsRow base e size v' (n + m) (xs ++ news) ∧ w.grownBy w' v.ownBlock ∧ (v'.ownBlock = v.ownBlock ∨ v'.ownBlock = some w.heap.size) := by
  by_cases hm : m = 0
  · subst hm
    have hn : news = [] := List.length_eq_zero_iff.1 (by rw [hl, Nat.zero_mul]); subst hn
    have hs : Src P i.size t (.slice po 0 c) 0 [] w := by
      cases po with
      | none => exact Src.ofNil w ht c
      | some a => exact Src.ofSlice w ht a 0 c [] (by simp) (by intro j u hu; simp at hu) (by intro u hu; cases hu)
    rcases hown.2 with ⟨rfl, rfl⟩ | ⟨g, cap, cur, rfl, hb, hg, hnc, hrest⟩
    · exact ⟨_, w, run_append_nothing w t t ty e i ht hi none 0 0 (Nat.le_refl _) _ hs, by simpa using hown, World.grownBy.refl _ _, .inl rfl⟩
    · exact ⟨_, w, run_append_nothing w t t ty e i ht hi (some ⟨g, 0, none⟩) n cap hnc _ hs, by simpa using hown, World.grownBy.refl _ _, .inl rfl⟩
  · obtain ⟨ad, rfl, hc⟩ := hnews.resolve_left hm
    obtain ⟨v', w', hr, h2, h3, _, h5⟩ := run_append_own_at (P := P) w base t ty e i z size bytes ht hi hz hsize hby hzs hsz v n xs hown ad m c news hl hc h1 h63 hbytes hbase; exact ⟨v', w', hr, h2, h3, h5⟩
theorem step_append_src {P : Program} (w : World) {ops : Array Oper} {o : Oper} {a : Act} {K : Act → World → Prop} {Q : Exit → Act → World → Prop} {E : Prop} (hgd : o.guard = none) (s x : Operand) (t : TypeId)
    (ho : o.op = .call { callee := .builtin .append, args := #[s, x], argTypes := #[t, t] })
    (base : Nat) (e : TypeId) (i : TypeInfo) (z : Value) (size bytes : Nat) (ht : P.underlying t = some (.slice e)) (hi : P.info? e = some i) (hz : i.zero = some z)
    (hsize : i.size = size) (hby : i.bytes = bytes) (hzs : z.cells.size = size) (hsz : 0 < size)
    (v : Value) (n : Nat) (xs : List Value) (hs : a.eval s = v) (hown : w.ownsRow base e size v n xs)
    (po : Option Addr) (m c : Nat) (news : List Value) (hx : a.eval x = .slice po m c) (hl : news.length = m * size) (hnews : m = 0 ∨ ∃ ad, po = some ad ∧ ∀ j u, news[j]? = some u → w.cell? (ad.add j) = some u) (h1 : ∀ u ∈ news, u.oneCell' = true)
    (h63 : n + m ≤ maxLen) (hbytes : (n + m) * bytes ≤ 140737488355328) (hbase : base ≤ w.heap.size)
    (h : ∀ v' w', w'.ownsRow base e size v' (n + m) (xs ++ news) → w.grownBy w' v.ownBlock → (v'.ownBlock = v.ownBlock ∨ v'.ownBlock = some w.heap.size) → K (a.put o.dst v') w') :
    if Region.wanted o (yielded ops a.tmps) = true then Oper.wp P o a w K Q else E := by
  have hw : Region.wanted o (yielded ops a.tmps) = true := by simp [Region.wanted, hgd]
  rw [if_pos hw]; obtain ⟨v', w', hr, h2, h3, h5⟩ := run_append_src (P := P) w base t o.type e i z size bytes ht hi hz hsize hby hzs hsz v n xs hown po m c news hl hnews h1 h63 hbytes hbase; unfold Oper.wp execOp; simp only [ho, resolve, invoke, builtin, Sem.run_bind, Sem.run_pure, Result.andThen_ok, List.map_toArray, List.map_cons, List.map_nil, hs, hx, hr]; exact h v' w' h2 h3 h5
theorem wpList_append_src {P : Program} (w : World) {ops : Array Oper} {rest : List Oper} {o : Oper} {a : Act} {Q : Exit → Act → World → Prop} (hgd : o.guard = none) (s x : Operand) (t : TypeId)
    (ho : o.op = .call { callee := .builtin .append, args := #[s, x], argTypes := #[t, t] })
    (base : Nat) (e : TypeId) (i : TypeInfo) (z : Value) (size bytes : Nat) (ht : P.underlying t = some (.slice e)) (hi : P.info? e = some i) (hz : i.zero = some z)
    (hsize : i.size = size) (hby : i.bytes = bytes) (hzs : z.cells.size = size) (hsz : 0 < size)
    (v : Value) (n : Nat) (xs : List Value) (hs : a.eval s = v) (hown : w.ownsRow base e size v n xs)
    (po : Option Addr) (m c : Nat) (news : List Value) (hx : a.eval x = .slice po m c) (hl : news.length = m * size) (hnews : m = 0 ∨ ∃ ad, po = some ad ∧ ∀ j u, news[j]? = some u → w.cell? (ad.add j) = some u) (h1 : ∀ u ∈ news, u.oneCell' = true)
    (h63 : n + m ≤ maxLen) (hbytes : (n + m) * bytes ≤ 140737488355328) (hbase : base ≤ w.heap.size)
    (h : ∀ v' w', w'.ownsRow base e size v' (n + m) (xs ++ news) → w.grownBy w' v.ownBlock → (v'.ownBlock = v.ownBlock ∨ v'.ownBlock = some w.heap.size) → wpList P ops Q rest (a.put o.dst v') w') : wpList P ops Q (o :: rest) a w :=
  wpList_plain hgd fun K hK => by
    obtain ⟨v', w', hr, h2, h3, h5⟩ := run_append_src (P := P) w base t o.type e i z size bytes ht hi hz hsize hby hzs hsz v n xs hown po m c news hl hnews h1 h63 hbytes hbase; unfold Oper.wp execOp; simp only [ho, resolve, invoke, builtin, Sem.run_bind, Sem.run_pure, Result.andThen_ok, List.map_toArray, List.map_cons, List.map_nil, hs, hx, hr]; exact hK _ _ (h v' w' h2 h3 h5)

def ElV (w : World) (B : Nat) (css : List (List Int)) (hs : List Value) : Prop := hs.length = css.length ∧ ∀ i, i < css.length → ∃ v, hs[i]? = some v ∧ w.ownsRow B 3 1 v (gl css i).length (inV (gl css i))
theorem ElV.below {w w' : World} {B : Nat} {css : List (List Int)} {hs : List Value} (h : ElV w B css hs) (hb : Below w.heap.size w w') : ElV w' B css hs := by
  refine ⟨h.1, fun i hi => ?_⟩; obtain ⟨v, e1, e2⟩ := h.2 i hi; exact ⟨v, e1, own_kept e2 hb⟩
theorem ElV.mono {w : World} {B B' : Nat} {css : List (List Int)} {hs : List Value} (h : ElV w B css hs) (hB : B' ≤ B) : ElV w B' css hs := by
  refine ⟨h.1, fun i hi => ?_⟩; obtain ⟨v, e1, e2⟩ := h.2 i hi; exact ⟨v, e1, own_mono e2 hB⟩
theorem ElV.grown {w w' : World} {B B' n size e : Nat} {css : List (List Int)} {hs xs : List Value} {v : Value} (h : ElV w B css hs) (ho : w.ownsRow B' e size v n xs) (he : e ≠ 3) (hg : w.grownBy w' v.ownBlock) : ElV w' B css hs := by
  refine ⟨h.1, fun i hi => ?_⟩; obtain ⟨u, e1, e2⟩ := h.2 i hi; exact ⟨u, e1, e2.kept hg (own_apart e2 ho (Ne.symm he))⟩
def OwLs (w : World) (B : Nat) (v : Value) (ls : List (List Int)) : Prop := ∃ hs, w.ownsRow B 23 1 v ls.length hs ∧ ElV w B ls hs
theorem OwLs.nil (w : World) (B : Nat) : OwLs w B (.slice none 0 0) [] := ⟨[], World.ownsRow_nil _ _ _ _, rfl, fun i hi => by simp at hi⟩
theorem OwLs.below {w w' : World} {B : Nat} {v : Value} {ls : List (List Int)} (h : OwLs w B v ls) (hb : Below w.heap.size w w') : OwLs w' B v ls := by
  obtain ⟨hs, h1, h2⟩ := h; exact ⟨hs, own_kept h1 hb, h2.below hb⟩
theorem OwLs.mono {w : World} {B B' : Nat} {v : Value} {ls : List (List Int)} (h : OwLs w B v ls) (hB : B' ≤ B) : OwLs w B' v ls := by
  obtain ⟨hs, h1, h2⟩ := h; exact ⟨hs, own_mono h1 hB, h2.mono hB⟩
theorem OwLs.read {w : World} {B : Nat} {v : Value} {ls : List (List Int)} (h : OwLs w B v ls) : ∃ q c, v = .slice q ls.length c ∧ RdLs w q ls := by
  obtain ⟨hs, h1, h2⟩ := h
  rcases h1.2 with ⟨rfl, h0⟩ | ⟨g, cap, cur, rfl, hrest⟩
  · have : ls = [] := List.length_eq_zero_iff.1 h0
    subst this; exact ⟨none, 0, rfl, .inl rfl⟩
  · refine ⟨some ⟨g, 0, none⟩, cap, rfl, .inr ⟨g, 0, rfl, fun i hi => ?_⟩⟩
    obtain ⟨u, e1, e2⟩ := h2.2 i hi; obtain ⟨q, c, hu, hr⟩ := rd_of_own e2; subst hu; have h3 := h1.cells (g := g) rfl i _ e1; rw [add_new] at h3; exact ⟨q, c, by rw [Nat.zero_add]; exact h3, hr⟩
end Go.Proofs.YtlednchfifphgaaGreatDoor
end

section
namespace Go.Proofs.YtlednchfifphgaaGreatDoor
open Go Go.RowKit Go.Proofs
set_option linter.unusedVariables false
set_option linter.unusedSimpArgs false
attribute [local go_sem] imax2 imin2

end Go.Proofs.YtlednchfifphgaaGreatDoor
end

section
namespace Go.Proofs.YtlednchfifphgaaGreatDoor
open Go Go.RowKit Go.Proofs
set_option linter.unusedVariables false
set_option linter.unusedSimpArgs false
attribute [local go_sem] imax2 imin2

end Go.Proofs.YtlednchfifphgaaGreatDoor
end

section
namespace Go.Proofs.YtlednchfifphgaaGreatDoor
open Go Go.RowKit Go.Proofs
set_option linter.unusedVariables false
set_option linter.unusedSimpArgs false
attribute [local go_sem] imax2 imin2

def ElR (w : World) (css : List (List Int)) (hs : List Value) : Prop := hs.length = css.length ∧ ∀ i, i < css.length → ∃ q c, hs[i]? = some (.slice q (gl css i).length c) ∧ RdI w q (gl css i)
theorem ElR.read {w w' : World} {B : Nat} {v : Value} {css : List (List Int)} {hs : List Value} (h : ElR w css hs) (ho : w'.ownsRow B 23 1 v css.length hs) (hb : Below w.heap.size w w') : ∃ q c, v = .slice q css.length c ∧ RdLs w' q css := by
  rcases ho.2 with ⟨rfl, h0⟩ | ⟨g, cap, cur, rfl, hrest⟩
  · have : css = [] := List.length_eq_zero_iff.1 h0
    subst this; exact ⟨none, 0, rfl, .inl rfl⟩
  · refine ⟨some ⟨g, 0, none⟩, cap, rfl, .inr ⟨g, 0, rfl, fun i hi => ?_⟩⟩
    obtain ⟨q, c, e1, e2⟩ := h.2 i hi; have h3 := ho.cells (g := g) rfl i _ e1; rw [add_new] at h3; exact ⟨q, c, by rw [Nat.zero_add]; exact h3, e2.below hb⟩
end Go.Proofs.YtlednchfifphgaaGreatDoor
end

section
namespace Go.Proofs.YtlednchfifphgaaGreatDoor
open Go Go.RowKit Go.Proofs
set_option linter.unusedVariables false
set_option linter.unusedSimpArgs false
attribute [local go_sem] imax2 imin2

end Go.Proofs.YtlednchfifphgaaGreatDoor
end

section
namespace Go.Proofs.YtlednchfifphgaaGreatDoor
open Go Go.RowKit Go.Proofs
set_option linter.unusedVariables false
set_option linter.unusedSimpArgs false
attribute [local go_sem] imax2 imin2

end Go.Proofs.YtlednchfifphgaaGreatDoor
end

section
namespace Go.Proofs.YtlednchfifphgaaGreatDoor
set_option linter.unusedVariables false

end Go.Proofs.YtlednchfifphgaaGreatDoor
end

section
namespace Go.Proofs.YtlednchfifphgaaGreatDoor
open Go Go.RowKit Go.Proofs
set_option linter.unusedVariables false
set_option linter.unusedSimpArgs false
attribute [local go_sem] imax2 imin2

end Go.Proofs.YtlednchfifphgaaGreatDoor
end

section
namespace Go.Proofs.YtlednchfifphgaaGreatDoor
open Go Go.RowKit Go.Proofs
set_option linter.unusedVariables false
set_option linter.unusedSimpArgs false

def LAskNo (er : Int) (w : World) (e : Ending) (w' : World) : Prop := e = .returned (.tuple #[.slice none 0 0, .int .i64 er]) ∧ Below w.heap.size w w'
end Go.Proofs.YtlednchfifphgaaGreatDoor
end

section
namespace Go.Proofs.YtlednchfifphgaaGreatDoor
open Go Go.RowKit Go.Proofs
set_option linter.unusedVariables false
set_option linter.unusedSimpArgs false
attribute [local go_sem] imax2 imin2

def SpOk (L : List (Int × Int)) (w : World) (e : Ending) (w' : World) : Prop := ∃ q c, e = .returned (.tuple #[.slice q L.length c, .int .i64 0]) ∧ RdS w' q L ∧ Below w.heap.size w w'
theorem spans_rule {p : Pc} {L : List (Int × Int)} {w w' : World} {e : Ending} (h1 : pieceB p = true) (ht : truthsF p = []) (h : SpansPost p L w e w') : LAskNo 7 w e w' := by
  rcases h with ⟨h | h | h, hb⟩
  · rw [h1] at h; cases h.1
  · exact ⟨h.2.2, hb⟩
  · exact absurd ht h.2.1
theorem spans_ok {p : Pc} {L : List (Int × Int)} {w w' : World} {e : Ending} (h1 : pieceB p = true) (ht : truthsF p ≠ []) (h : SpansPost p L w e w') : SpOk L w e w' := by
  rcases h with ⟨h | h | ⟨_, _, g, c, he, ho⟩, hb⟩
  · rw [h1] at h; cases h.1
  · exact absurd h.2.1 ht
  · exact ⟨_, c, he, rdS_at ho rfl, hb⟩
end Go.Proofs.YtlednchfifphgaaGreatDoor
end

section
namespace Go.Proofs.YtlednchfifphgaaGreatDoor
open Go Go.RowKit Go.Proofs
set_option linter.unusedVariables false
set_option linter.unusedSimpArgs false
attribute [local go_sem] imax2 imin2

end Go.Proofs.YtlednchfifphgaaGreatDoor
end

section
namespace Go.Proofs.YtlednchfifphgaaGreatDoor
open Go Go.RowKit Go.Proofs
set_option linter.unusedVariables false
set_option linter.unusedSimpArgs false
attribute [local go_sem] imax2 imin2

theorem add_lit0 (b off j : Nat) : (⟨b, off, none⟩ : Addr).add j = ⟨b, off + j, none⟩ := by unfold Addr.add; split <;> simp_all
theorem rdV_length : ∀ l : List Rd, (rdV l).length = l.length * 4 := by
  intro l
  induction l with
  | nil => rfl
  | cons x l ih => simp only [rdV, List.length_cons, ih]; omega
theorem rdV_cells : ∀ l : List Rd, ∀ u ∈ rdV l, u.oneCell' = true := by
  intro l
  induction l with
  | nil => intro u hu; cases hu
  | cons x l ih =>
    intro u hu; simp only [rdV, List.mem_cons] at hu
    rcases hu with rfl | rfl | rfl | rfl | hu
    · rfl
    · rfl
    · rfl
    · rfl
    · exact ih u hu
theorem news_reads {w : World} {q : Option Addr} {xs : List Rd} (h : RdR w q xs) : xs.length = 0 ∨ ∃ ad, q = some ad ∧ ∀ i u, (rdV xs)[i]? = some u → w.cell? (ad.add i) = some u := by
  rcases h with rfl | ⟨b, off, rfl, hc⟩
  · exact .inl rfl
  · refine .inr ⟨_, rfl, fun i u hu => ?_⟩
    have hi : i < xs.length * 4 := by have := (List.getElem?_eq_some_iff.1 hu).1; rw [rdV_length] at this; exact this
    have hj : i / 4 < xs.length := by omega
    obtain ⟨g0, g1, g2, g3⟩ := rdV_get xs (i / 4) hj; obtain ⟨c0, c1, c2, c3⟩ := hc (i / 4) hj; rw [add_lit0]; have hr : i % 4 = 0 ∨ i % 4 = 1 ∨ i % 4 = 2 ∨ i % 4 = 3 := by omega
    rcases hr with hr | hr | hr | hr
    · have e : i = i / 4 * 4 := by omega
      rw [e] at hu ⊢; rw [g0] at hu; cases hu; exact c0
    · have e : i = i / 4 * 4 + 1 := by omega
      rw [e] at hu ⊢; rw [g1] at hu; cases hu; exact c1
    · have e : i = i / 4 * 4 + 2 := by omega
      rw [e] at hu ⊢; rw [g2] at hu; cases hu; exact c2
    · have e : i = i / 4 * 4 + 3 := by omega
      rw [e] at hu ⊢; rw [g3] at hu; cases hu; exact c3

def WithPost (pm pv : Option Addr) (cm cv : Nat) (p : Pc) (r : Rd) (w : World) (e : Ending) (w' : World) : Prop :=
  ∃ pr cr, e = .returned (.agg #[.slice pm p.ms.length cm, .slice pv p.mv.length cv, .slice pr (moreF p r).rs.length cr]) ∧ RdP w' pm pv pr (moreF p r) ∧ Below w.heap.size w w'
set_option maxHeartbeats 1600000 in
set_option maxRecDepth 100000 in
theorem r_With (pm pv pr : Option Addr) (cm cv cr : Nat) (p : Pc) (a s o : Int) (w : World) (hp : RdP w pm pv pr p) (h1 : p.rs.length ≤ 1000) :
    Calls Tryz.prog 39 #[.agg #[.slice pm p.ms.length cm, .slice pv p.mv.length cv, .slice pr p.rs.length cr], .int .i64 a, .int .i64 s, .int .i64 o] w (WithPost pm pv cm cv p ⟨p.mv.length, a, s, o⟩ w) := by
  obtain ⟨i0, hi0, hz0, hz1, hz2⟩ := info_parts infR; obtain ⟨w1, e1, HS1, k0, k1, k2, b1⟩ := box3 w (.slice pm p.ms.length cm) (.slice pv p.mv.length cv) (.slice pr p.rs.length cr) 26; have kr := alloc_new w1 (.cells #[.slice none 0 0, .slice none 0 0, .slice none 0 0] 26); obtain ⟨w2, e2, HS2, _, _, _, b2⟩ := box3 w1 (.slice none 0 0) (.slice none 0 0) (.slice none 0 0) 26; rw [e2] at kr; have kx := alloc_new w2 (.cells #[.slice pm p.ms.length cm, .slice pv p.mv.length cv, .slice pr p.rs.length cr] 26); obtain ⟨w3, e3, HS3, _, _, _, b3⟩ := box3 w2 (.slice pm p.ms.length cm) (.slice pv p.mv.length cv) (.slice pr p.rs.length cr) 26; rw [e3] at kx; have kr := (b3.block _ (block_lt kr)).trans kr; have b23 := b2.trans (b3.mono b2.size); have b13 := b1.trans (b23.mono b1.size); have j0 := (b2.cell (lt_of_cellq k0)).trans k0; have j1 := (b2.cell (lt_of_cellq k1)).trans k1; have j2 := (b2.cell (lt_of_cellq k2)).trans k2
  have k0 := (b23.cell (lt_of_cellq k0)).trans k0; have k1 := (b23.cell (lt_of_cellq k1)).trans k1; have k2 := (b23.cell (lt_of_cellq k2)).trans k2; have HB := Lib.hid b13; have HP0 := Lib.hid hp; have HP3 := Lib.hid (hp.rs.below b13); have HKR := Lib.hid kr; have HKX := Lib.hid kx; have HZ := Lib.hid (show w.heap.size < w1.heap.size ∧ w1.heap.size < w2.heap.size ∧ w2.heap.size < w3.heap.size from ⟨by have := HS1.out; omega, by have := HS2.out; omega, by have := HS3.out; omega⟩); clear hp b1 b2 b3 b23 b13 kr kx
  go_enter Tryz.func39, Tryz.ntmps39
  go_upto_region 2 with (fail); clear e1 e2 e3 j0 j1 j2; have HSB := Lib.hid (cl3 k0 k1 k2); refine held3 k0 k1 k2 (fun W0 HB0 => ?_); refine tk 0 rfl (by exact HSB.out _ HB0) ?_; (try simp only [Act.put, ptL]); refine tk 1 rfl (by exact HSB.out _ HB0) ?_; (try simp only [Act.put, ptL]); refine tk 3 rfl (by exact HSB.out _ HB0) ?_; (try simp only [Act.put, ptL]); refine tk 4 rfl (by exact HSB.out _ HB0) ?_; (try simp only [Act.put, ptL]); refine tk 5 rfl (by exact HSB.out _ HB0) ?_; (try simp only [Act.put, ptL]); refine tk 6 rfl (by exact HSB.out _ HB0) ?_; (try simp only [Act.put, ptL]); refine tk 7 rfl (by exact HSB.out _ HB0) ?_; (try simp only [Act.put, ptL]); refine tk 8 rfl (by exact HSB.out _ HB0) ?_; (try simp only [Act.put, ptL]); refine tk 9 rfl (by exact HSB.out _ HB0) ?_; (try simp only [Act.put, ptL]); refine rz2 2 10 rfl rfl ?ordA ?ordB
  case' ordA =>
    intro K hK; refine step_append_src _ rfl _ _ 24 rfl w3.heap.size 68 i0 _ 4 32 Tryz.underlying24 hi0 hz0 hz1 hz2 rfl (by decide) (.slice none 0 0) 0 [] rfl (World.ownsRow_nil _ _ _ _) pr p.rs.length cr (rdV p.rs) rfl (by rw [rdV_length]) (news_reads (HP3.out.below HB0)) (rdV_cells _) (by unfold maxLen; omega) (by omega) HB0.size ?_; intro v1 wa hown1 hgrow1 hat1; have hba : Below w3.heap.size w3 wa := HB0.grown hgrow1 HB0.size (fun j hj => by simp [Value.ownBlock] at hj); refine kz hK (by exact HSB.out _ hba) ?_; clear hK K; (try simp only [Act.put, ptL]); refine rz1 10 rfl (fun K hK => ?_); go_simp; refine kz hK (by exact HSB.out _ (hba.alloc hba.size _)) ?_; clear hK K; (try simp only [Act.put, ptL]); have g1 := hown1.alloc (.cells #[.int .i64 p.mv.length, .int .i64 a, .int .i64 s, .int .i64 o] 68); have g2 := hba.alloc hba.size (.cells #[.int .i64 p.mv.length, .int .i64 a, .int .i64 s, .int .i64 o] 68)
    have g3 : ∀ j u, ([.int .i64 p.mv.length, .int .i64 a, .int .i64 s, .int .i64 o] : List Value)[j]? = some u → (wa.alloc (.cells #[.int .i64 p.mv.length, .int .i64 a, .int .i64 s, .int .i64 o] 68)).cell? ((⟨wa.heap.size, 0, none⟩ : Addr).add j) = some u := news_of wa _ _; obtain ⟨G, hG⟩ : ∃ G, wa.heap.size = G := ⟨_, rfl⟩; obtain ⟨W2, hW2⟩ : ∃ W2, wa.alloc (.cells #[.int .i64 p.mv.length, .int .i64 a, .int .i64 s, .int .i64 o] 68) = W2 := ⟨_, rfl⟩; rw [hW2] at g1 g2 g3; rw [hG] at g3; rw [hW2, hG]; clear hown1 hgrow1 hat1 hba hG hW2
  case' ordB =>
    intro K hK; go_simp; refine kz hK (by exact HSB.out _ (HB0.alloc HB0.size _)) ?_; clear hK K; (try simp only [Act.put, ptL]); have bl := HB0.alloc HB0.size (.cells #[.int .i64 p.mv.length, .int .i64 a, .int .i64 s, .int .i64 o] 68); have hn0 : ∀ j u, ([.int .i64 p.mv.length, .int .i64 a, .int .i64 s, .int .i64 o] : List Value)[j]? = some u → (W0.alloc (.cells #[.int .i64 p.mv.length, .int .i64 a, .int .i64 s, .int .i64 o] 68)).cell? ((⟨W0.heap.size, 0, none⟩ : Addr).add j) = some u := news_of W0 _ _; refine rz1 2 rfl (fun K hK => ?_); refine step_append_src _ rfl _ _ 24 rfl w3.heap.size 68 i0 _ 4 32 Tryz.underlying24 hi0 hz0 hz1 hz2 rfl (by decide) (.slice none 0 0) 0 [] rfl (World.ownsRow_nil _ _ _ _) pr p.rs.length cr (rdV p.rs) rfl (by rw [rdV_length]) (news_reads (HP3.out.below bl)) (rdV_cells _) (by unfold maxLen; omega) (by omega) bl.size ?_; intro v1 W2 hown1 hgrow1 hat1; have g1 := hown1
    have g2 : Below w3.heap.size w3 W2 := bl.grown hgrow1 bl.size (fun j hj => by simp [Value.ownBlock] at hj); have g3 : ∀ j u, ([.int .i64 p.mv.length, .int .i64 a, .int .i64 s, .int .i64 o] : List Value)[j]? = some u → W2.cell? ((⟨W0.heap.size, 0, none⟩ : Addr).add j) = some u := fun j u hj => (hgrow1.cell_far _ (lt_of_cellq (hn0 j u hj)) (by simp [Value.ownBlock])).trans (hn0 j u hj)
    refine kz hK (by exact HSB.out _ g2) ?_; clear hK K; (try simp only [Act.put, ptL]); obtain ⟨G, hG⟩ : ∃ G, W0.heap.size = G := ⟨_, rfl⟩; rw [hG] at g3; rw [hG]; clear hown1 hgrow1 hat1 bl hG hn0
  all_goals
    rw [Nat.zero_add, List.nil_append] at g1; refine rz1 11 rfl (fun K hK => ?_); refine step_append_src _ rfl _ _ 24 rfl w3.heap.size 68 i0 _ 4 32 Tryz.underlying24 hi0 hz0 hz1 hz2 rfl (by decide) v1 p.rs.length _ rfl g1 (some ⟨G, 0, none⟩) 1 1 [.int .i64 p.mv.length, .int .i64 a, .int .i64 s, .int .i64 o] rfl rfl (.inr ⟨_, rfl, g3⟩) (by intro u hu; simp at hu; rcases hu with rfl | rfl | rfl | rfl <;> rfl) (by unfold maxLen; omega) (by omega) g2.size ?_; intro v2 W3 hown2 hgrow2 hat2; have g4 : Below w3.heap.size w3 W3 := g2.grown hgrow2 g2.size (fun j hj => (g1.lt j hj).1); refine kz hK (by exact HSB.out _ g4) ?_; clear hK K; (try simp only [Act.put, ptL]); obtain ⟨gv, cv', rfl⟩ := own_anyE hown2; refine tk 12 rfl (by exact HSB.out _ g4) ?_; (try simp only [Act.put, ptL]); have hkx := (g4.block _ (block_lt HKX.out)).trans HKX.out; have hkr := (g4.block _ (block_lt HKR.out)).trans HKR.out
    obtain ⟨wc, s1, c1, f1, hx1, hxk1, HZ1, hxb1⟩ := put3_2 W3 w2.heap.size 26 _ _ _ (.slice gv (p.rs.length + 1) cv') hkx; have hq : ∀ j, wc.cell? ⟨w.heap.size, j, none⟩ = W3.cell? ⟨w.heap.size, j, none⟩ := fun j => World.cell?_of_block (a := ⟨w.heap.size, j, none⟩) (hxk1 w.heap.size (by have := HZ.out; omega))
    refine rz1 13 rfl (fun K hK => ?_); go_simp; refine kz hK (by exact (by rw [hq, hq, hq]; exact HSB.out _ g4)) ?_; clear hK K; (try simp only [Act.put, ptL]); refine wpAnyH_done (by kernel_rfl) ?_ _; have hkr := (hxk1 w1.heap.size (by have := HZ.out; omega)).trans hkr; obtain ⟨x0, x1, x2⟩ := cells3 hx1; obtain ⟨wd, we, wf, t1, t2, t3, ⟨d0, q0⟩, ⟨d1, q1⟩, ⟨d2, q2⟩, hx4, hxk, HZ4, hxb⟩ := set3 wc w1.heap.size 26 _ _ _ (.slice pm p.ms.length cm) (.slice pv p.mv.length cv) (.slice gv (p.rs.length + 1) cv') hkr; obtain ⟨r0, r1, r2⟩ := cells3 hx4; have hbf : Below w.heap.size w wf := hxb w w.heap.size (by have := HZ.out; omega) (hxb1 w w.heap.size (by have := HZ.out; omega) (HB.out.trans (g4.mono HB.out.size))); have HBF := Lib.hid hbf
    have hof := own_same hown2 (w' := wf) (fun g' hg' => by
      have h := (hown2.lt g' hg').1; have := HZ.out; exact (hxk g' (by omega)).trans (hxk1 g' (by omega)))
    have HRD := Lib.hid (show RdP wf pm pv gv (moreF p ⟨p.mv.length, a, s, o⟩) from ⟨(HP0.out.below hbf).ms, (HP0.out.below hbf).mv, rdR_at (by rw [show rdV (moreF p ⟨p.mv.length, a, s, o⟩).rs = rdV p.rs ++ [.int .i64 p.mv.length, .int .i64 a, .int .i64 s, .int .i64 o] from rdV_append p.rs _]; exact hof) (by show (p.rs ++ _).length = _; rw [List.length_append]; rfl)⟩); clear g1 g2 g3 g4 hown2 hgrow2 hat2 hkx hkr hx1 hxk1 hxb1 hx4 hxk hxb hof hbf hq HB0 HSB k0 k1 k2; go_wp2; refine bodyPost_ret (v := .agg #[.slice pm p.ms.length cm, .slice pv p.mv.length cv, .slice gv (p.rs.length + 1) cv']) ?_ rfl ⟨gv, cv', by rw [show (moreF p ⟨p.mv.length, a, s, o⟩).rs.length = p.rs.length + 1 from List.length_append], HRD.out, HBF.out⟩; simp [results, Tryz.results39, go_sem, r0, r1, r2]
end Go.Proofs.YtlednchfifphgaaGreatDoor
end

section
namespace Go.Proofs.YtlednchfifphgaaGreatDoor
open Go Go.RowKit Go.Proofs
set_option linter.unusedVariables false
set_option linter.unusedSimpArgs false
attribute [local go_sem] imax2 imin2

theorem within_of_fits {p : Pc} {pl : List Int} (h : fitsB p pl = true) : withinB p pl = true := by
  unfold fitsB at h; rw [Bool.and_eq_true] at h; exact h.1
end Go.Proofs.YtlednchfifphgaaGreatDoor
end

section
namespace Go.Proofs.YtlednchfifphgaaGreatDoor
open Go Go.RowKit Go.Proofs
set_option linter.unusedVariables false
set_option linter.unusedSimpArgs false
attribute [local go_sem] imax2 imin2

theorem own_putS {w : World} {B e size n g cap j : Nat} {xs : List Value} (h : w.ownsRow B e size (.slice (some ⟨g, 0, none⟩) n cap) n xs) (u : Value) :
    (w.setCell ⟨g, j, none⟩ u).ownsRow B e size (.slice (some ⟨g, 0, none⟩) n cap) n (xs.set j u) := by
  refine ⟨by rw [List.length_set]; exact h.1, ?_⟩
  rcases h.2 with ⟨h1, _⟩ | ⟨g', cap', cur, h1, h2, h3, h4, h5, h6, h7⟩
  · cases h1
  · cases h1
    refine .inr ⟨g, cap, cur.setIfInBounds j u, rfl, h2, ?_, h4, h5, by simpa using h6, ?_⟩
    · rw [heap_setCell_same w g j cur e u h3]
    · rw [Array.toList_setIfInBounds, List.take_set, h7]
theorem spV_cells : ∀ l : List (Int × Int), ∀ u ∈ spV l, u.oneCell' = true := by
  intro l
  induction l with
  | nil => intro u hu; cases hu
  | cons x l ih =>
    obtain ⟨a, b⟩ := x; intro u hu; simp only [spV, List.mem_cons] at hu
    rcases hu with rfl | rfl | hu
    · rfl
    · rfl
    · exact ih u hu
theorem spV_set2 : ∀ (l : List (Int × Int)) (i : Nat) (x y : Int), ((spV l).set (i * 2) (.int .i64 x)).set (i * 2 + 1) (.int .i64 y) = spV (l.set i (x, y)) := by
  intro l
  induction l with
  | nil => intro i x y; rfl
  | cons z l ih =>
    obtain ⟨a, b⟩ := z; intro i x y
    cases i with
    | zero => rfl
    | succ i =>
      have h : (i + 1) * 2 = i * 2 + 1 + 1 := by omega
      rw [h]; simp only [spV, List.set_cons_succ]; rw [ih i x y]
theorem news_spans {w : World} {q : Option Addr} {xs : List (Int × Int)} (h : RdS w q xs) : xs.length = 0 ∨ ∃ ad, q = some ad ∧ ∀ i u, (spV xs)[i]? = some u → w.cell? (ad.add i) = some u := by
  rcases h with rfl | ⟨b, off, rfl, hc⟩
  · exact .inl rfl
  · refine .inr ⟨_, rfl, fun i u hu => ?_⟩
    have hi : i < xs.length * 2 := by have := (List.getElem?_eq_some_iff.1 hu).1; rw [spV_length] at this; exact this
    have hj : i / 2 < xs.length := by omega
    obtain ⟨g0, g1⟩ := spV_get xs (i / 2) hj; obtain ⟨c0, c1⟩ := hc (i / 2) hj; rw [add_lit0]; have hr : i % 2 = 0 ∨ i % 2 = 1 := by omega
    rcases hr with hr | hr
    · have e : i = i / 2 * 2 := by omega
      rw [e] at hu ⊢; rw [g0] at hu; cases hu; exact c0
    · have e : i = i / 2 * 2 + 1 := by omega
      rw [e] at hu ⊢; rw [g1] at hu; cases hu; exact c1
def NarPost (pv pr : Option Addr) (cv cr : Nat) (p : Pc) (i : Nat) (v : Int) (w : World) (e : Ending) (w' : World) : Prop :=
  ∃ pm cm, e = .returned (.agg #[.slice pm (narrowF p i v).ms.length cm, .slice pv p.mv.length cv, .slice pr p.rs.length cr]) ∧ RdP w' pm pv pr (narrowF p i v) ∧ Below w.heap.size w w'
set_option maxHeartbeats 3200000 in
set_option maxRecDepth 100000 in
theorem l_narrow (pm pv pr : Option Addr) (cm cv cr : Nat) (p : Pc) (i : Nat) (v : Int) (w : World) (hp : RdP w pm pv pr p) (h1 : p.ms.length ≤ 1000) (hi : i < p.ms.length) :
    Calls Tryz.prog 38 #[.agg #[.slice pm p.ms.length cm, .slice pv p.mv.length cv, .slice pr p.rs.length cr], .int .i64 (i : Int), .int .i64 v] w (NarPost pv pr cv cr p i v w) := by
  obtain ⟨i0, hi0, hz0, hz1, hz2⟩ := info_parts infM; obtain ⟨w1, e1, HS1, k0, k1, k2, b1⟩ := box3 w (.slice pm p.ms.length cm) (.slice pv p.mv.length cv) (.slice pr p.rs.length cr) 26; have kr := alloc_new w1 (.cells #[.slice none 0 0, .slice none 0 0, .slice none 0 0] 26); obtain ⟨w2, e2, HS2, _, _, _, b2⟩ := box3 w1 (.slice none 0 0) (.slice none 0 0) (.slice none 0 0) 26; rw [e2] at kr; have kx := alloc_new w2 (.cells #[.slice pm p.ms.length cm, .slice pv p.mv.length cv, .slice pr p.rs.length cr] 26); obtain ⟨w3, e3, HS3, _, _, _, b3⟩ := box3 w2 (.slice pm p.ms.length cm) (.slice pv p.mv.length cv) (.slice pr p.rs.length cr) 26; rw [e3] at kx; have kr := (b3.block _ (block_lt kr)).trans kr; have b23 := b2.trans (b3.mono b2.size); have b13 := b1.trans (b23.mono b1.size); have j0 := (b2.cell (lt_of_cellq k0)).trans k0; have j1 := (b2.cell (lt_of_cellq k1)).trans k1; have j2 := (b2.cell (lt_of_cellq k2)).trans k2
  have k0 := (b23.cell (lt_of_cellq k0)).trans k0; have k1 := (b23.cell (lt_of_cellq k1)).trans k1; have k2 := (b23.cell (lt_of_cellq k2)).trans k2; have HB := Lib.hid b13; have HP0 := Lib.hid hp; have HN1 := Lib.hid (news_spans (hp.ms.below b13)); have HKR := Lib.hid kr; have HKX := Lib.hid kx; have HII := Lib.hid hi; have HZ := Lib.hid (show w.heap.size ≤ w1.heap.size ∧ w1.heap.size < w2.heap.size ∧ w2.heap.size < w3.heap.size from ⟨b1.size, by have := HS2.out; omega, by have := HS3.out; omega⟩); clear hp b1 b2 b3 b23 b13 kr kx
  go_enter Tryz.func38, Tryz.ntmps38
  go_wp2_with (at_builtin; refine wpList_append_src _ rfl _ _ 22 rfl w3.heap.size 81 i0 _ 2 16 Tryz.underlying22 hi0 hz0 hz1 hz2 rfl (by decide) (.slice none 0 0) 0 [] rfl (World.ownsRow_nil _ _ _ _) pm p.ms.length cm (spV p.ms) rfl ?a1 ?a2 ?a3 ?a4 ?a5 ?a6 ?_)
  case a1 => rw [spV_length]
  case a2 => exact HN1.out
  case a3 => exact spV_cells _
  case a4 => unfold maxLen; omega
  case a5 => omega
  case a6 => exact Nat.le_refl _
  intro v1 wa hown1 hgrow1 hat1; have hba : Below w3.heap.size w3 wa := (Below.refl _ _).grown hgrow1 (Nat.le_refl _) (fun j hj => by simp [Value.ownBlock] at hj); have hown1 : wa.ownsRow w3.heap.size 81 2 v1 p.ms.length (spV p.ms) := by first | exact hown1 | simpa using hown1
  obtain ⟨g, cg, rfl, hg1, hg2⟩ := hown1.form (by omega); have hkx := (hba.block _ (block_lt HKX.out)).trans HKX.out; have hkr := (hba.block _ (block_lt HKR.out)).trans HKR.out; obtain ⟨wc, s1, c1, f1, hx1, hxk1, HZ1, hxb1⟩ := put3_0 wa w2.heap.size 26 _ _ _ (.slice (some ⟨g, 0, none⟩) p.ms.length cg) hkx; have hkr := (hxk1 w1.heap.size (by have := HZ.out; omega)).trans hkr; have hoc := own_same hown1 (w' := wc) (fun g' hg' => by cases hg'; exact hxk1 g (by have := HZ.out; omega)); obtain ⟨x0, x1, x2⟩ := cells3 hx1; have HBC := Lib.hid (show Below w.heap.size w wc from hxb1 w w.heap.size (by have := HZ.out; omega) (HB.out.trans (hba.mono HB.out.size))); have HKC := Lib.hid hkr; have HXC := Lib.hid hx1; have HOC := Lib.hid hoc; have HGZ := Lib.hid (show w3.heap.size ≤ g ∧ w3.heap.size ≤ wc.heap.size from ⟨hg1, by rw [HZ1.out]; exact hba.size⟩); go_upto_region 3 with (fail); clear e1 e2 e3 j0 j1 j2 k0 k1 k2 hown1 hgrow1 hat1 hba hkx hkr hxk1 hxb1 hoc hx1 s1 c1 f1 hg1 hg2
  have hin : (i : Int) < (p.ms.length : Int) := by have := HII.out; omega
  have hi0' : (0 : Int) ≤ (i : Int) := by omega
  have HSB := Lib.hid (cl3 x0 x1 x2); refine held3 x0 x1 x2 (fun W0 HB0 => ?_); refine tk 0 rfl (by exact HSB.out _ HB0) ?_; (try simp only [Act.put, ptL]); refine tk 1 rfl (by exact HSB.out _ HB0) ?_; (try simp only [Act.put, ptL]); refine tk 2 rfl (by exact HSB.out _ HB0) ?_; (try simp only [Act.put, ptL]); refine tk 3 rfl (by exact HSB.out _ HB0) ?_; (try simp only [Act.put, ptL]); refine tk 4 rfl (by exact HSB.out _ HB0) ?_; (try simp only [Act.put, ptL]); refine rz1 5 rfl (fun K hK => ?_); go_simp; refine (c_span v v W0).mono ?_; rintro e W1 ⟨rfl, ba⟩; have HB1 := HB0.trans (ba.mono HB0.size); refine kz hK (by exact HSB.out _ HB1) ?_; clear hK K; (try simp only [Act.put, ptL]); refine tk 6 rfl (by exact HSB.out _ HB1) ?_; (try simp only [Act.put, ptL]); refine tk 7 rfl (by exact HSB.out _ HB1) ?_; (try simp only [Act.put, ptL]); have ho1 := own_kept HOC.out HB1
  have hc0 : W1.cell? ⟨g, i * 2, none⟩ = some (.int .i64 (gm p.ms i).1) := by
    have h := ho1.cells (g := g) rfl _ _ (spV_get p.ms i HII.out).1
    rwa [add_new] at h
  have hf0 := own_frozen ho1 (i * 2); obtain ⟨wA, hwA⟩ : ∃ wA, W1.setCell ⟨g, i * 2, none⟩ (.int .i64 v) = wA := ⟨_, rfl⟩; have ho2 := own_putS (j := i * 2) ho1 (.int .i64 v); rw [hwA] at ho2
  have hc1 : wA.cell? ⟨g, i * 2 + 1, none⟩ = some (.int .i64 (gm p.ms i).2) := by
    have h := ho2.cells (g := g) rfl (i * 2 + 1) (.int .i64 (gm p.ms i).2) (by rw [List.getElem?_set_ne (by omega)]; exact (spV_get p.ms i HII.out).2)
    rwa [add_new] at h
  have hf1 := own_frozen ho2 (i * 2 + 1); obtain ⟨wB, hwB⟩ : ∃ wB, wA.setCell ⟨g, i * 2 + 1, none⟩ (.int .i64 v) = wB := ⟨_, rfl⟩; have ho3 := own_putS (j := i * 2 + 1) ho2 (.int .i64 v); rw [hwB, spV_set2] at ho3; have hkB : ∀ k, k ≠ g → wB.heap[k]? = W1.heap[k]? := fun k hk => by rw [← hwB, Below.heap_setCell _ _ _ k hk, ← hwA, Below.heap_setCell _ _ _ k hk]
  have hbB : Below w.heap.size w wB := by
    have h0 := HBC.out.trans (HB1.mono HBC.out.size); have h1 := (h0.setCell (p := ⟨g, i * 2, none⟩) (by have := HGZ.out; have := HZ.out; show w.heap.size ≤ g; omega) (.int .i64 v)).setCell (p := ⟨g, i * 2 + 1, none⟩) (by have := HGZ.out; have := HZ.out; show w.heap.size ≤ g; omega) (.int .i64 v); rw [hwA, hwB] at h1; exact h1
  have hSB : wB.cell? ⟨w2.heap.size, 0, none⟩ = some (.slice (some ⟨g, 0, none⟩) p.ms.length cg) ∧ wB.cell? ⟨w2.heap.size, 1, none⟩ = some (.slice pv p.mv.length cv) ∧ wB.cell? ⟨w2.heap.size, 2, none⟩ = some (.slice pr p.rs.length cr) := by
    have hq : ∀ j, wB.cell? ⟨w2.heap.size, j, none⟩ = W1.cell? ⟨w2.heap.size, j, none⟩ := fun j => World.cell?_of_block (a := ⟨w2.heap.size, j, none⟩) (hkB w2.heap.size (by have := HGZ.out; have := HZ.out; omega))
    rw [hq, hq, hq]; exact HSB.out _ HB1
  refine rz1 8 rfl (fun K hK => ?_); go_simp; refine kz hK (by exact hSB) ?_; clear hK K; (try simp only [Act.put, ptL]); refine wpAnyH_done (by kernel_rfl) ?_ _; have hkr := (hkB w1.heap.size (by have := HGZ.out; have := HZ.out; omega)).trans ((HB1.block _ (block_lt HKC.out)).trans HKC.out); obtain ⟨x0, x1, x2⟩ := hSB; obtain ⟨wd, we, wf, t1, t2, t3, ⟨d0, q0⟩, ⟨d1, q1⟩, ⟨d2, q2⟩, hx4, hxk, HZ4, hxb⟩ := set3 wB w1.heap.size 26 _ _ _ (.slice (some ⟨g, 0, none⟩) p.ms.length cg) (.slice pv p.mv.length cv) (.slice pr p.rs.length cr) hkr; obtain ⟨r0, r1, r2⟩ := cells3 hx4; have hbf : Below w.heap.size w wf := hxb w w.heap.size HZ.out.1 hbB; have HBF := Lib.hid hbf; have hof := own_same ho3 (w' := wf) (fun g' hg' => by cases hg'; exact hxk g (by have := HGZ.out; have := HZ.out; omega)); have HRD := Lib.hid (show RdP wf (some ⟨g, 0, none⟩) pv pr (narrowF p i v) from ⟨rdS_at hof (by show (p.ms.set i (v, v)).length = _; rw [List.length_set]), (HP0.out.below hbf).mv, (HP0.out.below hbf).rs⟩)
  have hnl : (narrowF p i v).ms.length = p.ms.length := List.length_set; clear HSB HB0 HB1 ba ho1 ho2 ho3 hc0 hf0 hc1 hf1 hwA hwB hkB hbB hkr hx4 hxk hxb hof hbf; go_wp2; refine bodyPost_ret (v := .agg #[.slice (some ⟨g, 0, none⟩) p.ms.length cg, .slice pv p.mv.length cv, .slice pr p.rs.length cr]) ?_ rfl ⟨_, _, by rw [hnl], HRD.out, HBF.out⟩; simp [results, Tryz.results38, go_sem, r0, r1, r2]
end Go.Proofs.YtlednchfifphgaaGreatDoor
end

section
namespace Go.Proofs.YtlednchfifphgaaGreatDoor
open Go Go.RowKit Go.Proofs
set_option linter.unusedVariables false
set_option linter.unusedSimpArgs false
attribute [local go_sem] imax2 imin2

def FitsPost (p : Pc) (pl : List Int) (w : World) (e : Ending) (w' : World) : Prop := e = .returned (.tuple #[.bool (pieceB p && playsB p pl && fitsB p pl), .int .i64 (if (pieceB p && playsB p pl) = true then 0 else 2)]) ∧ Below w.heap.size w w'
set_option maxHeartbeats 1600000 in
set_option maxRecDepth 100000 in
theorem c_Fits (pm pv pr : Option Addr) (cm cv cr : Nat) (p : Pc) (q : Option Addr) (cq : Nat) (pl : List Int) (w : World) (hp : RdP w pm pv pr p) (hl : LenOk p) (hq : RdI w q pl) (hlq : pl.length ≤ 1000000) :
    Calls Tryz.prog 35 #[.agg #[.slice pm p.ms.length cm, .slice pv p.mv.length cv, .slice pr p.rs.length cr], .slice q pl.length cq] w (FitsPost p pl w) := by
  obtain ⟨w1, e1, HS1, k0, k1, k2, b1⟩ := box3 w (.slice pm p.ms.length cm) (.slice pv p.mv.length cv) (.slice pr p.rs.length cr) 26; have HP := Lib.hid (hp.below b1); have HQ := Lib.hid (hq.below b1); have HB := Lib.hid b1; have HL := Lib.hid hl; clear b1 hp hq hl
  rcases h1 : pieceB p with _ | _
  · have HC := Lib.hid h1
    go_enter Tryz.func35, Tryz.ntmps35
    go_wp2_with fail; refine (c_isPiece pm pv pr cm cv cr p _ HP.out HL.out).mono ?_; rw [h1]; rintro e wn ⟨rfl, bq⟩; replace HB := Lib.hid (HB.out.trans (bq.mono HB.out.size)); clear bq e1 h1; go_wp2; refine bodyPost_ret (v := .tuple #[.bool false, .int .i64 2]) (by simp [results, Tryz.results35, go_sem]) rfl ⟨by rw [HC.out]; rfl, HB.out⟩
  rcases h2 : playsB p pl with _ | _
  · have HC := Lib.hid (And.intro h1 h2)
    go_enter Tryz.func35, Tryz.ntmps35
    go_wp2_with fail; refine (c_isPiece pm pv pr cm cv cr p _ HP.out HL.out).mono ?_; rw [h1]; clear e1; rintro e wn ⟨rfl, bq⟩; replace HB := Lib.hid (HB.out.trans (bq.mono HB.out.size)); replace HP := Lib.hid (HP.out.below bq); replace HQ := Lib.hid (HQ.out.below bq); have k0 := (bq.cell (lt_of_cellq k0)).trans k0; have k1 := (bq.cell (lt_of_cellq k1)).trans k1; have k2 := (bq.cell (lt_of_cellq k2)).trans k2; clear bq; go_wp2_with fail; refine (c_arePlays pm pv pr cm cv cr p q cq pl _ HQ.out hlq).mono ?_; rw [h2]; rintro e wn ⟨rfl, bq⟩; replace HB := Lib.hid (HB.out.trans (bq.mono HB.out.size)); clear bq h1 h2; go_wp2; refine bodyPost_ret (v := .tuple #[.bool false, .int .i64 2]) (by simp [results, Tryz.results35, go_sem]) rfl ⟨by rw [HC.out.1, HC.out.2]; rfl, HB.out⟩
  have HPO := Lib.hid (pieceB_iff.1 h1); have HPL := Lib.hid (playsB_iff.1 h2); have H12 := Lib.hid (And.intro h1 h2)
  go_enter Tryz.func35, Tryz.ntmps35
  go_wp2_with fail; refine (c_isPiece pm pv pr cm cv cr p _ HP.out HL.out).mono ?_; rw [h1]; clear e1; rintro e wn ⟨rfl, bq⟩; replace HB := Lib.hid (HB.out.trans (bq.mono HB.out.size)); replace HP := Lib.hid (HP.out.below bq); replace HQ := Lib.hid (HQ.out.below bq); have k0 := (bq.cell (lt_of_cellq k0)).trans k0; have k1 := (bq.cell (lt_of_cellq k1)).trans k1; have k2 := (bq.cell (lt_of_cellq k2)).trans k2; clear bq; go_wp2_with fail; refine (c_arePlays pm pv pr cm cv cr p q cq pl _ HQ.out hlq).mono ?_; rw [h2]; clear h1 h2; rintro e wn ⟨rfl, bq⟩; replace HB := Lib.hid (HB.out.trans (bq.mono HB.out.size)); replace HP := Lib.hid (HP.out.below bq); replace HQ := Lib.hid (HQ.out.below bq); have k0 := (bq.cell (lt_of_cellq k0)).trans k0; have k1 := (bq.cell (lt_of_cellq k1)).trans k1; have k2 := (bq.cell (lt_of_cellq k2)).trans k2; clear bq; go_wp2_with fail; refine (c_meshed pm pv pr cm cv cr p q cq pl _ HP.out.ms HQ.out HPL.out.len hlq).mono ?_
  rcases h3 : withinB p pl with _ | _
  · have HC := Lib.hid (show fitsB p pl = false by rw [fits_lived, h3]; rfl)
    rintro e wn ⟨rfl, bq⟩; replace HB := Lib.hid (HB.out.trans (bq.mono HB.out.size)); clear bq h3; go_wp2; refine bodyPost_ret (v := .tuple #[.bool false, .int .i64 0]) (by simp [results, Tryz.results35, go_sem]) rfl ⟨by rw [H12.out.1, H12.out.2, HC.out]; rfl, HB.out⟩
  · have HC := Lib.hid (show fitsB p pl = livedB p pl by rw [fits_lived, h3]; rfl)
    clear h3; rintro e wn ⟨rfl, bq⟩; replace HB := Lib.hid (HB.out.trans (bq.mono HB.out.size)); replace HP := Lib.hid (HP.out.below bq); replace HQ := Lib.hid (HQ.out.below bq); have k0 := (bq.cell (lt_of_cellq k0)).trans k0; have k1 := (bq.cell (lt_of_cellq k1)).trans k1; have k2 := (bq.cell (lt_of_cellq k2)).trans k2; clear bq
    have HLV := Lib.hid (show Calls Tryz.prog 79 #[.agg #[.slice pm p.ms.length cm, .slice pv p.mv.length cv, .slice pr p.rs.length cr], .slice q pl.length cq] wn fun e w' => ∃ (a1 a2 : Option Addr) (n1 n2 c1 c2 : Nat), e = .returned (.tuple #[.agg #[.slice a1 n1 c1, .slice a2 n2 c2], .bool (livedB p pl)]) ∧ Below wn.heap.size wn w' by
      refine (c_lived pm pv pr cm cv cr p q cq pl wn HP.out.mv HP.out.rs HQ.out HPO.out HPL.out).mono fun e w' h => ?_
      rcases h with ⟨⟨h, g, cap, he, _⟩ | ⟨h, he⟩, hb⟩
      · rw [h]; exact ⟨_, _, _, _, _, _, he, hb⟩
      · rw [h]; exact ⟨_, _, _, _, _, _, he, hb⟩)
    go_wp2_with fail; refine HLV.out.mono ?_; rintro e w5 ⟨a1, a2, n1, n2, c1, c2, rfl, bq⟩; obtain ⟨w6, e6, HS6, _, _, b6⟩ := box2 w5 (.slice a1 n1 c1) (.slice a2 n2 c2) 101; have HBB := Lib.hid (HB.out.trans ((bq.trans (b6.mono bq.size)).mono HB.out.size)); clear bq b6; go_wp2; refine bodyPost_ret (v := .tuple #[.bool (livedB p pl), .int .i64 0]) (by simp [results, Tryz.results35, go_sem]) rfl ⟨by rw [H12.out.1, H12.out.2, HC.out]; rfl, HBB.out⟩
end Go.Proofs.YtlednchfifphgaaGreatDoor
end

section
namespace Go.Proofs.YtlednchfifphgaaGreatDoor
open Go Go.RowKit Go.Proofs
set_option linter.unusedVariables false
set_option linter.unusedSimpArgs false

set_option maxRecDepth 100000 in
theorem l_plain (q : Option Addr) (c : Nat) (ls : List (Int × Int)) (many : Int) (n : Nat) (w : World) (hn : ls.length = n) (hn2 : n ≤ 1000) (hr : RdS w q ls) (hp : ∀ i, i < ls.length → -5000 ≤ (gm ls i).1 ∧ (gm ls i).1 ≤ (gm ls i).2 ∧ (gm ls i).2 ≤ 5000) (hm : (n : Int) = many) :
    Calls Tryz.prog 37 #[.slice q n c, .int .i64 many] w fun e w' => e = .returned (.bool true) ∧ Below w.heap.size w w' := by
  subst hm; have HP := Lib.hid (show ∀ i, i < n → -5000 ≤ (gm ls i).1 ∧ (gm ls i).1 ≤ (gm ls i).2 ∧ (gm ls i).2 ≤ 5000 from fun i hi => hp i (by rw [hn]; exact hi)); have HR := Lib.hid hr; have HN := Lib.hid hn; have heq : ((n : Int) == (n : Int)) = true := by simp
  clear hp hr hn
  go_enter Tryz.func37, Tryz.ntmps37
  go_wp2
  go_loopw [5] (fun i wr => ∃ k : Nat, k ≤ n ∧ i = .int .i64 k ∧ ∃ d, wr = w.drewN d) (fun i _ => n - (intOf i).toNat)
  case atStart => exact ⟨0, Nat.zero_le _, rfl, 0, rfl⟩
  case round =>
    obtain ⟨k, hk, rfl, d, hwr⟩ := hrel; have HW := Lib.hid hwr
    by_cases hlt : k < n
    · have hki : (k : Int) < (n : Int) := by omega
      obtain ⟨b, off, rfl, hc⟩ := HR.out.at (by rw [HN.out]; exact hlt); obtain ⟨e0, e1⟩ := hc k (by rw [HN.out]; exact hlt); have d0 : wr.cell? ⟨b, off + k * 2, none⟩ = some (.int .i64 (gm ls k).1) := by rw [hwr]; exact e0
      have d1 : wr.cell? ⟨b, off + k * 2 + 1, none⟩ = some (.int .i64 (gm ls k).2) := by rw [hwr]; exact e1
      obtain ⟨g1, g2, g3⟩ := HP.out k hlt; obtain ⟨A, hA⟩ : ∃ A, (gm ls k).1 = A := ⟨_, rfl⟩; obtain ⟨B, hB⟩ : ∃ B, (gm ls k).2 = B := ⟨_, rfl⟩; rw [hA] at d0 g1 g2; rw [hB] at d1 g2 g3; have t1 : decide (A < -5000) = false := decide_eq_false (by omega); have t2 : decide (A > B) = false := decide_eq_false (by omega); have t2b : decide (B < A) = false := decide_eq_false (by omega); have t3 : decide (B > 5000) = false := decide_eq_false (by omega); have t3b : decide (5000 < B) = false := decide_eq_false (by omega); clear hc e0 e1 hA hB hwr; go_wp2
      go_quiet (fail)
      go_wp2; go_roundw
      case rel => exact ⟨k + 1, by omega, by go_num, by rw [HW.out]; first | exact ⟨_, rfl⟩ | (rw [drew_add]; exact ⟨_, rfl⟩)⟩
      case measure => simp [intOf]; omega
    · obtain rfl : k = n := by omega
      have hki : ¬ (k : Int) < (k : Int) := by omega
      go_wp2; go_ret; exact ⟨rfl, by first | exact below_drewN (Below.refl _ _) _ | (rw [HW.out]; exact below_drewN (Below.refl _ _) _)⟩
end Go.Proofs.YtlednchfifphgaaGreatDoor
end

section
namespace Go.Proofs.YtlednchfifphgaaGreatDoor
open Go Go.RowKit Go.Proofs
set_option linter.unusedVariables false
set_option linter.unusedSimpArgs false
attribute [local go_sem] imax2 imin2

set_option maxHeartbeats 12800000 in
set_option maxRecDepth 100000 in
theorem law_True (pm pv pr : Option Addr) (cm cv cr : Nat) (p : Pc) (q : Option Addr) (cq : Nat) (pl : List Int) (n : Int) (m : Int) (w : World) (hp : RdP w pm pv pr p) (hq : RdI w q pl) (hm : MaxL m w) (hi : ItoaG w) :
    Calls Tryz.prog 10 #[.agg #[.slice pm p.ms.length cm, .slice pv p.mv.length cv, .slice pr p.rs.length cr], .slice q pl.length cq, .int .i64 n] w (LawPost w) := by
  obtain ⟨w1, e1, HS1, k0, k1, k2, b1⟩ := box3 w (.slice pm p.ms.length cm) (.slice pv p.mv.length cv) (.slice pr p.rs.length cr) 26; have HP := Lib.hid (hp.below b1); have HQ := Lib.hid (hq.below b1); have HM := Lib.hid hm; have HI := Lib.hid hi; have HB := Lib.hid b1; clear hp hq hm hi b1
  go_enter Tryz.func10, Tryz.ntmps10
  (go_wp2_with fail); refine (c_short pm pv pr cm cv cr p _).mono ?_
  clear e1
  rcases hs : shortB p with _ | _
  · rintro e wn ⟨rfl, bq⟩; replace HB := Lib.hid (HB.out.trans (bq.mono HB.out.size)); clear bq
    (go_wp2_with fail); refine (c_known m _ (HM.out.below HB.out) (HI.out.below HB.out)).mono ?_; rintro e wn ⟨rfl, bq⟩; have HFK := Lib.hid (HB.out.trans (bq.mono HB.out.size)); clear bq; go_wp2; go_ret; exact ⟨rfl, HFK.out⟩
  rintro e wn ⟨rfl, bq⟩; replace HB := Lib.hid (HB.out.trans (bq.mono HB.out.size)); replace HP := Lib.hid (HP.out.below bq); replace HQ := Lib.hid (HQ.out.below bq); have k0 := (bq.cell (lt_of_cellq k0)).trans k0; have k1 := (bq.cell (lt_of_cellq k1)).trans k1; have k2 := (bq.cell (lt_of_cellq k2)).trans k2; clear bq; have HLN := Lib.hid (short_len hs); clear hs
  by_cases h6 : pl.length ≤ 6
  case neg =>
    have h6' : (pl.length : Int) > 6 := by omega
    (go_wp2_with fail); refine (c_known m _ (HM.out.below HB.out) (HI.out.below HB.out)).mono ?_; rintro e wn ⟨rfl, bq⟩; have HFK := Lib.hid (HB.out.trans (bq.mono HB.out.size)); clear bq; go_wp2; go_ret; exact ⟨rfl, HFK.out⟩
  have h6' : decide ((pl.length : Int) > 6) = false := decide_eq_false (by omega)
  (go_wp2_with fail); refine (r_Piece pm pv pr cm cv cr p _ HP.out HLN.out).mono ?_
  rcases h1 : pieceB p with _ | _
  · rintro e wn ⟨rfl, bq⟩; replace HB := Lib.hid (HB.out.trans (bq.mono HB.out.size)); clear bq
    (go_wp2_with fail); refine (c_known m _ (HM.out.below HB.out) (HI.out.below HB.out)).mono ?_; rintro e wn ⟨rfl, bq⟩; have HFK := Lib.hid (HB.out.trans (bq.mono HB.out.size)); clear bq; go_wp2; go_ret; exact ⟨rfl, HFK.out⟩
  rintro e wn ⟨rfl, bq⟩; replace HB := Lib.hid (HB.out.trans (bq.mono HB.out.size)); replace HP := Lib.hid (HP.out.below bq); replace HQ := Lib.hid (HQ.out.below bq); have k0 := (bq.cell (lt_of_cellq k0)).trans k0; have k1 := (bq.cell (lt_of_cellq k1)).trans k1; have k2 := (bq.cell (lt_of_cellq k2)).trans k2; clear bq
  (go_wp2_with fail); refine (r_Plays pm pv pr cm cv cr p q cq pl _ HQ.out (by omega)).mono ?_
  rcases h2 : playsB p pl with _ | _
  · rintro e wn ⟨rfl, bq⟩; replace HB := Lib.hid (HB.out.trans (bq.mono HB.out.size)); clear bq
    (go_wp2_with fail); refine (c_known m _ (HM.out.below HB.out) (HI.out.below HB.out)).mono ?_; rintro e wn ⟨rfl, bq⟩; have HFK := Lib.hid (HB.out.trans (bq.mono HB.out.size)); clear bq; go_wp2; go_ret; exact ⟨rfl, HFK.out⟩
  rintro e wn ⟨rfl, bq⟩; replace HB := Lib.hid (HB.out.trans (bq.mono HB.out.size)); replace HP := Lib.hid (HP.out.below bq); replace HQ := Lib.hid (HQ.out.below bq); have k0 := (bq.cell (lt_of_cellq k0)).trans k0; have k1 := (bq.cell (lt_of_cellq k1)).trans k1; have k2 := (bq.cell (lt_of_cellq k2)).trans k2; clear bq; have HPO := Lib.hid (pieceB_iff.1 h1); have HPL := Lib.hid (playsB_iff.1 h2); have HP1 := Lib.hid h1; clear h1 h2
  by_cases hn0 : n < 0
  · (go_wp2_with fail); refine (c_known m _ (HM.out.below HB.out) (HI.out.below HB.out)).mono ?_; rintro e wn ⟨rfl, bq⟩; have HFK := Lib.hid (HB.out.trans (bq.mono HB.out.size)); clear bq; go_wp2; go_ret; exact ⟨rfl, HFK.out⟩
  have hn0' : decide (n < 0) = false := decide_eq_false hn0
  by_cases hnl : n ≥ (p.ms.length : Int)
  · (go_wp2_with fail); refine (c_known m _ (HM.out.below HB.out) (HI.out.below HB.out)).mono ?_; rintro e wn ⟨rfl, bq⟩; have HFK := Lib.hid (HB.out.trans (bq.mono HB.out.size)); clear bq; go_wp2; go_ret; exact ⟨rfl, HFK.out⟩
  have hnl' : decide (n ≥ (p.ms.length : Int)) = false := decide_eq_false hnl; obtain ⟨i, rfl⟩ : ∃ i : Nat, n = (i : Int) := ⟨n.toNat, by omega⟩; have hi : i < p.ms.length := by omega
  have hnl1 : decide ((i : Int) ≥ (p.ms.length : Int)) = false := decide_eq_false (by omega); have hnl2 : decide ((p.ms.length : Int) ≤ (i : Int)) = false := decide_eq_false (by omega); have hnl3 : decide (p.ms.length ≤ i) = false := decide_eq_false (by omega); have hnl4 : ¬ p.ms.length ≤ i := by omega
  have hnl5 : i < p.ms.length := by omega
  have HII := Lib.hid hi
  have HKF := Lib.hid (fun W (h : RdP W pm pv pr p) (h' : RdI W q pl) => show Calls Tryz.prog 35 #[.agg #[.slice pm p.ms.length cm, .slice pv p.mv.length cv, .slice pr p.rs.length cr], .slice q pl.length cq] W fun e w' => e = .returned (.tuple #[.bool (fitsB p pl), .int .i64 0]) ∧ Below W.heap.size W w' by
    have hh := c_Fits pm pv pr cm cv cr p q cq pl W h HLN.out h' (by omega); unfold FitsPost at hh; rw [HP1.out, playsB_iff.2 HPL.out] at hh; exact hh)
  have HKT := Lib.hid (fun W (h : RdP W pm pv pr p) => show Calls Tryz.prog 36 #[.agg #[.slice pm p.ms.length cm, .slice pv p.mv.length cv, .slice pr p.rs.length cr]] W fun e w' => e = .returned (.tuple #[.int .i64 ((truthsF p).length : Int), .int .i64 0]) ∧ Below W.heap.size W w' by
    have h' := c_Truths pm pv pr cm cv cr p W h HLN.out; simp only [HP1.out, if_true] at h'; exact h')
  have hnn : decide (((truthsF p).length : Int) < 0) = false := decide_eq_false (by omega)
  by_cases ht : truthsF p = []
  · have hf : fitsB p pl = false := by
      cases hh : fitsB p pl with
      | false => rfl
      | true => have := mem_truthsF.2 ⟨HPL.out.len, hh⟩; rw [ht] at this; cases this
    have HT := Lib.hid ht; rw [hf] at HKF; rw [ht] at HKT hnn; clear hf ht h6 hn0 hnl hi
    (go_wp2_with fail); refine (HKF.out _ HP.out HQ.out).mono ?_
    rintro e wn ⟨rfl, bq⟩; replace HB := Lib.hid (HB.out.trans (bq.mono HB.out.size)); replace HP := Lib.hid (HP.out.below bq); replace HQ := Lib.hid (HQ.out.below bq); have k0 := (bq.cell (lt_of_cellq k0)).trans k0; have k1 := (bq.cell (lt_of_cellq k1)).trans k1; have k2 := (bq.cell (lt_of_cellq k2)).trans k2; clear bq
    (go_wp2_with fail); refine ((c_Known pm pv pr cm cv cr p _ HP.out HLN.out).mono fun _ _ => spans_rule HP1.out HT.out).mono ?_
    rintro e wn ⟨rfl, bq⟩; replace HB := Lib.hid (HB.out.trans (bq.mono HB.out.size)); replace HP := Lib.hid (HP.out.below bq); replace HQ := Lib.hid (HQ.out.below bq); have k0 := (bq.cell (lt_of_cellq k0)).trans k0; have k1 := (bq.cell (lt_of_cellq k1)).trans k1; have k2 := (bq.cell (lt_of_cellq k2)).trans k2; clear bq
    (go_wp2_with fail); refine ((c_Plays pm pv pr cm cv cr p _ HP.out HLN.out).mono fun _ _ => spans_rule HP1.out HT.out).mono ?_
    rintro e wn ⟨rfl, bq⟩; replace HB := Lib.hid (HB.out.trans (bq.mono HB.out.size)); replace HP := Lib.hid (HP.out.below bq); replace HQ := Lib.hid (HQ.out.below bq); have k0 := (bq.cell (lt_of_cellq k0)).trans k0; have k1 := (bq.cell (lt_of_cellq k1)).trans k1; have k2 := (bq.cell (lt_of_cellq k2)).trans k2; clear bq
    (go_wp2_with fail); refine (HKT.out _ HP.out).mono ?_
    rintro e wn ⟨rfl, bq⟩; replace HB := Lib.hid (HB.out.trans (bq.mono HB.out.size)); clear bq
    (go_wp2_with fail); refine (c_known m _ (HM.out.below HB.out) (HI.out.below HB.out)).mono ?_; rintro e wn ⟨rfl, bq⟩; have HFK := Lib.hid (HB.out.trans (bq.mono HB.out.size)); clear bq; go_wp2; go_ret; exact ⟨rfl, HFK.out⟩
  have HT := Lib.hid ht; obtain ⟨TN, hTN⟩ : ∃ x : Int, ((truthsF p).length : Int) = x := ⟨_, rfl⟩; have HTN := Lib.hid hTN; have hpos : decide (TN > 0) = true := decide_eq_true (by rw [← hTN]; have := List.length_pos_iff.2 ht; omega); have hpos2 : decide ((0 : Int) < TN) = true := hpos; rw [hTN] at HKT hnn; clear hTN; have HN4 := Lib.hid HPO.out.n4; clear ht hn0 hnl hi
  (go_wp2_with fail); refine (HKF.out _ HP.out HQ.out).mono ?_
  rintro e wn ⟨rfl, bq⟩; replace HB := Lib.hid (HB.out.trans (bq.mono HB.out.size)); replace HP := Lib.hid (HP.out.below bq); replace HQ := Lib.hid (HQ.out.below bq); have k0 := (bq.cell (lt_of_cellq k0)).trans k0; have k1 := (bq.cell (lt_of_cellq k1)).trans k1; have k2 := (bq.cell (lt_of_cellq k2)).trans k2; clear bq
  (go_wp2_with fail); refine ((c_Known pm pv pr cm cv cr p _ HP.out HLN.out).mono fun _ _ => spans_ok HP1.out HT.out).mono ?_
  rintro e wn ⟨ql, cl, rfl, ra, bq⟩; rw [knownF_len]; have RA := Lib.hid ra; clear ra
  skip; replace HB := Lib.hid (HB.out.trans (bq.mono HB.out.size)); replace HP := Lib.hid (HP.out.below bq); replace HQ := Lib.hid (HQ.out.below bq); have k0 := (bq.cell (lt_of_cellq k0)).trans k0; have k1 := (bq.cell (lt_of_cellq k1)).trans k1; have k2 := (bq.cell (lt_of_cellq k2)).trans k2; clear bq
  (go_wp2_with fail); refine ((c_Plays pm pv pr cm cv cr p _ HP.out HLN.out).mono fun _ _ => spans_ok HP1.out HT.out).mono ?_
  rintro e wn ⟨qm, cm', rfl, rc, bq⟩; rw [provedF_len]; have RC := Lib.hid rc; clear rc
  skip; replace HB := Lib.hid (HB.out.trans (bq.mono HB.out.size)); replace HP := Lib.hid (HP.out.below bq); replace HQ := Lib.hid (HQ.out.below bq); replace RA := Lib.hid (RA.out.below bq); have k0 := (bq.cell (lt_of_cellq k0)).trans k0; have k1 := (bq.cell (lt_of_cellq k1)).trans k1; have k2 := (bq.cell (lt_of_cellq k2)).trans k2; clear bq
  (go_wp2_with fail); refine (HKT.out _ HP.out).mono ?_
  rintro e wn ⟨rfl, bq⟩; replace HB := Lib.hid (HB.out.trans (bq.mono HB.out.size)); replace HP := Lib.hid (HP.out.below bq); replace HQ := Lib.hid (HQ.out.below bq); replace RA := Lib.hid (RA.out.below bq); replace RC := Lib.hid (RC.out.below bq); have k0 := (bq.cell (lt_of_cellq k0)).trans k0; have k1 := (bq.cell (lt_of_cellq k1)).trans k1; have k2 := (bq.cell (lt_of_cellq k2)).trans k2; clear bq; have HKN := Lib.hid (fun a ha => known_plain HPO.out HT.out a ha); have HVN := Lib.hid (fun a ha => proved_plain HPO.out HT.out a ha); have hk1 : (knownF p).length = p.ms.length + 1 := knownF_len p; have hk3 : (provedF p).length = p.ms.length := provedF_len p; have HPL1 := Lib.hid (fun W (h : RdS W ql (knownF p)) => l_plain ql cl (knownF p) ((p.ms.length : Int) + 1) (p.ms.length + 1) W hk1 (by have := HN4.out; omega) h (fun i hi => by have := HKN.out i (by omega); omega) (by omega)); have HPL3 := Lib.hid (fun W (h : RdS W qm (provedF p)) => l_plain qm cm' (provedF p) (p.ms.length : Int) p.ms.length W hk3 (by have := HN4.out; omega) h (fun i hi => by have := HVN.out i (by omega); omega) rfl)
  have HKL := Lib.hid (And.intro hk1 hk3); clear hk1 hk3; have hwm : IntKind.i64.wrap ((p.ms.length : Int) + 1) = (p.ms.length : Int) + 1 := w64 _ (by omega) (by have := HN4.out; omega)
  (go_wp2_with fail); refine (HPL1.out _ RA.out).mono ?_
  rintro e wn ⟨rfl, bq⟩; replace HB := Lib.hid (HB.out.trans (bq.mono HB.out.size)); replace HP := Lib.hid (HP.out.below bq); replace HQ := Lib.hid (HQ.out.below bq); replace RA := Lib.hid (RA.out.below bq); replace RC := Lib.hid (RC.out.below bq); have k0 := (bq.cell (lt_of_cellq k0)).trans k0; have k1 := (bq.cell (lt_of_cellq k1)).trans k1; have k2 := (bq.cell (lt_of_cellq k2)).trans k2; clear bq
  (go_wp2_with fail); refine (HPL3.out _ RC.out).mono ?_
  rintro e wn ⟨rfl, bq⟩; replace HB := Lib.hid (HB.out.trans (bq.mono HB.out.size)); replace HP := Lib.hid (HP.out.below bq); replace HQ := Lib.hid (HQ.out.below bq); replace RA := Lib.hid (RA.out.below bq); replace RC := Lib.hid (RC.out.below bq); have k0 := (bq.cell (lt_of_cellq k0)).trans k0; have k1 := (bq.cell (lt_of_cellq k1)).trans k1; have k2 := (bq.cell (lt_of_cellq k2)).trans k2; clear bq; clear HPL1 HPL3 HKF HKT; have hml8 : p.mv.length ≤ 8 := HPO.out.m8
  rcases hf : fitsB p pl with _ | _
  · clear hf hml8
    go_wp2; obtain ⟨bm, om, rfl, hcm⟩ := RC.out.at (i := i) (by rw [HKL.out.2]; exact HII.out); obtain ⟨m0, m1⟩ := hcm i (by rw [HKL.out.2]; exact HII.out); obtain ⟨bl, ol, rfl, hcl⟩ := RA.out.at (i := i + 1) (by rw [HKL.out.1]; have := HII.out; omega); obtain ⟨l0, l1⟩ := hcl (i + 1) (by rw [HKL.out.1]; have := HII.out; omega); have HNE := Lib.hid (narrow_end HT.out i HII.out); have HWE := Lib.hid (with_end HT.out (i + 1) (by have := HII.out; omega)); have hv1 := HVN.out i HII.out; have hv2 := HKN.out (i + 1) (by have := HII.out; omega); obtain ⟨VL, hVL⟩ : ∃ x, (gm (provedF p) i).1 = x := ⟨_, rfl⟩; obtain ⟨VH, hVH⟩ : ∃ x, (gm (provedF p) i).2 = x := ⟨_, rfl⟩; obtain ⟨KL, hKL⟩ : ∃ x, (gm (knownF p) (i + 1)).1 = x := ⟨_, rfl⟩; obtain ⟨KH, hKH⟩ : ∃ x, (gm (knownF p) (i + 1)).2 = x := ⟨_, rfl⟩; rw [hVL] at m0 HNE hv1; rw [hVH] at m1 HNE hv1; rw [hKL] at l0 HWE hv2; rw [hKH] at l1 HWE hv2; obtain ⟨N3, hN3⟩ : ∃ x : Int, ((truthsF (narrowF p i VL)).length : Int) = x := ⟨_, rfl⟩
    have HN3 := Lib.hid hN3; obtain ⟨N4, hN4⟩ : ∃ x : Int, ((truthsF (narrowF p i VH)).length : Int) = x := ⟨_, rfl⟩; have HN4N := Lib.hid hN4; clear hN3 hN4
    have HNT := Lib.hid (fun (v : Int) (hv : 0 ≤ v ∧ v ≤ 100) W (pm2 : Option Addr) (cm2 : Nat) (h : RdP W pm2 pv pr (narrowF p i v)) => show Calls Tryz.prog 36 #[.agg #[.slice pm2 (narrowF p i v).ms.length cm2, .slice pv p.mv.length cv, .slice pr p.rs.length cr]] W fun e w' => e = .returned (.tuple #[.int .i64 ((truthsF (narrowF p i v)).length : Int), .int .i64 0]) ∧ Below W.heap.size W w' by
      have hpo := narrow_piece HPO.out i HII.out v hv; have h' := c_Truths pm2 pv pr cm2 cv cr (narrowF p i v) W h ⟨by have := hpo.n4; omega, HLN.out.mv, HLN.out.rs⟩; simp only [pieceB_iff.2 hpo, if_true] at h'; exact h')
    have HVR := Lib.hid (show (0 ≤ VL ∧ VL ≤ 100) ∧ (0 ≤ VH ∧ VH ≤ 100) by omega); have HKRG := Lib.hid (show (-5000 ≤ KL ∧ KL ≤ 5000) ∧ (-5000 ≤ KH ∧ KH ≤ 5000) by omega); have hii : (i : Int) < (p.ms.length : Int) := by have := HII.out; omega
    have hi0 : (0 : Int) ≤ (i : Int) := by omega
    have hi1 : (0 : Int) ≤ (i : Int) + 1 := by omega
    have hi2 : (i : Int) + 1 < (p.ms.length : Int) + 1 := by omega
    have hi3 : ((i : Int) + 1).toNat = i + 1 := by omega
    have hwi : IntKind.i64.wrap ((i : Int) + 1) = (i : Int) + 1 := w64 _ (by omega) (by have := HN4.out; omega); clear hcm hcl hVL hVH hKL hKH hv1 hv2; have HSB := Lib.hid (cl7 k0 k1 k2 m0 m1 l0 l1); refine held7 k0 k1 k2 m0 m1 l0 l1 (fun W0 HB0 => ?_); refine tk 0 rfl (by exact HSB.out _ HB0) ?_; (try simp only [Act.put, ptL]); refine tk 1 rfl (by exact HSB.out _ HB0) ?_; (try simp only [Act.put, ptL]); refine tk 2 rfl (by exact HSB.out _ HB0) ?_; (try simp only [Act.put, ptL]); refine tk 3 rfl (by exact HSB.out _ HB0) ?_; (try simp only [Act.put, ptL]); refine tk 4 rfl (by exact HSB.out _ HB0) ?_; (try simp only [Act.put, ptL]); refine tk 5 rfl (by exact HSB.out _ HB0) ?_; (try simp only [Act.put, ptL]); refine tk 6 rfl (by exact HSB.out _ HB0) ?_; (try simp only [Act.put, ptL]); refine rz1 7 rfl ?_; intro K hK; go_simp; refine (l_narrow pm pv pr cm cv cr p i VL W0 (HP.out.below HB0) (by have := HN4.out; omega) HII.out).mono ?_
    rintro e W1 ⟨pm2, cm2, rfl, hr1, b1⟩; have HB1 := HB0.trans (b1.mono HB0.size); refine kz hK (by exact HSB.out _ HB1) ?_; clear hK K; (try simp only [Act.put, ptL]); refine rz1 8 rfl ?_; intro K hK; go_simp; refine (HNT.out VL HVR.out.1 W1 pm2 cm2 hr1).mono ?_; rintro e W2 ⟨rfl, b2⟩; have HB2 := HB1.trans (b2.mono HB1.size); refine kz hK (by exact HSB.out _ HB2) ?_; clear hK K; (try simp only [Act.put, ptL]); refine tk 9 rfl (by exact HSB.out _ HB2) ?_; (try simp only [Act.put, ptL]); refine tk 10 rfl (by exact HSB.out _ HB2) ?_; (try simp only [Act.put, ptL]); refine tk 11 rfl (by exact HSB.out _ HB2) ?_; (try simp only [Act.put, ptL]); refine tk 12 rfl (by exact HSB.out _ HB2) ?_; (try simp only [Act.put, ptL]); refine tk 13 rfl (by exact HSB.out _ HB2) ?_; (try simp only [Act.put, ptL]); refine wpAnyH_done (by kernel_rfl) ?_ _; obtain ⟨k0, k1, k2, m0, m1, l0, l1⟩ := HSB.out _ HB2; replace HB := Lib.hid (HB.out.trans (HB2.mono HB.out.size))
    replace HP := Lib.hid (HP.out.below HB2); clear HSB HB0 HB1 HB2 b1 b2 hr1; go_wp2; have HSB := Lib.hid (cl7 k0 k1 k2 m0 m1 l0 l1); refine held7 k0 k1 k2 m0 m1 l0 l1 (fun W0 HB0 => ?_); refine tk 0 rfl (by exact HSB.out _ HB0) ?_; (try simp only [Act.put, ptL]); refine tk 1 rfl (by exact HSB.out _ HB0) ?_; (try simp only [Act.put, ptL]); refine tk 2 rfl (by exact HSB.out _ HB0) ?_; (try simp only [Act.put, ptL]); refine tk 3 rfl (by exact HSB.out _ HB0) ?_; (try simp only [Act.put, ptL]); refine tk 4 rfl (by exact HSB.out _ HB0) ?_; (try simp only [Act.put, ptL]); refine tk 5 rfl (by exact HSB.out _ HB0) ?_; (try simp only [Act.put, ptL]); refine tk 6 rfl (by exact HSB.out _ HB0) ?_; (try simp only [Act.put, ptL]); refine rz1 7 rfl ?_; intro K hK; go_simp; refine (l_narrow pm pv pr cm cv cr p i VH W0 (HP.out.below HB0) (by have := HN4.out; omega) HII.out).mono ?_; rintro e W1 ⟨pm3, cm3, rfl, hr1, b1⟩
    have HB1 := HB0.trans (b1.mono HB0.size); refine kz hK (by exact HSB.out _ HB1) ?_; clear hK K; (try simp only [Act.put, ptL]); refine rz1 8 rfl ?_; intro K hK; go_simp; refine (HNT.out VH HVR.out.2 W1 pm3 cm3 hr1).mono ?_; rintro e W2 ⟨rfl, b2⟩; have HB2 := HB1.trans (b2.mono HB1.size); refine kz hK (by exact HSB.out _ HB2) ?_; clear hK K; (try simp only [Act.put, ptL]); refine tk 9 rfl (by exact HSB.out _ HB2) ?_; (try simp only [Act.put, ptL]); refine tk 10 rfl (by exact HSB.out _ HB2) ?_; (try simp only [Act.put, ptL]); refine tk 11 rfl (by exact HSB.out _ HB2) ?_; (try simp only [Act.put, ptL]); refine tk 12 rfl (by exact HSB.out _ HB2) ?_; (try simp only [Act.put, ptL]); refine tk 13 rfl (by exact HSB.out _ HB2) ?_; (try simp only [Act.put, ptL]); refine wpAnyH_done (by kernel_rfl) ?_ _; obtain ⟨k0, k1, k2, m0, m1, l0, l1⟩ := HSB.out _ HB2; replace HB := Lib.hid (HB.out.trans (HB2.mono HB.out.size))
    replace HP := Lib.hid (HP.out.below HB2); obtain ⟨⟨hn1, hn2⟩, hn3, hn4⟩ := HNE.out; have hn1' := List.length_pos_iff.2 hn1; have hn3' := List.length_pos_iff.2 hn3; have u1 : decide (N3 < 1) = false := decide_eq_false (by rw [← HN3.out]; omega); have u2 : decide (N4 < 1) = false := decide_eq_false (by rw [← HN4N.out]; omega); have u3 : decide (N3 > TN) = false := decide_eq_false (by rw [← HN3.out, ← HTN.out]; omega); have u4 : decide (N4 > TN) = false := decide_eq_false (by rw [← HN4N.out, ← HTN.out]; omega); have u3b : decide (TN < N3) = false := u3; have u4b : decide (TN < N4) = false := u4; rw [HN3.out, HN4N.out]; clear HSB HB0 HB1 HB2 b1 b2 hr1 hn1 hn2 hn3 hn4 hn1' hn3' HNT HNE
    by_cases h66 : p.rs.length = 6
    · have h66' : ((p.rs.length : Int) == 6) = true := by rw [h66]; rfl
      (go_wp2_with fail); refine (c_known m _ (HM.out.below HB.out) (HI.out.below HB.out)).mono ?_; rintro e wn ⟨rfl, bq⟩; have HFK := Lib.hid (HB.out.trans (bq.mono HB.out.size)); clear bq; go_wp2; go_ret; exact ⟨rfl, HFK.out⟩
    have h66' : ((p.rs.length : Int) == 6) = false := by rw [beq_eq_false_iff_ne]; omega
    have HRS := Lib.hid (show p.rs.length < 6 by have := HPO.out.r6; omega); have HIC := Lib.hid (show (i : Int) + 1 = ((i + 1 : Nat) : Int) by omega)
    have HWT := Lib.hid (fun (s : Int) (hs : -5000 ≤ s ∧ s ≤ 5000) W (pr2 : Option Addr) (cr2 : Nat) (h : RdP W pm pv pr2 (moreF p ⟨p.mv.length, (i : Int) + 1, s, 0⟩)) => show Calls Tryz.prog 36 #[.agg #[.slice pm p.ms.length cm, .slice pv p.mv.length cv, .slice pr2 (moreF p ⟨p.mv.length, (i : Int) + 1, s, 0⟩).rs.length cr2]] W fun e w' => e = .returned (.tuple #[.int .i64 ((truthsF (withF p ((i + 1 : Nat) : Int) s 0)).length : Int), .int .i64 0]) ∧ Below W.heap.size W w' by
      have hpo := moreF_piece HPO.out (r := ⟨p.mv.length, (i : Int) + 1, s, 0⟩) HRS.out ⟨by dsimp only; omega, by dsimp only; have := HII.out; omega, hs, by dsimp only; omega⟩; have h' := c_Truths pm pv pr2 cm cv cr2 (moreF p ⟨p.mv.length, (i : Int) + 1, s, 0⟩) W h ⟨HLN.out.ms, HLN.out.mv, by have := hpo.r6; omega⟩; simp only [pieceB_iff.2 hpo, if_true] at h'; unfold withF; rw [← HIC.out]; exact h')
    have HR6 := Lib.hid (show p.rs.length ≤ 1000 by have := HRS.out; omega); clear h66; go_wp2; have HSB := Lib.hid (cl7 k0 k1 k2 m0 m1 l0 l1); refine held7 k0 k1 k2 m0 m1 l0 l1 (fun W0 HB0 => ?_); refine tk 0 rfl (by exact HSB.out _ HB0) ?_; (try simp only [Act.put, ptL]); refine tk 1 rfl (by exact HSB.out _ HB0) ?_; (try simp only [Act.put, ptL]); refine tk 2 rfl (by exact HSB.out _ HB0) ?_; (try simp only [Act.put, ptL]); refine tk 3 rfl (by exact HSB.out _ HB0) ?_; (try simp only [Act.put, ptL]); refine tk 4 rfl (by exact HSB.out _ HB0) ?_; (try simp only [Act.put, ptL]); refine tk 5 rfl (by exact HSB.out _ HB0) ?_; (try simp only [Act.put, ptL]); refine tk 6 rfl (by exact HSB.out _ HB0) ?_; (try simp only [Act.put, ptL]); refine tk 7 rfl (by exact HSB.out _ HB0) ?_; (try simp only [Act.put, ptL]); refine tk 8 rfl (by exact HSB.out _ HB0) ?_; (try simp only [Act.put, ptL]); refine rz1 9 rfl ?_; intro K hK
    go_simp; refine (r_With pm pv pr cm cv cr p ((i : Int) + 1) KL 0 W0 (HP.out.below HB0) HR6.out).mono ?_; rintro e W1 ⟨pr2, cr2, rfl, hr1, b1⟩; have HB1 := HB0.trans (b1.mono HB0.size); refine kz hK (by exact HSB.out _ HB1) ?_; clear hK K; (try simp only [Act.put, ptL]); refine rz1 10 rfl ?_; intro K hK; go_simp; refine (HWT.out KL HKRG.out.1 W1 pr2 cr2 hr1).mono ?_; rintro e W2 ⟨rfl, b2⟩; have HB2 := HB1.trans (b2.mono HB1.size); refine kz hK (by exact HSB.out _ HB2) ?_; clear hK K; (try simp only [Act.put, ptL]); refine tk 11 rfl (by exact HSB.out _ HB2) ?_; (try simp only [Act.put, ptL]); refine tk 12 rfl (by exact HSB.out _ HB2) ?_; (try simp only [Act.put, ptL]); refine tk 13 rfl (by exact HSB.out _ HB2) ?_; (try simp only [Act.put, ptL]); refine tk 14 rfl (by exact HSB.out _ HB2) ?_; (try simp only [Act.put, ptL]); refine tk 15 rfl (by exact HSB.out _ HB2) ?_; (try simp only [Act.put, ptL])
    refine wpAnyH_done (by kernel_rfl) ?_ _; obtain ⟨k0, k1, k2, m0, m1, l0, l1⟩ := HSB.out _ HB2; replace HB := Lib.hid (HB.out.trans (HB2.mono HB.out.size)); replace HP := Lib.hid (HP.out.below HB2); clear HSB HB0 HB1 HB2 b1 b2 hr1; go_wp2; have HSB := Lib.hid (cl7 k0 k1 k2 m0 m1 l0 l1); refine held7 k0 k1 k2 m0 m1 l0 l1 (fun W0 HB0 => ?_); refine tk 0 rfl (by exact HSB.out _ HB0) ?_; (try simp only [Act.put, ptL]); refine tk 1 rfl (by exact HSB.out _ HB0) ?_; (try simp only [Act.put, ptL]); refine tk 2 rfl (by exact HSB.out _ HB0) ?_; (try simp only [Act.put, ptL]); refine tk 3 rfl (by exact HSB.out _ HB0) ?_; (try simp only [Act.put, ptL]); refine tk 4 rfl (by exact HSB.out _ HB0) ?_; (try simp only [Act.put, ptL]); refine tk 5 rfl (by exact HSB.out _ HB0) ?_; (try simp only [Act.put, ptL]); refine tk 6 rfl (by exact HSB.out _ HB0) ?_; (try simp only [Act.put, ptL]); refine tk 7 rfl (by exact HSB.out _ HB0) ?_; (try simp only [Act.put, ptL]); refine tk 8 rfl (by exact HSB.out _ HB0) ?_; (try simp only [Act.put, ptL])
    refine rz1 9 rfl ?_; intro K hK; go_simp; refine (r_With pm pv pr cm cv cr p ((i : Int) + 1) KH 0 W0 (HP.out.below HB0) HR6.out).mono ?_; rintro e W1 ⟨pr3, cr3, rfl, hr1, b1⟩; have HB1 := HB0.trans (b1.mono HB0.size); refine kz hK (by exact HSB.out _ HB1) ?_; clear hK K; (try simp only [Act.put, ptL]); refine rz1 10 rfl ?_; intro K hK; go_simp; refine (HWT.out KH HKRG.out.2 W1 pr3 cr3 hr1).mono ?_; rintro e W2 ⟨rfl, b2⟩; have HB2 := HB1.trans (b2.mono HB1.size); refine kz hK (by exact HSB.out _ HB2) ?_; clear hK K; (try simp only [Act.put, ptL]); refine tk 11 rfl (by exact HSB.out _ HB2) ?_; (try simp only [Act.put, ptL]); refine tk 12 rfl (by exact HSB.out _ HB2) ?_; (try simp only [Act.put, ptL]); refine tk 13 rfl (by exact HSB.out _ HB2) ?_; (try simp only [Act.put, ptL]); refine tk 14 rfl (by exact HSB.out _ HB2) ?_; (try simp only [Act.put, ptL]); refine tk 15 rfl (by exact HSB.out _ HB2) ?_; (try simp only [Act.put, ptL])
    refine wpAnyH_done (by kernel_rfl) ?_ _; replace HB := Lib.hid (HB.out.trans (HB2.mono HB.out.size)); obtain ⟨N1, hN1⟩ : ∃ x : Int, ((truthsF (withF p ((i : Int) + 1) KL 0)).length : Int) = x := ⟨_, rfl⟩; obtain ⟨N2, hN2⟩ : ∃ x : Int, ((truthsF (withF p ((i : Int) + 1) KH 0)).length : Int) = x := ⟨_, rfl⟩; have v1 : decide (N1 ≥ 1) = true := decide_eq_true (by rw [← hN1, HIC.out]; have := List.length_pos_iff.2 HWE.out.1; omega); have v2 : decide (N2 ≥ 1) = true := decide_eq_true (by rw [← hN2, HIC.out]; have := List.length_pos_iff.2 HWE.out.2; omega); (try rw [← HIC.out]); rw [hN1, hN2]; have v1b : decide ((1 : Int) ≤ N1) = true := v1; have v2b : decide ((1 : Int) ≤ N2) = true := v2; clear HSB HB0 HB1 HB2 b1 b2 hr1 hN1 hN2 HWT
    (go_wp2_with fail); refine (c_known m _ (HM.out.below HB.out) (HI.out.below HB.out)).mono ?_; rintro e wn ⟨rfl, bq⟩; have HFK := Lib.hid (HB.out.trans (bq.mono HB.out.size)); clear bq; go_wp2; go_ret; exact ⟨rfl, HFK.out⟩
  · have HMT := Lib.hid (show pl ∈ truthsF p from mem_truthsF.2 ⟨HPL.out.len, hf⟩)
    have HOK := Lib.hid (show (pieceB p && playsB p pl && withinB p pl) = true by rw [HP1.out, playsB_iff.2 HPL.out, within_of_fits hf]; rfl); clear hf
    (go_wp2_with fail); refine (c_lrun pm pv pr cm cv cr p q cq pl _ HP.out HQ.out HOK.out).mono ?_
    rintro e wn ⟨⟨g, cg, rfl, hrl⟩, bq⟩; obtain ⟨bx, off, hb, hc⟩ := hrl.at (i := 0) (by rw [allF_len]; omega)
    cases hb
    obtain ⟨qx, cx, y0, hyr⟩ := hc p.mv.length (by rw [allF_len]; omega); rw [allF_at _ _ _ _ (Nat.le_refl _), (runF_chain HPL.out.pos p.mv p.mv.length).len, Nat.zero_add] at y0; rw [allF_at _ _ _ _ (Nat.le_refl _)] at hyr; have HYR := Lib.hid hyr; have HYL := Lib.hid (runF_chain HPL.out.pos p.mv p.mv.length).len; have HPN := Lib.hid HPL.out.len; clear hrl hc hyr
    skip; replace HB := Lib.hid (HB.out.trans (bq.mono HB.out.size)); replace HP := Lib.hid (HP.out.below bq); replace HQ := Lib.hid (HQ.out.below bq); replace RA := Lib.hid (RA.out.below bq); replace RC := Lib.hid (RC.out.below bq); have k0 := (bq.cell (lt_of_cellq k0)).trans k0; have k1 := (bq.cell (lt_of_cellq k1)).trans k1; have k2 := (bq.cell (lt_of_cellq k2)).trans k2; clear bq
    have hl0 : (((p.mv.length : Int) + 1) == 0) = false := by rw [beq_eq_false_iff_ne]; omega
    have hmi : (p.mv.length : Int) < (p.mv.length : Int) + 1 := by omega
    go_wp2
    go_loopw [16] (fun v wr => ∃ k : Nat, k ≤ p.ms.length + 1 ∧ v = .int .i64 k ∧ wr = wn) (fun v _ => p.ms.length + 1 - (intOf v).toNat)
    case atStart => exact ⟨0, Nat.zero_le _, rfl, rfl⟩
    case round =>
      obtain ⟨k, hk, rfl, rfl⟩ := hrel
      by_cases hlt : k < p.ms.length + 1
      · have hki : (k : Int) < (p.ms.length : Int) + 1 := by omega
        have hki2 : (k : Int) < (pl.length : Int) + 1 := by have := HPN.out; omega
        obtain ⟨ba, oa, rfl, hca⟩ := RA.out.at (i := k) (by rw [HKL.out.1]; exact hlt); obtain ⟨d0, d1⟩ := hca k (by rw [HKL.out.1]; exact hlt); obtain ⟨bb, ob, rfl, hcb⟩ := HYR.out.at (i := k) (by rw [HYL.out, HPN.out]; exact hlt); have d2 := hcb k (by rw [HYL.out, HPN.out]; exact hlt); obtain ⟨hm1, hm2⟩ := known_true HMT.out k (by omega); have hE : gi (endF p pl) k = gi (runF pl p.mv p.mv.length) k := rfl; rw [hE] at hm1 hm2; obtain ⟨A0, hA0⟩ : ∃ x, (gm (knownF p) k).1 = x := ⟨_, rfl⟩; obtain ⟨A1, hA1⟩ : ∃ x, (gm (knownF p) k).2 = x := ⟨_, rfl⟩; obtain ⟨B0, hB0⟩ : ∃ x, gi (runF pl p.mv p.mv.length) k = x := ⟨_, rfl⟩; rw [hA0] at d0 hm1; rw [hA1] at d1 hm2; rw [hB0] at d2 hm1 hm2; have t1 : decide (B0 < A0) = false := decide_eq_false (by omega); have t2 : decide (B0 > A1) = false := decide_eq_false (by omega); have t2b : decide (A1 < B0) = false := decide_eq_false (by omega); clear hca hcb hA0 hA1 hB0 hm1 hm2 hE
        go_wp2; go_roundw
        case rel => exact ⟨k + 1, by omega, by go_num, by first | rfl | trivial⟩
        case measure => simp [intOf]; omega
      · obtain rfl : k = p.ms.length + 1 := by omega
        have hki : ¬ (((p.ms.length + 1 : Nat)) : Int) < (p.ms.length : Int) + 1 := by omega
        obtain ⟨wn, rfl⟩ : ∃ wn : World, wn = wr := ⟨_, rfl⟩; go_wp2
        go_loopw [18] (fun v wr => ∃ k : Nat, k ≤ p.ms.length ∧ v = .int .i64 k ∧ ∃ d, wr = wn.drewN d) (fun v _ => p.ms.length - (intOf v).toNat)
        case atStart => exact ⟨0, Nat.zero_le _, rfl, 0, rfl⟩
        case round =>
          obtain ⟨k, hk, rfl, d, hwr⟩ := hrel; have HW := Lib.hid hwr
          by_cases hlt : k < p.ms.length
          · have hki : (k : Int) < (p.ms.length : Int) := by omega
            have hki2 : (k : Int) < (pl.length : Int) := by have := HPN.out; omega
            obtain ⟨ba, oa, rfl, hca⟩ := RC.out.at (i := k) (by rw [HKL.out.2]; exact hlt); obtain ⟨ea0, ea1⟩ := hca k (by rw [HKL.out.2]; exact hlt); obtain ⟨bb, ob, rfl, hcb⟩ := HQ.out.at (i := k) (by rw [HPN.out]; exact hlt); have eb := hcb k (by rw [HPN.out]; exact hlt); have d0 : wr.cell? ⟨ba, oa + k * 2, none⟩ = some (.int .i64 (gm (provedF p) k).1) := by rw [hwr]; exact ea0
            have d1 : wr.cell? ⟨ba, oa + k * 2 + 1, none⟩ = some (.int .i64 (gm (provedF p) k).2) := by rw [hwr]; exact ea1
            have d2 : wr.cell? ⟨bb, ob + k, none⟩ = some (.int .i64 (gi pl k)) := by rw [hwr]; exact eb
            obtain ⟨hm1, hm2⟩ := proved_true HMT.out k hlt; obtain ⟨A0, hA0⟩ : ∃ x, (gm (provedF p) k).1 = x := ⟨_, rfl⟩; obtain ⟨A1, hA1⟩ : ∃ x, (gm (provedF p) k).2 = x := ⟨_, rfl⟩; obtain ⟨B0, hB0⟩ : ∃ x, gi pl k = x := ⟨_, rfl⟩; rw [hA0] at d0 hm1; rw [hA1] at d1 hm2; rw [hB0] at d2 hm1 hm2; have t1 : decide (B0 < A0) = false := decide_eq_false (by omega); have t2 : decide (B0 > A1) = false := decide_eq_false (by omega); have t2b : decide (A1 < B0) = false := decide_eq_false (by omega); clear hca hcb ea0 ea1 eb hA0 hA1 hB0 hm1 hm2 hwr; go_wp2
            go_quiet (fail)
            go_wp2; go_roundw
            case rel => exact ⟨k + 1, by omega, by go_num, by rw [HW.out]; first | exact ⟨_, rfl⟩ | (rw [drew_add]; exact ⟨_, rfl⟩)⟩
            case measure => simp [intOf]; omega
          · obtain rfl : k = p.ms.length := by omega
            have hki : ¬ (p.ms.length : Int) < (p.ms.length : Int) := by omega
            have hbz : Below wn.heap.size wn wr := by rw [hwr]; exact below_drewN (Below.refl _ _) _
            have bq := hbz
            skip; replace HB := Lib.hid (HB.out.trans (bq.mono HB.out.size)); replace HP := Lib.hid (HP.out.below bq); replace HQ := Lib.hid (HQ.out.below bq); replace RA := Lib.hid (RA.out.below bq); replace RC := Lib.hid (RC.out.below bq); have k0 := (bq.cell (lt_of_cellq k0)).trans k0; have k1 := (bq.cell (lt_of_cellq k1)).trans k1; have k2 := (bq.cell (lt_of_cellq k2)).trans k2; clear bq
            clear hwr HW hbz hml8; go_wp2; obtain ⟨bm, om, rfl, hcm⟩ := RC.out.at (i := i) (by rw [HKL.out.2]; exact HII.out); obtain ⟨m0, m1⟩ := hcm i (by rw [HKL.out.2]; exact HII.out); obtain ⟨bl, ol, rfl, hcl⟩ := RA.out.at (i := i + 1) (by rw [HKL.out.1]; have := HII.out; omega); obtain ⟨l0, l1⟩ := hcl (i + 1) (by rw [HKL.out.1]; have := HII.out; omega); have HNE := Lib.hid (narrow_end HT.out i HII.out); have HWE := Lib.hid (with_end HT.out (i + 1) (by have := HII.out; omega)); have hv1 := HVN.out i HII.out; have hv2 := HKN.out (i + 1) (by have := HII.out; omega); obtain ⟨VL, hVL⟩ : ∃ x, (gm (provedF p) i).1 = x := ⟨_, rfl⟩; obtain ⟨VH, hVH⟩ : ∃ x, (gm (provedF p) i).2 = x := ⟨_, rfl⟩; obtain ⟨KL, hKL⟩ : ∃ x, (gm (knownF p) (i + 1)).1 = x := ⟨_, rfl⟩; obtain ⟨KH, hKH⟩ : ∃ x, (gm (knownF p) (i + 1)).2 = x := ⟨_, rfl⟩; rw [hVL] at m0 HNE hv1; rw [hVH] at m1 HNE hv1; rw [hKL] at l0 HWE hv2
            rw [hKH] at l1 HWE hv2; obtain ⟨N3, hN3⟩ : ∃ x : Int, ((truthsF (narrowF p i VL)).length : Int) = x := ⟨_, rfl⟩; have HN3 := Lib.hid hN3; obtain ⟨N4, hN4⟩ : ∃ x : Int, ((truthsF (narrowF p i VH)).length : Int) = x := ⟨_, rfl⟩; have HN4N := Lib.hid hN4; clear hN3 hN4
            have HNT := Lib.hid (fun (v : Int) (hv : 0 ≤ v ∧ v ≤ 100) W (pm2 : Option Addr) (cm2 : Nat) (h : RdP W pm2 pv pr (narrowF p i v)) => show Calls Tryz.prog 36 #[.agg #[.slice pm2 (narrowF p i v).ms.length cm2, .slice pv p.mv.length cv, .slice pr p.rs.length cr]] W fun e w' => e = .returned (.tuple #[.int .i64 ((truthsF (narrowF p i v)).length : Int), .int .i64 0]) ∧ Below W.heap.size W w' by
              have hpo := narrow_piece HPO.out i HII.out v hv; have h' := c_Truths pm2 pv pr cm2 cv cr (narrowF p i v) W h ⟨by have := hpo.n4; omega, HLN.out.mv, HLN.out.rs⟩; simp only [pieceB_iff.2 hpo, if_true] at h'; exact h')
            have HVR := Lib.hid (show (0 ≤ VL ∧ VL ≤ 100) ∧ (0 ≤ VH ∧ VH ≤ 100) by omega); have HKRG := Lib.hid (show (-5000 ≤ KL ∧ KL ≤ 5000) ∧ (-5000 ≤ KH ∧ KH ≤ 5000) by omega); have hii : (i : Int) < (p.ms.length : Int) := by have := HII.out; omega
            have hi0 : (0 : Int) ≤ (i : Int) := by omega
            have hi1 : (0 : Int) ≤ (i : Int) + 1 := by omega
            have hi2 : (i : Int) + 1 < (p.ms.length : Int) + 1 := by omega
            have hi3 : ((i : Int) + 1).toNat = i + 1 := by omega
            have hwi : IntKind.i64.wrap ((i : Int) + 1) = (i : Int) + 1 := w64 _ (by omega) (by have := HN4.out; omega); clear hcm hcl hVL hVH hKL hKH hv1 hv2; have HSB := Lib.hid (cl7 k0 k1 k2 m0 m1 l0 l1); refine held7 k0 k1 k2 m0 m1 l0 l1 (fun W0 HB0 => ?_); refine tk 0 rfl (by exact HSB.out _ HB0) ?_; (try simp only [Act.put, ptL]); refine tk 1 rfl (by exact HSB.out _ HB0) ?_; (try simp only [Act.put, ptL]); refine tk 2 rfl (by exact HSB.out _ HB0) ?_; (try simp only [Act.put, ptL]); refine tk 3 rfl (by exact HSB.out _ HB0) ?_; (try simp only [Act.put, ptL]); refine tk 4 rfl (by exact HSB.out _ HB0) ?_; (try simp only [Act.put, ptL]); refine tk 5 rfl (by exact HSB.out _ HB0) ?_; (try simp only [Act.put, ptL]); refine tk 6 rfl (by exact HSB.out _ HB0) ?_; (try simp only [Act.put, ptL]); refine rz1 7 rfl ?_; intro K hK; go_simp; refine (l_narrow pm pv pr cm cv cr p i VL W0 (HP.out.below HB0) (by have := HN4.out; omega) HII.out).mono ?_
            rintro e W1 ⟨pm2, cm2, rfl, hr1, b1⟩; have HB1 := HB0.trans (b1.mono HB0.size); refine kz hK (by exact HSB.out _ HB1) ?_; clear hK K; (try simp only [Act.put, ptL]); refine rz1 8 rfl ?_; intro K hK; go_simp; refine (HNT.out VL HVR.out.1 W1 pm2 cm2 hr1).mono ?_; rintro e W2 ⟨rfl, b2⟩; have HB2 := HB1.trans (b2.mono HB1.size); refine kz hK (by exact HSB.out _ HB2) ?_; clear hK K; (try simp only [Act.put, ptL]); refine tk 9 rfl (by exact HSB.out _ HB2) ?_; (try simp only [Act.put, ptL]); refine tk 10 rfl (by exact HSB.out _ HB2) ?_; (try simp only [Act.put, ptL]); refine tk 11 rfl (by exact HSB.out _ HB2) ?_; (try simp only [Act.put, ptL]); refine tk 12 rfl (by exact HSB.out _ HB2) ?_; (try simp only [Act.put, ptL]); refine tk 13 rfl (by exact HSB.out _ HB2) ?_; (try simp only [Act.put, ptL]); refine wpAnyH_done (by kernel_rfl) ?_ _; obtain ⟨k0, k1, k2, m0, m1, l0, l1⟩ := HSB.out _ HB2
            replace HB := Lib.hid (HB.out.trans (HB2.mono HB.out.size)); replace HP := Lib.hid (HP.out.below HB2); clear HSB HB0 HB1 HB2 b1 b2 hr1; go_wp2; have HSB := Lib.hid (cl7 k0 k1 k2 m0 m1 l0 l1); refine held7 k0 k1 k2 m0 m1 l0 l1 (fun W0 HB0 => ?_); refine tk 0 rfl (by exact HSB.out _ HB0) ?_; (try simp only [Act.put, ptL]); refine tk 1 rfl (by exact HSB.out _ HB0) ?_; (try simp only [Act.put, ptL]); refine tk 2 rfl (by exact HSB.out _ HB0) ?_; (try simp only [Act.put, ptL]); refine tk 3 rfl (by exact HSB.out _ HB0) ?_; (try simp only [Act.put, ptL]); refine tk 4 rfl (by exact HSB.out _ HB0) ?_; (try simp only [Act.put, ptL]); refine tk 5 rfl (by exact HSB.out _ HB0) ?_; (try simp only [Act.put, ptL]); refine tk 6 rfl (by exact HSB.out _ HB0) ?_; (try simp only [Act.put, ptL]); refine rz1 7 rfl ?_; intro K hK; go_simp; refine (l_narrow pm pv pr cm cv cr p i VH W0 (HP.out.below HB0) (by have := HN4.out; omega) HII.out).mono ?_
            rintro e W1 ⟨pm3, cm3, rfl, hr1, b1⟩; have HB1 := HB0.trans (b1.mono HB0.size); refine kz hK (by exact HSB.out _ HB1) ?_; clear hK K; (try simp only [Act.put, ptL]); refine rz1 8 rfl ?_; intro K hK; go_simp; refine (HNT.out VH HVR.out.2 W1 pm3 cm3 hr1).mono ?_; rintro e W2 ⟨rfl, b2⟩; have HB2 := HB1.trans (b2.mono HB1.size); refine kz hK (by exact HSB.out _ HB2) ?_; clear hK K; (try simp only [Act.put, ptL]); refine tk 9 rfl (by exact HSB.out _ HB2) ?_; (try simp only [Act.put, ptL]); refine tk 10 rfl (by exact HSB.out _ HB2) ?_; (try simp only [Act.put, ptL]); refine tk 11 rfl (by exact HSB.out _ HB2) ?_; (try simp only [Act.put, ptL]); refine tk 12 rfl (by exact HSB.out _ HB2) ?_; (try simp only [Act.put, ptL]); refine tk 13 rfl (by exact HSB.out _ HB2) ?_; (try simp only [Act.put, ptL]); refine wpAnyH_done (by kernel_rfl) ?_ _; obtain ⟨k0, k1, k2, m0, m1, l0, l1⟩ := HSB.out _ HB2
            replace HB := Lib.hid (HB.out.trans (HB2.mono HB.out.size)); replace HP := Lib.hid (HP.out.below HB2); obtain ⟨⟨hn1, hn2⟩, hn3, hn4⟩ := HNE.out; have hn1' := List.length_pos_iff.2 hn1; have hn3' := List.length_pos_iff.2 hn3; have u1 : decide (N3 < 1) = false := decide_eq_false (by rw [← HN3.out]; omega); have u2 : decide (N4 < 1) = false := decide_eq_false (by rw [← HN4N.out]; omega); have u3 : decide (N3 > TN) = false := decide_eq_false (by rw [← HN3.out, ← HTN.out]; omega); have u4 : decide (N4 > TN) = false := decide_eq_false (by rw [← HN4N.out, ← HTN.out]; omega); have u3b : decide (TN < N3) = false := u3; have u4b : decide (TN < N4) = false := u4; rw [HN3.out, HN4N.out]; clear HSB HB0 HB1 HB2 b1 b2 hr1 hn1 hn2 hn3 hn4 hn1' hn3' HNT HNE
            by_cases h66 : p.rs.length = 6
            · have h66' : ((p.rs.length : Int) == 6) = true := by rw [h66]; rfl
              (go_wp2_with fail); refine (c_known m _ (HM.out.below HB.out) (HI.out.below HB.out)).mono ?_; rintro e wn ⟨rfl, bq⟩; have HFK := Lib.hid (HB.out.trans (bq.mono HB.out.size)); clear bq; go_wp2; go_ret; exact ⟨rfl, HFK.out⟩
            have h66' : ((p.rs.length : Int) == 6) = false := by rw [beq_eq_false_iff_ne]; omega
            have HRS := Lib.hid (show p.rs.length < 6 by have := HPO.out.r6; omega); have HIC := Lib.hid (show (i : Int) + 1 = ((i + 1 : Nat) : Int) by omega)
            have HWT := Lib.hid (fun (s : Int) (hs : -5000 ≤ s ∧ s ≤ 5000) W (pr2 : Option Addr) (cr2 : Nat) (h : RdP W pm pv pr2 (moreF p ⟨p.mv.length, (i : Int) + 1, s, 0⟩)) => show Calls Tryz.prog 36 #[.agg #[.slice pm p.ms.length cm, .slice pv p.mv.length cv, .slice pr2 (moreF p ⟨p.mv.length, (i : Int) + 1, s, 0⟩).rs.length cr2]] W fun e w' => e = .returned (.tuple #[.int .i64 ((truthsF (withF p ((i + 1 : Nat) : Int) s 0)).length : Int), .int .i64 0]) ∧ Below W.heap.size W w' by
              have hpo := moreF_piece HPO.out (r := ⟨p.mv.length, (i : Int) + 1, s, 0⟩) HRS.out ⟨by dsimp only; omega, by dsimp only; have := HII.out; omega, hs, by dsimp only; omega⟩; have h' := c_Truths pm pv pr2 cm cv cr2 (moreF p ⟨p.mv.length, (i : Int) + 1, s, 0⟩) W h ⟨HLN.out.ms, HLN.out.mv, by have := hpo.r6; omega⟩; simp only [pieceB_iff.2 hpo, if_true] at h'; unfold withF; rw [← HIC.out]; exact h')
            have HR6 := Lib.hid (show p.rs.length ≤ 1000 by have := HRS.out; omega); clear h66; go_wp2; have HSB := Lib.hid (cl7 k0 k1 k2 m0 m1 l0 l1); refine held7 k0 k1 k2 m0 m1 l0 l1 (fun W0 HB0 => ?_); refine tk 0 rfl (by exact HSB.out _ HB0) ?_; (try simp only [Act.put, ptL]); refine tk 1 rfl (by exact HSB.out _ HB0) ?_; (try simp only [Act.put, ptL]); refine tk 2 rfl (by exact HSB.out _ HB0) ?_; (try simp only [Act.put, ptL]); refine tk 3 rfl (by exact HSB.out _ HB0) ?_; (try simp only [Act.put, ptL]); refine tk 4 rfl (by exact HSB.out _ HB0) ?_; (try simp only [Act.put, ptL]); refine tk 5 rfl (by exact HSB.out _ HB0) ?_; (try simp only [Act.put, ptL]); refine tk 6 rfl (by exact HSB.out _ HB0) ?_; (try simp only [Act.put, ptL]); refine tk 7 rfl (by exact HSB.out _ HB0) ?_; (try simp only [Act.put, ptL]); refine tk 8 rfl (by exact HSB.out _ HB0) ?_; (try simp only [Act.put, ptL]); refine rz1 9 rfl ?_; intro K hK
            go_simp; refine (r_With pm pv pr cm cv cr p ((i : Int) + 1) KL 0 W0 (HP.out.below HB0) HR6.out).mono ?_; rintro e W1 ⟨pr2, cr2, rfl, hr1, b1⟩; have HB1 := HB0.trans (b1.mono HB0.size); refine kz hK (by exact HSB.out _ HB1) ?_; clear hK K; (try simp only [Act.put, ptL]); refine rz1 10 rfl ?_; intro K hK; go_simp; refine (HWT.out KL HKRG.out.1 W1 pr2 cr2 hr1).mono ?_; rintro e W2 ⟨rfl, b2⟩; have HB2 := HB1.trans (b2.mono HB1.size); refine kz hK (by exact HSB.out _ HB2) ?_; clear hK K; (try simp only [Act.put, ptL]); refine tk 11 rfl (by exact HSB.out _ HB2) ?_; (try simp only [Act.put, ptL]); refine tk 12 rfl (by exact HSB.out _ HB2) ?_; (try simp only [Act.put, ptL]); refine tk 13 rfl (by exact HSB.out _ HB2) ?_; (try simp only [Act.put, ptL]); refine tk 14 rfl (by exact HSB.out _ HB2) ?_; (try simp only [Act.put, ptL]); refine tk 15 rfl (by exact HSB.out _ HB2) ?_; (try simp only [Act.put, ptL])
            refine wpAnyH_done (by kernel_rfl) ?_ _; obtain ⟨k0, k1, k2, m0, m1, l0, l1⟩ := HSB.out _ HB2; replace HB := Lib.hid (HB.out.trans (HB2.mono HB.out.size)); replace HP := Lib.hid (HP.out.below HB2); clear HSB HB0 HB1 HB2 b1 b2 hr1; go_wp2; have HSB := Lib.hid (cl7 k0 k1 k2 m0 m1 l0 l1); refine held7 k0 k1 k2 m0 m1 l0 l1 (fun W0 HB0 => ?_); refine tk 0 rfl (by exact HSB.out _ HB0) ?_; (try simp only [Act.put, ptL]); refine tk 1 rfl (by exact HSB.out _ HB0) ?_; (try simp only [Act.put, ptL]); refine tk 2 rfl (by exact HSB.out _ HB0) ?_; (try simp only [Act.put, ptL]); refine tk 3 rfl (by exact HSB.out _ HB0) ?_; (try simp only [Act.put, ptL]); refine tk 4 rfl (by exact HSB.out _ HB0) ?_; (try simp only [Act.put, ptL]); refine tk 5 rfl (by exact HSB.out _ HB0) ?_; (try simp only [Act.put, ptL]); refine tk 6 rfl (by exact HSB.out _ HB0) ?_; (try simp only [Act.put, ptL]); refine tk 7 rfl (by exact HSB.out _ HB0) ?_; (try simp only [Act.put, ptL]); refine tk 8 rfl (by exact HSB.out _ HB0) ?_; (try simp only [Act.put, ptL])
            refine rz1 9 rfl ?_; intro K hK; go_simp; refine (r_With pm pv pr cm cv cr p ((i : Int) + 1) KH 0 W0 (HP.out.below HB0) HR6.out).mono ?_; rintro e W1 ⟨pr3, cr3, rfl, hr1, b1⟩; have HB1 := HB0.trans (b1.mono HB0.size); refine kz hK (by exact HSB.out _ HB1) ?_; clear hK K; (try simp only [Act.put, ptL]); refine rz1 10 rfl ?_; intro K hK; go_simp; refine (HWT.out KH HKRG.out.2 W1 pr3 cr3 hr1).mono ?_; rintro e W2 ⟨rfl, b2⟩; have HB2 := HB1.trans (b2.mono HB1.size); refine kz hK (by exact HSB.out _ HB2) ?_; clear hK K; (try simp only [Act.put, ptL]); refine tk 11 rfl (by exact HSB.out _ HB2) ?_; (try simp only [Act.put, ptL]); refine tk 12 rfl (by exact HSB.out _ HB2) ?_; (try simp only [Act.put, ptL]); refine tk 13 rfl (by exact HSB.out _ HB2) ?_; (try simp only [Act.put, ptL]); refine tk 14 rfl (by exact HSB.out _ HB2) ?_; (try simp only [Act.put, ptL]); refine tk 15 rfl (by exact HSB.out _ HB2) ?_; (try simp only [Act.put, ptL])
            refine wpAnyH_done (by kernel_rfl) ?_ _; replace HB := Lib.hid (HB.out.trans (HB2.mono HB.out.size)); obtain ⟨N1, hN1⟩ : ∃ x : Int, ((truthsF (withF p ((i : Int) + 1) KL 0)).length : Int) = x := ⟨_, rfl⟩; obtain ⟨N2, hN2⟩ : ∃ x : Int, ((truthsF (withF p ((i : Int) + 1) KH 0)).length : Int) = x := ⟨_, rfl⟩; have v1 : decide (N1 ≥ 1) = true := decide_eq_true (by rw [← hN1, HIC.out]; have := List.length_pos_iff.2 HWE.out.1; omega); have v2 : decide (N2 ≥ 1) = true := decide_eq_true (by rw [← hN2, HIC.out]; have := List.length_pos_iff.2 HWE.out.2; omega); (try rw [← HIC.out]); rw [hN1, hN2]; have v1b : decide ((1 : Int) ≤ N1) = true := v1; have v2b : decide ((1 : Int) ≤ N2) = true := v2; clear HSB HB0 HB1 HB2 b1 b2 hr1 hN1 hN2 HWT
            (go_wp2_with fail); refine (c_known m _ (HM.out.below HB.out) (HI.out.below HB.out)).mono ?_; rintro e wn ⟨rfl, bq⟩; have HFK := Lib.hid (HB.out.trans (bq.mono HB.out.size)); clear bq; go_wp2; go_ret; exact ⟨rfl, HFK.out⟩
end Go.Proofs.YtlednchfifphgaaGreatDoor
end

section
namespace Go.Proofs.YtlednchfifphgaaGreatDoor
open Go Go.ChangeShapes Go.WideShapes Go.ChangeAt Go.RowKit Go.Proofs
set_option linter.unusedVariables false

set_option maxRecDepth 100000 in
theorem slackTrue_lifted (os : Os) (started : os.Started) (H : Type) (enc : TypeId × Value → H) :
    ReturnsInHanded {} Tryz.checked os 10 .any (fun w args => (Rows.slackTrueSpec.pre enc Tryz.prog Tryz.f10 [] false w args ∧ laidMetH Tryz.prog lay5 w) ∧ sizedMet enc Tryz.prog Tryz.f10 (OpenSpec.ofChange Rows.slackTrueSpec) false w args)
      (Rows.slackTrueSpec.post enc Tryz.prog Tryz.f10 false true false false) := by
  refine returns_listed (C := Tryz.checked) (X := fun w _ => laidMetH Tryz.prog lay5 w) (fun _ _ _ hh h => h.of_heap hh) ownT started (by kernel_rfl) Tryz.func10
    (ChangeSpec.witness_shaped (enc := enc) (C := Tryz.checked) (os := os) (X := fun w _ => laidMetH Tryz.prog lay5 w) false (World.laidAll Tryz.prog os lay5) #[.agg #[.slice none 0 0, .slice none 0 0, .slice none 0 0], .slice none 0 0, .int .i64 0] 12 (World.laidAll_os _ _ _)
      (World.shaped_of_ZipB (by kernel_rfl) (by kernel_rfl)) (by kernel_rfl) (by kernel_rfl) (by kernel_rfl)
      (by rw [MakeChecks.laidMetH_plain _ _ _ (by kernel_rfl)]; exact laidMet_laidAll _ (by kernel_rfl) (by kernel_rfl))) ?_
  intro W base args ds gs before hval0 hW hX hSh; have hval : ∀ (j : Nat) t v, Tryz.f10.params[j]? = some t → args[j]? = some v → Value.okWide Tryz.prog W .any base t v := hval0; have hW' := hW; obtain ⟨p, q, hA0, hV, rfl, _, _⟩ := hW; have hA : DataW.TrodAll enc Tryz.prog W 0 (fun _ => true) true Tryz.f10.params.toList args.toList ds p := hA0; rw [Tryz.params10] at hA hval; obtain ⟨v0, vs0, d0, ds0, p0, q0, hargs, rfl, rfl, h0, r0⟩ := trodAll_cons hA; obtain ⟨v1, vs1, d1, ds1, p1, q1, rfl, rfl, rfl, h1, r1⟩ := trodAll_cons r0; obtain ⟨v2, vs2, d2, ds2, p2, q2, rfl, rfl, rfl, h2, r2⟩ := trodAll_cons r1; obtain ⟨rfl, rfl, rfl⟩ := trodAll_nil r2; obtain rfl : args = #[v0, v1, v2] := by cases args; simp_all
  obtain ⟨rfl, rfl⟩ := trodVars_none hV; obtain ⟨pm0, pv0, pr0, cm0, cv0, cr0, p0, rfl, rd0⟩ := op_piece (hval 0 26 v0 rfl rfl) h0; obtain ⟨b1, c1, xs1, rfl, rd1, hl1⟩ := op_ints (hval 1 23 v1 rfl rfl) h1; obtain ⟨a2, rfl, la2, ua2⟩ := op_int (hval 2 3 v2 rfl rfl) h2; clear hA0 hval0; obtain ⟨m, hm⟩ := maxLen_of hSh; have hit := itoaG_of (pow10_of hX); refine (law_True pm0 pv0 pr0 cm0 cv0 cr0 p0 b1 c1 xs1 a2 m W rd0 rd1 hm hit).mono fun e W' ⟨he, bel⟩ => ?_
  subst he; exact ⟨_, rfl, _, _, _, [], _, [], hW', trodAll_mk1 (shut_bool Tryz.underlying4 _), (trodAll_cons_mk (Below.trod laidOutT (by kernel_rfl) (of_decide_eq_true (by kernel_rfl)) h0 bel (trod_lt h0)) (trodAll_cons_mk (Below.trod laidOutT (by kernel_rfl) (of_decide_eq_true (by kernel_rfl)) h1 bel (trod_lt h1)) (trodAll_cons_mk (Below.trod laidOutT (by kernel_rfl) (of_decide_eq_true (by kernel_rfl)) h2 bel (trod_lt h2)) trodAll_mk0))), rfl, bel.frame _, fun h => by cases h⟩
theorem slackTrue_wf : Rows.slackTrueRow.wf (OpenSpec.ofChange Rows.slackTrueSpec) = true := by kernel_rfl
theorem slackTrue_inPlace : (Rows.slackTrueRow.inPlace == Tryz.prog.inPlace 10) = true := by kernel_rfl
theorem slackTrue_unfollowed : (Rows.slackTrueRow.unfollowed == Tryz.prog.unfollowed 10) = true := by kernel_rfl
theorem slackTrue_recurses : (Rows.slackTrueRow.recurses == Tryz.prog.recurses 10) = true := by kernel_rfl
theorem slackTrue_named : (Rows.slackTrueRow.named == Tryz.prog.varsNamed 10) = true := by kernel_rfl
theorem slackTrue_goes : false = Rows.slackTrueRow.goesBy Tryz.prog := by kernel_rfl
theorem slackTrue_func : Tryz.prog.funcNamed Rows.slackTrueRow.func = some 10 := by kernel_rfl
theorem slackTrue_text : Rows.slackTrueRow.wfByText (OpenSpec.ofChange Rows.slackTrueSpec) = true := by kernel_rfl
theorem slackTrue_closed : joinedFacts Tryz.prog 10 Tryz.f10 Rows.slackTrueSpec Rows.slackTrueRow = true :=
  (and_t (and_t (and_t (and_t (and_t (and_t (and_t (and_t (and_t (and_t (and_t (and_t (and_t (and_t (and_t (and_t (and_t (and_t (and_t (and_t (and_t (and_t (and_t (and_t (and_t (and_t (and_t (and_t (and_t (and_t (and_t slackTrue_wf tLaidOut) tMaps) (by kernel_rfl)) (by kernel_rfl)) (by kernel_rfl)) (by kernel_rfl)) (by kernel_rfl)) (by kernel_rfl)) slackTrue_inPlace) slackTrue_unfollowed) slackTrue_recurses) slackTrue_named) (by kernel_rfl)) (by kernel_rfl)) (by kernel_rfl)) (by kernel_rfl)) (by kernel_rfl)) (by kernel_rfl)) (by kernel_rfl)) (by kernel_rfl)) (by kernel_rfl)) (by kernel_rfl)) (by kernel_rfl)) tHeard) tMayEnter) (eq_t (α := Bool) tFinal.symm)) (eq_t tMake)) (by kernel_rfl)) (by kernel_rfl)) (by kernel_rfl)) (by kernel_rfl))
theorem slackTrue_wrap : Func.isWrapper Tryz.prog Tryz.f10 Rows.slackTrueRow.wrapper Rows.slackTrueRow.mainSum := by unfold Func.isWrapper; rw [if_neg (of_decide_eq_false (by kernel_rfl))]; exact ⟨rfl, rfl⟩
theorem slackTrue_row : Rows.SlackTrueSaid :=
  OpenClaim.holds_of_wide 10 Tryz.f10 rfl rfl rfl rfl rfl rfl rfl ⟨rfl, rfl, rfl, rfl, rfl⟩ rfl rfl rfl rfl rfl slackTrue_func Tryz.func10 slackTrue_closed (of_decide_eq_true (by kernel_rfl)) slackTrue_wrap (fun os started H enc _ => slackTrue_lifted os started H enc)
theorem slackTrue_plain : ∀ (j : Nat) t, Tryz.f10.params[j]? = some t → Tryz.prog.wantsStandIn t = false := fun j t ht => by
  rw [Tryz.params10] at ht; have hm : t ∈ [26, 23, 3] := by simpa using Array.mem_of_getElem? ht
  have hall : ([26, 23, 3].all fun u => !Tryz.prog.wantsStandIn u) = true := by kernel_rfl
  exact (show Tryz.prog.wantsStandIn t = false by simpa using List.all_eq_true.1 hall t hm)
theorem slackTrue_holds : Rows.SlackTrueCardSaid :=
  Claim7.holds_tied_plain_at .later [] [.data, .data, .data, .data, .pinned] true (true, "ce0818d0c59e3fa5e3ee8c8a0f2895fb96dd737b57a340924acb54004d6cceea") true slackTrue_row (fun _ h => by cases h) slackTrue_text (fun _ h => by cases h) slackTrue_row_tie rfl ⟨rfl, rfl⟩ tMainIs rfl
    (fun f fn hf hfn => by
      obtain rfl : f = 10 := Option.some.inj (slackTrue_func.symm.trans hf) |>.symm
      obtain rfl : fn = Tryz.f10 := (Option.some.inj (Tryz.func10.symm.trans hfn)).symm; exact ⟨tLooks, slackTrue_plain⟩)
    slackTrue_goes
#print axioms slackTrue_holds
end Go.Proofs.YtlednchfifphgaaGreatDoor
end
