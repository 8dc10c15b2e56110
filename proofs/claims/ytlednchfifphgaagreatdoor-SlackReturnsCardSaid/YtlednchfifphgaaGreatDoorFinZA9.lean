/-
  Plain laws of chains of arbors (no program in sight): where all arbors are before the first move, and after a move.
  Base words of these seats' walks: what slices that are only read hold; regions that draw their order; boxes; owned rows.
  Plain laws of bounds, of lost motion, and of a crank that is turned on and back (no program in sight).
  What the references do, step by step: hulls, all plays mesh by mesh, lists of meshes; no program in sight.
  A move made in two parts: what the moves are then, and where the arbors are (no program in sight).
  A negation in a quiet walk.
  A drawn region whose cells are known: its beginning, in short words.
  The document's move of all arbors, and where all arbors are: contracts.
  The document's places before the first move and after each one: contract.
  Whether plays are a truth, in the document's words: contract.
  All truths, in the document's words: contract.
  Where all arbors are after all moves, in each of some truths: contract.
  The least and the greatest number at each place of some lists: contracts.
  Four moves more, and the windows that begin within an arbor's bounds: plain.
  By how much the crank can be turned before an arbor moves, in the document's words: contracts.
  What the laws ask: a piece's truths, or its error; contracts.
  The stage's theorem: what is known of a piece (the walk).
  By how much the crank can be turned before an arbor moves (the walk).
  A piece with some moves more, or with one reading more, in the document's words: contracts.
  The theorem of lost motion (the walk).
  What each truth has of the crank turned on and back: contract of the closure (printed by slkclos.py).
  Comes: contract, all arguments (printed by slkask.py)
  The theorem of a crank that is turned on and back (the walk).
  The law SlackReturns: its card. Conditions: none of the input; the tables of the library that the row lists are as the program lays them (the tie is given).
-/
import Derived.Test.YtlednchfifphgaaGreatDoorGA
import Derived.Test.YtlednchfifphgaaGreatDoorProg
import Derived.WalkKit
import Derived.WalkSpells
import Derived.WalkLawsBesides
import Derived.Handy
import Derived.Deep.QuietTactic
import Derived.BigQuiet
import Derived.Outline
import Derived.Below
import Derived.Lib.Hide
import Derived.Maps.RangeWalk
import Derived.StillTailTactics
import Derived.WalkMore
import Derived.Deep.RegionHeld3
import Derived.Deep.Cut
import Derived.RangeFuncBox
import Derived.Test.YtlednchfifphgaaGreatDoorGC
import Derived.Test.YtlednchfifphgaaGreatDoorGH
import Derived.Test.YtlednchfifphgaaGreatDoorGG
import Derived.Test.YtlednchfifphgaaGreatDoorGL
import Derived.Test.YtlednchfifphgaaGreatDoorGD
import Derived.Deep.Upon
import Derived.Deep.AppendLies
import Derived.Deep.RegionLaw
import Derived.OwnWalk
import Derived.Maps.AppendAt
import Derived.Test.YtlednchfifphgaaGreatDoorGM
import Derived.Test.YtlednchfifphgaaGreatDoorGJ
import Derived.Test.YtlednchfifphgaaGreatDoorGN
import Derived.Test.YtlednchfifphgaaGreatDoorGY
import Derived.Test.YtlednchfifphgaaGreatDoorGS
import Derived.Test.YtlednchfifphgaaGreatDoorGX2
import Derived.Test.YtlednchfifphgaaGreatDoorGO
import Derived.Test.YtlednchfifphgaaGreatDoorGU
import Derived.Test.YtlednchfifphgaaGreatDoorGQ
import Derived.Test.YtlednchfifphgaaGreatDoorGZ
import Derived.Test.YtlednchfifphgaaGreatDoorCards
section
namespace Go.Proofs.YtlednchfifphgaaGreatDoor

theorem mvF_stepBack {pl pc : List Int} {m : Int} (hc : Chain pl pc) (hm : ¬ 0 ≤ m) (k : Nat) (h : k < pl.length) : gi (mvF pl pc m) (k + 1) = min (gi pc (k + 1)) (gi (mvF pl pc m) k) := by
  rw [mvF_back hm k (by omega), mvF_back hm (k + 1) (by omega)]; have := hc.le k h; omega
theorem mvF_still {pl pc : List Int} (hc : Chain pl pc) : mvF pl pc 0 = pc := by
  refine gi_ext (by rw [mvF_len, hc.len]) fun i hi => ?_
  rw [mvF_len] at hi; rw [mvF_on (Int.le_refl 0) i (by omega)]; have := hc.low i (by omega); omega
theorem mvF_stepRef {pl pc : List Int} {m : Int} (hp : Pos pl) (hc : Chain pl pc) (k : Nat) (h : k < pl.length) : gi (mvF pl pc m) (k + 1) = min (gi (mvF pl pc m) k) (max (gi (mvF pl pc m) k - gi pl k) (gi pc (k + 1))) := by
  have h3 := (mvF_chain hp hc m).le k h; have h4 := hp k h
  by_cases hm : 0 ≤ m
  · rw [mvF_stepOn hc hm k h] at h3 ⊢; omega
  · have h5 := hc.ge k h
    have h6 := mvF_back hm k (pc := pc) (pl := pl) (by omega); rw [mvF_stepBack hc hm k h] at h3 ⊢; omega
theorem runF_congr (pl : List Int) {mv mv' : List Int} : ∀ k, (∀ i, i < k → gi mv i = gi mv' i) → runF pl mv k = runF pl mv' k := by
  intro k
  induction k with
  | zero => intro _; rfl
  | succ k ih => intro h; simp only [runF]; rw [ih fun i hi => h i (by omega), h k (by omega)]
end Go.Proofs.YtlednchfifphgaaGreatDoor
end

section
namespace Go.Proofs.YtlednchfifphgaaGreatDoor
open Go Go.RowKit Go.Proofs
set_option linter.unusedVariables false

section
variable {P : Program} {C : World → Prop} {K : Act → Prop} {a : Act} {ops : Array Oper} {Q : Act → Prop} {o : Oper} {rest : List Oper}

variable {d : Nat} {x y : Operand} {t t' ty : TypeId} {pos : String} {af : Array Edge} {g : Option (Nat × Bool)} {m n : Int}

variable {z : Operand} {l : Int} {ats : Array TypeId}
end


section
variable {P : Program} {ops : Array Oper} {C : World → Prop} {Q : Act → Prop} {rest : List Oper} {a : Act} {d : Nat} {x y : Operand} {ty t t' : TypeId} {pos : String} {af : Array Edge} {g : Option (Nat × Bool)}
end
theorem inV_length (a : List Int) : (inV a).length = a.length := by simp [inV]
section
variable {P : Program} {ops : Array Oper} {md : Region.Mode} {C : World → Prop}

end
end Go.Proofs.YtlednchfifphgaaGreatDoor
end

section
namespace Go.Proofs.YtlednchfifphgaaGreatDoor
set_option linter.unusedVariables false

theorem ne_of_mem {α : Type} {l : List α} {x : α} (h : x ∈ l) : l ≠ [] := by rintro rfl; cases h
theorem beh_range {pl e : List Int} (h : Chain pl e) (a : Nat) (ha : a ≤ pl.length) : 0 ≤ behF e a ∧ 0 ≤ ahdF pl e a := by
  have h1 := h.top a ha; have h2 := h.low a ha; unfold ahdF behF; omega
def toFro (pl e : List Int) (by' : Int) : List Int := mvF pl (mvF pl e by') (-by')
theorem toFro_at {pl e : List Int} (hp : Pos pl) (h : Chain pl e) {by' : Int} (hb : 0 ≤ by') (a : Nat) (ha : a ≤ pl.length) : gi (toFro pl e by') a = min (max (gi e a) (gi e 0 + by' - sumT pl a)) (gi e 0) := by
  unfold toFro
  by_cases h0 : by' = 0
  · subst h0
    rw [Int.neg_zero, mvF_still (mvF_chain hp h 0), mvF_still h]; have h1 := h.top a ha; have h2 := h.low a ha; omega
  · rw [mvF_back (show ¬ 0 ≤ -by' by omega) a ha, mvF_zero, mvF_on hb a ha]; omega
theorem toFro_zero (pl e : List Int) (by' : Int) : gi (toFro pl e by') 0 = gi e 0 := by
  unfold toFro; rw [mvF_zero, mvF_zero]; omega
theorem toFro_chain {pl e : List Int} (hp : Pos pl) (h : Chain pl e) (by' : Int) : Chain pl (toFro pl e by') := mvF_chain hp (mvF_chain hp h _) _
theorem toFro_twice {pl e : List Int} (hp : Pos pl) (h : Chain pl e) {by' : Int} (hb : 0 ≤ by') : toFro pl (toFro pl e by') by' = toFro pl e by' := by
  have hc := toFro_chain hp h by'; refine gi_ext (by rw [(toFro_chain hp hc by').len, hc.len]) fun i hi => ?_
  rw [(toFro_chain hp hc by').len] at hi; rw [toFro_at hp hc hb i (by omega), toFro_zero, toFro_at hp h hb i (by omega)]; omega
def comesF (p : Pc) (a : Nat) (by' : Int) : Int × Int := ovF p fun pl => just (gi (toFro pl (endF p pl) by') a - gi (endF p pl) a)
theorem comes_range {pl e : List Int} (hp : Pos pl) (h : Chain pl e) {by' : Int} (hb : 0 ≤ by') (a : Nat) (ha : a ≤ pl.length) : 0 ≤ gi (toFro pl e by') a - gi e a ∧ gi (toFro pl e by') a - gi e a ≤ behF e a := by
  rw [toFro_at hp h hb a ha]; have := h.top a ha; unfold behF; omega
theorem comes_plain {p : Pc} (hp : PieceOk p) (h : truthsF p ≠ []) (a : Nat) (ha : a ≤ p.ms.length) {by' : Int} (hb : 0 ≤ by') : 0 ≤ (comesF p a by').1 ∧ (comesF p a by').1 ≤ (comesF p a by').2 ∧ (comesF p a by').2 ≤ 400 := by
  refine ovF_in _ _ _ h fun pl hpl => ?_
  have hk := truth_plays hp hpl; have h1 := comes_range hk.pos (end_chain (p := p) hk.pos) hb a (by rw [hk.len]; exact ha); have h2 := plays_range hp hk a (by rw [hk.len]; exact ha); have h3 := beh_range (end_chain (p := p) hk.pos) a (by rw [hk.len]; exact ha); unfold ahdF at h3; show 0 ≤ gi (toFro pl (endF p pl) by') a - gi (endF p pl) a ∧ gi (toFro pl (endF p pl) by') a - gi (endF p pl) a ≤ gi (toFro pl (endF p pl) by') a - gi (endF p pl) a ∧ gi (toFro pl (endF p pl) by') a - gi (endF p pl) a ≤ 400; omega
theorem comes_true {p : Pc} {pl : List Int} (h : pl ∈ truthsF p) (a : Nat) (by' : Int) : (comesF p a by').1 ≤ gi (toFro pl (endF p pl) by') a - gi (endF p pl) a ∧ gi (toFro pl (endF p pl) by') a - gi (endF p pl) a ≤ (comesF p a by').2 :=
  ovF_mem (fun pl => just (gi (toFro pl (endF p pl) by') a - gi (endF p pl) a)) h

def onF (p : Pc) (l : List Int) : Pc := { p with mv := p.mv ++ l }
theorem gi_app (a b : List Int) (i : Nat) (h : i < a.length) : gi (a ++ b) i = gi a i := by
  unfold gi; rw [List.getD_eq_getElem?_getD, List.getD_eq_getElem?_getD, List.getElem?_append_left h]
theorem gi_app2 (a b : List Int) (i : Nat) : gi (a ++ b) (a.length + i) = gi b i := by
  unfold gi; rw [List.getD_eq_getElem?_getD, List.getD_eq_getElem?_getD, List.getElem?_append_right (by omega)]; congr 2; omega
theorem onF_run (p : Pc) (l pl : List Int) (k : Nat) (hk : k ≤ p.mv.length) : runF pl (onF p l).mv k = runF pl p.mv k := runF_congr pl k fun i hi => gi_app _ _ _ (by omega)
theorem onF_piece {p : Pc} (hp : PieceOk p) {l : List Int} (h8 : p.mv.length + l.length ≤ 8) (h : ∀ i, i < l.length → -300 ≤ gi l i ∧ gi l i ≤ 300) : PieceOk (onF p l) := by
  refine ⟨hp.n1, hp.n4, by simp [onF]; omega, hp.r6, hp.mesh, fun i hi => ?_, fun i hi => ?_⟩
  · show -300 ≤ gi (p.mv ++ l) i ∧ gi (p.mv ++ l) i ≤ 300
    have hi' : i < (p.mv ++ l).length := hi; rw [List.length_append] at hi'
    by_cases h1 : i < p.mv.length
    · rw [gi_app _ _ _ h1]; exact hp.move i h1
    · obtain ⟨k, rfl⟩ : ∃ k, i = p.mv.length + k := ⟨i - p.mv.length, by omega⟩
      rw [gi_app2]; exact h k (by omega)
  · have := hp.read i hi
    refine ⟨⟨this.1.1, ?_⟩, this.2⟩; have : (onF p l).mv.length = p.mv.length + l.length := by simp [onF]
    rw [this]; have := (hp.read i hi).1.2; show (gr p.rs i).aft ≤ _; omega
end Go.Proofs.YtlednchfifphgaaGreatDoor
end

section
namespace Go.Proofs.YtlednchfifphgaaGreatDoor
set_option linter.unusedVariables false

theorem take_step {α : Type} (l : List α) (k : Nat) (h : k < l.length) : l.take (k + 1) = l.take k ++ [l[k]] := List.take_succ_eq_append_getElem h
end Go.Proofs.YtlednchfifphgaaGreatDoor
end

section
namespace Go.Proofs.YtlednchfifphgaaGreatDoor
set_option linter.unusedVariables false

theorem gi_take (a : List Int) (k i : Nat) (h : i < k) : gi (a.take k) i = gi a i := by
  unfold gi; rw [List.getD_eq_getElem?_getD, List.getElem?_take, if_pos h, ← List.getD_eq_getElem?_getD]
end Go.Proofs.YtlednchfifphgaaGreatDoor
end

section
namespace Go.Proofs.YtlednchfifphgaaGreatDoor
open Go Go.RowKit
set_option linter.unusedVariables false
theorem wq_not {P : Program} {C : World → Prop} {ops : Array Oper} {Q : Act → Prop} {rest : List Oper} {a : Act} {d : Nat} {t ty : TypeId} {x : Operand} {pos : String} {af : Array Edge} {g : Option (Nat × Bool)} {b : Bool}
    (hw : Region.wanted ⟨some d, .unOp .not t x, ty, pos, af, g⟩ (yielded ops a.tmps) = true) (hx : a.eval x = .bool b)
    (hk : wpQuiet P ops C Q rest (a.put (some d) (.bool (!b)))) : wpQuiet P ops C Q (⟨some d, .unOp .not t x, ty, pos, af, g⟩ :: rest) a :=
  wq hw (q_val (o := ⟨some d, .unOp .not t x, ty, pos, af, g⟩) (.bool (!b)) (fun w _ => by unfold execOp; dsimp only; rw [hx]; simp [go_sem]) hk)
end Go.Proofs.YtlednchfifphgaaGreatDoor
end

section
namespace Go.Proofs.YtlednchfifphgaaGreatDoor
open Go Go.RowKit
set_option linter.unusedVariables false
section
variable {P : Program} {ops : Array Oper} {Q : Exit → Act → World → Prop} {id : Nat} {a : Act} {w : World}
theorem cl2 {a0 a1 : Addr} {v0 v1 : Value} (h0 : w.cell? a0 = some v0) (h1 : w.cell? a1 = some v1) : ∀ w', Below w.heap.size w w' → w'.cell? a0 = some v0 ∧ w'.cell? a1 = some v1 := fun w' hb => ⟨(hb.cell (lt_of_cellq h0)).trans h0, (hb.cell (lt_of_cellq h1)).trans h1⟩
theorem held2 {a0 a1 : Addr} {v0 v1 : Value} (h0 : w.cell? a0 = some v0) (h1 : w.cell? a1 = some v1)
    (k : ∀ W0, Below w.heap.size w W0 → wpAnyH P .any ops Q (fun w' => w'.cell? a0 = some v0 ∧ w'.cell? a1 = some v1) ops.size (Array.replicate ops.size false) a W0)
    (hm : P.follows .mixedOrders = true := by kernel_rfl) : (Code.region id ops true).wp P Q a w :=
  wp_region_held_drew (S := fun w' => w'.cell? a0 = some v0 ∧ w'.cell? a1 = some v1) hm (cl2 h0 h1 _ (Below.refl _ _).drew) (fun _ => k _ (Below.refl _ _).drew)
theorem cl3 {a0 a1 a2 : Addr} {v0 v1 v2 : Value} (h0 : w.cell? a0 = some v0) (h1 : w.cell? a1 = some v1) (h2 : w.cell? a2 = some v2) : ∀ w', Below w.heap.size w w' → w'.cell? a0 = some v0 ∧ w'.cell? a1 = some v1 ∧ w'.cell? a2 = some v2 := fun w' hb => ⟨(hb.cell (lt_of_cellq h0)).trans h0, (hb.cell (lt_of_cellq h1)).trans h1, (hb.cell (lt_of_cellq h2)).trans h2⟩
theorem held3 {a0 a1 a2 : Addr} {v0 v1 v2 : Value} (h0 : w.cell? a0 = some v0) (h1 : w.cell? a1 = some v1) (h2 : w.cell? a2 = some v2)
    (k : ∀ W0, Below w.heap.size w W0 → wpAnyH P .any ops Q (fun w' => w'.cell? a0 = some v0 ∧ w'.cell? a1 = some v1 ∧ w'.cell? a2 = some v2) ops.size (Array.replicate ops.size false) a W0)
    (hm : P.follows .mixedOrders = true := by kernel_rfl) : (Code.region id ops true).wp P Q a w :=
  wp_region_held_drew (S := fun w' => w'.cell? a0 = some v0 ∧ w'.cell? a1 = some v1 ∧ w'.cell? a2 = some v2) hm (cl3 h0 h1 h2 _ (Below.refl _ _).drew) (fun _ => k _ (Below.refl _ _).drew)
theorem cl4 {a0 a1 a2 a3 : Addr} {v0 v1 v2 v3 : Value} (h0 : w.cell? a0 = some v0) (h1 : w.cell? a1 = some v1) (h2 : w.cell? a2 = some v2) (h3 : w.cell? a3 = some v3) : ∀ w', Below w.heap.size w w' → w'.cell? a0 = some v0 ∧ w'.cell? a1 = some v1 ∧ w'.cell? a2 = some v2 ∧ w'.cell? a3 = some v3 := fun w' hb => ⟨(hb.cell (lt_of_cellq h0)).trans h0, (hb.cell (lt_of_cellq h1)).trans h1, (hb.cell (lt_of_cellq h2)).trans h2, (hb.cell (lt_of_cellq h3)).trans h3⟩
theorem held4 {a0 a1 a2 a3 : Addr} {v0 v1 v2 v3 : Value} (h0 : w.cell? a0 = some v0) (h1 : w.cell? a1 = some v1) (h2 : w.cell? a2 = some v2) (h3 : w.cell? a3 = some v3)
    (k : ∀ W0, Below w.heap.size w W0 → wpAnyH P .any ops Q (fun w' => w'.cell? a0 = some v0 ∧ w'.cell? a1 = some v1 ∧ w'.cell? a2 = some v2 ∧ w'.cell? a3 = some v3) ops.size (Array.replicate ops.size false) a W0)
    (hm : P.follows .mixedOrders = true := by kernel_rfl) : (Code.region id ops true).wp P Q a w :=
  wp_region_held_drew (S := fun w' => w'.cell? a0 = some v0 ∧ w'.cell? a1 = some v1 ∧ w'.cell? a2 = some v2 ∧ w'.cell? a3 = some v3) hm (cl4 h0 h1 h2 h3 _ (Below.refl _ _).drew) (fun _ => k _ (Below.refl _ _).drew)
end
end Go.Proofs.YtlednchfifphgaaGreatDoor
end

section
namespace Go.Proofs.YtlednchfifphgaaGreatDoor
open Go Go.RowKit Go.Proofs
set_option linter.unusedVariables false
set_option linter.unusedSimpArgs false
attribute [local go_sem] imax2 imin2

theorem run_append_src {P : Program} (w : World) (base : Nat) (t ty e : TypeId) (i : TypeInfo) (z : Value) (size bytes : Nat) (ht : P.underlying t = some (.slice e)) (hi : P.info? e = some i) (hz : i.zero = some z)
    (hsize : i.size = size) (hby : i.bytes = bytes) (hzs : z.cells.size = size) (hsz : 0 < size)
    (v : Value) (n : Nat) (xs : List Value) (hown : w.ownsRow base e size v n xs)
    (po : Option Addr) (m c : Nat) (news : List Value) (hl : news.length = m * size) (hnews : m = 0 ∨ ∃ ad, po = some ad ∧ ∀ j u, news[j]? = some u → w.cell? (ad.add j) = some u) (h1 : ∀ u ∈ news, u.oneCell' = true)
    (h63 : n + m ≤ maxLen) (hbytes : (n + m) * bytes ≤ 140737488355328) (hbase : base ≤ w.heap.size) :
    ∃ v' w', (Builtin.append_ #[t, t] ty #[v, .slice po m c]).run P w = .ok v' w' ∧ w'.ownsRow base e size v' (n + m) (xs ++ news) ∧ w.grownBy w' v.ownBlock ∧ (v'.ownBlock = v.ownBlock ∨ v'.ownBlock = some w.heap.size) := by
  by_cases hm : m = 0
  · subst hm
    have hn : news = [] := List.length_eq_zero_iff.1 (by rw [hl, Nat.zero_mul]); subst hn
    have hs : Src P i.size t (.slice po 0 c) 0 [] w := by
      cases po with
      | none => exact Src.ofNil w ht c
      | some a => exact Src.ofSlice w ht a 0 c [] (by simp) (by intro j u hu; simp at hu) (by intro u hu; cases hu)
    rcases hown.2 with ⟨rfl, rfl⟩ | ⟨g, cap, cur, rfl, hb, hg, hnc, hrest⟩
    · exact ⟨_, w, run_append_nothing w t t ty e i ht hi none 0 0 (Nat.le_refl _) _ hs, by simpa using hown, World.grownBy.refl _ _, .inl rfl⟩
    · exact ⟨_, w, run_append_nothing w t t ty e i ht hi (some ⟨g, 0, none⟩) n cap hnc _ hs, by simpa using hown, World.grownBy.refl _ _, .inl rfl⟩
  · obtain ⟨ad, rfl, hc⟩ := hnews.resolve_left hm
    obtain ⟨v', w', hr, h2, h3, _, h5⟩ := run_append_own_at (P := P) w base t ty e i z size bytes ht hi hz hsize hby hzs hsz v n xs hown ad m c news hl hc h1 h63 hbytes hbase; exact ⟨v', w', hr, h2, h3, h5⟩
theorem wpList_append_src {P : Program} (w : World) {ops : Array Oper} {rest : List Oper} {o : Oper} {a : Act} {Q : Exit → Act → World → Prop} (hgd : o.guard = none) (s x : Operand) (t : TypeId)
    (ho : o.op = .call { callee := .builtin .append, args := #[s, x], argTypes := #[t, t] })
    (base : Nat) (e : TypeId) (i : TypeInfo) (z : Value) (size bytes : Nat) (ht : P.underlying t = some (.slice e)) (hi : P.info? e = some i) (hz : i.zero = some z)
    (hsize : i.size = size) (hby : i.bytes = bytes) (hzs : z.cells.size = size) (hsz : 0 < size)
    (v : Value) (n : Nat) (xs : List Value) (hs : a.eval s = v) (hown : w.ownsRow base e size v n xs)
    (po : Option Addr) (m c : Nat) (news : List Value) (hx : a.eval x = .slice po m c) (hl : news.length = m * size) (hnews : m = 0 ∨ ∃ ad, po = some ad ∧ ∀ j u, news[j]? = some u → w.cell? (ad.add j) = some u) (h1 : ∀ u ∈ news, u.oneCell' = true)
    (h63 : n + m ≤ maxLen) (hbytes : (n + m) * bytes ≤ 140737488355328) (hbase : base ≤ w.heap.size)
    (h : ∀ v' w', w'.ownsRow base e size v' (n + m) (xs ++ news) → w.grownBy w' v.ownBlock → (v'.ownBlock = v.ownBlock ∨ v'.ownBlock = some w.heap.size) → wpList P ops Q rest (a.put o.dst v') w') : wpList P ops Q (o :: rest) a w :=
  wpList_plain hgd fun K hK => by
    obtain ⟨v', w', hr, h2, h3, h5⟩ := run_append_src (P := P) w base t o.type e i z size bytes ht hi hz hsize hby hzs hsz v n xs hown po m c news hl hnews h1 h63 hbytes hbase; unfold Oper.wp execOp; simp only [ho, resolve, invoke, builtin, Sem.run_bind, Sem.run_pure, Result.andThen_ok, List.map_toArray, List.map_cons, List.map_nil, hs, hx, hr]; exact hK _ _ (h v' w' h2 h3 h5)

theorem append_keeps {P : Program} (w : World) (t ty e : TypeId) (i : TypeInfo) (z : Value) (base size bytes : Nat) (ht : P.underlying t = some (.slice e)) (hi : P.info? e = some i) (hz : i.zero = some z) (hsize : i.size = size) (hby : i.bytes = bytes)
    (g n cap : Nat) (xs : List Value) (hown : w.ownsRow base e size (.slice (some ⟨g, 0, none⟩) n cap) n xs)
    (ad : Addr) (m c : Nat) (news : List Value) (hl : news.length = m * size) (hnews : ∀ j u, news[j]? = some u → w.cell? (ad.add j) = some u) (h1 : ∀ u ∈ news, u.oneCell' = true)
    (h63 : n + m ≤ maxLen) (hbytes : (n + m) * bytes ≤ 140737488355328) {v' : Value} {w' : World}
    (hr : (Builtin.append_ #[t, t] ty #[.slice (some ⟨g, 0, none⟩) n cap, .slice (some ad) m c]).run P w = .ok v' w') : ∀ j u, xs[j]? = some u → w'.cell? ⟨g, j, none⟩ = some u := by
  subst hsize; subst hby
  have holds := hown.cells (g := g) rfl
  have hlt : g < w.heap.size := by
    obtain ⟨g', _, h, _, h2⟩ := (show ∃ g' cap', (Value.slice (some ⟨g, 0, none⟩) n cap) = .slice (some ⟨g', 0, none⟩) n cap' ∧ base ≤ g' ∧ g' < w.heap.size from by
      rcases hown.2 with ⟨h, _⟩ | ⟨g', cap', cur, h, hbg, hg, _⟩
      · cases h
      · refine ⟨g', cap', h, hbg, ?_⟩
        rcases Nat.lt_or_ge g' w.heap.size with h1 | h1
        · exact h1
        · rw [Array.getElem?_eq_none h1] at hg; cases hg)
    cases h; exact h2
  rcases hown.2 with ⟨h, _⟩ | ⟨g', cap', cur, h, hbg, hg, hnc, hcm, hcs, htake⟩
  · cases h
  · cases h
    by_cases hroom : n + m ≤ cap
    · have hfit : n * i.size + news.length ≤ cur.size := by rw [hl, hcs, ← Nat.add_mul]; exact Nat.mul_le_mul_right _ hroom
      rw [run_append_room (P := P) w t ty e i ht hi g n cap cur hg ad m c news hl hnews h1 hroom hfit] at hr
      cases hr
      intro j u hj; rw [cell_of_row _ g j _ e (0, 0) (setRow_heap w g cur _ e _ hg), htake]; have hj' : j < xs.length := (List.getElem?_eq_some_iff.1 hj).1; simp only [List.getElem?_toArray]; rw [List.append_assoc, List.getElem?_append_left hj']; exact hj
    · have hsmall : n + m ≤ 9223372036854775807 := by simp only [maxLen] at h63; omega
      rw [run_append_grow (P := P) w t ty e i z ht hi hz ⟨g, 0, none⟩ n cap xs hown.1 holds ad m c news hl hnews (by omega) (by omega) (growslice_fits (by omega) hbytes)] at hr
      cases hr
      intro j u hj; have h := holds j u hj; rw [add_new] at h; rw [World.cell?_alloc_lt _ _ _ (by simpa using hlt)]; exact h
theorem step_append_keep {P : Program} (w : World) {ops : Array Oper} {o : Oper} {a : Act} {K : Act → World → Prop} {Q : Exit → Act → World → Prop} {E : Prop} (hgd : o.guard = none) (s x : Operand) (t : TypeId)
    (ho : o.op = .call { callee := .builtin .append, args := #[s, x], argTypes := #[t, t] })
    (base : Nat) (e : TypeId) (i : TypeInfo) (z : Value) (size bytes : Nat) (ht : P.underlying t = some (.slice e)) (hi : P.info? e = some i) (hz : i.zero = some z)
    (hsize : i.size = size) (hby : i.bytes = bytes) (hzs : z.cells.size = size) (hsz : 0 < size)
    (g n cap : Nat) (xs : List Value) (hs : a.eval s = .slice (some ⟨g, 0, none⟩) n cap) (hown : w.ownsRow base e size (.slice (some ⟨g, 0, none⟩) n cap) n xs)
    (ad : Addr) (m c : Nat) (news : List Value) (hx : a.eval x = .slice (some ad) m c) (hl : news.length = m * size) (hnews : ∀ j u, news[j]? = some u → w.cell? (ad.add j) = some u) (h1 : ∀ u ∈ news, u.oneCell' = true)
    (h63 : n + m ≤ maxLen) (hbytes : (n + m) * bytes ≤ 140737488355328) (hbase : base ≤ w.heap.size)
    (h : ∀ v' w', w'.ownsRow base e size v' (n + m) (xs ++ news) → w.grownBy w' (some g) → (∀ j u, xs[j]? = some u → w'.cell? ⟨g, j, none⟩ = some u) → K (a.put o.dst v') w') :
    if Region.wanted o (yielded ops a.tmps) = true then Oper.wp P o a w K Q else E := by
  have hw : Region.wanted o (yielded ops a.tmps) = true := by simp [Region.wanted, hgd]
  rw [if_pos hw]; obtain ⟨v', w', hr, h2, h3, _, h5⟩ := run_append_own_at (P := P) w base t o.type e i z size bytes ht hi hz hsize hby hzs hsz _ n xs hown ad m c news hl hnews h1 h63 hbytes hbase; have hk := append_keeps w t o.type e i z base size bytes ht hi hz hsize hby g n cap xs hown ad m c news hl hnews h1 h63 hbytes hr; unfold Oper.wp execOp; simp only [ho, resolve, invoke, builtin, Sem.run_bind, Sem.run_pure, Result.andThen_ok, List.map_toArray, List.map_cons, List.map_nil, hs, hx, hr]; exact h v' w' h2 h3 hk

def IntsPost (xs : List Int) (w : World) (e : Ending) (w' : World) : Prop :=
  ∃ g cap, e = .returned (.slice (some ⟨g, 0, none⟩) xs.length cap) ∧ w'.ownsRow w.heap.size 3 1 (.slice (some ⟨g, 0, none⟩) xs.length cap) xs.length (inV xs) ∧ Below w.heap.size w w'
theorem mv_range {pl pc : List Int} (hp : PlOk pl) (hch : Chain pl pc) (hr : ∀ i, i < pc.length → -100000 ≤ gi pc i ∧ gi pc i ≤ 100000) {m : Int} (hm : -100000 ≤ m ∧ m ≤ 100000) : ∀ k, k ≤ pl.length → -300000 ≤ gi (mvF pl pc m) k ∧ gi (mvF pl pc m) k ≤ 300000 := by
  intro k hk; have hpos : Pos pl := fun i hi => (hp.in' i hi).1
  have h1 := (mvF_chain hpos hch m).top k hk; have h2 := (mvF_chain hpos hch m).low k hk; have h3 := hp.sum k hk; rw [mvF_zero] at h1 h2; have h4 := hr 0 (by rw [hch.len]; omega); omega
set_option maxHeartbeats 800000 in
set_option maxRecDepth 100000 in
theorem r_Moved (pp : Option Addr) (cp n : Nat) (pc : List Int) (q : Option Addr) (cq : Nat) (pl : List Int) (m : Int) (w : World) (hpc : RdI w pp pc) (hn : pc.length = n) (hq : RdI w q pl) (hp : PlOk pl) (hch : Chain pl pc) (hr : ∀ i, i < pc.length → -100000 ≤ gi pc i ∧ gi pc i ≤ 100000) (hm : -100000 ≤ m ∧ m ≤ 100000) :
    Calls Tryz.prog 75 #[.slice pp n cp, .slice q pl.length cq, .int .i64 m] w (IntsPost (mvF pl pc m) w) := by
  obtain ⟨i0, hi0, hz0, hz1, hz2⟩ := info_parts infI; have hpos : Pos pl := fun i hi => (hp.in' i hi).1
  have hlen := hch.len; obtain ⟨b, off, rfl, hc⟩ := hpc.at (i := 0) (by rw [hlen]; omega); have d0 := hc 0 (by rw [hlen]; omega); rw [Nat.add_zero] at d0; have h0 := hr 0 (by rw [hlen]; omega); have hz := mvF_zero pl pc m; have HM := Lib.hid (show (mvF pl pc m).length = pl.length + 1 from mvF_len pl pc m); have HST := Lib.hid (fun (k : Nat) (hk : k < pl.length) => (mvF_stepRef (m := m) hpos hch k hk)); have HRM := Lib.hid (mv_range hp hch hr hm); have HC := Lib.hid (show ∀ i, i < pl.length + 1 → w.cell? ⟨b, off + i, none⟩ = some (.int .i64 (gi pc i)) from fun i hi => hc i (by rw [hlen]; exact hi)); have HR := Lib.hid (show ∀ i, i < pl.length + 1 → -100000 ≤ gi pc i ∧ gi pc i ≤ 100000 from fun i hi => hr i (by rw [hlen]; exact hi)); have HP := Lib.hid hp; have HQ := Lib.hid hq; obtain rfl : n = pl.length + 1 := by rw [← hn, hlen]
  obtain ⟨M, hMe⟩ : ∃ M, mvF pl pc m = M := ⟨_, rfl⟩; rw [hMe] at HM HST HRM hz ⊢; obtain ⟨X0, hX0⟩ : ∃ x, gi pc 0 = x := ⟨_, rfl⟩; rw [hX0] at d0 h0 hz; have hw0 : IntKind.i64.wrap (X0 + m) = X0 + m := w64 _ (by omega) (by omega); have hrow := World.ownsRow_lit (base := w.heap.size) (e := 3) (size := 1) w #[.int .i64 (X0 + m)] 1 (Nat.le_refl _) (by unfold maxLen; omega) (by simp); obtain ⟨w2, e2, HS2, _, _, b2⟩ := box1 w (.int .i64 (X0 + m)) 3; rw [e2] at hrow
  have HO0 := Lib.hid (show w2.ownsRow w.heap.size 3 1 (.slice (some ⟨w.heap.size, 0, none⟩) 1 1) 1 (inV (M.take 1)) by
    have : M.take 1 = [X0 + m] := by
      rw [show (1 : Nat) = 0 + 1 by rfl, List.take_succ_eq_append_getElem (by rw [HM.out]; omega), ← gi_get M 0 (by rw [HM.out]; omega), hz]; rfl
    rw [this]; exact hrow)
  have HB2 := Lib.hid b2; have hlP := hp.len; clear hpc hq hp hc hr hn hch hpos hMe hX0 hrow b2 hz hlen
  go_enter Tryz.func75, Tryz.ntmps75
  go_wp2; clear e2
  go_loopw [7, 8] (fun v i wr => ∃ k : Nat, k ≤ pl.length ∧ i = .int .i64 k ∧ (∃ g cap, v = .slice (some ⟨g, 0, none⟩) (k + 1) cap ∧ Hid (wr.ownsRow w.heap.size 3 1 (.slice (some ⟨g, 0, none⟩) (k + 1) cap) (k + 1) (inV (M.take (k + 1))))) ∧ Hid (Below w.heap.size w wr)) (fun _ i _ => pl.length - (intOf i).toNat)
  case atStart => exact ⟨0, Nat.zero_le _, rfl, ⟨_, _, rfl, HO0⟩, HB2⟩
  case round =>
    obtain ⟨k, hk, rfl, ⟨g, cap, rfl, HO⟩, HN⟩ := hrel
    by_cases hlt : k < pl.length
    · have hki : (k : Int) < (pl.length : Int) := by omega
      obtain ⟨bq, oq, rfl, hcq⟩ := HQ.out.at hlt; have HQB := Lib.hid (show bq < w.heap.size from lt_of_cellq (hcq k hlt)); have HPB := Lib.hid (show b < w.heap.size from lt_of_cellq (HC.out (k + 1) (by omega))); have HGB := Lib.hid (show w.heap.size ≤ g from (HO.out.lt g rfl).1); have e1 := (HN.out.cell (lt_of_cellq (hcq k hlt))).trans (hcq k hlt)
      have e2 : wr.cell? ⟨g, k, none⟩ = some (.int .i64 (gi M k)) := by
        have h := own_cell HO.out (j := k) (by rw [List.length_take, HM.out]; omega); rw [gi_take _ _ _ (by omega)] at h; exact h
      have h0k : (0 : Int) ≤ (k : Int) := by omega
      have hkk : (k : Int) < (k : Int) + 1 := by omega
      have hkk1 : (0 : Int) ≤ (k : Int) + 1 := by omega
      have hkk2 : (k : Int) + 1 < (pl.length : Int) + 1 := by omega
      have e3 := (HN.out.cell (lt_of_cellq (HC.out (k + 1) (by omega)))).trans (HC.out (k + 1) (by omega)); have hst := HST.out k hlt; have hr1 := HRM.out k hk; have hr2 := HR.out (k + 1) (by omega); have hr3 := HP.out.in' k hlt
      have HT := Lib.hid (show inV (M.take (k + 1 + 1)) = inV (M.take (k + 1)) ++ [.int .i64 (gi M (k + 1))] by
        rw [List.take_succ_eq_append_getElem (by rw [HM.out]; omega), inV_append, gi_get M (k + 1) (by rw [HM.out]; omega)]; rfl)
      obtain ⟨A, hA⟩ : ∃ A, gi M k = A := ⟨_, rfl⟩; obtain ⟨X, hX⟩ : ∃ X, gi pc (k + 1) = X := ⟨_, rfl⟩; obtain ⟨Y, hY⟩ : ∃ Y, gi M (k + 1) = Y := ⟨_, rfl⟩; obtain ⟨P, hP⟩ : ∃ P, gi pl k = P := ⟨_, rfl⟩; have HMA := Lib.hid hA; rw [hA] at e2 hst hr1; rw [hX] at e3 hst hr2; rw [hY] at hst HT; rw [hP] at e1 hst hr3; have HSQ := Lib.hid hst; have hw1 : IntKind.i64.wrap (A - P) = A - P := w64 _ (by omega) (by omega); have hw2 : IntKind.i64.wrap ((k : Int) + 1) = (k : Int) + 1 := w64 _ (by omega) (by omega); have HKS := Lib.hid (show (k : Int) + 1 = ((k + 1 : Nat) : Int) by omega); clear hcq hA hX hY hP hst; go_wp2; have HSB := Lib.hid (cl3 e1 e2 e3); refine held3 e1 e2 e3 (fun W0 HB0 => ?_); refine tk 0 rfl (by exact HSB.out _ HB0) ?_; (try simp only [Act.put, ptL]); refine tk 1 rfl (by exact HSB.out _ HB0) ?_; (try simp only [Act.put, ptL]); refine tk 2 rfl (by exact HSB.out _ HB0) ?_; (try simp only [Act.put, ptL]); refine tk 3 rfl (by exact HSB.out _ HB0) ?_; (try simp only [Act.put, ptL]); refine tk 4 rfl (by exact HSB.out _ HB0) ?_; (try simp only [Act.put, ptL]); refine tk 5 rfl (by exact HSB.out _ HB0) ?_; (try simp only [Act.put, ptL]); refine tk 6 rfl (by exact HSB.out _ HB0) ?_; (try simp only [Act.put, ptL]); refine tk 7 rfl (by exact HSB.out _ HB0) ?_; (try simp only [Act.put, ptL]); refine tk 8 rfl (by exact HSB.out _ HB0) ?_; (try simp only [Act.put, ptL]); refine tk 9 rfl (by exact HSB.out _ HB0) ?_; (try simp only [Act.put, ptL]); refine tk 10 rfl (by exact HSB.out _ HB0) ?_; (try simp only [Act.put, ptL]); refine tk 11 rfl (by exact HSB.out _ HB0) ?_; (try simp only [Act.put, ptL]); refine tk 12 rfl (by exact HSB.out _ HB0) ?_; (try simp only [Act.put, ptL]); refine tk 13 rfl (by exact HSB.out _ HB0) ?_; (try simp only [Act.put, ptL]); refine tk 14 rfl (by exact HSB.out _ HB0) ?_; (try simp only [Act.put, ptL]); refine tk 15 rfl (by exact HSB.out _ HB0) ?_; (try simp only [Act.put, ptL]); refine tk 16 rfl (by exact HSB.out _ HB0) ?_; (try simp only [Act.put, ptL]); refine tk 17 rfl (by exact HSB.out _ HB0) ?_; (try simp only [Act.put, ptL]); refine tk 18 rfl (by exact HSB.out _ HB0) ?_; (try simp only [Act.put, ptL]); refine tk 19 rfl (by exact HSB.out _ HB0) ?_; (try simp only [Act.put, ptL]); refine tk 20 rfl (by exact HSB.out _ HB0) ?_; (try simp only [Act.put, ptL])
      refine rz1 21 rfl (fun K hK => ?_); go_simp; refine kz hK (by exact HSB.out _ (HB0.alloc HB0.size _)) ?_; clear hK K; (try simp only [Act.put, ptL]); have hO1 := (own_kept HO.out HB0).alloc (.cells #[.int .i64 (min A (max (A - P) X))] 3); have hB1 := HB0.alloc HB0.size (.cells #[.int .i64 (min A (max (A - P) X))] 3); refine rz1 22 rfl (fun K hK => ?_); refine step_append_keep _ rfl _ _ 23 rfl w.heap.size 3 i0 _ 1 8 Tryz.underlying23 hi0 hz0 hz1 hz2 rfl (by decide) g (k + 1) cap _ rfl hO1 ⟨W0.heap.size, 0, none⟩ 1 1 [.int .i64 (min A (max (A - P) X))] rfl rfl (news_of W0 _ _) (by intro u hu; simp at hu; subst hu; rfl) (by unfold maxLen; omega) (by omega) (by have := HN.out.size; have := hB1.size; omega) ?_; intro v' w3 hown' hgrow hkeep; have hB3 := (HN.out.trans (hB1.mono HN.out.size)).grown hgrow (by have := HN.out.size; have := hB1.size; omega) (fun j hj => (hO1.lt j hj).1); have f2 := hkeep k (.int .i64 A) (by rw [inV_get _ _ (by rw [List.length_take, HM.out]; omega), gi_take _ _ _ (by omega), HMA.out])
      have f1 := (hgrow.cell_far ⟨bq, oq + k, none⟩ (lt_of_cellq ((hB1.cell (lt_of_cellq e1)).trans e1)) (by have := HQB.out; have := HGB.out; simp; omega)).trans ((hB1.cell (lt_of_cellq e1)).trans e1); have f3 := (hgrow.cell_far ⟨b, off + (k + 1), none⟩ (lt_of_cellq ((hB1.cell (lt_of_cellq e3)).trans e3)) (by have := HPB.out; have := HGB.out; simp; omega)).trans ((hB1.cell (lt_of_cellq e3)).trans e3); refine kz hK (by exact ⟨f1, f2, f3⟩) ?_; clear hK K; (try simp only [Act.put, ptL]); obtain ⟨g', cap', rfl⟩ := own_form hown'; refine tk 23 rfl (by exact ⟨f1, f2, f3⟩) ?_; (try simp only [Act.put, ptL]); refine wpAnyH_done (by kernel_rfl) ?_ _; have HO' := Lib.hid hown'; have HN' := Lib.hid hB3; clear hown' hgrow hkeep f1 f2 f3 hO1 hB1 hB3 HB0 HSB e1 e2 e3; go_wp2; go_roundw
      case rel =>
        refine ⟨k + 1, by omega, by go_num, ⟨g', cap', rfl, Lib.hid ?_⟩, HN'⟩; rw [HT.out, HSQ.out]; exact HO'.out
      case measure => simp [intOf]; omega
    · obtain rfl : k = pl.length := by omega
      have hki : ¬ (pl.length : Int) < (pl.length : Int) := by omega
      go_wp2; go_ret; refine ⟨g, cap, by rw [HM.out]; rfl, ?_, HN.out⟩; have h := HO.out; rw [List.take_of_length_le (by rw [HM.out]; exact Nat.le_refl _)] at h; rw [HM.out]; exact h
def ElV (w : World) (B : Nat) (css : List (List Int)) (hs : List Value) : Prop := hs.length = css.length ∧ ∀ i, i < css.length → ∃ v, hs[i]? = some v ∧ w.ownsRow B 3 1 v (gl css i).length (inV (gl css i))
theorem ElV.below {w w' : World} {B : Nat} {css : List (List Int)} {hs : List Value} (h : ElV w B css hs) (hb : Below w.heap.size w w') : ElV w' B css hs := by
  refine ⟨h.1, fun i hi => ?_⟩; obtain ⟨v, e1, e2⟩ := h.2 i hi; exact ⟨v, e1, own_kept e2 hb⟩
theorem ElV.mono {w : World} {B B' : Nat} {css : List (List Int)} {hs : List Value} (h : ElV w B css hs) (hB : B' ≤ B) : ElV w B' css hs := by
  refine ⟨h.1, fun i hi => ?_⟩; obtain ⟨v, e1, e2⟩ := h.2 i hi; exact ⟨v, e1, own_mono e2 hB⟩
theorem ElV.grown {w w' : World} {B B' n size e : Nat} {css : List (List Int)} {hs xs : List Value} {v : Value} (h : ElV w B css hs) (ho : w.ownsRow B' e size v n xs) (he : e ≠ 3) (hg : w.grownBy w' v.ownBlock) : ElV w' B css hs := by
  refine ⟨h.1, fun i hi => ?_⟩; obtain ⟨u, e1, e2⟩ := h.2 i hi; exact ⟨u, e1, e2.kept hg (own_apart e2 ho (Ne.symm he))⟩
theorem ElV.snoc {w : World} {B : Nat} {css : List (List Int)} {hs : List Value} {x : List Int} {v : Value} (h : ElV w B css hs) (hx : w.ownsRow B 3 1 v x.length (inV x)) : ElV w B (css ++ [x]) (hs ++ [v]) := by
  refine ⟨by simp [h.1], fun i hi => ?_⟩; rw [List.length_append, List.length_singleton] at hi; rw [gl_snoc]
  by_cases h1 : i < css.length
  · obtain ⟨u, e1, e2⟩ := h.2 i h1
    rw [if_pos h1]; exact ⟨u, by rw [List.getElem?_append_left (by rw [h.1]; omega)]; exact e1, e2⟩
  · obtain rfl : i = css.length := by omega
    rw [if_neg h1, if_pos rfl]; exact ⟨v, by rw [← h.1]; simp, hx⟩
def OwLs (w : World) (B : Nat) (v : Value) (ls : List (List Int)) : Prop := ∃ hs, w.ownsRow B 23 1 v ls.length hs ∧ ElV w B ls hs
theorem OwLs.below {w w' : World} {B : Nat} {v : Value} {ls : List (List Int)} (h : OwLs w B v ls) (hb : Below w.heap.size w w') : OwLs w' B v ls := by
  obtain ⟨hs, h1, h2⟩ := h; exact ⟨hs, own_kept h1 hb, h2.below hb⟩
theorem OwLs.mono {w : World} {B B' : Nat} {v : Value} {ls : List (List Int)} (h : OwLs w B v ls) (hB : B' ≤ B) : OwLs w B' v ls := by
  obtain ⟨hs, h1, h2⟩ := h; exact ⟨hs, own_mono h1 hB, h2.mono hB⟩
theorem OwLs.read {w : World} {B : Nat} {v : Value} {ls : List (List Int)} (h : OwLs w B v ls) : ∃ q c, v = .slice q ls.length c ∧ RdLs w q ls := by
  obtain ⟨hs, h1, h2⟩ := h
  rcases h1.2 with ⟨rfl, h0⟩ | ⟨g, cap, cur, rfl, hrest⟩
  · have : ls = [] := List.length_eq_zero_iff.1 h0
    subst this; exact ⟨none, 0, rfl, .inl rfl⟩
  · refine ⟨some ⟨g, 0, none⟩, cap, rfl, .inr ⟨g, 0, rfl, fun i hi => ?_⟩⟩
    obtain ⟨u, e1, e2⟩ := h2.2 i hi; obtain ⟨q, c, hu, hr⟩ := rd_of_own e2; subst hu; have h3 := h1.cells (g := g) rfl i _ e1; rw [add_new] at h3; exact ⟨q, c, by rw [Nat.zero_add]; exact h3, hr⟩
def LsPost (ls : List (List Int)) (w : World) (e : Ending) (w' : World) : Prop := (∃ v, e = .returned v ∧ OwLs w' w.heap.size v ls) ∧ Below w.heap.size w w'
end Go.Proofs.YtlednchfifphgaaGreatDoor
end

section
namespace Go.Proofs.YtlednchfifphgaaGreatDoor
open Go Go.RowKit Go.Proofs
set_option linter.unusedVariables false
set_option linter.unusedSimpArgs false
attribute [local go_sem] imax2 imin2

set_option maxHeartbeats 1600000 in
set_option maxRecDepth 100000 in
theorem r_Run (pm pv pr : Option Addr) (cm cv cr : Nat) (p : Pc) (q : Option Addr) (cq : Nat) (pl : List Int) (w : World) (hp : RdP w pm pv pr p) (hq : RdI w q pl) (hpo : PieceOk p) (hpl : PlaysOk p pl) :
    Calls Tryz.prog 44 #[.agg #[.slice pm p.ms.length cm, .slice pv p.mv.length cv, .slice pr p.rs.length cr], .slice q pl.length cq] w (LsPost (allF pl p.mv p.mv.length) w) := by
  obtain ⟨i0, hi0, hz0, hz1, hz2⟩ := info_parts infI; obtain ⟨j0, hj0, hy0, hy1, hy2⟩ := info_parts infL; obtain ⟨w1, e1, HS1, k0, k1, k2, b1⟩ := box3 w (.slice pm p.ms.length cm) (.slice pv p.mv.length cv) (.slice pr p.rs.length cr) 26; have hpk := hpl.plok hpo
  have hrow : (w1.alloc (.cells #[.int .i64 0] 3)).ownsRow w1.heap.size 3 1 (.slice (some ⟨w1.heap.size, 0, none⟩) 1 1) 1 (inV (begTo pl 0)) := by
    rw [begTo_zero]; exact World.ownsRow_lit w1 #[.int .i64 0] 1 (Nat.le_refl _) (by unfold maxLen; omega) (by simp)
  obtain ⟨w2, e2, HS2, _, _, b2⟩ := box1 w1 (.int .i64 0) 3; rw [e2] at hrow; have HO0 := Lib.hid hrow; have HB2 := Lib.hid b2; have HB1 := Lib.hid b1; have HV := Lib.hid (hp.mv.below b1); have HQ := Lib.hid (hq.below b1); have HP := Lib.hid hpk; have HPO := Lib.hid hpo; have HPL := Lib.hid hpl; have K1 := Lib.hid k1; have hl := hpk.len; clear hp hq hpo hpl hpk hrow b1 b2 k0 k1 k2
  go_enter Tryz.func44, Tryz.ntmps44
  go_wp2; clear e1 e2
  go_loopw [5, 6] (fun v i wr => ∃ k : Nat, k ≤ pl.length ∧ i = .int .i64 k ∧ (∃ g cap, v = .slice (some ⟨g, 0, none⟩) (k + 1) cap ∧ Hid (wr.ownsRow w1.heap.size 3 1 (.slice (some ⟨g, 0, none⟩) (k + 1) cap) (k + 1) (inV (begTo pl k)))) ∧ Below w1.heap.size w1 wr) (fun _ i _ => pl.length - (intOf i).toNat)
  case atStart => exact ⟨0, by omega, rfl, ⟨w1.heap.size, 1, rfl, HO0⟩, HB2.out⟩
  case round =>
    obtain ⟨k, hk, rfl, ⟨g, cap, rfl, HO⟩, hnx⟩ := hrel; have HN := Lib.hid hnx
    by_cases hlt : k < pl.length
    · have hki : (k : Int) < (pl.length : Int) := by omega
      have h0k : (0 : Int) ≤ (k : Int) := by omega
      have hkk : (k : Int) < (k : Int) + 1 := by omega
      obtain ⟨b, off, rfl, hc⟩ := HQ.out.at hlt; have HQB := Lib.hid (show b < w1.heap.size from lt_of_cellq (hc k hlt)); have HGB := Lib.hid (show w1.heap.size ≤ g from (HO.out.lt g rfl).1); have e1 := (HN.out.cell (lt_of_cellq (hc k hlt))).trans (hc k hlt); have e2 := own_cell HO.out (j := k) (by rw [begTo_len]; omega); have hsk := HP.out.sum k (by omega); have hsp := HP.out.in' k hlt; have HE := Lib.hid (begTo_at pl k k (Nat.le_refl _)); have hw : IntKind.i64.wrap (gi (begTo pl k) k - gi pl k) = gi (begTo pl k) k - gi pl k := by rw [HE.out]; exact w64 _ (by omega) (by omega)
      have HT := Lib.hid (begTo_succ pl k); have HBL := Lib.hid (begTo_len pl k); obtain ⟨A, hA⟩ : ∃ A, gi (begTo pl k) k = A := ⟨_, rfl⟩; obtain ⟨P, hP⟩ : ∃ P, gi pl k = P := ⟨_, rfl⟩; have HMA := Lib.hid hA; rw [hA] at e2 hw HT; rw [hP] at e1 hw HT; clear hc hnx hsk hsp hA hP HE; go_wp2; have HSB := Lib.hid (cl2 e1 e2); refine held2 e1 e2 (fun W0 HB0 => ?_); refine tk 0 rfl (by exact HSB.out _ HB0) ?_; (try simp only [Act.put, ptL]); refine tk 1 rfl (by exact HSB.out _ HB0) ?_; (try simp only [Act.put, ptL]); refine tk 2 rfl (by exact HSB.out _ HB0) ?_; (try simp only [Act.put, ptL]); refine tk 3 rfl (by exact HSB.out _ HB0) ?_; (try simp only [Act.put, ptL]); refine tk 4 rfl (by exact HSB.out _ HB0) ?_; (try simp only [Act.put, ptL]); refine tk 5 rfl (by exact HSB.out _ HB0) ?_; (try simp only [Act.put, ptL]); refine tk 6 rfl (by exact HSB.out _ HB0) ?_; (try simp only [Act.put, ptL]); refine tk 7 rfl (by exact HSB.out _ HB0) ?_; (try simp only [Act.put, ptL]); refine tk 8 rfl (by exact HSB.out _ HB0) ?_; (try simp only [Act.put, ptL]); refine tk 9 rfl (by exact HSB.out _ HB0) ?_; (try simp only [Act.put, ptL])
      refine rz1 10 rfl (fun K hK => ?_); go_simp; refine kz hK (by exact HSB.out _ (HB0.alloc HB0.size _)) ?_; clear hK K; (try simp only [Act.put, ptL]); have hO1 := (own_kept HO.out HB0).alloc (.cells #[.int .i64 (A - P)] 3); have hB1 := HB0.alloc HB0.size (.cells #[.int .i64 (A - P)] 3); refine rz1 11 rfl (fun K hK => ?_); refine step_append_keep _ rfl _ _ 23 rfl w1.heap.size 3 i0 _ 1 8 Tryz.underlying23 hi0 hz0 hz1 hz2 rfl (by decide) g (k + 1) cap _ rfl hO1 ⟨W0.heap.size, 0, none⟩ 1 1 [.int .i64 (A - P)] rfl rfl (news_of W0 _ _) (by intro u hu; simp at hu; subst hu; rfl) (by unfold maxLen; omega) (by omega) (by have := HN.out.size; have := hB1.size; omega) ?_; intro v' w3 hown' hgrow hkeep; have hB3 := (HN.out.trans (hB1.mono HN.out.size)).grown hgrow (by have := HN.out.size; have := hB1.size; omega) (fun j hj => (hO1.lt j hj).1); have f2 := hkeep k (.int .i64 A) (by rw [inV_get _ _ (by rw [HBL.out]; omega), HMA.out])
      have f1 := (hgrow.cell_far ⟨b, off + k, none⟩ (lt_of_cellq ((hB1.cell (lt_of_cellq e1)).trans e1)) (by have := HQB.out; have := HGB.out; simp; omega)).trans ((hB1.cell (lt_of_cellq e1)).trans e1); refine kz hK (by exact ⟨f1, f2⟩) ?_; clear hK K; (try simp only [Act.put, ptL]); obtain ⟨g', cap', rfl⟩ := own_form hown'; refine tk 12 rfl (by exact ⟨f1, f2⟩) ?_; (try simp only [Act.put, ptL]); refine wpAnyH_done (by kernel_rfl) ?_ _; have HO' := Lib.hid hown'; have HN' := Lib.hid hB3; clear hown' hgrow hkeep f1 f2 hO1 hB1 hB3 HB0 HSB e1 e2; go_wp2; go_roundw
      case rel =>
        refine ⟨k + 1, by omega, by go_num, ⟨g', cap', rfl, Lib.hid ?_⟩, HN'.out⟩; rw [HT.out, inV_append]; exact HO'.out
      case measure => simp [intOf]; omega
    · obtain rfl : k = pl.length := by omega
      obtain ⟨wn, rfl⟩ : ∃ wn : World, wn = wr := ⟨_, rfl⟩; obtain ⟨w3, e3, HS3, _, _, b3⟩ := box1 wn (.slice (some ⟨g, 0, none⟩) (pl.length + 1) cap) 23; have hrow3 := World.ownsRow_lit (base := w1.heap.size) (e := 23) (size := 1) wn #[.slice (some ⟨g, 0, none⟩) (pl.length + 1) cap] 1 hnx.size (by unfold maxLen; omega) (by simp); rw [e3] at hrow3; have ho3 := own_kept HO.out b3; rw [begTo_all] at ho3; have HOW := Lib.hid (show w3.ownsRow w1.heap.size 23 1 (.slice (some ⟨wn.heap.size, 0, none⟩) (0 + 1) 1) (0 + 1) [.slice (some ⟨g, 0, none⟩) (pl.length + 1) cap] from hrow3)
      have HEL := Lib.hid (show ElC w3 w1.heap.size (allF pl p.mv 0) [.slice (some ⟨g, 0, none⟩) (pl.length + 1) cap] by
        rw [allF_zero]; refine ⟨rfl, fun i hi => ?_⟩; obtain rfl : i = 0 := by simp at hi; exact hi
        have e : (gl [begF pl] 0).length = pl.length + 1 := begF_len pl; rw [e]; exact ⟨g, cap, rfl, ho3⟩)
      have HR0 := Lib.hid (show RdI w3 (some ⟨g, 0, none⟩) (runF pl p.mv 0) from rd_of_own0 ho3); have HB3 := Lib.hid (show Below w1.heap.size w1 w3 from hnx.trans (b3.mono hnx.size)); clear hnx hlt b3 hrow3 ho3 HO HO0; go_wp2; clear e3
      go_loopw [5, 7, 8] (fun v o i wr => ∃ (k g1 c1 g cap : Nat) (hs : List Value), k ≤ p.mv.length ∧ i = .int .i64 k ∧ v = .slice (some ⟨g1, 0, none⟩) (pl.length + 1) c1 ∧ Hid (RdI wr (some ⟨g1, 0, none⟩) (runF pl p.mv k)) ∧ o = .slice (some ⟨g, 0, none⟩) (k + 1) cap ∧ Hid (wr.ownsRow w1.heap.size 23 1 (.slice (some ⟨g, 0, none⟩) (k + 1) cap) (k + 1) hs) ∧ Hid (ElC wr w1.heap.size (allF pl p.mv k) hs) ∧ Hid (Below w1.heap.size w1 wr)) (fun _ _ i _ => p.mv.length - (intOf i).toNat)
      case atStart => exact ⟨0, g, cap, wn.heap.size, 1, [.slice (some ⟨g, 0, none⟩) (pl.length + 1) cap], by omega, rfl, rfl, HR0, rfl, HOW, HEL, HB3⟩
      case round =>
        obtain ⟨k, g1, c1, g, cap, hs, hk, rfl, rfl, HRN, rfl, HO, HE, HN⟩ := hrel; have k1 := (HN.out.cell (lt_of_cellq K1.out)).trans K1.out
        by_cases hlt : k < p.mv.length
        · have hki : (k : Int) < (p.mv.length : Int) := by omega
          obtain ⟨b, off, rfl, hc⟩ := (HV.out.below HN.out).at hlt; have e1 := hc k hlt; have hm := HPO.out.move k hlt; have hch := runF_chain HPL.out.pos p.mv k
          have HCL := Lib.hid (r_Moved (some ⟨g1, 0, none⟩) c1 (pl.length + 1) (runF pl p.mv k) q cq pl (gi p.mv k) wr HRN.out hch.len (HQ.out.below HN.out) HP.out hch (fun i hi => by
            have := place_range HPO.out HPL.out k i (by omega) (by have := hch.len; omega); omega) (by omega))
          have hm8 := (piece_len HPO.out).2.1; clear hc hm hch; go_wp2_with fail; refine HCL.out.mono ?_; rintro e w4 ⟨g2, c2, he, ho4, b4⟩; rw [mvF_len] at he ho4; subst he; have HO4 := Lib.hid (own_kept HO.out b4); have HE4 := Lib.hid (HE.out.below b4); have HX4 := Lib.hid (own_mono ho4 HN.out.size); have HN4 := Lib.hid (HN.out.trans (b4.mono HN.out.size)); clear ho4 b4; go_wp2_with (at_builtin; refine wpList_append_own _ rfl _ _ 30 rfl w1.heap.size 23 j0 _ 1 24 Tryz.underlying30 hj0 hy0 hy1 hy2 rfl (by decide) _ _ _ rfl (HO4.out.alloc _) ⟨w4.heap.size, 0, none⟩ 1 1 [.slice (some ⟨g2, 0, none⟩) (pl.length + 1) c2] rfl rfl ?c1 ?c2 ?c3 ?c4 ?c5 ?_)
          case c1 => exact news_of _ _ _
          case c2 => intro u hu; simp at hu; subst hu; rfl
          case c3 => unfold maxLen; omega
          case c4 => omega
          case c5 => have := HN4.out.size; simp; omega
          intro v' w7 hown' hgrow _; obtain ⟨g', cap', rfl⟩ := own_form hown'; have HO7 := Lib.hid hown'; have HN7 := Lib.hid ((HN4.out.alloc HN4.out.size _).grown hgrow (by have := HN4.out.size; simp; omega) (fun j hj => (HO4.out.lt j hj).1)); have h3 := own_kept HX4.out (below_alloc1 w4 (.cells #[.slice (some ⟨g2, 0, none⟩) (pl.length + 1) c2] 23)); have h2 := h3.kept hgrow (own_apart h3 (HO4.out.alloc _) (by decide)); have HR7 := Lib.hid (show RdI w7 (some ⟨g2, 0, none⟩) (runF pl p.mv (k + 1)) from rd_of_own0 h2)
          have HE7 := Lib.hid (show ElC w7 w1.heap.size (allF pl p.mv (k + 1)) (hs ++ [.slice (some ⟨g2, 0, none⟩) (pl.length + 1) c2]) by
            have h1 := (HE4.out.below (below_alloc1 w4 (.cells #[.slice (some ⟨g2, 0, none⟩) (pl.length + 1) c2] 23))).grown (HO4.out.alloc _) (by decide) hgrow; have hl : (runF pl p.mv (k + 1)).length = pl.length + 1 := mvF_len _ _ _; rw [allF_succ, ← hl]; refine h1.snoc ?_; rw [hl]; exact h2)
          clear hown' hgrow h2 h3; go_wp2; go_roundw
          case rel => exact ⟨k + 1, g2, c2, g', cap', _, by omega, by go_num, rfl, HR7, rfl, HO7, HE7, HN7⟩
          case measure => simp [intOf]; omega
        · obtain rfl : k = p.mv.length := by omega
          have hki : ¬ (p.mv.length : Int) < (p.mv.length : Int) := by omega
          go_wp2; go_ret; refine ⟨⟨_, rfl, hs, ?_, ?_⟩, HB1.out.trans (HN.out.mono HB1.out.size)⟩
          · rw [allF_len]; exact own_mono HO.out HB1.out.size
          · refine ⟨HE.out.1, fun i hi => ?_⟩
            obtain ⟨u, c, h1, h2⟩ := HE.out.2 i hi; exact ⟨_, h1, own_mono h2 HB1.out.size⟩
end Go.Proofs.YtlednchfifphgaaGreatDoor
end

section
namespace Go.Proofs.YtlednchfifphgaaGreatDoor
open Go Go.RowKit Go.Proofs
set_option linter.unusedVariables false
set_option linter.unusedSimpArgs false
attribute [local go_sem] imax2 imin2

theorem fits_no {p : Pc} {pl : List Int} (h : withinB p pl = false) : fitsB p pl = false := by unfold fitsB; rw [h]; rfl
set_option maxHeartbeats 1600000 in
set_option maxRecDepth 100000 in
theorem r_Fits (pm pv pr : Option Addr) (cm cv cr : Nat) (p : Pc) (q : Option Addr) (cq : Nat) (pl : List Int) (w : World) (hp : RdP w pm pv pr p) (hq : RdI w q pl) (hpo : PieceOk p) (hpl : PlaysOk p pl) :
    Calls Tryz.prog 31 #[.agg #[.slice pm p.ms.length cm, .slice pv p.mv.length cv, .slice pr p.rs.length cr], .slice q pl.length cq] w fun e w' => e = .returned (.bool (fitsB p pl)) ∧ Below w.heap.size w w' := by
  obtain ⟨w1, e1, HS1, k0, k1, k2, b1⟩ := box3 w (.slice pm p.ms.length cm) (.slice pv p.mv.length cv) (.slice pr p.rs.length cr) 26; have HP := Lib.hid (hp.below b1); have HQ := Lib.hid (hq.below b1); have HB := Lib.hid b1; have HPO := Lib.hid hpo; have HPL := Lib.hid hpl; have HLN := Lib.hid (piece_len hpo); have HPN := Lib.hid hpl.len; have hrl6 : p.rs.length ≤ 1000 := by have := (piece_len hpo).2.2; omega
  clear hp hq b1 hpo hpl
  go_enter Tryz.func31, Tryz.ntmps31
  go_wp2_with fail; refine (r_Within pm pv pr cm cv cr p q cq pl _ HP.out.ms HQ.out (by rw [HPN.out]; exact Nat.le_refl _) (by have := HLN.out.1; omega)).mono ?_; clear e1
  rcases hw : withinB p pl with _ | _
  · have H := Lib.hid (fits_no hw)
    clear hw; rintro e wn ⟨rfl, bq⟩; have HBB := Lib.hid (HB.out.trans (bq.mono HB.out.size)); clear bq; go_wp2; go_ret; exact ⟨by rw [H.out]; rfl, HBB.out⟩
  have HW := Lib.hid hw; clear hw; rintro e wn ⟨rfl, bq⟩; replace HB := Lib.hid (HB.out.trans (bq.mono HB.out.size)); replace HP := Lib.hid (HP.out.below bq); replace HQ := Lib.hid (HQ.out.below bq); have k0 := (bq.cell (lt_of_cellq k0)).trans k0; have k1 := (bq.cell (lt_of_cellq k1)).trans k1; have k2 := (bq.cell (lt_of_cellq k2)).trans k2; clear bq; go_wp2_with fail; refine (r_Run pm pv pr cm cv cr p q cq pl _ HP.out HQ.out HPO.out HPL.out).mono ?_; rintro e w2 ⟨⟨v, rfl, ho⟩, bq⟩; obtain ⟨lq, lc, rfl, hls⟩ := ho.read; have HL := Lib.hid hls; rw [allF_len]; have k2 := (bq.cell (lt_of_cellq k2)).trans k2; have HR := Lib.hid (HP.out.rs.below bq); have HB2 := Lib.hid (HB.out.trans (bq.mono HB.out.size)); clear ho hls bq HP HQ k0 k1; go_wp2
  go_loopw [6] (fun v wr => ∃ k : Nat, k ≤ p.rs.length ∧ v = .int .i64 k ∧ Hid (∀ j, j < k → agreeB pl p.mv (gr p.rs j) = true) ∧ Hid (Below w2.heap.size w2 wr)) (fun v _ => p.rs.length - (intOf v).toNat)
  case atStart => exact ⟨0, Nat.zero_le _, rfl, Lib.hid (by intro j hj; omega), Lib.hid (Below.refl _ _)⟩
  case round =>
    obtain ⟨k, hk, rfl, HH, HN⟩ := hrel; have k2 := (HN.out.cell (lt_of_cellq k2)).trans k2
    by_cases hlt : k < p.rs.length
    · have hki : (k : Int) < (p.rs.length : Int) := by omega
      obtain ⟨b, off, rfl, hc⟩ := (HR.out.below HN.out).at hlt; obtain ⟨a0, a1, a2, a3⟩ := hc k hlt; obtain ⟨⟨ha1, ha2⟩, ⟨hb1, hb2⟩, ⟨hs1, hs2⟩, ho1, ho2⟩ := HPO.out.read k hlt; have HAG := Lib.hid (show agreeB pl p.mv (gr p.rs k) = inB (gi (runF pl p.mv (gr p.rs k).aft.toNat) (gr p.rs k).arb.toNat) ((gr p.rs k).seen - (gr p.rs k).off) ((gr p.rs k).seen + (gr p.rs k).off) from rfl)
      have HNO := Lib.hid (show agreeB pl p.mv (gr p.rs k) = false → fitsB p pl = false from fun h => by
        unfold fitsB; rw [HW.out, all_bad (f := agreeB pl p.mv) (d := rd0) (l := p.rs) hlt h]; rfl)
      obtain ⟨a, ha⟩ : ∃ a : Nat, (gr p.rs k).aft = (a : Int) := ⟨(gr p.rs k).aft.toNat, by omega⟩; obtain ⟨c, hcc⟩ : ∃ c : Nat, (gr p.rs k).arb = (c : Int) := ⟨(gr p.rs k).arb.toNat, by omega⟩; have HG := Lib.hid (show agreeB pl p.mv (gr p.rs k) = agreeB pl p.mv (gr p.rs k) from rfl); obtain ⟨S, hS⟩ : ∃ S, (gr p.rs k).seen = S := ⟨_, rfl⟩; obtain ⟨O, hO⟩ : ∃ O, (gr p.rs k).off = O := ⟨_, rfl⟩; obtain ⟨A, hA⟩ : ∃ A, agreeB pl p.mv (gr p.rs k) = A := ⟨_, rfl⟩; rw [hA] at HNO HAG HG; rw [hS] at a2 hs1 hs2 HAG; rw [hO] at a3 ho1 ho2 HAG; rw [ha] at a0 ha2 HAG; rw [hcc] at a1 hb2 HAG; rw [Int.toNat_natCast, Int.toNat_natCast] at HAG; have hpn := HPN.out; obtain ⟨bl, ol, rfl, hcl⟩ := (HL.out.below HN.out).at (i := a) (by rw [allF_len]; omega); obtain ⟨qa, ca, r0, hra⟩ := hcl a (by rw [allF_len]; omega); rw [allF_at _ _ _ _ (by omega)] at r0 hra; have hrl := (runF_chain HPL.out.pos p.mv a).len
      rw [hrl] at r0; obtain ⟨b1, o1, rfl, hc1⟩ := hra.at (i := c) (by rw [hrl]; omega); have r1 := hc1 c (by rw [hrl]; omega); obtain ⟨w4, e4, HS4, y0, y1, y2, y3, b4⟩ := box4 wr (.int .i64 (a : Int)) (.int .i64 (c : Int)) (.int .i64 S) (.int .i64 O) 68; have r0 := (b4.cell (lt_of_cellq r0)).trans r0; have r1 := (b4.cell (lt_of_cellq r1)).trans r1; have HN4 := Lib.hid (HN.out.trans (b4.mono HN.out.size)); have hw1 : IntKind.i64.wrap (S - O) = S - O := w64 _ (by omega) (by omega); have hw2 : IntKind.i64.wrap (S + O) = S + O := w64 _ (by omega) (by omega); have hai : (a : Int) < (p.mv.length : Int) + 1 := by omega
      have hci : (c : Int) < (pl.length : Int) + 1 := by omega
      clear hpn
      have HC := Lib.hid (fun W => show Calls Tryz.prog 50 #[.int .i64 (gi (runF pl p.mv a) c), .int .i64 (S - O), .int .i64 (S + O)] W fun e w' => e = .returned (.bool A) ∧ Below W.heap.size W w' by
        rw [HAG.out]; exact (r_in _ _ _ W).mono fun e w' h => ⟨h.1, h.2 ▸ Below.refl _ _⟩)
      have HST := Lib.hid (show A = true → ∀ j, j < k + 1 → agreeB pl p.mv (gr p.rs j) = true from fun h j hj => by
        rcases Nat.lt_or_ge j k with h' | h'
        · exact HH.out j h'
        · obtain rfl : j = k := by omega
          rw [hA]; exact h)
      clear hc hcl hra hc1 hrl b4 ha hcc hS hO hA; go_upto_region 8 with (fail); clear e4 a0 a1 a2 a3
      cases A with
      | false =>
        refine wp_region_quiet_below (by kernel_rfl) (by kernel_rfl) ?_; (repeat (first | ((with_reducible first | apply wq_fg faP0 | apply wq_fg faP1 | apply wq_fg faP2 | apply wq_fg faM0 | apply wq_fg faS0 | apply wq_fg faS1 | apply wq_fg faR0 | apply wq_fg faR1 | apply wq_fg faR2 | apply wq_fg faR3 | apply wq_fg faT0 | apply wq_fg faT1 | apply wq_fg faQ0 | apply wq_fg faQ1 | apply wq_fg faH0 | apply wq_fg faH1 | apply wq_fg faH2 | apply wq_fg faH3); (focus rfl); (focus rfl); go_frame) | ((with_reducible apply wq_not); (focus rfl); (focus rfl); go_frame) | ((with_reducible first | apply wq_ix Tryz.underlying23 szI | apply wq_ix Tryz.underlying34 szSp | apply wq_ix Tryz.underlying22 szM | apply wq_ix Tryz.underlying24 szR | apply wq_ix Tryz.underlying30 szL | apply wq_ix Tryz.underlying94 szT); (focus rfl); (focus rfl); (focus rfl); (focus omega); (try simp only [Nat.mul_one]); go_frame) | ((with_reducible first | apply wq_ld agI | apply wq_ld agB | apply wq_ld agLI | apply wq_ld agLS | apply wq_ld agLM | apply wq_ld agLR | apply wq_ld agLL | apply wq_ld agLT); (focus rfl); (focus rfl); (focus (intro _ hbq; first | exact (hbq.cell (lt_of_cellq y0)).trans y0 | exact (hbq.cell (lt_of_cellq y1)).trans y1 | exact (hbq.cell (lt_of_cellq y2)).trans y2 | exact (hbq.cell (lt_of_cellq y3)).trans y3 | exact (hbq.cell (lt_of_cellq r0)).trans r0 | exact (hbq.cell (lt_of_cellq r1)).trans r1)); go_frame) | ((with_reducible first | apply wq_add | apply wq_sub | apply wq_mul | apply wq_rem); (focus rfl); (focus rfl); (focus rfl); (focus omega); (focus omega); go_frame) | ((with_reducible first | apply wq_eql | apply wq_neq | apply wq_lss | apply wq_leq | apply wq_gtr | apply wq_geq | apply wq_max2 | apply wq_min2); (focus rfl); (focus rfl); (focus rfl); go_frame) | ((with_reducible first | apply wq_max3 | apply wq_min3); (focus rfl); (focus rfl); (focus rfl); (focus rfl); go_frame) | go_big_quiet_step ((intro hbq; exact calls_below hbq (HC.out _))))); refine wpQuiet_nil ?_; intro wq hbq
        have HN5 := Lib.hid (HN4.out.trans (hbq.mono HN4.out.size)); clear hbq y0 y1 y2 y3 r0 r1; go_wp2; go_ret; exact ⟨by rw [HNO.out trivial]; rfl, HB2.out.trans (HN5.out.mono HB2.out.size)⟩
      | true =>
        refine wp_region_quiet_below (by kernel_rfl) (by kernel_rfl) ?_; (repeat (first | ((with_reducible first | apply wq_fg faP0 | apply wq_fg faP1 | apply wq_fg faP2 | apply wq_fg faM0 | apply wq_fg faS0 | apply wq_fg faS1 | apply wq_fg faR0 | apply wq_fg faR1 | apply wq_fg faR2 | apply wq_fg faR3 | apply wq_fg faT0 | apply wq_fg faT1 | apply wq_fg faQ0 | apply wq_fg faQ1 | apply wq_fg faH0 | apply wq_fg faH1 | apply wq_fg faH2 | apply wq_fg faH3); (focus rfl); (focus rfl); go_frame) | ((with_reducible apply wq_not); (focus rfl); (focus rfl); go_frame) | ((with_reducible first | apply wq_ix Tryz.underlying23 szI | apply wq_ix Tryz.underlying34 szSp | apply wq_ix Tryz.underlying22 szM | apply wq_ix Tryz.underlying24 szR | apply wq_ix Tryz.underlying30 szL | apply wq_ix Tryz.underlying94 szT); (focus rfl); (focus rfl); (focus rfl); (focus omega); (try simp only [Nat.mul_one]); go_frame) | ((with_reducible first | apply wq_ld agI | apply wq_ld agB | apply wq_ld agLI | apply wq_ld agLS | apply wq_ld agLM | apply wq_ld agLR | apply wq_ld agLL | apply wq_ld agLT); (focus rfl); (focus rfl); (focus (intro _ hbq; first | exact (hbq.cell (lt_of_cellq y0)).trans y0 | exact (hbq.cell (lt_of_cellq y1)).trans y1 | exact (hbq.cell (lt_of_cellq y2)).trans y2 | exact (hbq.cell (lt_of_cellq y3)).trans y3 | exact (hbq.cell (lt_of_cellq r0)).trans r0 | exact (hbq.cell (lt_of_cellq r1)).trans r1)); go_frame) | ((with_reducible first | apply wq_add | apply wq_sub | apply wq_mul | apply wq_rem); (focus rfl); (focus rfl); (focus rfl); (focus omega); (focus omega); go_frame) | ((with_reducible first | apply wq_eql | apply wq_neq | apply wq_lss | apply wq_leq | apply wq_gtr | apply wq_geq | apply wq_max2 | apply wq_min2); (focus rfl); (focus rfl); (focus rfl); go_frame) | ((with_reducible first | apply wq_max3 | apply wq_min3); (focus rfl); (focus rfl); (focus rfl); (focus rfl); go_frame) | go_big_quiet_step ((intro hbq; exact calls_below hbq (HC.out _))))); refine wpQuiet_nil ?_; intro wq hbq
        have HN5 := Lib.hid (HN4.out.trans (hbq.mono HN4.out.size)); clear hbq y0 y1 y2 y3 r0 r1; go_wp2; go_roundw
        case rel => exact ⟨k + 1, by omega, by go_num, Lib.hid (HST.out rfl), HN5⟩
        case measure => simp [intOf]; omega
    · obtain rfl : k = p.rs.length := by omega
      have hki : ¬ (p.rs.length : Int) < (p.rs.length : Int) := by omega
      have H := Lib.hid (show fitsB p pl = true by
        unfold fitsB; rw [HW.out, all_ok (f := agreeB pl p.mv) (d := rd0) (l := p.rs) HH.out]; rfl)
      go_wp2; go_ret; exact ⟨by rw [H.out]; rfl, HB2.out.trans (HN.out.mono HB2.out.size)⟩
end Go.Proofs.YtlednchfifphgaaGreatDoor
end

section
namespace Go.Proofs.YtlednchfifphgaaGreatDoor
open Go Go.RowKit Go.Proofs
set_option linter.unusedVariables false
set_option linter.unusedSimpArgs false
attribute [local go_sem] imax2 imin2

def ElR (w : World) (css : List (List Int)) (hs : List Value) : Prop := hs.length = css.length ∧ ∀ i, i < css.length → ∃ q c, hs[i]? = some (.slice q (gl css i).length c) ∧ RdI w q (gl css i)
theorem ElR.snoc {w : World} {css : List (List Int)} {hs : List Value} {x : List Int} {q : Option Addr} {c : Nat} (h : ElR w css hs) (hx : RdI w q x) : ElR w (css ++ [x]) (hs ++ [.slice q x.length c]) := by
  refine ⟨by simp [h.1], fun i hi => ?_⟩; rw [List.length_append, List.length_singleton] at hi; rw [gl_snoc]
  by_cases h1 : i < css.length
  · obtain ⟨q', c', e1, e2⟩ := h.2 i h1
    rw [if_pos h1]; exact ⟨q', c', by rw [List.getElem?_append_left (by rw [h.1]; omega)]; exact e1, e2⟩
  · obtain rfl : i = css.length := by omega
    rw [if_neg h1, if_pos rfl]; exact ⟨q, c, by rw [← h.1]; simp, hx⟩
theorem ElR.read {w w' : World} {B : Nat} {v : Value} {css : List (List Int)} {hs : List Value} (h : ElR w css hs) (ho : w'.ownsRow B 23 1 v css.length hs) (hb : Below w.heap.size w w') : ∃ q c, v = .slice q css.length c ∧ RdLs w' q css := by
  rcases ho.2 with ⟨rfl, h0⟩ | ⟨g, cap, cur, rfl, hrest⟩
  · have : css = [] := List.length_eq_zero_iff.1 h0
    subst this; exact ⟨none, 0, rfl, .inl rfl⟩
  · refine ⟨some ⟨g, 0, none⟩, cap, rfl, .inr ⟨g, 0, rfl, fun i hi => ?_⟩⟩
    obtain ⟨q, c, e1, e2⟩ := h.2 i hi; have h3 := ho.cells (g := g) rfl i _ e1; rw [add_new] at h3; exact ⟨q, c, by rw [Nat.zero_add]; exact h3, e2.below hb⟩
end Go.Proofs.YtlednchfifphgaaGreatDoor
end

section
namespace Go.Proofs.YtlednchfifphgaaGreatDoor
open Go Go.RowKit Go.Proofs
set_option linter.unusedVariables false
set_option linter.unusedSimpArgs false
attribute [local go_sem] imax2 imin2

end Go.Proofs.YtlednchfifphgaaGreatDoor
end

section
namespace Go.Proofs.YtlednchfifphgaaGreatDoor
open Go Go.RowKit Go.Proofs
set_option linter.unusedVariables false
set_option linter.unusedSimpArgs false
attribute [local go_sem] imax2 imin2

end Go.Proofs.YtlednchfifphgaaGreatDoor
end

section
namespace Go.Proofs.YtlednchfifphgaaGreatDoor
set_option linter.unusedVariables false

theorem runF_app (p : Pc) (l pl : List Int) (k : Nat) : runF pl (onF p l).mv (p.mv.length + k) = (l.take k).foldl (mvF pl) (endF p pl) ∨ l.length < k := by
  induction k with
  | zero => exact .inl (onF_run p l pl _ (Nat.le_refl _))
  | succ k ih =>
    by_cases h : k < l.length
    · left
      rcases ih with ih | ih
      · show mvF pl (runF pl (onF p l).mv (p.mv.length + k)) (gi (onF p l).mv (p.mv.length + k)) = _
        rw [ih, take_step l k h, List.foldl_append]
        have : gi (onF p l).mv (p.mv.length + k) = l[k] := by
          show gi (p.mv ++ l) (p.mv.length + k) = _; rw [gi_app2, gi_get l k h]
        rw [this]; rfl
      · omega
    · right; omega
theorem onF_four (p : Pc) (b : Int) (pl : List Int) : runF pl (onF p [b, -b, b, -b]).mv (p.mv.length + 2) = toFro pl (endF p pl) b ∧ runF pl (onF p [b, -b, b, -b]).mv (p.mv.length + 4) = toFro pl (toFro pl (endF p pl) b) b := by
  constructor
  · rcases runF_app p [b, -b, b, -b] pl 2 with h | h
    · exact h
    · simp at h
  · rcases runF_app p [b, -b, b, -b] pl 4 with h | h
    · exact h
    · simp at h

end Go.Proofs.YtlednchfifphgaaGreatDoor
end

section
namespace Go.Proofs.YtlednchfifphgaaGreatDoor
open Go Go.RowKit Go.Proofs
set_option linter.unusedVariables false
set_option linter.unusedSimpArgs false
attribute [local go_sem] imax2 imin2

end Go.Proofs.YtlednchfifphgaaGreatDoor
end

section
namespace Go.Proofs.YtlednchfifphgaaGreatDoor
open Go Go.RowKit Go.Proofs
set_option linter.unusedVariables false
set_option linter.unusedSimpArgs false

end Go.Proofs.YtlednchfifphgaaGreatDoor
end

section
namespace Go.Proofs.YtlednchfifphgaaGreatDoor
open Go Go.RowKit Go.Proofs
set_option linter.unusedVariables false
set_option linter.unusedSimpArgs false
attribute [local go_sem] imax2 imin2

end Go.Proofs.YtlednchfifphgaaGreatDoor
end

section
namespace Go.Proofs.YtlednchfifphgaaGreatDoor
open Go Go.RowKit Go.Proofs
set_option linter.unusedVariables false
set_option linter.unusedSimpArgs false
attribute [local go_sem] imax2 imin2

end Go.Proofs.YtlednchfifphgaaGreatDoor
end

section
namespace Go.Proofs.YtlednchfifphgaaGreatDoor
open Go Go.RowKit Go.Proofs
set_option linter.unusedVariables false
set_option linter.unusedSimpArgs false
attribute [local go_sem] imax2 imin2

theorem add_lit0 (b off j : Nat) : (⟨b, off, none⟩ : Addr).add j = ⟨b, off + j, none⟩ := by unfold Addr.add; split <;> simp_all
theorem inV_cells (xs : List Int) : ∀ u ∈ inV xs, u.oneCell' = true := by intro u hu; simp [inV] at hu; obtain ⟨x, _, rfl⟩ := hu; rfl
theorem news_ints {w : World} {q : Option Addr} {xs : List Int} (h : RdI w q xs) : xs.length = 0 ∨ ∃ ad, q = some ad ∧ ∀ i u, (inV xs)[i]? = some u → w.cell? (ad.add i) = some u := by
  rcases h with rfl | ⟨b, off, rfl, hc⟩
  · exact .inl rfl
  · refine .inr ⟨_, rfl, fun i u hu => ?_⟩
    have hi : i < xs.length := by have := (List.getElem?_eq_some_iff.1 hu).1; rw [inV_length] at this; exact this
    rw [inV_get _ i hi] at hu
    cases hu
    rw [add_lit0]; exact hc i hi
def OnPost (pm pr : Option Addr) (cm cr : Nat) (p : Pc) (l : List Int) (w : World) (e : Ending) (w' : World) : Prop :=
  ∃ pv cv, e = .returned (.agg #[.slice pm p.ms.length cm, .slice pv (onF p l).mv.length cv, .slice pr p.rs.length cr]) ∧ RdP w' pm pv pr (onF p l) ∧ Below w.heap.size w w'
set_option maxHeartbeats 1600000 in
set_option maxRecDepth 100000 in
theorem r_On (pm pv pr : Option Addr) (cm cv cr : Nat) (p : Pc) (q : Option Addr) (cq : Nat) (l : List Int) (w : World) (hp : RdP w pm pv pr p) (hq : RdI w q l) (h1 : p.mv.length ≤ 1000) (h2 : l.length ≤ 1000) :
    Calls Tryz.prog 32 #[.agg #[.slice pm p.ms.length cm, .slice pv p.mv.length cv, .slice pr p.rs.length cr], .slice q l.length cq] w (OnPost pm pr cm cr p l w) := by
  obtain ⟨i0, hi0, hz0, hz1, hz2⟩ := info_parts infI; obtain ⟨w1, e1, HS1, k0, k1, k2, b1⟩ := box3 w (.slice pm p.ms.length cm) (.slice pv p.mv.length cv) (.slice pr p.rs.length cr) 26; have kr := alloc_new w1 (.cells #[.slice none 0 0, .slice none 0 0, .slice none 0 0] 26); obtain ⟨w2, e2, HS2, _, _, _, b2⟩ := box3 w1 (.slice none 0 0) (.slice none 0 0) (.slice none 0 0) 26; rw [e2] at kr; have kx := alloc_new w2 (.cells #[.slice pm p.ms.length cm, .slice pv p.mv.length cv, .slice pr p.rs.length cr] 26); obtain ⟨w3, e3, HS3, _, _, _, b3⟩ := box3 w2 (.slice pm p.ms.length cm) (.slice pv p.mv.length cv) (.slice pr p.rs.length cr) 26; rw [e3] at kx; have kr := (b3.block _ (block_lt kr)).trans kr; have b23 := b2.trans (b3.mono b2.size); have b13 := b1.trans (b23.mono b1.size); have j0 := (b2.cell (lt_of_cellq k0)).trans k0; have j1 := (b2.cell (lt_of_cellq k1)).trans k1; have j2 := (b2.cell (lt_of_cellq k2)).trans k2
  have k0 := (b23.cell (lt_of_cellq k0)).trans k0; have k1 := (b23.cell (lt_of_cellq k1)).trans k1; have k2 := (b23.cell (lt_of_cellq k2)).trans k2; have HB := Lib.hid b13; have HP0 := Lib.hid hp; have HN1 := Lib.hid (news_ints (hp.mv.below b13)); have HQ := Lib.hid (hq.below b13); have HKR := Lib.hid kr; have HKX := Lib.hid kx; have HZ := Lib.hid (show w.heap.size ≤ w1.heap.size ∧ w1.heap.size < w2.heap.size ∧ w2.heap.size < w3.heap.size from ⟨b1.size, by have := HS2.out; omega, by have := HS3.out; omega⟩); clear hp hq b1 b2 b3 b23 b13 kr kx
  go_enter Tryz.func32, Tryz.ntmps32
  go_wp2_with (at_builtin; refine wpList_append_src _ rfl _ _ 23 rfl w3.heap.size 3 i0 _ 1 8 Tryz.underlying23 hi0 hz0 hz1 hz2 rfl (by decide) (.slice none 0 0) 0 [] rfl (World.ownsRow_nil _ _ _ _) pv p.mv.length cv (inV p.mv) rfl ?a1 ?a2 ?a3 ?a4 ?a5 ?a6 ?_)
  case a1 => rw [inV_length, Nat.mul_one]
  case a2 => exact HN1.out
  case a3 => exact inV_cells _
  case a4 => unfold maxLen; omega
  case a5 => omega
  case a6 => exact Nat.le_refl _
  intro v1 wa hown1 hgrow1 hat1; have HBA := Lib.hid (show Below w3.heap.size w3 wa from (Below.refl _ _).grown hgrow1 (Nat.le_refl _) (fun j hj => by simp [Value.ownBlock] at hj)); have HW1 := Lib.hid hown1; have HN2 := Lib.hid (news_ints (HQ.out.below HBA.out)); clear hown1 hgrow1 hat1 e1 e2 e3 k0 k1 k2 j0 j1 j2; go_wp2_with (at_builtin; refine wpList_append_src _ rfl _ _ 23 rfl w3.heap.size 3 i0 _ 1 8 Tryz.underlying23 hi0 hz0 hz1 hz2 rfl (by decide) v1 p.mv.length (inV p.mv) rfl (by first | exact HW1.out | simpa using HW1.out) q l.length cq (inV l) rfl ?c1 ?c2 ?c3 ?c4 ?c5 ?c6 ?_)
  case c1 => rw [inV_length, Nat.mul_one]
  case c2 => exact HN2.out
  case c3 => exact inV_cells _
  case c4 => unfold maxLen; omega
  case c5 => omega
  case c6 => exact HBA.out.size
  intro v2 wb hown2 hgrow2 hat2; have HBB := Lib.hid (show Below w3.heap.size w3 wb from HBA.out.grown hgrow2 HBA.out.size (fun j hj => ((show wa.ownsRow w3.heap.size 3 1 v1 p.mv.length (inV p.mv) from by first | exact HW1.out | simpa using HW1.out).lt j hj).1)); obtain ⟨gv, cv', rfl⟩ := own_anyE hown2; have HW2 := Lib.hid (show wb.ownsRow w3.heap.size 3 1 (.slice gv (p.mv.length + l.length) cv') (p.mv.length + l.length) (inV (p.mv ++ l)) by rw [inV_append]; exact hown2); have hkx := (HBB.out.block _ (block_lt HKX.out)).trans HKX.out; have hkr := (HBB.out.block _ (block_lt HKR.out)).trans HKR.out; obtain ⟨wc, s1, c1, f1, hx1, hxk1, HZ1, hxb1⟩ := put3_1 wb w2.heap.size 26 _ _ _ (.slice gv (p.mv.length + l.length) cv') hkx; have hkr := (hxk1 w1.heap.size (by have := HZ.out; omega)).trans hkr; obtain ⟨x0, x1, x2⟩ := cells3 hx1; obtain ⟨wd, we, wf, t1, t2, t3, ⟨d0, g0⟩, ⟨d1, g1⟩, ⟨d2, g2⟩, hx4, hxk, HZ4, hxb⟩ := set3 wc w1.heap.size 26 _ _ _ (.slice pm p.ms.length cm) (.slice gv (p.mv.length + l.length) cv') (.slice pr p.rs.length cr) hkr
  obtain ⟨r0, r1, r2⟩ := cells3 hx4; have hbf : Below w.heap.size w wf := hxb w w.heap.size HZ.out.1 (hxb1 w w.heap.size (by have := HZ.out; omega) (HB.out.trans (HBB.out.mono HB.out.size))); have HBF := Lib.hid hbf
  have hof := own_same HW2.out (w' := wf) (fun g' hg' => by
    have h := (HW2.out.lt g' hg').1; have := HZ.out; exact (hxk g' (by omega)).trans (hxk1 g' (by omega)))
  have HRD := Lib.hid (show RdP wf pm gv pr (onF p l) from ⟨(HP0.out.below hbf).ms, rdI_at hof (by show (p.mv ++ l).length = _; rw [List.length_append]), (HP0.out.below hbf).rs⟩); clear hown2 hgrow2 hat2 hkx hkr hx1 hxk1 hxb1 hx4 hxk hxb hof hbf HW1 HW2 HN1 HN2; go_wp2; refine bodyPost_ret (v := .agg #[.slice pm p.ms.length cm, .slice gv (p.mv.length + l.length) cv', .slice pr p.rs.length cr]) ?_ rfl ⟨gv, cv', by rw [show (onF p l).mv.length = p.mv.length + l.length from List.length_append], HRD.out, HBF.out⟩; simp [results, Tryz.results32, go_sem, r0, r1, r2]
end Go.Proofs.YtlednchfifphgaaGreatDoor
end

section
namespace Go.Proofs.YtlednchfifphgaaGreatDoor
open Go Go.RowKit Go.Proofs
set_option linter.unusedVariables false
set_option linter.unusedSimpArgs false
attribute [local go_sem] imax2 imin2

theorem within_of_fits {p : Pc} {pl : List Int} (h : fitsB p pl = true) : withinB p pl = true := by
  unfold fitsB at h; rw [Bool.and_eq_true] at h; exact h.1
theorem on_ok {p : Pc} {pl l : List Int} (hp : PieceOk p) (hpl : PlaysOk p pl) (hw : withinB p pl = true) (h8 : p.mv.length + l.length ≤ 8) (h : ∀ i, i < l.length → -300 ≤ gi l i ∧ gi l i ≤ 300) : (pieceB (onF p l) && playsB (onF p l) pl && withinB (onF p l) pl) = true := by
  rw [Bool.and_eq_true, Bool.and_eq_true]; exact ⟨⟨pieceB_iff.2 (onF_piece hp h8 h), playsB_iff.2 ⟨hpl.len, hpl.in'⟩⟩, hw⟩
theorem onF_len (p : Pc) (l : List Int) : (onF p l).mv.length = p.mv.length + l.length := List.length_append
end Go.Proofs.YtlednchfifphgaaGreatDoor
end

section
namespace Go.Proofs.YtlednchfifphgaaGreatDoor
set_option linter.unusedSimpArgs false
open Go Go.RowKit Go.Proofs
set_option linter.unusedVariables false
attribute [local go_sem] imax2 imin2

theorem c_after_o (q : Option Addr) (cq : Nat) (pl : List Int) (g cap n : Nat) (pc : List Int) (b : Int) (w : World) (hq : RdI w q pl) (hpc : RdI w (some ⟨g, 0, none⟩) pc) (hn : pc.length = n) (hp : PlOk pl) (hch : Chain pl pc) (hr : ∀ i, i < pc.length → -100000 ≤ gi pc i ∧ gi pc i ≤ 100000) (hb : 0 ≤ b ∧ b ≤ 300) :
    Calls Tryz.prog 74 #[.agg #[.slice q pl.length cq, .slice (some ⟨g, 0, none⟩) n cap], .iface 110 (.int .i64 b)] w (AfterPost q cq pl pc b w) := by
  subst hn; exact c_after_on q cq pl g 0 cap pc b w hq hpc hp hch hr hb.1 (by omega)
theorem c_after_b (q : Option Addr) (cq : Nat) (pl : List Int) (g cap n : Nat) (pc : List Int) (b : Int) (w : World) (hq : RdI w q pl) (hpc : RdI w (some ⟨g, 0, none⟩) pc) (hn : pc.length = n) (hp : PlOk pl) (hch : Chain pl pc) (hr : ∀ i, i < pc.length → -100000 ≤ gi pc i ∧ gi pc i ≤ 100000) (hb : 0 ≤ b ∧ b ≤ 300) :
    Calls Tryz.prog 74 #[.agg #[.slice q pl.length cq, .slice (some ⟨g, 0, none⟩) n cap], .iface 111 (.int .i64 b)] w (AfterPost q cq pl pc (-b) w) := by
  subst hn; have h := c_after_back q cq pl g 0 cap pc (-b) w hq hpc hp hch hr (by omega) (by omega); rw [Int.neg_neg] at h; exact h
def comeV (p : Pc) (a : Nat) (b : Int) (pl : List Int) : Int × Int := just (gi (toFro pl (endF p pl) b) a - gi (endF p pl) a)
set_option maxHeartbeats 3200000 in
set_option maxRecDepth 100000 in
theorem c1_comes (p : Pc) (pl : List Int) (p1 p2 : Option Addr) (c1 c2 : Nat) (pb pa a : Nat) (b : Int) (w : World) (hp : PieceOk p) (ht : PlaysOk p pl) (h1 : RdI w p1 pl) (h2 : RdI w p2 (endF p pl)) (hg : ∃ g, p2 = some ⟨g, 0, none⟩)
    (kb0 : w.cell? ⟨pb, 0, none⟩ = some (.int .i64 b)) (ka : w.cell? ⟨pa, 0, none⟩ = some (.int .i64 (a : Int))) (ha : a ≤ p.ms.length) (hb : 0 ≤ b ∧ b ≤ 300) :
    Calls Tryz.prog 73 #[.agg #[.slice p1 p.ms.length c1, .slice p2 (p.ms.length + 1) c2], .pointer (some ⟨pb, 0, none⟩), .pointer (some ⟨pa, 0, none⟩)] w fun e w' => e = .returned (.agg #[.int .i64 (comeV p a b pl).1, .int .i64 (comeV p a b pl).2]) ∧ Below w.heap.size w w' := by
  obtain ⟨y, hy⟩ : ∃ y : Int, gi (endF p pl) a = y := ⟨_, rfl⟩
  have ky : ∀ g, p2 = some ⟨g, 0, none⟩ → w.cell? ⟨g, a, none⟩ = some (.int .i64 y) := by
    intro g e; subst e; obtain ⟨b', off, e, hc⟩ := h2.at (i := a) (by rw [end_len ht.pos, ht.len]; omega)
    cases e
    have := hc a (by rw [end_len ht.pos, ht.len]; omega); rw [Nat.zero_add, hy] at this; exact this
  have hrm : ∀ i, i < (mvF pl (endF p pl) b).length → -100000 ≤ gi (mvF pl (endF p pl) b) i ∧ gi (mvF pl (endF p pl) b) i ≤ 100000 := by
    intro i hi; rw [mvF_len] at hi; rw [mvF_on hb.1 i (by omega)]; have h1 := place_range hp ht p.mv.length i (Nat.le_refl _) (by omega); have h2 := place_range hp ht p.mv.length 0 (Nat.le_refl _) (by omega); have h3 := sumT_pos ht.pos i (by omega); show -100000 ≤ max (gi (runF pl p.mv p.mv.length) i) (gi (runF pl p.mv p.mv.length) 0 + b - sumT pl i) ∧ max (gi (runF pl p.mv p.mv.length) i) (gi (runF pl p.mv p.mv.length) 0 + b - sumT pl i) ≤ 100000; omega
  have hchm := mvF_chain ht.pos (end_chain (p := p) ht.pos) b; have hcr := comes_range ht.pos (end_chain (p := p) ht.pos) hb.1 a (by rw [ht.len]; omega); have hya := (ends_ok hp ht).2.2 a (by rw [end_len ht.pos, ht.len]; omega); have hy0 := (ends_ok hp ht).2.2 0 (by rw [end_len ht.pos]; omega); have hHZ := Lib.hid (show pb < w.heap.size ∧ pa < w.heap.size from ⟨lt_of_cellq kb0, lt_of_cellq ka⟩); obtain ⟨g, rfl⟩ := hg; have ky := ky g rfl; have hgl := lt_of_cellq ky; obtain ⟨hpo, hch, hr⟩ := ends_ok hp ht; have hln := ht.len; rw [← hln] at ha ⊢; obtain ⟨w1, e1, HS1, t0, t1, b1⟩ := box2 w (.slice p1 pl.length c1) (.slice (some ⟨g, 0, none⟩) (pl.length + 1) c2) 101; have kb := alloc_new w1 (.cells #[.int .i64 0, .int .i64 0] 44); obtain ⟨w2, e2, HS2, _, _, b2⟩ := box2 w1 (.int .i64 0) (.int .i64 0) 44; rw [e2] at kb; have t0 := (b2.cell (lt_of_cellq t0)).trans t0; have t1 := (b2.cell (lt_of_cellq t1)).trans t1
  have b12 := b1.trans (b2.mono b1.size); have kb0 := (b12.cell (lt_of_cellq kb0)).trans kb0; have ka := (b12.cell (lt_of_cellq ka)).trans ka; have ky := (b12.cell (lt_of_cellq ky)).trans ky; have H1 := Lib.hid (h1.below b12); have H2 := Lib.hid (h2.below b12); have HPO := Lib.hid hpo; have HCH := Lib.hid hch; have HR := Lib.hid hr; have HN := Lib.hid (hch.len); have HB := Lib.hid b12; have HKB := Lib.hid kb; have HZL := Lib.hid (show pb < w1.heap.size ∧ pa < w1.heap.size ∧ g < w1.heap.size ∧ w.heap.size < w1.heap.size from by have h1 := hHZ.out.1; have h2 := hHZ.out.2; have h3 := HS1.out; exact ⟨by omega, by omega, by show g < _; have : g < w.heap.size := hgl; omega, by omega⟩); have HZ := Lib.hid (show w.heap.size ≤ w1.heap.size from b1.size); have haL : a < pl.length + 1 := by omega
  have hfl := fldT1; have h0a : (0 : Int) ≤ (a : Int) := by omega
  have haI : (a : Int) < (pl.length : Int) + 1 := by omega
  obtain ⟨x, hx⟩ : ∃ x : Int, gi (toFro pl (endF p pl) b) a = x := ⟨_, rfl⟩
  have hw : IntKind.i64.wrap (x - y) = x - y := by
    have hbf : behF (endF p pl) a = gi (endF p pl) 0 - gi (endF p pl) a := rfl; rw [hx, hy, hbf, hy] at hcr; rw [hy] at hya; exact w64 _ (by omega) (by omega)
  obtain ⟨v, hv⟩ : ∃ v : Int, x - y = v := ⟨_, rfl⟩; rw [hv] at hw; have hw' : IntKind.i64.wrap (x - y) = v := by rw [hv]; exact hw
  have HV := Lib.hid (show comeV p a b pl = (v, v) by unfold comeV just; rw [hx, hy, hv]); have HVX := Lib.hid hv; have HX := Lib.hid hx; have HRM := Lib.hid hrm; have HCM := Lib.hid hchm; have HBB0 := Lib.hid hb
  have HKE := Lib.hid (show ∀ wx wy : World, (∀ k, k < w1.heap.size → wy.heap[k]? = wx.heap[k]?) → (wx.cell? ⟨pb, 0, none⟩ = some (.int .i64 b) ∧ wx.cell? ⟨pa, 0, none⟩ = some (.int .i64 (a : Int)) ∧ wx.cell? ⟨g, a, none⟩ = some (.int .i64 y)) → (wy.cell? ⟨pb, 0, none⟩ = some (.int .i64 b) ∧ wy.cell? ⟨pa, 0, none⟩ = some (.int .i64 (a : Int)) ∧ wy.cell? ⟨g, a, none⟩ = some (.int .i64 y)) from
    fun wx wy h hh => ⟨(World.cell?_of_block (h _ HZL.out.1)).trans hh.1, (World.cell?_of_block (h _ HZL.out.2.1)).trans hh.2.1, (World.cell?_of_block (h _ HZL.out.2.2.1)).trans hh.2.2⟩)
  clear hv hx hy hw h1 h2 hpo hch hr hrm hchm hcr hya hy0 b1 b2 b12 kb hp ht hln hb hgl; rw [HV.out]
  go_enter Tryz.func73, Tryz.ntmps73
  go_upto_region 1 with (fail); clear e1 e2; refine wp_region_held_drew (S := fun w' => (w'.cell? ⟨w.heap.size, 0, none⟩ = some (.slice p1 pl.length c1) ∧ w'.cell? ⟨w.heap.size, 1, none⟩ = some (.slice (some ⟨g, 0, none⟩) (pl.length + 1) c2)) ∧ w'.cell? ⟨pb, 0, none⟩ = some (.int .i64 b) ∧ w'.cell? ⟨pa, 0, none⟩ = some (.int .i64 (a : Int)) ∧ w'.cell? ⟨g, a, none⟩ = some (.int .i64 y)) (by kernel_rfl) (by (try dsimp only); exact ⟨⟨t0, t1⟩, kb0, ka, ky⟩) (fun hHeld => ?_); refine wpAnyH_take (i := 0) (v := ?v0) rfl (by kernel_rfl) (by kernel_rfl) (by kernel_rfl) (fun _ _ _ h => h) (Or.inl ⟨by rfl, ?hy0⟩) (by assumption) ?rest0
  case hy0 => (intro w hSw; (try dsimp only at hSw); go_simp <;> (try with_reducible rfl))
  simp only [Act.put, ptL]; refine wpAnyH_take (i := 1) (v := ?v1) rfl (by kernel_rfl) (by kernel_rfl) (by kernel_rfl) (fun _ _ _ h => h) (Or.inl ⟨by rfl, ?hy1⟩) (by assumption) ?rest1
  case hy1 => (intro w hSw; (try dsimp only at hSw); go_simp <;> (try with_reducible rfl))
  simp only [Act.put, ptL]; refine wpAnyH_take (i := 2) (v := ?v2) rfl (by kernel_rfl) (by kernel_rfl) (by kernel_rfl) (fun _ _ _ h => h) (Or.inl ⟨by rfl, ?hy2⟩) (by assumption) ?rest2
  case hy2 => (intro w hSw; (try dsimp only at hSw); go_simp <;> (try with_reducible rfl))
  simp only [Act.put, ptL]; refine wpAnyH_take (i := 4) (v := ?v3) rfl (by kernel_rfl) (by kernel_rfl) (by kernel_rfl) (fun _ _ _ h => h) (Or.inl ⟨by rfl, ?hy3⟩) (by assumption) ?rest3
  case hy3 => (intro w hSw; (try dsimp only at hSw); go_simp <;> (try with_reducible rfl))
  simp only [Act.put, ptL]; refine wpAnyH_take (i := 5) (v := ?v4) rfl (by kernel_rfl) (by kernel_rfl) (by kernel_rfl) (fun _ _ _ h => h) (Or.inl ⟨by rfl, ?hy4⟩) (by assumption) ?rest4
  case hy4 => (intro w hSw; (try dsimp only at hSw); go_simp <;> (try with_reducible rfl))
  simp only [Act.put, ptL]; refine wpAnyH_take (i := 8) (v := ?v5) rfl (by kernel_rfl) (by kernel_rfl) (by kernel_rfl) (fun _ _ _ h => h) (Or.inl ⟨by rfl, ?hy5⟩) (by assumption) ?rest5
  case hy5 => (intro w hSw; (try dsimp only at hSw); go_simp <;> (try with_reducible rfl))
  simp only [Act.put, ptL]; refine wpAnyH_take (i := 11) (v := ?v6) rfl (by kernel_rfl) (by kernel_rfl) (by kernel_rfl) (fun _ _ _ h => h) (Or.inl ⟨by rfl, ?hy6⟩) (by assumption) ?rest6
  case hy6 => (intro w hSw; (try dsimp only at hSw); go_simp <;> (try with_reducible rfl))
  simp only [Act.put, ptL]; refine wpAnyH_take (i := 12) (v := ?v7) rfl (by kernel_rfl) (by kernel_rfl) (by kernel_rfl) (fun _ _ _ h => h) (Or.inl ⟨by rfl, ?hy7⟩) (by assumption) ?rest7
  case hy7 => (intro w hSw; (try dsimp only at hSw); go_simp <;> (try with_reducible rfl))
  simp only [Act.put, ptL]; refine wpAnyH_take (i := 13) (v := ?v8) rfl (by kernel_rfl) (by kernel_rfl) (by kernel_rfl) (fun _ _ _ h => h) (Or.inl ⟨by rfl, ?hy8⟩) (by assumption) ?rest8
  case hy8 => (intro w hSw; (try dsimp only at hSw); go_simp <;> (try with_reducible rfl))
  simp only [Act.put, ptL]; refine wpAnyH_take (i := 14) (v := ?v9) rfl (by kernel_rfl) (by kernel_rfl) (by kernel_rfl) (fun _ _ _ h => h) (Or.inl ⟨by rfl, ?hy9⟩) (by assumption) ?rest9
  case hy9 => (intro w hSw; (try dsimp only at hSw); go_simp <;> (try with_reducible rfl))
  simp only [Act.put, ptL]; refine wpAnyH_take (i := 15) (v := ?v10) rfl (by kernel_rfl) (by kernel_rfl) (by kernel_rfl) (fun _ _ _ h => h) (Or.inl ⟨by rfl, ?hy10⟩) (by assumption) ?rest10
  case hy10 => (intro w hSw; (try dsimp only at hSw); go_simp <;> (try with_reducible rfl))
  simp only [Act.put, ptL]; refine rz1 3 rfl (fun K hK => ?_); go_simp
  (with_reducible refine (c_after_o p1 c1 pl g c2 (pl.length + 1) (endF p pl) b _ (H1.out.below (Below.refl _ _).drew) (H2.out.below (Below.refl _ _).drew) HN.out HPO.out HCH.out HR.out HBB0.out).mono ?_)
  rintro e wb ⟨hv, rfl, hov, hbv⟩; obtain ⟨ga, ca, rfl⟩ := own_form hov; have hb2 : Below w2.heap.size w2 wb := ⟨hbv.os, hbv.tape, hbv.output, hbv.size, hbv.block⟩; have kC : (fun w' => (w'.cell? ⟨w.heap.size, 0, none⟩ = some (.slice p1 pl.length c1) ∧ w'.cell? ⟨w.heap.size, 1, none⟩ = some (.slice (some ⟨g, 0, none⟩) (pl.length + 1) c2)) ∧ w'.cell? ⟨pb, 0, none⟩ = some (.int .i64 b) ∧ w'.cell? ⟨pa, 0, none⟩ = some (.int .i64 (a : Int)) ∧ w'.cell? ⟨g, a, none⟩ = some (.int .i64 y)) wb := ⟨⟨(hb2.cell (lt_of_cellq t0)).trans t0, (hb2.cell (lt_of_cellq t1)).trans t1⟩, ((hb2.cell (lt_of_cellq kb0)).trans kb0), ((hb2.cell (lt_of_cellq ka)).trans ka), ((hb2.cell (lt_of_cellq ky)).trans ky)⟩; have HPW := Lib.hid (rd_of_own0 hov); go_simp; refine hK.out _ _ (by (try dsimp only); exact kC) (fun hHeld => ?_); clear hK K; (try simp only [Act.put, ptL]); refine rz1 6 rfl (fun K hK => ?_); go_simp
  (with_reducible refine (c_after_b p1 c1 pl ga ca (pl.length + 1) (mvF pl (endF p pl) b) b _ (H1.out.below hb2) HPW.out (mvF_len _ _ _) HPO.out HCM.out HRM.out HBB0.out).mono ?_)
  rintro e wc ⟨hv, rfl, hoc, hbc⟩; obtain ⟨gc, cc, rfl⟩ := own_form hoc; have hb4 : Below w2.heap.size w2 wc := hb2.trans (Below.mono ⟨hbc.os, hbc.tape, hbc.output, hbc.size, hbc.block⟩ hb2.size); have kC2 : (fun w' => (w'.cell? ⟨w.heap.size, 0, none⟩ = some (.slice p1 pl.length c1) ∧ w'.cell? ⟨w.heap.size, 1, none⟩ = some (.slice (some ⟨g, 0, none⟩) (pl.length + 1) c2)) ∧ w'.cell? ⟨pb, 0, none⟩ = some (.int .i64 b) ∧ w'.cell? ⟨pa, 0, none⟩ = some (.int .i64 (a : Int)) ∧ w'.cell? ⟨g, a, none⟩ = some (.int .i64 y)) wc := ⟨⟨(hb4.cell (lt_of_cellq t0)).trans t0, (hb4.cell (lt_of_cellq t1)).trans t1⟩, ((hb4.cell (lt_of_cellq kb0)).trans kb0), ((hb4.cell (lt_of_cellq ka)).trans ka), ((hb4.cell (lt_of_cellq ky)).trans ky)⟩; have hcv : wc.cell? ⟨gc, a, none⟩ = some (.int .i64 x) := by rw [own_cell hoc (by rw [mvF_len]; exact haL)]; rw [← HX.out]; rfl
  go_simp; refine hK.out _ _ (by (try dsimp only); exact kC2) (fun hHeld => ?_); clear hK K; (try simp only [Act.put, ptL]); refine wpAnyH_take (i := 7) (v := ?v13) rfl (by kernel_rfl) (by kernel_rfl) (by kernel_rfl) (fun _ _ _ h => h) (Or.inl ⟨by rfl, ?hy13⟩) (by assumption) ?rest13
  case hy13 => (intro w hSw; (try dsimp only at hSw); go_simp <;> (try with_reducible rfl))
  simp only [Act.put, ptL]; refine wpAnyH_take (i := 9) (v := ?v14) rfl (by kernel_rfl) (by kernel_rfl) (by kernel_rfl) (fun _ _ _ h => h) (Or.inl ⟨by rfl, ?hy14⟩) (by assumption) ?rest14
  case hy14 => (intro w hSw; (try dsimp only at hSw); go_simp <;> (try with_reducible rfl))
  simp only [Act.put, ptL]; refine rz1 10 rfl (fun K hK => ?_); go_simp; refine hK.out _ _ (by (try dsimp only); exact kC2) (fun hHeld => ?_); clear hK K; (try simp only [Act.put, ptL]); refine wpAnyH_take (i := 16) (v := ?v16) rfl (by kernel_rfl) (by kernel_rfl) (by kernel_rfl) (fun _ _ _ h => h) (Or.inl ⟨by rfl, ?hy16⟩) (by assumption) ?rest16
  case hy16 => (intro w hSw; (try dsimp only at hSw); go_simp <;> (try with_reducible rfl))
  simp only [Act.put, ptL]; refine rz1 17 rfl (fun K hK => ?_); go_simp
  (with_reducible refine (c_just v _).mono ?_)
  rintro e wd ⟨rfl, hbd⟩; have hb3 : Below w2.heap.size w2 wd := hb4.trans (Below.mono ⟨hbd.os, hbd.tape, hbd.output, hbd.size, hbd.block⟩ hb4.size); have kD : (fun w' => (w'.cell? ⟨w.heap.size, 0, none⟩ = some (.slice p1 pl.length c1) ∧ w'.cell? ⟨w.heap.size, 1, none⟩ = some (.slice (some ⟨g, 0, none⟩) (pl.length + 1) c2)) ∧ w'.cell? ⟨pb, 0, none⟩ = some (.int .i64 b) ∧ w'.cell? ⟨pa, 0, none⟩ = some (.int .i64 (a : Int)) ∧ w'.cell? ⟨g, a, none⟩ = some (.int .i64 y)) wd := ⟨⟨(hb3.cell (lt_of_cellq t0)).trans t0, (hb3.cell (lt_of_cellq t1)).trans t1⟩, ((hb3.cell (lt_of_cellq kb0)).trans kb0), ((hb3.cell (lt_of_cellq ka)).trans ka), ((hb3.cell (lt_of_cellq ky)).trans ky)⟩; obtain ⟨w4, w5, s1, s2, ⟨c0', f0⟩, ⟨c1', f1⟩, hx4, hxk, HZ5, hxb⟩ := set2 wd w1.heap.size 44 _ _ (.int .i64 v) (.int .i64 v) ((hb3.block _ (block_lt HKB.out)).trans HKB.out); obtain ⟨r0, r1⟩ := cells2 hx4; have HBB := Lib.hid (hxb w w.heap.size HZ.out (HB.out.trans (hb3.mono HB.out.size)))
  have hne : ∀ k, k < w1.heap.size → w5.heap[k]? = wd.heap[k]? := fun k hk => hxk k (by omega)
  have kE : (fun w' => (w'.cell? ⟨w.heap.size, 0, none⟩ = some (.slice p1 pl.length c1) ∧ w'.cell? ⟨w.heap.size, 1, none⟩ = some (.slice (some ⟨g, 0, none⟩) (pl.length + 1) c2)) ∧ w'.cell? ⟨pb, 0, none⟩ = some (.int .i64 b) ∧ w'.cell? ⟨pa, 0, none⟩ = some (.int .i64 (a : Int)) ∧ w'.cell? ⟨g, a, none⟩ = some (.int .i64 y)) w5 := by
    obtain ⟨⟨q0, q1⟩, qq⟩ := kD; have hz := HZL.out; refine ⟨⟨(World.cell?_of_block (hne w.heap.size hz.2.2.2)).trans q0, (World.cell?_of_block (hne w.heap.size hz.2.2.2)).trans q1⟩, ?_⟩; exact HKE.out _ _ hne qq
  go_simp; refine hK.out _ _ (by (try dsimp only); exact kD) (fun hHeld => ?_); clear hK K; (try simp only [Act.put, ptL]); refine rz1 18 rfl (fun K hK => ?_); go_simp; refine hK.out _ _ (by (try dsimp only); exact kE) (fun hHeld => ?_); clear hK K; (try simp only [Act.put, ptL]); refine wpAnyH_done (by kernel_rfl) ?_ _; clear hHeld hx4 hxk hxb hb3 hbd hb2 hb4 hbv hov hbc hoc kC kC2 kD kE hne; go_wp2; refine bodyPost_ret (v := .agg #[.int .i64 v, .int .i64 v]) ?_ rfl ⟨rfl, HBB.out⟩; simp [results, Tryz.results73, go_sem, r0, r1]
end Go.Proofs.YtlednchfifphgaaGreatDoor
end

section
namespace Go.Proofs.YtlednchfifphgaaGreatDoor
set_option linter.unusedSimpArgs false
open Go Go.RowKit Go.Proofs
set_option linter.unusedVariables false
attribute [local go_sem] imax2 imin2

set_option maxHeartbeats 6400000 in
set_option maxRecDepth 100000 in
theorem c_Comes (pm pv pr : Option Addr) (cm cv cr : Nat) (p : Pc) (n b : Int) (w : World) (hp : RdP w pm pv pr p) (hl : LenOk p) :
    Calls Tryz.prog 33 #[.agg #[.slice pm p.ms.length cm, .slice pv p.mv.length cv, .slice pr p.rs.length cr], .int .i64 n, .int .i64 b] w (SpanPost p (inB n 1 p.ms.length && inB b 0 300) (comesF p n.toNat b) w) := by
  have hmf : ∀ (fn : Fn) (first cap : Array Value) (w : World), (Instr.makeFunc fn first cap).run Tryz.prog w = .ok (.func fn first cap) w := fun _ _ _ _ => rfl
  obtain ⟨w1, e1, HS1, k0, k1, k2, b1⟩ := box3 w (.slice pm p.ms.length cm) (.slice pv p.mv.length cv) (.slice pr p.rs.length cr) 26; obtain ⟨w2, e2, HS2, n0, nf, b2⟩ := box1 w1 (.int .i64 n) 3; obtain ⟨w3, e3, HS3, m0, mf, b3⟩ := box1 w2 (.int .i64 b) 3; have kr := alloc_new w3 (.cells #[.int .i64 0, .int .i64 0] 44); obtain ⟨w4, e4, HS4, _, _, b4⟩ := box2 w3 (.int .i64 0) (.int .i64 0) 44; rw [e4] at kr; have b34 := b3.trans (b4.mono b3.size); have b24 := b2.trans (b34.mono b2.size); have b14 := b1.trans (b24.mono b1.size); have k0 := (b24.cell (lt_of_cellq k0)).trans k0; have k1 := (b24.cell (lt_of_cellq k1)).trans k1; have k2 := (b24.cell (lt_of_cellq k2)).trans k2; have n0 := (b34.cell (lt_of_cellq n0)).trans n0; have m0 := (b4.cell (lt_of_cellq m0)).trans m0; have HPW := Lib.hid (fun (W : World) (hb : Below w4.heap.size w4 W) => (hp.below b14).below hb); have HL := Lib.hid hl; have HB := Lib.hid b14
  have HKR := Lib.hid kr; have HN0 := Lib.hid n0; have HM0 := Lib.hid m0; have HZ := Lib.hid (show w.heap.size < w1.heap.size ∧ w1.heap.size < w2.heap.size ∧ w2.heap.size < w3.heap.size ∧ w3.heap.size < w4.heap.size from ⟨by have := HS1.out; omega, by have := HS2.out; omega, by have := HS3.out; omega, by have := HS4.out; omega⟩); have HSB := Lib.hid (show ∀ W, Below w4.heap.size w4 W → (fun w' => (w'.cell? ⟨w.heap.size, 0, none⟩ = some (.slice pm p.ms.length cm) ∧ w'.cell? ⟨w.heap.size, 1, none⟩ = some (.slice pv p.mv.length cv) ∧ w'.cell? ⟨w.heap.size, 2, none⟩ = some (.slice pr p.rs.length cr)) ∧ w'.cell? ⟨w1.heap.size, 0, none⟩ = some (.int .i64 n) ∧ w'.cell? ⟨w2.heap.size, 0, none⟩ = some (.int .i64 b)) W from fun W hb => ⟨⟨(hb.cell (lt_of_cellq k0)).trans k0, (hb.cell (lt_of_cellq k1)).trans k1, (hb.cell (lt_of_cellq k2)).trans k2⟩, (hb.cell (lt_of_cellq n0)).trans n0, (hb.cell (lt_of_cellq m0)).trans m0⟩)
  clear hp hl b1 b2 b3 b4 b34 b24 b14 kr
  go_enter Tryz.func33, Tryz.ntmps33
  go_upto_region 1 with (fail); clear e1 e2 e3 e4 k0 k1 k2 n0 m0; refine Code.wp_mono (Q := fun e a wz => e = .normal ∧ ∃ (bx : Nat) (qa : Option Addr) (na ca : Nat) (qb : Option Addr) (nb cb : Nat) (qc : Option Addr) (nc cc : Nat) (qd : Option Addr) (nd cd : Nat) (er : Int) (g14 g15 g16 g17 g18 : Value), a = { tmps := #[.agg #[.slice pm p.ms.length cm, .slice pv p.mv.length cv, .slice pr p.rs.length cr], .int .i64 n, .int .i64 b, .pointer (some ⟨w.heap.size, 0, none⟩), .pointer (some ⟨w1.heap.size, 0, none⟩), .pointer (some ⟨w2.heap.size, 0, none⟩), .pointer (some ⟨w3.heap.size, 0, none⟩), .int .i64 0, .pointer (some ⟨bx, 0, none⟩), .int .i64 er, .tuple #[.agg #[.slice qa na ca, .slice qb nb cb, .slice qc nc cc, .slice qd nd cd], .int .i64 er], .agg #[.slice pm p.ms.length cm, .slice pv p.mv.length cv, .slice pr p.rs.length cr], .agg #[.slice pm p.ms.length cm, .slice pv p.mv.length cv, .slice pr p.rs.length cr], .int .i64 n, g14, g15, g16, g17, g18, .tuple #[.agg #[.slice qa na ca, .slice qb nb cb, .slice qc nc cc, .slice qd nd cd], .int .i64 er], .agg #[.slice qa na ca, .slice qb nb cb, .slice qc nc cc, .slice qd nd cd], .int .i64 er, undef, undef, undef, undef, undef, undef, undef], defers := [] } ∧ Hid (wz.heap[bx]? = some (.cells #[.slice qa na ca, .slice qb nb cb, .slice qc nc cc, .slice qd nd cd] 96 (0, 0))) ∧ Hid (AskZ pm pv pr cm cv cr p (inB n 1 p.ms.length && inB b 0 300) (.slice qa na ca) (.slice qb nb cb) (.slice qc nc cc) (.slice qd nd cd) er wz) ∧ Hid (Below w4.heap.size w4 wz) ∧ Hid (w4.heap.size ≤ bx)) ?imp ?reg
  case reg =>
    rcases hF1 : inB n 1 p.ms.length with _ | _
    · skip
      refine wp_region_held_drew (S := (fun w' => (w'.cell? ⟨w.heap.size, 0, none⟩ = some (.slice pm p.ms.length cm) ∧ w'.cell? ⟨w.heap.size, 1, none⟩ = some (.slice pv p.mv.length cv) ∧ w'.cell? ⟨w.heap.size, 2, none⟩ = some (.slice pr p.rs.length cr)) ∧ w'.cell? ⟨w1.heap.size, 0, none⟩ = some (.int .i64 n) ∧ w'.cell? ⟨w2.heap.size, 0, none⟩ = some (.int .i64 b))) (by kernel_rfl) (by (try dsimp only); exact HSB.out _ (Below.refl _ _).drew) (fun hHeld => ?_); refine wpAnyH_gen (fun W0 hW0 => ?_); have HB0 : Below w4.heap.size w4 W0 := by rw [hW0]; exact (Below.refl _ _).drew
      clear hW0 hHeld; refine tj 0 rfl (by exact HSB.out _ HB0) ?_; (try simp only [Act.put, ptL]); refine tj 1 rfl (by exact HSB.out _ HB0) ?_; (try simp only [Act.put, ptL]); refine tj 2 rfl (by exact HSB.out _ HB0) ?_; (try simp only [Act.put, ptL]); refine rz2 3 12 rfl rfl ?_ ?_
      · intro K hK
        go_simp
        (with_reducible refine (c_isArbor pm pv pr cm cv cr p n 1 W0).mono ?_)
        rw [hF1]; rintro e W30 ⟨rfl, hbn⟩; have HB30 : Below w4.heap.size w4 W30 := HB0.trans (hbn.mono HB0.size); clear hbn; go_simp; refine kz hK (by exact HSB.out _ HB30) ?_; clear hK K; (try simp only [Act.put, ptL]); clear HB0; refine tj 4 rfl (by exact HSB.out _ HB30) ?_; (try simp only [Act.put, ptL]); refine wpAnyH_take (i := 5) (v := undef) rfl (by kernel_rfl) (by kernel_rfl) (by kernel_rfl) (fun _ _ _ h => by first | (exact absurd h.1 (by intro hh; cases hh)) | exact h) (Or.inr ⟨by kernel_rfl, rfl⟩) (by (try dsimp only); exact HSB.out _ HB30) ?_; (try simp only [Act.put, ptL]); refine rz2 6 12 rfl rfl ?_ ?_
        · intro K hK
          with_reducible refine unw ?hb33 ?hq33
          case hb33 => kernel_rfl
          refine kz hK (by exact HSB.out _ HB30) ?_; clear hK K; (try simp only [Act.put, ptL]); refine tj 7 rfl (by exact HSB.out _ HB30) ?_; (try simp only [Act.put, ptL]); refine rz2 8 12 rfl rfl ?_ ?_
          · intro K hK
            go_simp; obtain ⟨WA, hWA⟩ : ∃ WA, WA = W30 := ⟨_, rfl⟩
            (with_reducible refine (c_askedG pm pv pr cm cv cr p false W30 (HPW.out _ HB30) HL.out).mono ?_)
            rintro e W35 ⟨qa, na, ca, qb, nb, cb, qc, nc, cc, qd, nd, cd, er, rfl, hmk, hbn⟩; obtain ⟨WB, hWB⟩ : ∃ WB, WB = W35 := ⟨_, rfl⟩; have HQ : ∀ k, WA.heap.size ≤ k → k < WB.heap.size → W35.heap[k]? = WB.heap[k]? := fun k _ _ => by rw [hWB]
            have hqs : WB.heap.size ≤ W35.heap.size := by rw [hWB]; exact Nat.le_refl _
            rw [← hWA, ← hWB] at hmk; clear hWA hWB; have HB35 : Below w4.heap.size w4 W35 := HB30.trans (hbn.mono HB30.size); clear hbn; go_simp; refine kz hK (by exact HSB.out _ HB35) ?_; clear hK K; (try simp only [Act.put, ptL]); clear HB30; refine tj 9 rfl (by exact HSB.out _ HB35) ?_; (try simp only [Act.put, ptL]); refine tj 10 rfl (by exact HSB.out _ HB35) ?_; (try simp only [Act.put, ptL]); refine tj 11 rfl (by exact HSB.out _ HB35) ?_; (try simp only [Act.put, ptL]); refine rz1 12 rfl ?_; intro K hK; go_simp; refine kz hK (by exact HSB.out _ (HB35.alloc HB35.size _)) ?_; clear hK K; (try simp only [Act.put, ptL]); refine wpAnyH_gen (fun W39 hWn => ?_); have HB39 : Below w4.heap.size w4 W39 := by rw [hWn]; exact HB35.alloc HB35.size _
            have HQ : ∀ k, WA.heap.size ≤ k → k < WB.heap.size → W39.heap[k]? = WB.heap[k]? := fun k h1 h2 => by rw [hWn, Below.heap_alloc _ _ _ (Nat.lt_of_lt_of_le h2 hqs)]; exact HQ k h1 h2
            have hq_x : WB.heap.size ≤ W35.heap.size := hqs; have hqs : WB.heap.size ≤ W39.heap.size := by rw [hWn]; simp; omega
            have hx_x : W39.heap[W35.heap.size]? = some (.cells #[.slice none 0 0, .slice none 0 0, .slice none 0 0, .slice none 0 0] 96) := by rw [hWn]; exact alloc_new _ _
            have hl_x : w4.heap.size ≤ W35.heap.size := HB35.size; clear hWn; obtain ⟨b_x, hb_x⟩ : ∃ b, W35.heap.size = b := ⟨_, rfl⟩; rw [hb_x] at hx_x hl_x hq_x ⊢; clear HB35 hb_x; refine rz1 13 rfl ?_; intro K hK; refine set4K W39 b_x 96 _ _ _ _ (.slice qa na ca) (.slice qb nb cb) (.slice qc nc cc) (.slice qd nd cd) hx_x (fun wa40 wb40 wc40 W40 sa sb sc sd ca0 fa0 ca1 fa1 ca2 fa2 ca3 fa3 hx4 hxk HZs hxb => ?_); have HB40 : Below w4.heap.size w4 W40 := hxb w4 w4.heap.size hl_x HB39; have hx_x := hx4; have HQ : ∀ k, WA.heap.size ≤ k → k < WB.heap.size → W40.heap[k]? = WB.heap[k]? := fun k h1 h2 => (hxk k (by omega)).trans (HQ k h1 h2)
            have hqs : WB.heap.size ≤ W40.heap.size := by rw [HZs.out]; exact hqs
            clear hx4 hxk hxb HZs; go_simp; refine kz hK (by exact HSB.out _ HB40) ?_; clear hK K; (try simp only [Act.put, ptL]); clear ca0 ca1 ca2 ca3 fa0 fa1 fa2 fa3 sa sb sc sd HB39; refine tj 14 rfl (by exact HSB.out _ HB40) ?_; (try simp only [Act.put, ptL]); refine wpAnyH_done (by kernel_rfl) ?_ _; obtain ⟨wz, hwz⟩ : ∃ wz, wz = W40 := ⟨_, rfl⟩; subst hwz; have HBZ := HB40; clear HB40; exact ⟨rfl, _, _, _, _, _, _, _, _, _, _, _, _, _, _, _, _, _, _, _, rfl, Lib.hid hx_x, Lib.hid (by rw [Bool.false_and]; exact hmk.out.at HQ), Lib.hid HBZ, Lib.hid hl_x⟩
          · intro K hK
            go_simp; refine kz hK (by exact HSB.out _ (HB30.alloc HB30.size _)) ?_; clear hK K; (try simp only [Act.put, ptL]); refine wpAnyH_gen (fun W42 hWn => ?_); have HB42 : Below w4.heap.size w4 W42 := by rw [hWn]; exact HB30.alloc HB30.size _
            have hx_x : W42.heap[W30.heap.size]? = some (.cells #[.slice none 0 0, .slice none 0 0, .slice none 0 0, .slice none 0 0] 96) := by rw [hWn]; exact alloc_new _ _
            have hl_x : w4.heap.size ≤ W30.heap.size := HB30.size; clear hWn; obtain ⟨b_x, hb_x⟩ : ∃ b, W30.heap.size = b := ⟨_, rfl⟩; rw [hb_x] at hx_x hl_x ⊢; clear HB30 hb_x; refine rz1 8 rfl ?_; intro K hK; go_simp; obtain ⟨WA, hWA⟩ : ∃ WA, WA = W42 := ⟨_, rfl⟩; have hq_x : b_x < WA.heap.size := by rw [hWA]; exact block_lt hx_x
            (with_reducible refine (c_askedG pm pv pr cm cv cr p false W42 (HPW.out _ HB42) HL.out).mono ?_)
            rintro e W43 ⟨qa, na, ca, qb, nb, cb, qc, nc, cc, qd, nd, cd, er, rfl, hmk, hbn⟩; obtain ⟨WB, hWB⟩ : ∃ WB, WB = W43 := ⟨_, rfl⟩; have HQ : ∀ k, WA.heap.size ≤ k → k < WB.heap.size → W43.heap[k]? = WB.heap[k]? := fun k _ _ => by rw [hWB]
            have hqs : WB.heap.size ≤ W43.heap.size := by rw [hWB]; exact Nat.le_refl _
            rw [← hWA, ← hWB] at hmk; clear hWA hWB; have HB43 : Below w4.heap.size w4 W43 := HB42.trans (hbn.mono HB42.size); have hx_x : W43.heap[b_x]? = some (.cells #[.slice none 0 0, .slice none 0 0, .slice none 0 0, .slice none 0 0] 96) := (hbn.block _ (block_lt hx_x)).trans hx_x; clear hbn; go_simp; refine kz hK (by exact HSB.out _ HB43) ?_; clear hK K; (try simp only [Act.put, ptL]); clear HB42; refine tj 9 rfl (by exact HSB.out _ HB43) ?_; (try simp only [Act.put, ptL]); refine tj 10 rfl (by exact HSB.out _ HB43) ?_; (try simp only [Act.put, ptL]); refine tj 11 rfl (by exact HSB.out _ HB43) ?_; (try simp only [Act.put, ptL]); refine rz1 13 rfl ?_; intro K hK; refine set4K W43 b_x 96 _ _ _ _ (.slice qa na ca) (.slice qb nb cb) (.slice qc nc cc) (.slice qd nd cd) hx_x (fun wa47 wb47 wc47 W47 sa sb sc sd ca0 fa0 ca1 fa1 ca2 fa2 ca3 fa3 hx4 hxk HZs hxb => ?_); have HB47 : Below w4.heap.size w4 W47 := hxb w4 w4.heap.size hl_x HB43
            have hx_x := hx4; have HQ : ∀ k, WA.heap.size ≤ k → k < WB.heap.size → W47.heap[k]? = WB.heap[k]? := fun k h1 h2 => (hxk k (by omega)).trans (HQ k h1 h2)
            have hqs : WB.heap.size ≤ W47.heap.size := by rw [HZs.out]; exact hqs
            clear hx4 hxk hxb HZs; go_simp; refine kz hK (by exact HSB.out _ HB47) ?_; clear hK K; (try simp only [Act.put, ptL]); clear ca0 ca1 ca2 ca3 fa0 fa1 fa2 fa3 sa sb sc sd HB43; refine tj 14 rfl (by exact HSB.out _ HB47) ?_; (try simp only [Act.put, ptL]); refine wpAnyH_done (by kernel_rfl) ?_ _; obtain ⟨wz, hwz⟩ : ∃ wz, wz = W47 := ⟨_, rfl⟩; subst hwz; have HBZ := HB47; clear HB47; exact ⟨rfl, _, _, _, _, _, _, _, _, _, _, _, _, _, _, _, _, _, _, _, rfl, Lib.hid hx_x, Lib.hid (by rw [Bool.false_and]; exact hmk.out.at HQ), Lib.hid HBZ, Lib.hid hl_x⟩
        · intro K hK
          go_simp; refine kz hK (by exact HSB.out _ (HB30.alloc HB30.size _)) ?_; clear hK K; (try simp only [Act.put, ptL]); refine wpAnyH_gen (fun W49 hWn => ?_); have HB49 : Below w4.heap.size w4 W49 := by rw [hWn]; exact HB30.alloc HB30.size _
          have hx_x : W49.heap[W30.heap.size]? = some (.cells #[.slice none 0 0, .slice none 0 0, .slice none 0 0, .slice none 0 0] 96) := by rw [hWn]; exact alloc_new _ _
          have hl_x : w4.heap.size ≤ W30.heap.size := HB30.size; clear hWn; obtain ⟨b_x, hb_x⟩ : ∃ b, W30.heap.size = b := ⟨_, rfl⟩; rw [hb_x] at hx_x hl_x ⊢; clear HB30 hb_x; refine rz1 6 rfl ?_; intro K hK
          with_reducible refine unw ?hb50 ?hq50
          case hb50 => kernel_rfl
          refine kz hK (by exact HSB.out _ HB49) ?_; clear hK K; (try simp only [Act.put, ptL]); refine tj 7 rfl (by exact HSB.out _ HB49) ?_; (try simp only [Act.put, ptL]); refine rz1 8 rfl ?_; intro K hK; go_simp; obtain ⟨WA, hWA⟩ : ∃ WA, WA = W49 := ⟨_, rfl⟩; have hq_x : b_x < WA.heap.size := by rw [hWA]; exact block_lt hx_x
          (with_reducible refine (c_askedG pm pv pr cm cv cr p false W49 (HPW.out _ HB49) HL.out).mono ?_)
          rintro e W52 ⟨qa, na, ca, qb, nb, cb, qc, nc, cc, qd, nd, cd, er, rfl, hmk, hbn⟩; obtain ⟨WB, hWB⟩ : ∃ WB, WB = W52 := ⟨_, rfl⟩; have HQ : ∀ k, WA.heap.size ≤ k → k < WB.heap.size → W52.heap[k]? = WB.heap[k]? := fun k _ _ => by rw [hWB]
          have hqs : WB.heap.size ≤ W52.heap.size := by rw [hWB]; exact Nat.le_refl _
          rw [← hWA, ← hWB] at hmk; clear hWA hWB; have HB52 : Below w4.heap.size w4 W52 := HB49.trans (hbn.mono HB49.size); have hx_x : W52.heap[b_x]? = some (.cells #[.slice none 0 0, .slice none 0 0, .slice none 0 0, .slice none 0 0] 96) := (hbn.block _ (block_lt hx_x)).trans hx_x; clear hbn; go_simp; refine kz hK (by exact HSB.out _ HB52) ?_; clear hK K; (try simp only [Act.put, ptL]); clear HB49; refine tj 9 rfl (by exact HSB.out _ HB52) ?_; (try simp only [Act.put, ptL]); refine tj 10 rfl (by exact HSB.out _ HB52) ?_; (try simp only [Act.put, ptL]); refine tj 11 rfl (by exact HSB.out _ HB52) ?_; (try simp only [Act.put, ptL]); refine rz1 13 rfl ?_; intro K hK; refine set4K W52 b_x 96 _ _ _ _ (.slice qa na ca) (.slice qb nb cb) (.slice qc nc cc) (.slice qd nd cd) hx_x (fun wa56 wb56 wc56 W56 sa sb sc sd ca0 fa0 ca1 fa1 ca2 fa2 ca3 fa3 hx4 hxk HZs hxb => ?_); have HB56 : Below w4.heap.size w4 W56 := hxb w4 w4.heap.size hl_x HB52
          have hx_x := hx4; have HQ : ∀ k, WA.heap.size ≤ k → k < WB.heap.size → W56.heap[k]? = WB.heap[k]? := fun k h1 h2 => (hxk k (by omega)).trans (HQ k h1 h2)
          have hqs : WB.heap.size ≤ W56.heap.size := by rw [HZs.out]; exact hqs
          clear hx4 hxk hxb HZs; go_simp; refine kz hK (by exact HSB.out _ HB56) ?_; clear hK K; (try simp only [Act.put, ptL]); clear ca0 ca1 ca2 ca3 fa0 fa1 fa2 fa3 sa sb sc sd HB52; refine tj 14 rfl (by exact HSB.out _ HB56) ?_; (try simp only [Act.put, ptL]); refine wpAnyH_done (by kernel_rfl) ?_ _; obtain ⟨wz, hwz⟩ : ∃ wz, wz = W56 := ⟨_, rfl⟩; subst hwz; have HBZ := HB56; clear HB56; exact ⟨rfl, _, _, _, _, _, _, _, _, _, _, _, _, _, _, _, _, _, _, _, rfl, Lib.hid hx_x, Lib.hid (by rw [Bool.false_and]; exact hmk.out.at HQ), Lib.hid HBZ, Lib.hid hl_x⟩
      · intro K hK
        go_simp; refine kz hK (by exact HSB.out _ (HB0.alloc HB0.size _)) ?_; clear hK K; (try simp only [Act.put, ptL]); refine wpAnyH_gen (fun W58 hWn => ?_); have HB58 : Below w4.heap.size w4 W58 := by rw [hWn]; exact HB0.alloc HB0.size _
        have hx_x : W58.heap[W0.heap.size]? = some (.cells #[.slice none 0 0, .slice none 0 0, .slice none 0 0, .slice none 0 0] 96) := by rw [hWn]; exact alloc_new _ _
        have hl_x : w4.heap.size ≤ W0.heap.size := HB0.size; clear hWn; obtain ⟨b_x, hb_x⟩ : ∃ b, W0.heap.size = b := ⟨_, rfl⟩; rw [hb_x] at hx_x hl_x ⊢; clear HB0 hb_x; refine rz1 3 rfl ?_; intro K hK; go_simp
        (with_reducible refine (c_isArbor pm pv pr cm cv cr p n 1 W58).mono ?_)
        rw [hF1]; rintro e W59 ⟨rfl, hbn⟩; have HB59 : Below w4.heap.size w4 W59 := HB58.trans (hbn.mono HB58.size); have hx_x : W59.heap[b_x]? = some (.cells #[.slice none 0 0, .slice none 0 0, .slice none 0 0, .slice none 0 0] 96) := (hbn.block _ (block_lt hx_x)).trans hx_x; clear hbn; go_simp; refine kz hK (by exact HSB.out _ HB59) ?_; clear hK K; (try simp only [Act.put, ptL]); clear HB58; refine tj 4 rfl (by exact HSB.out _ HB59) ?_; (try simp only [Act.put, ptL]); refine wpAnyH_take (i := 5) (v := undef) rfl (by kernel_rfl) (by kernel_rfl) (by kernel_rfl) (fun _ _ _ h => by first | (exact absurd h.1 (by intro hh; cases hh)) | exact h) (Or.inr ⟨by kernel_rfl, rfl⟩) (by (try dsimp only); exact HSB.out _ HB59) ?_; (try simp only [Act.put, ptL]); refine rz1 6 rfl ?_; intro K hK
        with_reducible refine unw ?hb62 ?hq62
        case hb62 => kernel_rfl
        refine kz hK (by exact HSB.out _ HB59) ?_; clear hK K; (try simp only [Act.put, ptL]); refine tj 7 rfl (by exact HSB.out _ HB59) ?_; (try simp only [Act.put, ptL]); refine rz1 8 rfl ?_; intro K hK; go_simp; obtain ⟨WA, hWA⟩ : ∃ WA, WA = W59 := ⟨_, rfl⟩; have hq_x : b_x < WA.heap.size := by rw [hWA]; exact block_lt hx_x
        (with_reducible refine (c_askedG pm pv pr cm cv cr p false W59 (HPW.out _ HB59) HL.out).mono ?_)
        rintro e W64 ⟨qa, na, ca, qb, nb, cb, qc, nc, cc, qd, nd, cd, er, rfl, hmk, hbn⟩; obtain ⟨WB, hWB⟩ : ∃ WB, WB = W64 := ⟨_, rfl⟩; have HQ : ∀ k, WA.heap.size ≤ k → k < WB.heap.size → W64.heap[k]? = WB.heap[k]? := fun k _ _ => by rw [hWB]
        have hqs : WB.heap.size ≤ W64.heap.size := by rw [hWB]; exact Nat.le_refl _
        rw [← hWA, ← hWB] at hmk; clear hWA hWB; have HB64 : Below w4.heap.size w4 W64 := HB59.trans (hbn.mono HB59.size); have hx_x : W64.heap[b_x]? = some (.cells #[.slice none 0 0, .slice none 0 0, .slice none 0 0, .slice none 0 0] 96) := (hbn.block _ (block_lt hx_x)).trans hx_x; clear hbn; go_simp; refine kz hK (by exact HSB.out _ HB64) ?_; clear hK K; (try simp only [Act.put, ptL]); clear HB59; refine tj 9 rfl (by exact HSB.out _ HB64) ?_; (try simp only [Act.put, ptL]); refine tj 10 rfl (by exact HSB.out _ HB64) ?_; (try simp only [Act.put, ptL]); refine tj 11 rfl (by exact HSB.out _ HB64) ?_; (try simp only [Act.put, ptL]); refine rz1 13 rfl ?_; intro K hK; refine set4K W64 b_x 96 _ _ _ _ (.slice qa na ca) (.slice qb nb cb) (.slice qc nc cc) (.slice qd nd cd) hx_x (fun wa68 wb68 wc68 W68 sa sb sc sd ca0 fa0 ca1 fa1 ca2 fa2 ca3 fa3 hx4 hxk HZs hxb => ?_); have HB68 : Below w4.heap.size w4 W68 := hxb w4 w4.heap.size hl_x HB64
        have hx_x := hx4; have HQ : ∀ k, WA.heap.size ≤ k → k < WB.heap.size → W68.heap[k]? = WB.heap[k]? := fun k h1 h2 => (hxk k (by omega)).trans (HQ k h1 h2)
        have hqs : WB.heap.size ≤ W68.heap.size := by rw [HZs.out]; exact hqs
        clear hx4 hxk hxb HZs; go_simp; refine kz hK (by exact HSB.out _ HB68) ?_; clear hK K; (try simp only [Act.put, ptL]); clear ca0 ca1 ca2 ca3 fa0 fa1 fa2 fa3 sa sb sc sd HB64; refine tj 14 rfl (by exact HSB.out _ HB68) ?_; (try simp only [Act.put, ptL]); refine wpAnyH_done (by kernel_rfl) ?_ _; obtain ⟨wz, hwz⟩ : ∃ wz, wz = W68 := ⟨_, rfl⟩; subst hwz; have HBZ := HB68; clear HB68; exact ⟨rfl, _, _, _, _, _, _, _, _, _, _, _, _, _, _, _, _, _, _, _, rfl, Lib.hid hx_x, Lib.hid (by rw [Bool.false_and]; exact hmk.out.at HQ), Lib.hid HBZ, Lib.hid hl_x⟩
    refine wp_region_held_drew (S := (fun w' => (w'.cell? ⟨w.heap.size, 0, none⟩ = some (.slice pm p.ms.length cm) ∧ w'.cell? ⟨w.heap.size, 1, none⟩ = some (.slice pv p.mv.length cv) ∧ w'.cell? ⟨w.heap.size, 2, none⟩ = some (.slice pr p.rs.length cr)) ∧ w'.cell? ⟨w1.heap.size, 0, none⟩ = some (.int .i64 n) ∧ w'.cell? ⟨w2.heap.size, 0, none⟩ = some (.int .i64 b))) (by kernel_rfl) (by (try dsimp only); exact HSB.out _ (Below.refl _ _).drew) (fun hHeld => ?_); refine wpAnyH_gen (fun W0 hW0 => ?_); have HB0 : Below w4.heap.size w4 W0 := by rw [hW0]; exact (Below.refl _ _).drew
    clear hW0 hHeld; refine tj 0 rfl (by exact HSB.out _ HB0) ?_; (try simp only [Act.put, ptL]); refine tj 1 rfl (by exact HSB.out _ HB0) ?_; (try simp only [Act.put, ptL]); refine tj 2 rfl (by exact HSB.out _ HB0) ?_; (try simp only [Act.put, ptL]); refine rz2 3 12 rfl rfl ?_ ?_
    · intro K hK
      go_simp
      (with_reducible refine (c_isArbor pm pv pr cm cv cr p n 1 W0).mono ?_)
      rw [hF1]; rintro e W73 ⟨rfl, hbn⟩; have HB73 : Below w4.heap.size w4 W73 := HB0.trans (hbn.mono HB0.size); clear hbn; go_simp; refine kz hK (by exact HSB.out _ HB73) ?_; clear hK K; (try simp only [Act.put, ptL]); clear HB0; refine tj 4 rfl (by exact HSB.out _ HB73) ?_; (try simp only [Act.put, ptL]); refine tj 5 rfl (by exact HSB.out _ HB73) ?_; (try simp only [Act.put, ptL]); refine rz2 6 12 rfl rfl ?_ ?_
      · intro K hK
        go_simp
        (with_reducible refine ((c_in b 0 300 W73).mono (fun e w' h => (⟨h.1, h.2 ▸ Below.refl _ _⟩ : e = .returned (.bool (inB b 0 300)) ∧ Below (W73).heap.size (W73) w'))).mono ?_)
        rintro e W76 ⟨rfl, hbn⟩; have HB76 : Below w4.heap.size w4 W76 := HB73.trans (hbn.mono HB73.size); clear hbn; go_simp; refine kz hK (by exact HSB.out _ HB76) ?_; clear hK K; (try simp only [Act.put, ptL]); clear HB73; refine tj 7 rfl (by exact HSB.out _ HB76) ?_; (try simp only [Act.put, ptL]); refine rz2 8 12 rfl rfl ?_ ?_
        · intro K hK
          go_simp; obtain ⟨WA, hWA⟩ : ∃ WA, WA = W76 := ⟨_, rfl⟩
          (with_reducible refine (c_askedG pm pv pr cm cv cr p (inB b 0 300) W76 (HPW.out _ HB76) HL.out).mono ?_)
          rintro e W78 ⟨qa, na, ca, qb, nb, cb, qc, nc, cc, qd, nd, cd, er, rfl, hmk, hbn⟩; obtain ⟨WB, hWB⟩ : ∃ WB, WB = W78 := ⟨_, rfl⟩; have HQ : ∀ k, WA.heap.size ≤ k → k < WB.heap.size → W78.heap[k]? = WB.heap[k]? := fun k _ _ => by rw [hWB]
          have hqs : WB.heap.size ≤ W78.heap.size := by rw [hWB]; exact Nat.le_refl _
          rw [← hWA, ← hWB] at hmk; clear hWA hWB; have HB78 : Below w4.heap.size w4 W78 := HB76.trans (hbn.mono HB76.size); clear hbn; go_simp; refine kz hK (by exact HSB.out _ HB78) ?_; clear hK K; (try simp only [Act.put, ptL]); clear HB76; refine tj 9 rfl (by exact HSB.out _ HB78) ?_; (try simp only [Act.put, ptL]); refine tj 10 rfl (by exact HSB.out _ HB78) ?_; (try simp only [Act.put, ptL]); refine tj 11 rfl (by exact HSB.out _ HB78) ?_; (try simp only [Act.put, ptL]); refine rz1 12 rfl ?_; intro K hK; go_simp; refine kz hK (by exact HSB.out _ (HB78.alloc HB78.size _)) ?_; clear hK K; (try simp only [Act.put, ptL]); refine wpAnyH_gen (fun W82 hWn => ?_); have HB82 : Below w4.heap.size w4 W82 := by rw [hWn]; exact HB78.alloc HB78.size _
          have HQ : ∀ k, WA.heap.size ≤ k → k < WB.heap.size → W82.heap[k]? = WB.heap[k]? := fun k h1 h2 => by rw [hWn, Below.heap_alloc _ _ _ (Nat.lt_of_lt_of_le h2 hqs)]; exact HQ k h1 h2
          have hq_x : WB.heap.size ≤ W78.heap.size := hqs; have hqs : WB.heap.size ≤ W82.heap.size := by rw [hWn]; simp; omega
          have hx_x : W82.heap[W78.heap.size]? = some (.cells #[.slice none 0 0, .slice none 0 0, .slice none 0 0, .slice none 0 0] 96) := by rw [hWn]; exact alloc_new _ _
          have hl_x : w4.heap.size ≤ W78.heap.size := HB78.size; clear hWn; obtain ⟨b_x, hb_x⟩ : ∃ b, W78.heap.size = b := ⟨_, rfl⟩; rw [hb_x] at hx_x hl_x hq_x ⊢; clear HB78 hb_x; refine rz1 13 rfl ?_; intro K hK; refine set4K W82 b_x 96 _ _ _ _ (.slice qa na ca) (.slice qb nb cb) (.slice qc nc cc) (.slice qd nd cd) hx_x (fun wa83 wb83 wc83 W83 sa sb sc sd ca0 fa0 ca1 fa1 ca2 fa2 ca3 fa3 hx4 hxk HZs hxb => ?_); have HB83 : Below w4.heap.size w4 W83 := hxb w4 w4.heap.size hl_x HB82; have hx_x := hx4; have HQ : ∀ k, WA.heap.size ≤ k → k < WB.heap.size → W83.heap[k]? = WB.heap[k]? := fun k h1 h2 => (hxk k (by omega)).trans (HQ k h1 h2)
          have hqs : WB.heap.size ≤ W83.heap.size := by rw [HZs.out]; exact hqs
          clear hx4 hxk hxb HZs; go_simp; refine kz hK (by exact HSB.out _ HB83) ?_; clear hK K; (try simp only [Act.put, ptL]); clear ca0 ca1 ca2 ca3 fa0 fa1 fa2 fa3 sa sb sc sd HB82; refine tj 14 rfl (by exact HSB.out _ HB83) ?_; (try simp only [Act.put, ptL]); refine wpAnyH_done (by kernel_rfl) ?_ _; obtain ⟨wz, hwz⟩ : ∃ wz, wz = W83 := ⟨_, rfl⟩; subst hwz; have HBZ := HB83; clear HB83; exact ⟨rfl, _, _, _, _, _, _, _, _, _, _, _, _, _, _, _, _, _, _, _, rfl, Lib.hid hx_x, Lib.hid (by rw [Bool.true_and]; exact hmk.out.at HQ), Lib.hid HBZ, Lib.hid hl_x⟩
        · intro K hK
          go_simp; refine kz hK (by exact HSB.out _ (HB76.alloc HB76.size _)) ?_; clear hK K; (try simp only [Act.put, ptL]); refine wpAnyH_gen (fun W85 hWn => ?_); have HB85 : Below w4.heap.size w4 W85 := by rw [hWn]; exact HB76.alloc HB76.size _
          have hx_x : W85.heap[W76.heap.size]? = some (.cells #[.slice none 0 0, .slice none 0 0, .slice none 0 0, .slice none 0 0] 96) := by rw [hWn]; exact alloc_new _ _
          have hl_x : w4.heap.size ≤ W76.heap.size := HB76.size; clear hWn; obtain ⟨b_x, hb_x⟩ : ∃ b, W76.heap.size = b := ⟨_, rfl⟩; rw [hb_x] at hx_x hl_x ⊢; clear HB76 hb_x; refine rz1 8 rfl ?_; intro K hK; go_simp; obtain ⟨WA, hWA⟩ : ∃ WA, WA = W85 := ⟨_, rfl⟩; have hq_x : b_x < WA.heap.size := by rw [hWA]; exact block_lt hx_x
          (with_reducible refine (c_askedG pm pv pr cm cv cr p (inB b 0 300) W85 (HPW.out _ HB85) HL.out).mono ?_)
          rintro e W86 ⟨qa, na, ca, qb, nb, cb, qc, nc, cc, qd, nd, cd, er, rfl, hmk, hbn⟩; obtain ⟨WB, hWB⟩ : ∃ WB, WB = W86 := ⟨_, rfl⟩; have HQ : ∀ k, WA.heap.size ≤ k → k < WB.heap.size → W86.heap[k]? = WB.heap[k]? := fun k _ _ => by rw [hWB]
          have hqs : WB.heap.size ≤ W86.heap.size := by rw [hWB]; exact Nat.le_refl _
          rw [← hWA, ← hWB] at hmk; clear hWA hWB; have HB86 : Below w4.heap.size w4 W86 := HB85.trans (hbn.mono HB85.size); have hx_x : W86.heap[b_x]? = some (.cells #[.slice none 0 0, .slice none 0 0, .slice none 0 0, .slice none 0 0] 96) := (hbn.block _ (block_lt hx_x)).trans hx_x; clear hbn; go_simp; refine kz hK (by exact HSB.out _ HB86) ?_; clear hK K; (try simp only [Act.put, ptL]); clear HB85; refine tj 9 rfl (by exact HSB.out _ HB86) ?_; (try simp only [Act.put, ptL]); refine tj 10 rfl (by exact HSB.out _ HB86) ?_; (try simp only [Act.put, ptL]); refine tj 11 rfl (by exact HSB.out _ HB86) ?_; (try simp only [Act.put, ptL]); refine rz1 13 rfl ?_; intro K hK; refine set4K W86 b_x 96 _ _ _ _ (.slice qa na ca) (.slice qb nb cb) (.slice qc nc cc) (.slice qd nd cd) hx_x (fun wa90 wb90 wc90 W90 sa sb sc sd ca0 fa0 ca1 fa1 ca2 fa2 ca3 fa3 hx4 hxk HZs hxb => ?_); have HB90 : Below w4.heap.size w4 W90 := hxb w4 w4.heap.size hl_x HB86
          have hx_x := hx4; have HQ : ∀ k, WA.heap.size ≤ k → k < WB.heap.size → W90.heap[k]? = WB.heap[k]? := fun k h1 h2 => (hxk k (by omega)).trans (HQ k h1 h2)
          have hqs : WB.heap.size ≤ W90.heap.size := by rw [HZs.out]; exact hqs
          clear hx4 hxk hxb HZs; go_simp; refine kz hK (by exact HSB.out _ HB90) ?_; clear hK K; (try simp only [Act.put, ptL]); clear ca0 ca1 ca2 ca3 fa0 fa1 fa2 fa3 sa sb sc sd HB86; refine tj 14 rfl (by exact HSB.out _ HB90) ?_; (try simp only [Act.put, ptL]); refine wpAnyH_done (by kernel_rfl) ?_ _; obtain ⟨wz, hwz⟩ : ∃ wz, wz = W90 := ⟨_, rfl⟩; subst hwz; have HBZ := HB90; clear HB90; exact ⟨rfl, _, _, _, _, _, _, _, _, _, _, _, _, _, _, _, _, _, _, _, rfl, Lib.hid hx_x, Lib.hid (by rw [Bool.true_and]; exact hmk.out.at HQ), Lib.hid HBZ, Lib.hid hl_x⟩
      · intro K hK
        go_simp; refine kz hK (by exact HSB.out _ (HB73.alloc HB73.size _)) ?_; clear hK K; (try simp only [Act.put, ptL]); refine wpAnyH_gen (fun W92 hWn => ?_); have HB92 : Below w4.heap.size w4 W92 := by rw [hWn]; exact HB73.alloc HB73.size _
        have hx_x : W92.heap[W73.heap.size]? = some (.cells #[.slice none 0 0, .slice none 0 0, .slice none 0 0, .slice none 0 0] 96) := by rw [hWn]; exact alloc_new _ _
        have hl_x : w4.heap.size ≤ W73.heap.size := HB73.size; clear hWn; obtain ⟨b_x, hb_x⟩ : ∃ b, W73.heap.size = b := ⟨_, rfl⟩; rw [hb_x] at hx_x hl_x ⊢; clear HB73 hb_x; refine rz1 6 rfl ?_; intro K hK; go_simp
        (with_reducible refine ((c_in b 0 300 W92).mono (fun e w' h => (⟨h.1, h.2 ▸ Below.refl _ _⟩ : e = .returned (.bool (inB b 0 300)) ∧ Below (W92).heap.size (W92) w'))).mono ?_)
        rintro e W93 ⟨rfl, hbn⟩; have HB93 : Below w4.heap.size w4 W93 := HB92.trans (hbn.mono HB92.size); have hx_x : W93.heap[b_x]? = some (.cells #[.slice none 0 0, .slice none 0 0, .slice none 0 0, .slice none 0 0] 96) := (hbn.block _ (block_lt hx_x)).trans hx_x; clear hbn; go_simp; refine kz hK (by exact HSB.out _ HB93) ?_; clear hK K; (try simp only [Act.put, ptL]); clear HB92; refine tj 7 rfl (by exact HSB.out _ HB93) ?_; (try simp only [Act.put, ptL]); refine rz1 8 rfl ?_; intro K hK; go_simp; obtain ⟨WA, hWA⟩ : ∃ WA, WA = W93 := ⟨_, rfl⟩; have hq_x : b_x < WA.heap.size := by rw [hWA]; exact block_lt hx_x
        (with_reducible refine (c_askedG pm pv pr cm cv cr p (inB b 0 300) W93 (HPW.out _ HB93) HL.out).mono ?_)
        rintro e W95 ⟨qa, na, ca, qb, nb, cb, qc, nc, cc, qd, nd, cd, er, rfl, hmk, hbn⟩; obtain ⟨WB, hWB⟩ : ∃ WB, WB = W95 := ⟨_, rfl⟩; have HQ : ∀ k, WA.heap.size ≤ k → k < WB.heap.size → W95.heap[k]? = WB.heap[k]? := fun k _ _ => by rw [hWB]
        have hqs : WB.heap.size ≤ W95.heap.size := by rw [hWB]; exact Nat.le_refl _
        rw [← hWA, ← hWB] at hmk; clear hWA hWB; have HB95 : Below w4.heap.size w4 W95 := HB93.trans (hbn.mono HB93.size); have hx_x : W95.heap[b_x]? = some (.cells #[.slice none 0 0, .slice none 0 0, .slice none 0 0, .slice none 0 0] 96) := (hbn.block _ (block_lt hx_x)).trans hx_x; clear hbn; go_simp; refine kz hK (by exact HSB.out _ HB95) ?_; clear hK K; (try simp only [Act.put, ptL]); clear HB93; refine tj 9 rfl (by exact HSB.out _ HB95) ?_; (try simp only [Act.put, ptL]); refine tj 10 rfl (by exact HSB.out _ HB95) ?_; (try simp only [Act.put, ptL]); refine tj 11 rfl (by exact HSB.out _ HB95) ?_; (try simp only [Act.put, ptL]); refine rz1 13 rfl ?_; intro K hK; refine set4K W95 b_x 96 _ _ _ _ (.slice qa na ca) (.slice qb nb cb) (.slice qc nc cc) (.slice qd nd cd) hx_x (fun wa99 wb99 wc99 W99 sa sb sc sd ca0 fa0 ca1 fa1 ca2 fa2 ca3 fa3 hx4 hxk HZs hxb => ?_); have HB99 : Below w4.heap.size w4 W99 := hxb w4 w4.heap.size hl_x HB95
        have hx_x := hx4; have HQ : ∀ k, WA.heap.size ≤ k → k < WB.heap.size → W99.heap[k]? = WB.heap[k]? := fun k h1 h2 => (hxk k (by omega)).trans (HQ k h1 h2)
        have hqs : WB.heap.size ≤ W99.heap.size := by rw [HZs.out]; exact hqs
        clear hx4 hxk hxb HZs; go_simp; refine kz hK (by exact HSB.out _ HB99) ?_; clear hK K; (try simp only [Act.put, ptL]); clear ca0 ca1 ca2 ca3 fa0 fa1 fa2 fa3 sa sb sc sd HB95; refine tj 14 rfl (by exact HSB.out _ HB99) ?_; (try simp only [Act.put, ptL]); refine wpAnyH_done (by kernel_rfl) ?_ _; obtain ⟨wz, hwz⟩ : ∃ wz, wz = W99 := ⟨_, rfl⟩; subst hwz; have HBZ := HB99; clear HB99; exact ⟨rfl, _, _, _, _, _, _, _, _, _, _, _, _, _, _, _, _, _, _, _, rfl, Lib.hid hx_x, Lib.hid (by rw [Bool.true_and]; exact hmk.out.at HQ), Lib.hid HBZ, Lib.hid hl_x⟩
    · intro K hK
      go_simp; refine kz hK (by exact HSB.out _ (HB0.alloc HB0.size _)) ?_; clear hK K; (try simp only [Act.put, ptL]); refine wpAnyH_gen (fun W101 hWn => ?_); have HB101 : Below w4.heap.size w4 W101 := by rw [hWn]; exact HB0.alloc HB0.size _
      have hx_x : W101.heap[W0.heap.size]? = some (.cells #[.slice none 0 0, .slice none 0 0, .slice none 0 0, .slice none 0 0] 96) := by rw [hWn]; exact alloc_new _ _
      have hl_x : w4.heap.size ≤ W0.heap.size := HB0.size; clear hWn; obtain ⟨b_x, hb_x⟩ : ∃ b, W0.heap.size = b := ⟨_, rfl⟩; rw [hb_x] at hx_x hl_x ⊢; clear HB0 hb_x; refine rz1 3 rfl ?_; intro K hK; go_simp
      (with_reducible refine (c_isArbor pm pv pr cm cv cr p n 1 W101).mono ?_)
      rw [hF1]; rintro e W102 ⟨rfl, hbn⟩; have HB102 : Below w4.heap.size w4 W102 := HB101.trans (hbn.mono HB101.size); have hx_x : W102.heap[b_x]? = some (.cells #[.slice none 0 0, .slice none 0 0, .slice none 0 0, .slice none 0 0] 96) := (hbn.block _ (block_lt hx_x)).trans hx_x; clear hbn; go_simp; refine kz hK (by exact HSB.out _ HB102) ?_; clear hK K; (try simp only [Act.put, ptL]); clear HB101; refine tj 4 rfl (by exact HSB.out _ HB102) ?_; (try simp only [Act.put, ptL]); refine tj 5 rfl (by exact HSB.out _ HB102) ?_; (try simp only [Act.put, ptL]); refine rz1 6 rfl ?_; intro K hK; go_simp
      (with_reducible refine ((c_in b 0 300 W102).mono (fun e w' h => (⟨h.1, h.2 ▸ Below.refl _ _⟩ : e = .returned (.bool (inB b 0 300)) ∧ Below (W102).heap.size (W102) w'))).mono ?_)
      rintro e W105 ⟨rfl, hbn⟩; have HB105 : Below w4.heap.size w4 W105 := HB102.trans (hbn.mono HB102.size); have hx_x : W105.heap[b_x]? = some (.cells #[.slice none 0 0, .slice none 0 0, .slice none 0 0, .slice none 0 0] 96) := (hbn.block _ (block_lt hx_x)).trans hx_x; clear hbn; go_simp; refine kz hK (by exact HSB.out _ HB105) ?_; clear hK K; (try simp only [Act.put, ptL]); clear HB102; refine tj 7 rfl (by exact HSB.out _ HB105) ?_; (try simp only [Act.put, ptL]); refine rz1 8 rfl ?_; intro K hK; go_simp; obtain ⟨WA, hWA⟩ : ∃ WA, WA = W105 := ⟨_, rfl⟩; have hq_x : b_x < WA.heap.size := by rw [hWA]; exact block_lt hx_x
      (with_reducible refine (c_askedG pm pv pr cm cv cr p (inB b 0 300) W105 (HPW.out _ HB105) HL.out).mono ?_)
      rintro e W107 ⟨qa, na, ca, qb, nb, cb, qc, nc, cc, qd, nd, cd, er, rfl, hmk, hbn⟩; obtain ⟨WB, hWB⟩ : ∃ WB, WB = W107 := ⟨_, rfl⟩; have HQ : ∀ k, WA.heap.size ≤ k → k < WB.heap.size → W107.heap[k]? = WB.heap[k]? := fun k _ _ => by rw [hWB]
      have hqs : WB.heap.size ≤ W107.heap.size := by rw [hWB]; exact Nat.le_refl _
      rw [← hWA, ← hWB] at hmk; clear hWA hWB; have HB107 : Below w4.heap.size w4 W107 := HB105.trans (hbn.mono HB105.size); have hx_x : W107.heap[b_x]? = some (.cells #[.slice none 0 0, .slice none 0 0, .slice none 0 0, .slice none 0 0] 96) := (hbn.block _ (block_lt hx_x)).trans hx_x; clear hbn; go_simp; refine kz hK (by exact HSB.out _ HB107) ?_; clear hK K; (try simp only [Act.put, ptL]); clear HB105; refine tj 9 rfl (by exact HSB.out _ HB107) ?_; (try simp only [Act.put, ptL]); refine tj 10 rfl (by exact HSB.out _ HB107) ?_; (try simp only [Act.put, ptL]); refine tj 11 rfl (by exact HSB.out _ HB107) ?_; (try simp only [Act.put, ptL]); refine rz1 13 rfl ?_; intro K hK; refine set4K W107 b_x 96 _ _ _ _ (.slice qa na ca) (.slice qb nb cb) (.slice qc nc cc) (.slice qd nd cd) hx_x (fun wa111 wb111 wc111 W111 sa sb sc sd ca0 fa0 ca1 fa1 ca2 fa2 ca3 fa3 hx4 hxk HZs hxb => ?_); have HB111 : Below w4.heap.size w4 W111 := hxb w4 w4.heap.size hl_x HB107
      have hx_x := hx4; have HQ : ∀ k, WA.heap.size ≤ k → k < WB.heap.size → W111.heap[k]? = WB.heap[k]? := fun k h1 h2 => (hxk k (by omega)).trans (HQ k h1 h2)
      have hqs : WB.heap.size ≤ W111.heap.size := by rw [HZs.out]; exact hqs
      clear hx4 hxk hxb HZs; go_simp; refine kz hK (by exact HSB.out _ HB111) ?_; clear hK K; (try simp only [Act.put, ptL]); clear ca0 ca1 ca2 ca3 fa0 fa1 fa2 fa3 sa sb sc sd HB107; refine tj 14 rfl (by exact HSB.out _ HB111) ?_; (try simp only [Act.put, ptL]); refine wpAnyH_done (by kernel_rfl) ?_ _; obtain ⟨wz, hwz⟩ : ∃ wz, wz = W111 := ⟨_, rfl⟩; subst hwz; have HBZ := HB111; clear HB111; exact ⟨rfl, _, _, _, _, _, _, _, _, _, _, _, _, _, _, _, _, _, _, _, rfl, Lib.hid hx_x, Lib.hid (by rw [Bool.true_and]; exact hmk.out.at HQ), Lib.hid HBZ, Lib.hid hl_x⟩
  case imp =>
    rintro e a wz ⟨rfl, bx, qa, na, ca, qb, nb, cb, qc, nc, cc, qd, nd, cd, er, g14, g15, g16, g17, g18, rfl, HX, HAZ, HBZ, HLX⟩
    rcases HAZ.out with ⟨hf, rfl, ea, eb, ec, ed⟩ | ⟨hf, ht, rfl, ea, eb, ec, ed⟩ | ⟨hpo, hfi, ht, rfl, ea, eb, ec, g, cap, ed, hq⟩
    all_goals
      obtain ⟨rfl, rfl, rfl⟩ := sl_inj ea; obtain ⟨rfl, rfl, rfl⟩ := sl_inj eb; obtain ⟨rfl, rfl, rfl⟩ := sl_inj ec; obtain ⟨rfl, rfl, rfl⟩ := sl_inj ed; clear ea eb ec ed
    · have HF := Lib.hid hf
      have hkz := (HBZ.out.block _ (block_lt HKR.out)).trans HKR.out; obtain ⟨w4, w5, s1, s2, ⟨c0', f0⟩, ⟨c1', f1⟩, hx4, hxk, HZ5, hxb⟩ := set2 wz w3.heap.size 44 _ _ (.int .i64 0) (.int .i64 0) hkz; obtain ⟨r0, r1⟩ := cells2 hx4; have HBB := Lib.hid (hxb w w.heap.size (by have := HZ.out; omega) (HB.out.trans (HBZ.out.mono HB.out.size))); clear hx4 hxk hxb hkz hf; go_wp2; refine bodyPost_ret (v := .tuple #[.agg #[.int .i64 0, .int .i64 0], .int .i64 2]) ?_ rfl ⟨?_, HBB.out⟩
      · simp [results, Tryz.results33, go_sem, r0, r1]
      · exact ans_bad HF.out
    · have HF := Lib.hid (And.intro hf ht)
      have hkz := (HBZ.out.block _ (block_lt HKR.out)).trans HKR.out; obtain ⟨w4, w5, s1, s2, ⟨c0', f0⟩, ⟨c1', f1⟩, hx4, hxk, HZ5, hxb⟩ := set2 wz w3.heap.size 44 _ _ (.int .i64 0) (.int .i64 0) hkz; obtain ⟨r0, r1⟩ := cells2 hx4; have HBB := Lib.hid (hxb w w.heap.size (by have := HZ.out; omega) (HB.out.trans (HBZ.out.mono HB.out.size))); clear hx4 hxk hxb hkz hf ht; go_wp2; refine bodyPost_ret (v := .tuple #[.agg #[.int .i64 0, .int .i64 0], .int .i64 7]) ?_ rfl ⟨?_, HBB.out⟩
      · simp [results, Tryz.results33, go_sem, r0, r1]
      · exact ans_rule HF.out.1 HF.out.2
    · rw [Bool.and_eq_true] at hfi
      obtain ⟨a, rfl⟩ : ∃ a : Nat, n = (a : Int) := ⟨n.toNat, by have := inB_iff.1 hfi.1; omega⟩; have ha := inB_iff.1 hfi.1; have hb3 := inB_iff.1 hfi.2; have hT := truths_le hpo; have hn0 := (HBZ.out.cell (lt_of_cellq HN0.out)).trans HN0.out; have hm0 := (HBZ.out.cell (lt_of_cellq HM0.out)).trans HM0.out; obtain ⟨x0, x1, x2, x3⟩ := cells4 HX.out
      have hov := over_gen 73 #[.pointer (some ⟨w2.heap.size, 0, none⟩), .pointer (some ⟨w1.heap.size, 0, none⟩)] (enters_of Tryz.func73 (by kernel_rfl) rfl) pm pv pr cm cv cr p (some ⟨g, 0, none⟩) cap (truthsF p) wz (comeV p a b) hq (by omega) (fun W i p1 p2 c1 c2 hb hk hl1 h1 h2 hl2 hcc hpp =>
        c1_comes p (gl (truthsF p) i) p1 p2 c1 c2 w2.heap.size w1.heap.size a b W hpo (truth_plays hpo (gl_mem hk)) h1 h2 hpp ((hb.cell (lt_of_cellq hm0)).trans hm0) ((hb.cell (lt_of_cellq hn0)).trans hn0) (by omega) (by omega))
      have hfi : (inB (a : Int) 1 p.ms.length && inB b 0 300) = true := by rw [hfi.1, hfi.2]; rfl
      rw [ovTo_all] at hov; have HF := Lib.hid (And.intro (pieceB_iff.2 hpo) (And.intro hfi ht)); have HBY := Lib.hid (HB.out.trans (HBZ.out.mono HB.out.size)); have HKZ := Lib.hid ((HBZ.out.block _ (block_lt HKR.out)).trans HKR.out); clear hq hpo hfi ht hT hn0 hm0 ha hb3 HSB HPW; go_wp2_with fail; refine hov.mono ?_; clear hov; rintro e w6 ⟨rfl, b6⟩; have hkz := (b6.block _ (block_lt HKZ.out)).trans HKZ.out; obtain ⟨w7, w8, s1, s2, ⟨c0', f0⟩, ⟨c1', f1⟩, hx4, hxk, HZ5, hxb⟩ := set2 w6 w3.heap.size 44 _ _ (.int .i64 (ovF p (comeV p a b)).1) (.int .i64 (ovF p (comeV p a b)).2) hkz; obtain ⟨r0, r1⟩ := cells2 hx4; have HBB := Lib.hid (hxb w w.heap.size (by have := HZ.out; omega) (HBY.out.trans (b6.mono HBY.out.size))); clear hx4 hxk hxb hkz b6; go_wp2; refine bodyPost_ret (v := .tuple #[.agg #[.int .i64 (ovF p (comeV p a b)).1, .int .i64 (ovF p (comeV p a b)).2], .int .i64 0]) ?_ rfl ⟨?_, HBB.out⟩
      · simp [results, Tryz.results33, go_sem, r0, r1]
      · exact ans_good HF.out.1 HF.out.2.1 HF.out.2.2
end Go.Proofs.YtlednchfifphgaaGreatDoor
end

section
namespace Go.Proofs.YtlednchfifphgaaGreatDoor
open Go Go.RowKit Go.Proofs
set_option linter.unusedVariables false
set_option linter.unusedSimpArgs false
attribute [local go_sem] imax2 imin2

set_option maxHeartbeats 6400000 in
set_option maxRecDepth 100000 in
theorem law_Returns (pm pv pr : Option Addr) (cm cv cr : Nat) (p : Pc) (q : Option Addr) (cq : Nat) (pl : List Int) (n b : Int) (m : Int) (w : World) (hp : RdP w pm pv pr p) (hq : RdI w q pl) (hm : MaxL m w) (hi : ItoaG w) :
    Calls Tryz.prog 9 #[.agg #[.slice pm p.ms.length cm, .slice pv p.mv.length cv, .slice pr p.rs.length cr], .slice q pl.length cq, .int .i64 n, .int .i64 b] w (LawPost w) := by
  obtain ⟨w1, e1, HS1, k0, k1, k2, b1⟩ := box3 w (.slice pm p.ms.length cm) (.slice pv p.mv.length cv) (.slice pr p.rs.length cr) 26; have HP := Lib.hid (hp.below b1); have HQ := Lib.hid (hq.below b1); have HM := Lib.hid hm; have HI := Lib.hid hi; have HB := Lib.hid b1; clear hp hq hm hi b1
  go_enter Tryz.func9, Tryz.ntmps9
  (go_wp2_with fail); refine (c_short pm pv pr cm cv cr p _).mono ?_
  clear e1
  rcases hs : shortB p with _ | _
  · rintro e wn ⟨rfl, bq⟩; replace HB := Lib.hid (HB.out.trans (bq.mono HB.out.size)); clear bq
    (go_wp2_with fail); refine (c_known m _ (HM.out.below HB.out) (HI.out.below HB.out)).mono ?_; rintro e wn ⟨rfl, bq⟩; have HFK := Lib.hid (HB.out.trans (bq.mono HB.out.size)); clear bq; go_wp2; go_ret; exact ⟨rfl, HFK.out⟩
  rintro e wn ⟨rfl, bq⟩; replace HB := Lib.hid (HB.out.trans (bq.mono HB.out.size)); replace HP := Lib.hid (HP.out.below bq); replace HQ := Lib.hid (HQ.out.below bq); have k0 := (bq.cell (lt_of_cellq k0)).trans k0; have k1 := (bq.cell (lt_of_cellq k1)).trans k1; have k2 := (bq.cell (lt_of_cellq k2)).trans k2; clear bq; have HLN := Lib.hid (short_len hs); clear hs
  by_cases h6 : pl.length ≤ 6
  case neg =>
    have h6' : (pl.length : Int) > 6 := by omega
    (go_wp2_with fail); refine (c_known m _ (HM.out.below HB.out) (HI.out.below HB.out)).mono ?_; rintro e wn ⟨rfl, bq⟩; have HFK := Lib.hid (HB.out.trans (bq.mono HB.out.size)); clear bq; go_wp2; go_ret; exact ⟨rfl, HFK.out⟩
  have h6' : decide ((pl.length : Int) > 6) = false := decide_eq_false (by omega)
  (go_wp2_with fail); refine (r_Piece pm pv pr cm cv cr p _ HP.out HLN.out).mono ?_
  rcases h1 : pieceB p with _ | _
  · rintro e wn ⟨rfl, bq⟩; replace HB := Lib.hid (HB.out.trans (bq.mono HB.out.size)); clear bq
    (go_wp2_with fail); refine (c_known m _ (HM.out.below HB.out) (HI.out.below HB.out)).mono ?_; rintro e wn ⟨rfl, bq⟩; have HFK := Lib.hid (HB.out.trans (bq.mono HB.out.size)); clear bq; go_wp2; go_ret; exact ⟨rfl, HFK.out⟩
  rintro e wn ⟨rfl, bq⟩; replace HB := Lib.hid (HB.out.trans (bq.mono HB.out.size)); replace HP := Lib.hid (HP.out.below bq); replace HQ := Lib.hid (HQ.out.below bq); have k0 := (bq.cell (lt_of_cellq k0)).trans k0; have k1 := (bq.cell (lt_of_cellq k1)).trans k1; have k2 := (bq.cell (lt_of_cellq k2)).trans k2; clear bq
  (go_wp2_with fail); refine (r_Plays pm pv pr cm cv cr p q cq pl _ HQ.out (by omega)).mono ?_
  rcases h2 : playsB p pl with _ | _
  · rintro e wn ⟨rfl, bq⟩; replace HB := Lib.hid (HB.out.trans (bq.mono HB.out.size)); clear bq
    (go_wp2_with fail); refine (c_known m _ (HM.out.below HB.out) (HI.out.below HB.out)).mono ?_; rintro e wn ⟨rfl, bq⟩; have HFK := Lib.hid (HB.out.trans (bq.mono HB.out.size)); clear bq; go_wp2; go_ret; exact ⟨rfl, HFK.out⟩
  rintro e wn ⟨rfl, bq⟩; replace HB := Lib.hid (HB.out.trans (bq.mono HB.out.size)); replace HP := Lib.hid (HP.out.below bq); replace HQ := Lib.hid (HQ.out.below bq); have k0 := (bq.cell (lt_of_cellq k0)).trans k0; have k1 := (bq.cell (lt_of_cellq k1)).trans k1; have k2 := (bq.cell (lt_of_cellq k2)).trans k2; clear bq; have HPO := Lib.hid (pieceB_iff.1 h1); have HPL := Lib.hid (playsB_iff.1 h2); have HP1 := Lib.hid h1; clear h1 h2
  (go_wp2_with fail); refine (r_Fits pm pv pr cm cv cr p q cq pl _ HP.out HQ.out HPO.out HPL.out).mono ?_
  rcases h3 : fitsB p pl with _ | _
  · rintro e wn ⟨rfl, bq⟩; replace HB := Lib.hid (HB.out.trans (bq.mono HB.out.size)); clear bq
    (go_wp2_with fail); refine (c_known m _ (HM.out.below HB.out) (HI.out.below HB.out)).mono ?_; rintro e wn ⟨rfl, bq⟩; have HFK := Lib.hid (HB.out.trans (bq.mono HB.out.size)); clear bq; go_wp2; go_ret; exact ⟨rfl, HFK.out⟩
  rintro e wn ⟨rfl, bq⟩; replace HB := Lib.hid (HB.out.trans (bq.mono HB.out.size)); replace HP := Lib.hid (HP.out.below bq); replace HQ := Lib.hid (HQ.out.below bq); have k0 := (bq.cell (lt_of_cellq k0)).trans k0; have k1 := (bq.cell (lt_of_cellq k1)).trans k1; have k2 := (bq.cell (lt_of_cellq k2)).trans k2; clear bq; have HF := Lib.hid h3; have HMT := Lib.hid (show pl ∈ truthsF p from mem_truthsF.2 ⟨HPL.out.len, h3⟩); have HT := Lib.hid (ne_of_mem HMT.out); clear h3
  (go_wp2_with fail); refine (r_Last pm cm p.ms.length _ _ n _).mono ?_
  rcases h4 : inB n 1 p.ms.length with _ | _
  · rintro e wn ⟨rfl, bq⟩; replace HB := Lib.hid (HB.out.trans (bq.mono HB.out.size)); clear bq
    (go_wp2_with fail); refine (c_known m _ (HM.out.below HB.out) (HI.out.below HB.out)).mono ?_; rintro e wn ⟨rfl, bq⟩; have HFK := Lib.hid (HB.out.trans (bq.mono HB.out.size)); clear bq; go_wp2; go_ret; exact ⟨rfl, HFK.out⟩
  rintro e wn ⟨rfl, bq⟩; replace HB := Lib.hid (HB.out.trans (bq.mono HB.out.size)); replace HP := Lib.hid (HP.out.below bq); replace HQ := Lib.hid (HQ.out.below bq); have k0 := (bq.cell (lt_of_cellq k0)).trans k0; have k1 := (bq.cell (lt_of_cellq k1)).trans k1; have k2 := (bq.cell (lt_of_cellq k2)).trans k2; clear bq; obtain ⟨a, rfl⟩ : ∃ a : Nat, n = (a : Int) := ⟨n.toNat, by have := inB_iff.1 h4; omega⟩; have HAL := Lib.hid (show a ≤ p.ms.length by have := inB_iff.1 h4; omega); have HIS := Lib.hid h4; clear h4
  by_cases h7 : p.mv.length ≤ 4
  case neg =>
    have h7' : decide ((p.mv.length : Int) > 4) = true := decide_eq_true (by omega); have h7b : (4 : Int) < (p.mv.length : Int) := by omega
    (go_wp2_with fail); refine (c_known m _ (HM.out.below HB.out) (HI.out.below HB.out)).mono ?_; rintro e wn ⟨rfl, bq⟩; have HFK := Lib.hid (HB.out.trans (bq.mono HB.out.size)); clear bq; go_wp2; go_ret; exact ⟨rfl, HFK.out⟩
  have h7' : decide ((p.mv.length : Int) > 4) = false := decide_eq_false (by omega)
  by_cases hm0 : b < 0
  · (go_wp2_with fail); refine (c_known m _ (HM.out.below HB.out) (HI.out.below HB.out)).mono ?_; rintro e wn ⟨rfl, bq⟩; have HFK := Lib.hid (HB.out.trans (bq.mono HB.out.size)); clear bq; go_wp2; go_ret; exact ⟨rfl, HFK.out⟩
  have hm0' : decide (b < 0) = false := decide_eq_false hm0
  by_cases hml : b > 300
  · (go_wp2_with fail); refine (c_known m _ (HM.out.below HB.out) (HI.out.below HB.out)).mono ?_; rintro e wn ⟨rfl, bq⟩; have HFK := Lib.hid (HB.out.trans (bq.mono HB.out.size)); clear bq; go_wp2; go_ret; exact ⟨rfl, HFK.out⟩
  have hml' : decide (b > 300) = false := decide_eq_false hml; have HMR := Lib.hid (show 0 ≤ b ∧ b ≤ 300 by omega); have HML := Lib.hid h7; obtain ⟨L0, hL0⟩ : ∃ x, (comesF p a b).1 = x := ⟨_, rfl⟩; obtain ⟨L1, hL1⟩ : ∃ x, (comesF p a b).2 = x := ⟨_, rfl⟩
  have HK1 := Lib.hid (fun W (h : RdP W pm pv pr p) => show Calls Tryz.prog 33 #[.agg #[.slice pm p.ms.length cm, .slice pv p.mv.length cv, .slice pr p.rs.length cr], .int .i64 (a : Int), .int .i64 b] W fun e w' => e = .returned (.tuple #[.agg #[.int .i64 L0, .int .i64 L1], .int .i64 0]) ∧ Below W.heap.size W w' by
    have hh := c_Comes pm pv pr cm cv cr p a b W h HLN.out; have he : errF p (inB (a : Int) 1 p.ms.length && inB b 0 300) = 0 := err_good HP1.out (by rw [HIS.out, inB_iff.2 HMR.out]; rfl) HT.out; unfold SpanPost AnsS okI at hh; simp only [if_pos he, he, Int.toNat_natCast, hL0, hL1] at hh; exact hh)
  have hap : a ≤ pl.length := by rw [HPL.out.len]; exact HAL.out
  obtain ⟨lp0, lp1, lp2⟩ := comes_plain HPO.out HT.out a HAL.out HMR.out.1; have HCT := Lib.hid (comes_true HMT.out a b); have HCR := Lib.hid (comes_range HPL.out.pos (end_chain (p := p) HPL.out.pos) HMR.out.1 a hap); have HTW := Lib.hid (toFro_twice HPL.out.pos (end_chain (p := p) HPL.out.pos) HMR.out.1); have HR0 := Lib.hid (place_range HPO.out HPL.out p.mv.length a (Nat.le_refl _) hap); have HRZ := Lib.hid (place_range HPO.out HPL.out p.mv.length 0 (Nat.le_refl _) (Nat.zero_le _)); rw [hL0] at lp0 lp1 HCT; rw [hL1] at lp1 lp2 HCT; have t0 : decide (L0 < 0) = false := decide_eq_false (by omega); have t2 : decide (L0 > L1) = false := decide_eq_false (by omega); have t2b : decide (L1 < L0) = false := decide_eq_false (by omega); have hwb : IntKind.i64.wrap (-b) = -b := w64 _ (by omega) (by omega); clear hL0 hL1 hm0 hml h7 lp0 lp1 lp2
  (go_wp2_with fail); refine (HK1.out _ HP.out).mono ?_
  rintro e wn ⟨rfl, bq⟩; replace HB := Lib.hid (HB.out.trans (bq.mono HB.out.size)); replace HP := Lib.hid (HP.out.below bq); replace HQ := Lib.hid (HQ.out.below bq); have k0 := (bq.cell (lt_of_cellq k0)).trans k0; have k1 := (bq.cell (lt_of_cellq k1)).trans k1; have k2 := (bq.cell (lt_of_cellq k2)).trans k2; clear bq; obtain ⟨x2, e2, HSx, r0, r1, bq⟩ := box2 wn (.int .i64 L0) (.int .i64 L1) 44; go_upto_region 4 with (fail); clear e2
  skip; replace HB := Lib.hid (HB.out.trans (bq.mono HB.out.size)); replace HP := Lib.hid (HP.out.below bq); replace HQ := Lib.hid (HQ.out.below bq); have k0 := (bq.cell (lt_of_cellq k0)).trans k0; have k1 := (bq.cell (lt_of_cellq k1)).trans k1; have k2 := (bq.cell (lt_of_cellq k2)).trans k2; clear bq
  obtain ⟨xa, ea, HSa, g0, g1, g2, g3, bq⟩ := box4 x2 (.int .i64 b) (.int .i64 (-b)) (.int .i64 b) (.int .i64 (-b)) 3
  have hmr : RdI xa (some ⟨x2.heap.size, 0, none⟩) [b, -b, b, -b] := .inr ⟨x2.heap.size, 0, rfl, fun i hi => by
    have hi' : i < 4 := hi
    rcases (show i = 0 ∨ i = 1 ∨ i = 2 ∨ i = 3 by omega) with rfl | rfl | rfl | rfl
    · exact g0
    · exact g1
    · exact g2
    · exact g3⟩
  have HMO := Lib.hid hmr; clear hmr g0 g1 g2 g3
  skip; replace HB := Lib.hid (HB.out.trans (bq.mono HB.out.size)); replace HP := Lib.hid (HP.out.below bq); replace HQ := Lib.hid (HQ.out.below bq); have k0 := (bq.cell (lt_of_cellq k0)).trans k0; have k1 := (bq.cell (lt_of_cellq k1)).trans k1; have k2 := (bq.cell (lt_of_cellq k2)).trans k2; have r0 := (bq.cell (lt_of_cellq r0)).trans r0; have r1 := (bq.cell (lt_of_cellq r1)).trans r1; clear bq
  have HON := Lib.hid (show Calls Tryz.prog 32 #[.agg #[.slice pm p.ms.length cm, .slice pv p.mv.length cv, .slice pr p.rs.length cr], .slice (some ⟨x2.heap.size, 0, none⟩) 4 4] xa (OnPost pm pr cm cr p [b, -b, b, -b] xa) from r_On pm pv pr cm cv cr p _ 4 [b, -b, b, -b] xa HP.out HMO.out (by have := HML.out; omega) (by simp))
  (go_wp2_with fail); refine HON.out.mono ?_
  clear ea; rintro e wn ⟨pv2, cv2, rfl, hr2, bq⟩; have HP2 := Lib.hid hr2; clear hr2 HON HMO
  skip; replace HB := Lib.hid (HB.out.trans (bq.mono HB.out.size)); replace HQ := Lib.hid (HQ.out.below bq); have k0 := (bq.cell (lt_of_cellq k0)).trans k0; have k1 := (bq.cell (lt_of_cellq k1)).trans k1; have k2 := (bq.cell (lt_of_cellq k2)).trans k2; have r0 := (bq.cell (lt_of_cellq r0)).trans r0; have r1 := (bq.cell (lt_of_cellq r1)).trans r1; clear bq
  have HOK := Lib.hid (on_ok (l := [b, -b, b, -b]) HPO.out HPL.out (within_of_fits HF.out) (by have := HML.out; simp; omega) (fun i hi => by
    have hi' : i < 4 := hi; have := HMR.out
    rcases (show i = 0 ∨ i = 1 ∨ i = 2 ∨ i = 3 by omega) with rfl | rfl | rfl | rfl <;> (simp [gi]; omega)))
  (go_wp2_with fail); refine (c_lrun pm pv2 pr cm cv2 cr (onF p [b, -b, b, -b]) q cq pl _ HP2.out HQ.out HOK.out).mono ?_
  rintro e wn ⟨⟨g, cg, rfl, hrl⟩, bq⟩; have HRL := Lib.hid hrl; clear hrl HP2 HOK
  skip; replace HB := Lib.hid (HB.out.trans (bq.mono HB.out.size)); have k0 := (bq.cell (lt_of_cellq k0)).trans k0; have k1 := (bq.cell (lt_of_cellq k1)).trans k1; have k2 := (bq.cell (lt_of_cellq k2)).trans k2; have r0 := (bq.cell (lt_of_cellq r0)).trans r0; have r1 := (bq.cell (lt_of_cellq r1)).trans r1; clear bq
  rw [onF_len, show ([b, -b, b, -b] : List Int).length = 4 from rfl] at HRL; rw [onF_len, show ([b, -b, b, -b] : List Int).length = 4 from rfl]; have hl0 : (((p.mv.length : Int) + 4 + 1) == 0) = false := by rw [beq_eq_false_iff_ne]; omega
  have hl1 : (((p.mv.length + 4 + 1 : Nat) : Int) == 0) = false := by rw [beq_eq_false_iff_ne]; omega
  have hrow : ∀ i, i ≤ p.mv.length + 4 → gl (allF pl (onF p [b, -b, b, -b]).mv (p.mv.length + 4)) i = runF pl (onF p [b, -b, b, -b]).mv i := fun i hi => allF_at _ _ _ _ hi
  have hlen : ∀ i, (runF pl (onF p [b, -b, b, -b]).mv i).length = pl.length + 1 := fun i => (runF_chain HPL.out.pos _ i).len
  obtain ⟨bx, off, hb, hc⟩ := HRL.out.at (i := 0) (by rw [allF_len]; omega)
  cases hb
  obtain ⟨qa, ca, y0, ya⟩ := hc p.mv.length (by rw [allF_len]; omega); obtain ⟨qb, cb, y1, yb⟩ := hc (p.mv.length + 2) (by rw [allF_len]; omega); obtain ⟨qc, cc, y2, yc⟩ := hc (p.mv.length + 4) (by rw [allF_len]; omega); rw [hrow _ (by omega), hlen, Nat.zero_add] at y0; rw [hrow _ (by omega), hlen, Nat.zero_add] at y1; rw [hrow _ (by omega), hlen, Nat.zero_add] at y2; rw [hrow _ (by omega)] at ya yb yc; have hl2 := hlen (p.mv.length + 2); obtain ⟨hf1, hf2⟩ := onF_four p b pl; obtain ⟨ba, oa, rfl, hca⟩ := ya.at (i := a) (by rw [hlen]; omega); obtain ⟨bb, ob, rfl, hcb⟩ := yb.at (i := a) (by rw [hlen]; omega); have za := hca a (by rw [hlen]; omega); have zb := hcb a (by rw [hlen]; omega); rw [onF_run p [b, -b, b, -b] pl _ (Nat.le_refl _)] at za; rw [hf1] at zb yb hl2; rw [hf2, HTW.out] at yc; have HYB := Lib.hid yb; have HYC := Lib.hid yc; have HL2 := Lib.hid hl2; have HKS := Lib.hid (show (p.mv.length : Int) + 2 = ((p.mv.length + 2 : Nat) : Int) by omega)
  have HKF := Lib.hid (show (p.mv.length : Int) + 4 = ((p.mv.length + 4 : Nat) : Int) by omega); have hr0 : -2800 ≤ gi (runF pl p.mv p.mv.length) a ∧ gi (runF pl p.mv p.mv.length) a ≤ 2400 := HR0.out; have hrz : -2800 ≤ gi (endF p pl) 0 ∧ gi (endF p pl) 0 ≤ 2400 := HRZ.out; have hct := HCT.out; have hcr := HCR.out; have hbe : behF (endF p pl) a = gi (endF p pl) 0 - gi (endF p pl) a := rfl; have hE : gi (endF p pl) a = gi (runF pl p.mv p.mv.length) a := rfl; rw [hbe] at hcr; rw [hE] at hct hcr; obtain ⟨E0, hE0⟩ : ∃ x, gi (runF pl p.mv p.mv.length) a = x := ⟨_, rfl⟩; obtain ⟨E1, hE1⟩ : ∃ x, gi (toFro pl (endF p pl) b) a = x := ⟨_, rfl⟩; rw [hE0] at za hr0 hct hcr; rw [hE1] at zb hct hcr; have hml4 := HML.out; have hw1 : IntKind.i64.wrap (E1 - E0) = E1 - E0 := w64 _ (by omega) (by omega); have hwl : IntKind.i64.wrap ((p.mv.length : Int) + 2) = (p.mv.length : Int) + 2 := w64 _ (by omega) (by omega)
  have hwm : IntKind.i64.wrap ((p.mv.length : Int) + 4) = (p.mv.length : Int) + 4 := w64 _ (by omega) (by omega); have hap1 : (a : Int) < (pl.length : Int) + 1 := by omega
  have hap0 : (0 : Int) ≤ (a : Int) := by omega
  have HF1 := Lib.hid (show decide (E1 - E0 ≥ L0) = true from decide_eq_true (by omega)); have HF2 := Lib.hid (show decide (E1 - E0 ≤ L1) = true from decide_eq_true (by omega)); have hpl6 := h6; clear hbe hE hE0 hE1 hc hca hcb ya yb yc hrow hlen hr0 hrz hct hcr hl2 hf1 hf2 HRL; go_wp2; refine wp_region_quiet_lit (by kernel_rfl) (by kernel_rfl) ?_; (repeat (first | (rw [HKS.out]) | ((with_reducible first | apply wq_ix Tryz.underlying23 szI | apply wq_ix Tryz.underlying34 szSp | apply wq_ix Tryz.underlying22 szM | apply wq_ix Tryz.underlying24 szR | apply wq_ix Tryz.underlying30 szL | apply wq_ix Tryz.underlying94 szT); (focus rfl); (focus rfl); (focus rfl); (focus omega); (try simp only [Nat.mul_one]); go_frame) | ((with_reducible first | apply wq_ld agI | apply wq_ld agB | apply wq_ld agLI | apply wq_ld agLS | apply wq_ld agLM | apply wq_ld agLR | apply wq_ld agLL | apply wq_ld agLT); (focus rfl); (focus rfl); (focus (rintro _ ⟨_, rfl⟩; first | exact y0 | exact y1 | exact za | exact zb)); go_frame) | ((with_reducible first | apply wq_add | apply wq_sub | apply wq_mul | apply wq_rem); (focus rfl); (focus rfl); (focus rfl); (focus omega); (focus omega); go_frame) | ((with_reducible first | apply wq_eql | apply wq_neq | apply wq_lss | apply wq_leq | apply wq_gtr | apply wq_geq | apply wq_max2 | apply wq_min2); (focus rfl); (focus rfl); (focus rfl); go_frame) | ((with_reducible first | apply wq_max3 | apply wq_min3); (focus rfl); (focus rfl); (focus rfl); (focus rfl); go_frame) | go_big_quiet_step (fail))); refine wpQuiet_nil ?_; rintro _ ⟨nq, rfl⟩
  obtain ⟨BY, hBY⟩ : ∃ x, E1 - E0 = x := ⟨_, rfl⟩; have f1 := HF1.out; have f2 := HF2.out; rw [hBY] at f1 f2 ⊢; clear hBY hw1; replace HB := Lib.hid (show Below w.heap.size w (wn.drewN nq) from below_drewN HB.out _); obtain ⟨wz, hwz⟩ : ∃ wz : World, wz = wn.drewN nq := ⟨_, rfl⟩; rw [← hwz] at HB ⊢; have hbz : Below wn.heap.size wn wz := by rw [hwz]; exact below_drewN (Below.refl _ _) _
  have r0 := (hbz.cell (lt_of_cellq r0)).trans r0; have r1 := (hbz.cell (lt_of_cellq r1)).trans r1; have y1 := (hbz.cell (lt_of_cellq y1)).trans y1; have y2 := (hbz.cell (lt_of_cellq y2)).trans y2; replace HYB := Lib.hid (HYB.out.below hbz); replace HYC := Lib.hid (HYC.out.below hbz); clear hwz hbz k0 k1 k2 y0 za zb; go_wp2; have HSB := Lib.hid (cl4 r0 r1 y1 y2); have hx5 : ((p.mv.length : Int) + 2).toNat = p.mv.length + 2 := by omega
  have hx6 : ((p.mv.length : Int) + 4).toNat = p.mv.length + 4 := by omega
  have hx1 : (0 : Int) ≤ (p.mv.length : Int) + 2 := by omega
  have hx2 : (p.mv.length : Int) + 2 < (p.mv.length : Int) + 4 + 1 := by omega
  have hx3 : (0 : Int) ≤ (p.mv.length : Int) + 4 := by omega
  have hx4 : (p.mv.length : Int) + 4 < (p.mv.length : Int) + 4 + 1 := by omega
  have HSM := Lib.hid (fun W (hb : Below wz.heap.size wz W) => show Calls Tryz.prog 21 #[.slice (some ⟨bb, ob, none⟩) (pl.length + 1) cb, .slice qc (pl.length + 1) cc] W fun e w' => e = .returned (.bool true) ∧ Below W.heap.size W w' by
    refine (c_sameN HL2.out HL2.out (HYB.out.below hb) (HYC.out.below hb) (by omega)).mono fun e w' h => ?_
    obtain ⟨h1, n, rfl⟩ := h; rw [decide_eq_true rfl] at h1; exact ⟨h1, below_drewN (Below.refl _ _) _⟩)
  refine held4 r0 r1 y1 y2 (fun W0 HB0 => ?_); refine tk 0 rfl (by exact HSB.out _ HB0) ?_; (try simp only [Act.put, ptL]); refine tk 1 rfl (by exact HSB.out _ HB0) ?_; (try simp only [Act.put, ptL]); refine tk 2 rfl (by exact HSB.out _ HB0) ?_; (try simp only [Act.put, ptL]); refine tk 3 rfl (by exact HSB.out _ HB0) ?_; (try simp only [Act.put, ptL]); refine tk 4 rfl (by exact HSB.out _ HB0) ?_; (try simp only [Act.put, ptL]); refine tk 5 rfl (by exact HSB.out _ HB0) ?_; (try simp only [Act.put, ptL]); refine tk 6 rfl (by exact HSB.out _ HB0) ?_; (try simp only [Act.put, ptL]); refine tk 7 rfl (by exact HSB.out _ HB0) ?_; (try simp only [Act.put, ptL]); refine tk 8 rfl (by exact HSB.out _ HB0) ?_; (try simp only [Act.put, ptL]); refine tk 9 rfl (by exact HSB.out _ HB0) ?_; (try simp only [Act.put, ptL]); refine tk 10 rfl (by exact HSB.out _ HB0) ?_; (try simp only [Act.put, ptL]); refine tk 11 rfl (by exact HSB.out _ HB0) ?_; (try simp only [Act.put, ptL]); refine tk 12 rfl (by exact HSB.out _ HB0) ?_; (try simp only [Act.put, ptL]); refine tk 13 rfl (by exact HSB.out _ HB0) ?_; (try simp only [Act.put, ptL]); refine tk 14 rfl (by exact HSB.out _ HB0) ?_; (try simp only [Act.put, ptL]); refine tk 15 rfl (by exact HSB.out _ HB0) ?_; (try simp only [Act.put, ptL]); refine tk 16 rfl (by exact HSB.out _ HB0) ?_; (try simp only [Act.put, ptL]); refine tk 17 rfl (by exact HSB.out _ HB0) ?_; (try simp only [Act.put, ptL]); refine tk 18 rfl (by exact HSB.out _ HB0) ?_; (try simp only [Act.put, ptL]); refine tk 19 rfl (by exact HSB.out _ HB0) ?_; (try simp only [Act.put, ptL]); refine tk 20 rfl (by exact HSB.out _ HB0) ?_; (try simp only [Act.put, ptL])
  refine rz1 21 rfl (fun K hK => ?_); go_simp; refine (HSM.out W0 HB0).mono ?_; rintro e W1 ⟨rfl, ba⟩; have HB1 := HB0.trans (ba.mono HB0.size); refine kz hK (by exact HSB.out _ HB1) ?_; clear hK K; (try simp only [Act.put, ptL]); refine tk 22 rfl (by exact HSB.out _ HB1) ?_; (try simp only [Act.put, ptL]); refine tk 23 rfl (by exact HSB.out _ HB1) ?_; (try simp only [Act.put, ptL]); have HW1 := Lib.hid (HB.out.trans (HB1.mono HB.out.size)); refine rz1 24 rfl (fun K hK => ?_); go_simp; refine (c_known m W1 (HM.out.below HW1.out) (HI.out.below HW1.out)).mono ?_; rintro e W2 ⟨rfl, bb⟩; have HB2 := HB1.trans (bb.mono HB1.size); refine kz hK (by exact HSB.out _ HB2) ?_; clear hK K; (try simp only [Act.put, ptL]); refine tk 25 rfl (by exact HSB.out _ HB2) ?_; (try simp only [Act.put, ptL]); refine tk 26 rfl (by exact HSB.out _ HB2) ?_; (try simp only [Act.put, ptL]); refine wpAnyH_done (by kernel_rfl) ?_ _
  have HFK := Lib.hid (HB.out.trans (HB2.mono HB.out.size)); clear HSB HB0 HB1 HB2 ba bb HW1 HSM; go_wp2; go_ret; exact ⟨rfl, HFK.out⟩
end Go.Proofs.YtlednchfifphgaaGreatDoor
end

section
namespace Go.Proofs.YtlednchfifphgaaGreatDoor
open Go Go.ChangeShapes Go.WideShapes Go.ChangeAt Go.RowKit Go.Proofs
set_option linter.unusedVariables false

set_option maxRecDepth 100000 in
theorem slackReturns_lifted (os : Os) (started : os.Started) (H : Type) (enc : TypeId × Value → H) :
    ReturnsInHanded {} Tryz.checked os 9 .any (fun w args => (Rows.slackReturnsSpec.pre enc Tryz.prog Tryz.f9 [] false w args ∧ laidMetH Tryz.prog lay5 w) ∧ sizedMet enc Tryz.prog Tryz.f9 (OpenSpec.ofChange Rows.slackReturnsSpec) false w args)
      (Rows.slackReturnsSpec.post enc Tryz.prog Tryz.f9 false true false false) := by
  refine returns_listed (C := Tryz.checked) (X := fun w _ => laidMetH Tryz.prog lay5 w) (fun _ _ _ hh h => h.of_heap hh) ownT started (by kernel_rfl) Tryz.func9
    (ChangeSpec.witness_shaped (enc := enc) (C := Tryz.checked) (os := os) (X := fun w _ => laidMetH Tryz.prog lay5 w) false (World.laidAll Tryz.prog os lay5) #[.agg #[.slice none 0 0, .slice none 0 0, .slice none 0 0], .slice none 0 0, .int .i64 0, .int .i64 0] 12 (World.laidAll_os _ _ _)
      (World.shaped_of_ZipB (by kernel_rfl) (by kernel_rfl)) (by kernel_rfl) (by kernel_rfl) (by kernel_rfl)
      (by rw [MakeChecks.laidMetH_plain _ _ _ (by kernel_rfl)]; exact laidMet_laidAll _ (by kernel_rfl) (by kernel_rfl))) ?_
  intro W base args ds gs before hval0 hW hX hSh; have hval : ∀ (j : Nat) t v, Tryz.f9.params[j]? = some t → args[j]? = some v → Value.okWide Tryz.prog W .any base t v := hval0; have hW' := hW; obtain ⟨p, q, hA0, hV, rfl, _, _⟩ := hW; have hA : DataW.TrodAll enc Tryz.prog W 0 (fun _ => true) true Tryz.f9.params.toList args.toList ds p := hA0; rw [Tryz.params9] at hA hval; obtain ⟨v0, vs0, d0, ds0, p0, q0, hargs, rfl, rfl, h0, r0⟩ := trodAll_cons hA; obtain ⟨v1, vs1, d1, ds1, p1, q1, rfl, rfl, rfl, h1, r1⟩ := trodAll_cons r0; obtain ⟨v2, vs2, d2, ds2, p2, q2, rfl, rfl, rfl, h2, r2⟩ := trodAll_cons r1; obtain ⟨v3, vs3, d3, ds3, p3, q3, rfl, rfl, rfl, h3, r3⟩ := trodAll_cons r2; obtain ⟨rfl, rfl, rfl⟩ := trodAll_nil r3; obtain rfl : args = #[v0, v1, v2, v3] := by cases args; simp_all
  obtain ⟨rfl, rfl⟩ := trodVars_none hV; obtain ⟨pm0, pv0, pr0, cm0, cv0, cr0, p0, rfl, rd0⟩ := op_piece (hval 0 26 v0 rfl rfl) h0; obtain ⟨b1, c1, xs1, rfl, rd1, hl1⟩ := op_ints (hval 1 23 v1 rfl rfl) h1; obtain ⟨a2, rfl, la2, ua2⟩ := op_int (hval 2 3 v2 rfl rfl) h2; obtain ⟨a3, rfl, la3, ua3⟩ := op_int (hval 3 3 v3 rfl rfl) h3; clear hA0 hval0; obtain ⟨m, hm⟩ := maxLen_of hSh; have hit := itoaG_of (pow10_of hX); refine (law_Returns pm0 pv0 pr0 cm0 cv0 cr0 p0 b1 c1 xs1 a2 a3 m W rd0 rd1 hm hit).mono fun e W' ⟨he, bel⟩ => ?_
  subst he; exact ⟨_, rfl, _, _, _, [], _, [], hW', trodAll_mk1 (shut_bool Tryz.underlying4 _), (trodAll_cons_mk (Below.trod laidOutT (by kernel_rfl) (of_decide_eq_true (by kernel_rfl)) h0 bel (trod_lt h0)) (trodAll_cons_mk (Below.trod laidOutT (by kernel_rfl) (of_decide_eq_true (by kernel_rfl)) h1 bel (trod_lt h1)) (trodAll_cons_mk (Below.trod laidOutT (by kernel_rfl) (of_decide_eq_true (by kernel_rfl)) h2 bel (trod_lt h2)) (trodAll_cons_mk (Below.trod laidOutT (by kernel_rfl) (of_decide_eq_true (by kernel_rfl)) h3 bel (trod_lt h3)) trodAll_mk0)))), rfl, bel.frame _, fun h => by cases h⟩
theorem slackReturns_wf : Rows.slackReturnsRow.wf (OpenSpec.ofChange Rows.slackReturnsSpec) = true := by kernel_rfl
theorem slackReturns_inPlace : (Rows.slackReturnsRow.inPlace == Tryz.prog.inPlace 9) = true := by kernel_rfl
theorem slackReturns_unfollowed : (Rows.slackReturnsRow.unfollowed == Tryz.prog.unfollowed 9) = true := by kernel_rfl
theorem slackReturns_recurses : (Rows.slackReturnsRow.recurses == Tryz.prog.recurses 9) = true := by kernel_rfl
theorem slackReturns_named : (Rows.slackReturnsRow.named == Tryz.prog.varsNamed 9) = true := by kernel_rfl
theorem slackReturns_goes : false = Rows.slackReturnsRow.goesBy Tryz.prog := by kernel_rfl
theorem slackReturns_func : Tryz.prog.funcNamed Rows.slackReturnsRow.func = some 9 := by kernel_rfl
theorem slackReturns_text : Rows.slackReturnsRow.wfByText (OpenSpec.ofChange Rows.slackReturnsSpec) = true := by kernel_rfl
theorem slackReturns_closed : joinedFacts Tryz.prog 9 Tryz.f9 Rows.slackReturnsSpec Rows.slackReturnsRow = true :=
  (and_t (and_t (and_t (and_t (and_t (and_t (and_t (and_t (and_t (and_t (and_t (and_t (and_t (and_t (and_t (and_t (and_t (and_t (and_t (and_t (and_t (and_t (and_t (and_t (and_t (and_t (and_t (and_t (and_t (and_t (and_t slackReturns_wf tLaidOut) tMaps) (by kernel_rfl)) (by kernel_rfl)) (by kernel_rfl)) (by kernel_rfl)) (by kernel_rfl)) (by kernel_rfl)) slackReturns_inPlace) slackReturns_unfollowed) slackReturns_recurses) slackReturns_named) (by kernel_rfl)) (by kernel_rfl)) (by kernel_rfl)) (by kernel_rfl)) (by kernel_rfl)) (by kernel_rfl)) (by kernel_rfl)) (by kernel_rfl)) (by kernel_rfl)) (by kernel_rfl)) (by kernel_rfl)) tHeard) tMayEnter) (eq_t (α := Bool) tFinal.symm)) (eq_t tMake)) (by kernel_rfl)) (by kernel_rfl)) (by kernel_rfl)) (by kernel_rfl))
theorem slackReturns_wrap : Func.isWrapper Tryz.prog Tryz.f9 Rows.slackReturnsRow.wrapper Rows.slackReturnsRow.mainSum := by unfold Func.isWrapper; rw [if_neg (of_decide_eq_false (by kernel_rfl))]; exact ⟨rfl, rfl⟩
theorem slackReturns_row : Rows.SlackReturnsSaid :=
  OpenClaim.holds_of_wide 9 Tryz.f9 rfl rfl rfl rfl rfl rfl rfl ⟨rfl, rfl, rfl, rfl, rfl⟩ rfl rfl rfl rfl rfl slackReturns_func Tryz.func9 slackReturns_closed (of_decide_eq_true (by kernel_rfl)) slackReturns_wrap (fun os started H enc _ => slackReturns_lifted os started H enc)
theorem slackReturns_plain : ∀ (j : Nat) t, Tryz.f9.params[j]? = some t → Tryz.prog.wantsStandIn t = false := fun j t ht => by
  rw [Tryz.params9] at ht; have hm : t ∈ [26, 23, 3, 3] := by simpa using Array.mem_of_getElem? ht
  have hall : ([26, 23, 3, 3].all fun u => !Tryz.prog.wantsStandIn u) = true := by kernel_rfl
  exact (show Tryz.prog.wantsStandIn t = false by simpa using List.all_eq_true.1 hall t hm)
theorem slackReturns_holds : Rows.SlackReturnsCardSaid :=
  Claim7.holds_tied_plain_at .later [] [.data, .data, .data, .data, .pinned] true (true, "ce0818d0c59e3fa5e3ee8c8a0f2895fb96dd737b57a340924acb54004d6cceea") true slackReturns_row (fun _ h => by cases h) slackReturns_text (fun _ h => by cases h) slackReturns_row_tie rfl ⟨rfl, rfl⟩ tMainIs rfl
    (fun f fn hf hfn => by
      obtain rfl : f = 9 := Option.some.inj (slackReturns_func.symm.trans hf) |>.symm
      obtain rfl : fn = Tryz.f9 := (Option.some.inj (Tryz.func9.symm.trans hfn)).symm; exact ⟨tLooks, slackReturns_plain⟩)
    slackReturns_goes
#print axioms slackReturns_holds
end Go.Proofs.YtlednchfifphgaaGreatDoor
end
