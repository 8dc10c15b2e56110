/-
  Plain laws of chains of arbors (no program in sight): where all arbors are before the first move, and after a move.
  Base words of these seats' walks: what slices that are only read hold; regions that draw their order; boxes; owned rows.
  Plain laws of bounds, of lost motion, and of a crank that is turned on and back (no program in sight).
  Plain laws of hands, and of aims (no program in sight).
  A move made in two parts: what the moves are then, and where the arbors are (no program in sight).
  A negation in a quiet walk.
  A drawn region whose cells are known: its beginning, in short words.
  The document's move of all arbors, and where all arbors are: contracts.
  The document's places before the first move and after each one: contract.
  Whether plays are a truth, in the document's words: contract.
  All truths, in the document's words: contract.
  Where all arbors are after all moves, in each of some truths: contract.
  How many truths are left, and which arbor should be read, in the document's words: contracts.
  The least and the greatest number at each place of some lists: contracts.
  What the laws ask: a piece's truths, or its error; contracts.
  The stage's theorem: what is known of a piece (the walk).
  A piece with some moves more, or with one reading more, in the document's words: contracts.
  By how much the crank can be turned before an arbor moves (the walk).
  The theorem of lost motion (the walk).
  The laws' word on plain spans: contract.
  What is a place, and a limit, in the document's words; whether an arbor surely is near to a place after a move more, in the law's words: contracts.
  The theorem of aims (the walk).
  The law SlackAimed: its card. Conditions: none of the input; the tables of the library that the row lists are as the program lays them (the tie is given).
-/
import Derived.Test.YtlednchfifphgabGreatDoorGA
import Derived.Test.YtlednchfifphgabGreatDoorProg
import Derived.WalkKit
import Derived.WalkSpells
import Derived.WalkLawsBesides
import Derived.Handy
import Derived.Deep.QuietTactic
import Derived.BigQuiet
import Derived.Outline
import Derived.Below
import Derived.Lib.Hide
import Derived.Maps.RangeWalk
import Derived.StillTailTactics
import Derived.WalkMore
import Derived.Deep.RegionHeld3
import Derived.Deep.Cut
import Derived.RangeFuncBox
import Derived.Test.YtlednchfifphgabGreatDoorGH
import Derived.Test.YtlednchfifphgabGreatDoorGG
import Derived.Test.YtlednchfifphgabGreatDoorGL
import Derived.Test.YtlednchfifphgabGreatDoorGD
import Derived.Deep.Upon
import Derived.Deep.AppendLies
import Derived.Deep.RegionLaw
import Derived.OwnWalk
import Derived.Maps.AppendAt
import Derived.Test.YtlednchfifphgabGreatDoorGC
import Derived.Test.YtlednchfifphgabGreatDoorGJ
import Derived.Test.YtlednchfifphgabGreatDoorGM
import Derived.Test.YtlednchfifphgabGreatDoorGN
import Derived.Test.YtlednchfifphgabGreatDoorGQ
import Derived.Test.YtlednchfifphgabGreatDoorGT
import Derived.Test.YtlednchfifphgabGreatDoorGY
import Derived.Test.YtlednchfifphgabGreatDoorGZ
import Derived.Test.YtlednchfifphgabGreatDoorCards
section
namespace Go.Proofs.YtlednchfifphgabGreatDoor

theorem runF_congr (pl : List Int) {mv mv' : List Int} : ∀ k, (∀ i, i < k → gi mv i = gi mv' i) → runF pl mv k = runF pl mv' k := by
  intro k
  induction k with
  | zero => intro _; rfl
  | succ k ih => intro h; simp only [runF]; rw [ih fun i hi => h i (by omega), h k (by omega)]
end Go.Proofs.YtlednchfifphgabGreatDoor
end

section
namespace Go.Proofs.YtlednchfifphgabGreatDoor
open Go Go.RowKit Go.Proofs
set_option linter.unusedVariables false

section
variable {P : Program} {C : World → Prop} {K : Act → Prop} {a : Act} {ops : Array Oper} {Q : Act → Prop} {o : Oper} {rest : List Oper}

variable {d : Nat} {x y : Operand} {t t' ty : TypeId} {pos : String} {af : Array Edge} {g : Option (Nat × Bool)} {m n : Int}

variable {z : Operand} {l : Int} {ats : Array TypeId}
end


section
variable {P : Program} {ops : Array Oper} {C : World → Prop} {Q : Act → Prop} {rest : List Oper} {a : Act} {d : Nat} {x y : Operand} {ty t t' : TypeId} {pos : String} {af : Array Edge} {g : Option (Nat × Bool)}
end
theorem inV_length (a : List Int) : (inV a).length = a.length := by simp [inV]
section
variable {P : Program} {ops : Array Oper} {md : Region.Mode} {C : World → Prop}

end
end Go.Proofs.YtlednchfifphgabGreatDoor
end

section
namespace Go.Proofs.YtlednchfifphgabGreatDoor
set_option linter.unusedVariables false

theorem known_plain {p : Pc} (hp : PieceOk p) (h : truthsF p ≠ []) (a : Nat) (ha : a ≤ p.ms.length) : -2800 ≤ (gm (knownF p) a).1 ∧ (gm (knownF p) a).1 ≤ (gm (knownF p) a).2 ∧ (gm (knownF p) a).2 ≤ 2400 := by
  rw [knownF_at p a ha]; refine ovF_in _ _ _ h fun pl hpl => ?_
  have hk := truth_plays hp hpl; have := place_range hp hk p.mv.length a (Nat.le_refl _) (by rw [hk.len]; exact ha); exact ⟨this.1, Int.le_refl _, this.2⟩
def onF (p : Pc) (l : List Int) : Pc := { p with mv := p.mv ++ l }
theorem gi_app (a b : List Int) (i : Nat) (h : i < a.length) : gi (a ++ b) i = gi a i := by
  unfold gi; rw [List.getD_eq_getElem?_getD, List.getD_eq_getElem?_getD, List.getElem?_append_left h]
theorem gi_app2 (a b : List Int) (i : Nat) : gi (a ++ b) (a.length + i) = gi b i := by
  unfold gi; rw [List.getD_eq_getElem?_getD, List.getD_eq_getElem?_getD, List.getElem?_append_right (by omega)]; congr 2; omega
theorem onF_run (p : Pc) (l pl : List Int) (k : Nat) (hk : k ≤ p.mv.length) : runF pl (onF p l).mv k = runF pl p.mv k := runF_congr pl k fun i hi => gi_app _ _ _ (by omega)
theorem onF_one (p : Pc) (m : Int) (pl : List Int) : endF (onF p [m]) pl = mvF pl (endF p pl) m := by
  unfold endF; have : (onF p [m]).mv.length = p.mv.length + 1 := by simp [onF]
  rw [this]; show mvF pl (runF pl (onF p [m]).mv p.mv.length) (gi (p.mv ++ [m]) p.mv.length) = _; rw [onF_run p [m] pl _ (Nat.le_refl _)]
  congr 1
  exact gi_app2 p.mv [m] 0
theorem onF_fits {p : Pc} (hp : PieceOk p) (l pl : List Int) : fitsB (onF p l) pl = fitsB p pl := by
  unfold fitsB
  congr 1
  show p.rs.all (agreeB pl (onF p l).mv) = p.rs.all (agreeB pl p.mv); rw [Bool.eq_iff_iff, all_at rd0, all_at rd0]
  have key : ∀ i, i < p.rs.length → agreeB pl (onF p l).mv (p.rs.getD i rd0) = agreeB pl p.mv (p.rs.getD i rd0) := fun i hi => by
    have := (hp.read i hi).1; unfold agreeB; rw [onF_run p l pl _ (by unfold gr at this; omega)]
  exact ⟨fun h i hi => by rw [← key i hi]; exact h i hi, fun h i hi => by rw [key i hi]; exact h i hi⟩
theorem onF_truths {p : Pc} (hp : PieceOk p) (l : List Int) : truthsF (onF p l) = truthsF p := by
  unfold truthsF; show (prodF p.ms).filter _ = _
  congr 1
  funext pl
  exact onF_fits hp l pl
theorem onF_piece {p : Pc} (hp : PieceOk p) {l : List Int} (h8 : p.mv.length + l.length ≤ 8) (h : ∀ i, i < l.length → -300 ≤ gi l i ∧ gi l i ≤ 300) : PieceOk (onF p l) := by
  refine ⟨hp.n1, hp.n4, by simp [onF]; omega, hp.r6, hp.mesh, fun i hi => ?_, fun i hi => ?_⟩
  · show -300 ≤ gi (p.mv ++ l) i ∧ gi (p.mv ++ l) i ≤ 300
    have hi' : i < (p.mv ++ l).length := hi; rw [List.length_append] at hi'
    by_cases h1 : i < p.mv.length
    · rw [gi_app _ _ _ h1]; exact hp.move i h1
    · obtain ⟨k, rfl⟩ : ∃ k, i = p.mv.length + k := ⟨i - p.mv.length, by omega⟩
      rw [gi_app2]; exact h k (by omega)
  · have := hp.read i hi
    refine ⟨⟨this.1.1, ?_⟩, this.2⟩; have : (onF p l).mv.length = p.mv.length + l.length := by simp [onF]
    rw [this]; have := (hp.read i hi).1.2; show (gr p.rs i).aft ≤ _; omega
end Go.Proofs.YtlednchfifphgabGreatDoor
end

section
namespace Go.Proofs.YtlednchfifphgabGreatDoor
set_option linter.unusedVariables false

theorem aimTo_none {p : Pc} {a : Nat} {want lim : Int} : ∀ k, aimTo p a want lim k = none → ∀ m : Int, m.natAbs < k → aimedB p a want lim m = false := by
  intro k
  induction k with
  | zero => intro _ m hm; omega
  | succ k ih =>
    intro h m hm; rw [aimTo] at h
    cases h0 : aimTo p a want lim k with
    | some x => rw [h0] at h; cases h
    | none =>
      rw [h0] at h; simp only at h
      by_cases h1 : aimedB p a want lim k = true
      · rw [if_pos h1] at h; cases h
      · rw [if_neg h1] at h
        by_cases h2 : aimedB p a want lim (-k) = true
        · rw [if_pos h2] at h; cases h
        · by_cases h3 : m.natAbs < k
          · exact ih h0 m h3
          · have : m = k ∨ m = -k := by omega
            rcases this with rfl | rfl
            · simpa using h1
            · simpa using h2
theorem aimTo_some {p : Pc} {a : Nat} {want lim n : Int} : ∀ k, aimTo p a want lim k = some n → aimedB p a want lim n = true ∧ n.natAbs < k ∧ ∀ m : Int, aimedB p a want lim m = true → n.natAbs < m.natAbs ∨ n.natAbs = m.natAbs ∧ (0 ≤ n ∨ m ≤ 0) := by
  intro k
  induction k with
  | zero => intro h; cases h
  | succ k ih =>
    intro h; rw [aimTo] at h
    cases h0 : aimTo p a want lim k with
    | some x =>
      rw [h0] at h
      cases h
      obtain ⟨a1, a2, a3⟩ := ih h0; exact ⟨a1, by omega, a3⟩
    | none =>
      rw [h0] at h; simp only at h; have hn := aimTo_none k h0
      have key : ∀ m : Int, aimedB p a want lim m = true → k ≤ m.natAbs := fun m hm => by
        rcases Nat.lt_or_ge m.natAbs k with h1 | h1
        · rw [hn m h1] at hm; cases hm
        · exact h1
      by_cases h1 : aimedB p a want lim k = true
      · rw [if_pos h1] at h
        cases h
        refine ⟨h1, by omega, fun m hm => ?_⟩; have := key m hm; omega
      · rw [if_neg h1] at h
        by_cases h2 : aimedB p a want lim (-k) = true
        · rw [if_pos h2] at h
          cases h
          refine ⟨h2, by omega, fun m hm => ?_⟩; have := key m hm
          by_cases h3 : m = k
          · subst h3; exact absurd hm h1
          · omega
        · rw [if_neg h2] at h; cases h
theorem aim_known (p : Pc) (hp : PieceOk p) (a : Nat) (ha : a ≤ p.ms.length) (m : Int) : gm (knownF (onF p [m])) a = aimSp p a m := by
  rw [knownF_at (onF p [m]) a ha]; unfold ovF aimSp ovF; rw [onF_truths hp]
  congr 1
  refine List.map_congr_left fun pl _ => ?_
  rw [onF_one]
end Go.Proofs.YtlednchfifphgabGreatDoor
end

section
namespace Go.Proofs.YtlednchfifphgabGreatDoor
set_option linter.unusedVariables false

end Go.Proofs.YtlednchfifphgabGreatDoor
end

section
namespace Go.Proofs.YtlednchfifphgabGreatDoor
open Go Go.RowKit
set_option linter.unusedVariables false
end Go.Proofs.YtlednchfifphgabGreatDoor
end

section
namespace Go.Proofs.YtlednchfifphgabGreatDoor
open Go Go.RowKit
set_option linter.unusedVariables false
section
variable {P : Program} {ops : Array Oper} {Q : Exit → Act → World → Prop} {id : Nat} {a : Act} {w : World}
end
end Go.Proofs.YtlednchfifphgabGreatDoor
end

section
namespace Go.Proofs.YtlednchfifphgabGreatDoor
open Go Go.RowKit Go.Proofs
set_option linter.unusedVariables false
set_option linter.unusedSimpArgs false
attribute [local go_sem] imax2 imin2

theorem run_append_src {P : Program} (w : World) (base : Nat) (t ty e : TypeId) (i : TypeInfo) (z : Value) (size bytes : Nat) (ht : P.underlying t = some (.slice e)) (hi : P.info? e = some i) (hz : i.zero = some z)
    (hsize : i.size = size) (hby : i.bytes = bytes) (hzs : z.cells.size = size) (hsz : 0 < size)
    (v : Value) (n : Nat) (xs : List Value) (hown : w.ownsRow base e size v n xs)
    (po : Option Addr) (m c : Nat) (news : List Value) (hl : news.length = m * size) (hnews : m = 0 ∨ ∃ ad, po = some ad ∧ ∀ j u, news[j]? = some u → w.cell? (ad.add j) = some u) (h1 : ∀ u ∈ news, u.oneCell' = true)
    (h63 : n + m ≤ maxLen) (hbytes : (n + m) * bytes ≤ 140737488355328) (hbase : base ≤ w.heap.size) :
    ∃ v' w', (Builtin.append_ #[t, t] ty #[v, .slice po m c]).run P w = .ok v' w' ∧ w'.ownsRow base e size v' (n + m) (xs ++ news) ∧ w.grownBy w' v.ownBlock ∧ (v'.ownBlock = v.ownBlock ∨ v'.ownBlock = some w.heap.size) := by
  by_cases hm : m = 0
  · subst hm
    have hn : news = [] := List.length_eq_zero_iff.1 (by rw [hl, Nat.zero_mul]); subst hn
    have hs : Src P i.size t (.slice po 0 c) 0 [] w := by
      cases po with
      | none => exact Src.ofNil w ht c
      | some a => exact Src.ofSlice w ht a 0 c [] (by simp) (by intro j u hu; simp at hu) (by intro u hu; cases hu)
    rcases hown.2 with ⟨rfl, rfl⟩ | ⟨g, cap, cur, rfl, hb, hg, hnc, hrest⟩
    · exact ⟨_, w, run_append_nothing w t t ty e i ht hi none 0 0 (Nat.le_refl _) _ hs, by simpa using hown, World.grownBy.refl _ _, .inl rfl⟩
    · exact ⟨_, w, run_append_nothing w t t ty e i ht hi (some ⟨g, 0, none⟩) n cap hnc _ hs, by simpa using hown, World.grownBy.refl _ _, .inl rfl⟩
  · obtain ⟨ad, rfl, hc⟩ := hnews.resolve_left hm
    obtain ⟨v', w', hr, h2, h3, _, h5⟩ := run_append_own_at (P := P) w base t ty e i z size bytes ht hi hz hsize hby hzs hsz v n xs hown ad m c news hl hc h1 h63 hbytes hbase; exact ⟨v', w', hr, h2, h3, h5⟩
theorem wpList_append_src {P : Program} (w : World) {ops : Array Oper} {rest : List Oper} {o : Oper} {a : Act} {Q : Exit → Act → World → Prop} (hgd : o.guard = none) (s x : Operand) (t : TypeId)
    (ho : o.op = .call { callee := .builtin .append, args := #[s, x], argTypes := #[t, t] })
    (base : Nat) (e : TypeId) (i : TypeInfo) (z : Value) (size bytes : Nat) (ht : P.underlying t = some (.slice e)) (hi : P.info? e = some i) (hz : i.zero = some z)
    (hsize : i.size = size) (hby : i.bytes = bytes) (hzs : z.cells.size = size) (hsz : 0 < size)
    (v : Value) (n : Nat) (xs : List Value) (hs : a.eval s = v) (hown : w.ownsRow base e size v n xs)
    (po : Option Addr) (m c : Nat) (news : List Value) (hx : a.eval x = .slice po m c) (hl : news.length = m * size) (hnews : m = 0 ∨ ∃ ad, po = some ad ∧ ∀ j u, news[j]? = some u → w.cell? (ad.add j) = some u) (h1 : ∀ u ∈ news, u.oneCell' = true)
    (h63 : n + m ≤ maxLen) (hbytes : (n + m) * bytes ≤ 140737488355328) (hbase : base ≤ w.heap.size)
    (h : ∀ v' w', w'.ownsRow base e size v' (n + m) (xs ++ news) → w.grownBy w' v.ownBlock → (v'.ownBlock = v.ownBlock ∨ v'.ownBlock = some w.heap.size) → wpList P ops Q rest (a.put o.dst v') w') : wpList P ops Q (o :: rest) a w :=
  wpList_plain hgd fun K hK => by
    obtain ⟨v', w', hr, h2, h3, h5⟩ := run_append_src (P := P) w base t o.type e i z size bytes ht hi hz hsize hby hzs hsz v n xs hown po m c news hl hnews h1 h63 hbytes hbase; unfold Oper.wp execOp; simp only [ho, resolve, invoke, builtin, Sem.run_bind, Sem.run_pure, Result.andThen_ok, List.map_toArray, List.map_cons, List.map_nil, hs, hx, hr]; exact hK _ _ (h v' w' h2 h3 h5)

def ElV (w : World) (B : Nat) (css : List (List Int)) (hs : List Value) : Prop := hs.length = css.length ∧ ∀ i, i < css.length → ∃ v, hs[i]? = some v ∧ w.ownsRow B 3 1 v (gl css i).length (inV (gl css i))
theorem ElV.below {w w' : World} {B : Nat} {css : List (List Int)} {hs : List Value} (h : ElV w B css hs) (hb : Below w.heap.size w w') : ElV w' B css hs := by
  refine ⟨h.1, fun i hi => ?_⟩; obtain ⟨v, e1, e2⟩ := h.2 i hi; exact ⟨v, e1, own_kept e2 hb⟩
theorem ElV.mono {w : World} {B B' : Nat} {css : List (List Int)} {hs : List Value} (h : ElV w B css hs) (hB : B' ≤ B) : ElV w B' css hs := by
  refine ⟨h.1, fun i hi => ?_⟩; obtain ⟨v, e1, e2⟩ := h.2 i hi; exact ⟨v, e1, own_mono e2 hB⟩
theorem ElV.grown {w w' : World} {B B' n size e : Nat} {css : List (List Int)} {hs xs : List Value} {v : Value} (h : ElV w B css hs) (ho : w.ownsRow B' e size v n xs) (he : e ≠ 3) (hg : w.grownBy w' v.ownBlock) : ElV w' B css hs := by
  refine ⟨h.1, fun i hi => ?_⟩; obtain ⟨u, e1, e2⟩ := h.2 i hi; exact ⟨u, e1, e2.kept hg (own_apart e2 ho (Ne.symm he))⟩
def OwLs (w : World) (B : Nat) (v : Value) (ls : List (List Int)) : Prop := ∃ hs, w.ownsRow B 23 1 v ls.length hs ∧ ElV w B ls hs
theorem OwLs.below {w w' : World} {B : Nat} {v : Value} {ls : List (List Int)} (h : OwLs w B v ls) (hb : Below w.heap.size w w') : OwLs w' B v ls := by
  obtain ⟨hs, h1, h2⟩ := h; exact ⟨hs, own_kept h1 hb, h2.below hb⟩
theorem OwLs.mono {w : World} {B B' : Nat} {v : Value} {ls : List (List Int)} (h : OwLs w B v ls) (hB : B' ≤ B) : OwLs w B' v ls := by
  obtain ⟨hs, h1, h2⟩ := h; exact ⟨hs, own_mono h1 hB, h2.mono hB⟩
theorem OwLs.read {w : World} {B : Nat} {v : Value} {ls : List (List Int)} (h : OwLs w B v ls) : ∃ q c, v = .slice q ls.length c ∧ RdLs w q ls := by
  obtain ⟨hs, h1, h2⟩ := h
  rcases h1.2 with ⟨rfl, h0⟩ | ⟨g, cap, cur, rfl, hrest⟩
  · have : ls = [] := List.length_eq_zero_iff.1 h0
    subst this; exact ⟨none, 0, rfl, .inl rfl⟩
  · refine ⟨some ⟨g, 0, none⟩, cap, rfl, .inr ⟨g, 0, rfl, fun i hi => ?_⟩⟩
    obtain ⟨u, e1, e2⟩ := h2.2 i hi; obtain ⟨q, c, hu, hr⟩ := rd_of_own e2; subst hu; have h3 := h1.cells (g := g) rfl i _ e1; rw [add_new] at h3; exact ⟨q, c, by rw [Nat.zero_add]; exact h3, hr⟩
end Go.Proofs.YtlednchfifphgabGreatDoor
end

section
namespace Go.Proofs.YtlednchfifphgabGreatDoor
open Go Go.RowKit Go.Proofs
set_option linter.unusedVariables false
set_option linter.unusedSimpArgs false
attribute [local go_sem] imax2 imin2

end Go.Proofs.YtlednchfifphgabGreatDoor
end

section
namespace Go.Proofs.YtlednchfifphgabGreatDoor
open Go Go.RowKit Go.Proofs
set_option linter.unusedVariables false
set_option linter.unusedSimpArgs false
attribute [local go_sem] imax2 imin2

end Go.Proofs.YtlednchfifphgabGreatDoor
end

section
namespace Go.Proofs.YtlednchfifphgabGreatDoor
open Go Go.RowKit Go.Proofs
set_option linter.unusedVariables false
set_option linter.unusedSimpArgs false
attribute [local go_sem] imax2 imin2

def ElR (w : World) (css : List (List Int)) (hs : List Value) : Prop := hs.length = css.length ∧ ∀ i, i < css.length → ∃ q c, hs[i]? = some (.slice q (gl css i).length c) ∧ RdI w q (gl css i)
theorem ElR.read {w w' : World} {B : Nat} {v : Value} {css : List (List Int)} {hs : List Value} (h : ElR w css hs) (ho : w'.ownsRow B 23 1 v css.length hs) (hb : Below w.heap.size w w') : ∃ q c, v = .slice q css.length c ∧ RdLs w' q css := by
  rcases ho.2 with ⟨rfl, h0⟩ | ⟨g, cap, cur, rfl, hrest⟩
  · have : css = [] := List.length_eq_zero_iff.1 h0
    subst this; exact ⟨none, 0, rfl, .inl rfl⟩
  · refine ⟨some ⟨g, 0, none⟩, cap, rfl, .inr ⟨g, 0, rfl, fun i hi => ?_⟩⟩
    obtain ⟨q, c, e1, e2⟩ := h.2 i hi; have h3 := ho.cells (g := g) rfl i _ e1; rw [add_new] at h3; exact ⟨q, c, by rw [Nat.zero_add]; exact h3, e2.below hb⟩
end Go.Proofs.YtlednchfifphgabGreatDoor
end

section
namespace Go.Proofs.YtlednchfifphgabGreatDoor
open Go Go.RowKit Go.Proofs
set_option linter.unusedVariables false
set_option linter.unusedSimpArgs false
attribute [local go_sem] imax2 imin2

end Go.Proofs.YtlednchfifphgabGreatDoor
end

section
namespace Go.Proofs.YtlednchfifphgabGreatDoor
open Go Go.RowKit Go.Proofs
set_option linter.unusedVariables false
set_option linter.unusedSimpArgs false
attribute [local go_sem] imax2 imin2

end Go.Proofs.YtlednchfifphgabGreatDoor
end

section
namespace Go.Proofs.YtlednchfifphgabGreatDoor
open Go Go.RowKit Go.Proofs
set_option linter.unusedVariables false
set_option linter.unusedSimpArgs false
attribute [local go_sem] imax2 imin2

end Go.Proofs.YtlednchfifphgabGreatDoor
end

section
namespace Go.Proofs.YtlednchfifphgabGreatDoor
open Go Go.RowKit Go.Proofs
set_option linter.unusedVariables false
set_option linter.unusedSimpArgs false

end Go.Proofs.YtlednchfifphgabGreatDoor
end

section
namespace Go.Proofs.YtlednchfifphgabGreatDoor
open Go Go.RowKit Go.Proofs
set_option linter.unusedVariables false
set_option linter.unusedSimpArgs false
attribute [local go_sem] imax2 imin2

def SpOk (L : List (Int × Int)) (w : World) (e : Ending) (w' : World) : Prop := ∃ q c, e = .returned (.tuple #[.slice q L.length c, .int .i64 0]) ∧ RdS w' q L ∧ Below w.heap.size w w'
theorem spans_ok {p : Pc} {L : List (Int × Int)} {w w' : World} {e : Ending} (h1 : pieceB p = true) (ht : truthsF p ≠ []) (h : SpansPost p L w e w') : SpOk L w e w' := by
  rcases h with ⟨h | h | ⟨_, _, g, c, he, ho⟩, hb⟩
  · rw [h1] at h; cases h.1
  · exact absurd h.2.1 ht
  · exact ⟨_, c, he, rdS_at ho rfl, hb⟩
end Go.Proofs.YtlednchfifphgabGreatDoor
end

section
namespace Go.Proofs.YtlednchfifphgabGreatDoor
open Go Go.RowKit Go.Proofs
set_option linter.unusedVariables false
set_option linter.unusedSimpArgs false
attribute [local go_sem] imax2 imin2

theorem add_lit0 (b off j : Nat) : (⟨b, off, none⟩ : Addr).add j = ⟨b, off + j, none⟩ := by unfold Addr.add; split <;> simp_all
theorem inV_cells (xs : List Int) : ∀ u ∈ inV xs, u.oneCell' = true := by intro u hu; simp [inV] at hu; obtain ⟨x, _, rfl⟩ := hu; rfl
theorem news_ints {w : World} {q : Option Addr} {xs : List Int} (h : RdI w q xs) : xs.length = 0 ∨ ∃ ad, q = some ad ∧ ∀ i u, (inV xs)[i]? = some u → w.cell? (ad.add i) = some u := by
  rcases h with rfl | ⟨b, off, rfl, hc⟩
  · exact .inl rfl
  · refine .inr ⟨_, rfl, fun i u hu => ?_⟩
    have hi : i < xs.length := by have := (List.getElem?_eq_some_iff.1 hu).1; rw [inV_length] at this; exact this
    rw [inV_get _ i hi] at hu
    cases hu
    rw [add_lit0]; exact hc i hi
def OnPost (pm pr : Option Addr) (cm cr : Nat) (p : Pc) (l : List Int) (w : World) (e : Ending) (w' : World) : Prop :=
  ∃ pv cv, e = .returned (.agg #[.slice pm p.ms.length cm, .slice pv (onF p l).mv.length cv, .slice pr p.rs.length cr]) ∧ RdP w' pm pv pr (onF p l) ∧ Below w.heap.size w w'
set_option maxHeartbeats 1600000 in
set_option maxRecDepth 100000 in
theorem r_On (pm pv pr : Option Addr) (cm cv cr : Nat) (p : Pc) (q : Option Addr) (cq : Nat) (l : List Int) (w : World) (hp : RdP w pm pv pr p) (hq : RdI w q l) (h1 : p.mv.length ≤ 1000) (h2 : l.length ≤ 1000) :
    Calls Tryz.prog 49 #[.agg #[.slice pm p.ms.length cm, .slice pv p.mv.length cv, .slice pr p.rs.length cr], .slice q l.length cq] w (OnPost pm pr cm cr p l w) := by
  obtain ⟨i0, hi0, hz0, hz1, hz2⟩ := info_parts infI; obtain ⟨w1, e1, HS1, k0, k1, k2, b1⟩ := box3 w (.slice pm p.ms.length cm) (.slice pv p.mv.length cv) (.slice pr p.rs.length cr) 26; have kr := alloc_new w1 (.cells #[.slice none 0 0, .slice none 0 0, .slice none 0 0] 26); obtain ⟨w2, e2, HS2, _, _, _, b2⟩ := box3 w1 (.slice none 0 0) (.slice none 0 0) (.slice none 0 0) 26; rw [e2] at kr; have kx := alloc_new w2 (.cells #[.slice pm p.ms.length cm, .slice pv p.mv.length cv, .slice pr p.rs.length cr] 26); obtain ⟨w3, e3, HS3, _, _, _, b3⟩ := box3 w2 (.slice pm p.ms.length cm) (.slice pv p.mv.length cv) (.slice pr p.rs.length cr) 26; rw [e3] at kx; have kr := (b3.block _ (block_lt kr)).trans kr; have b23 := b2.trans (b3.mono b2.size); have b13 := b1.trans (b23.mono b1.size); have j0 := (b2.cell (lt_of_cellq k0)).trans k0; have j1 := (b2.cell (lt_of_cellq k1)).trans k1; have j2 := (b2.cell (lt_of_cellq k2)).trans k2
  have k0 := (b23.cell (lt_of_cellq k0)).trans k0; have k1 := (b23.cell (lt_of_cellq k1)).trans k1; have k2 := (b23.cell (lt_of_cellq k2)).trans k2; have HB := Lib.hid b13; have HP0 := Lib.hid hp; have HN1 := Lib.hid (news_ints (hp.mv.below b13)); have HQ := Lib.hid (hq.below b13); have HKR := Lib.hid kr; have HKX := Lib.hid kx; have HZ := Lib.hid (show w.heap.size ≤ w1.heap.size ∧ w1.heap.size < w2.heap.size ∧ w2.heap.size < w3.heap.size from ⟨b1.size, by have := HS2.out; omega, by have := HS3.out; omega⟩); clear hp hq b1 b2 b3 b23 b13 kr kx
  go_enter Tryz.func49, Tryz.ntmps49
  go_wp2_with (at_builtin; refine wpList_append_src _ rfl _ _ 23 rfl w3.heap.size 3 i0 _ 1 8 Tryz.underlying23 hi0 hz0 hz1 hz2 rfl (by decide) (.slice none 0 0) 0 [] rfl (World.ownsRow_nil _ _ _ _) pv p.mv.length cv (inV p.mv) rfl ?a1 ?a2 ?a3 ?a4 ?a5 ?a6 ?_)
  case a1 => rw [inV_length, Nat.mul_one]
  case a2 => exact HN1.out
  case a3 => exact inV_cells _
  case a4 => unfold maxLen; omega
  case a5 => omega
  case a6 => exact Nat.le_refl _
  intro v1 wa hown1 hgrow1 hat1; have HBA := Lib.hid (show Below w3.heap.size w3 wa from (Below.refl _ _).grown hgrow1 (Nat.le_refl _) (fun j hj => by simp [Value.ownBlock] at hj)); have HW1 := Lib.hid hown1; have HN2 := Lib.hid (news_ints (HQ.out.below HBA.out)); clear hown1 hgrow1 hat1 e1 e2 e3 k0 k1 k2 j0 j1 j2; go_wp2_with (at_builtin; refine wpList_append_src _ rfl _ _ 23 rfl w3.heap.size 3 i0 _ 1 8 Tryz.underlying23 hi0 hz0 hz1 hz2 rfl (by decide) v1 p.mv.length (inV p.mv) rfl (by first | exact HW1.out | simpa using HW1.out) q l.length cq (inV l) rfl ?c1 ?c2 ?c3 ?c4 ?c5 ?c6 ?_)
  case c1 => rw [inV_length, Nat.mul_one]
  case c2 => exact HN2.out
  case c3 => exact inV_cells _
  case c4 => unfold maxLen; omega
  case c5 => omega
  case c6 => exact HBA.out.size
  intro v2 wb hown2 hgrow2 hat2; have HBB := Lib.hid (show Below w3.heap.size w3 wb from HBA.out.grown hgrow2 HBA.out.size (fun j hj => ((show wa.ownsRow w3.heap.size 3 1 v1 p.mv.length (inV p.mv) from by first | exact HW1.out | simpa using HW1.out).lt j hj).1)); obtain ⟨gv, cv', rfl⟩ := own_anyE hown2; have HW2 := Lib.hid (show wb.ownsRow w3.heap.size 3 1 (.slice gv (p.mv.length + l.length) cv') (p.mv.length + l.length) (inV (p.mv ++ l)) by rw [inV_append]; exact hown2); have hkx := (HBB.out.block _ (block_lt HKX.out)).trans HKX.out; have hkr := (HBB.out.block _ (block_lt HKR.out)).trans HKR.out; obtain ⟨wc, s1, c1, f1, hx1, hxk1, HZ1, hxb1⟩ := put3_1 wb w2.heap.size 26 _ _ _ (.slice gv (p.mv.length + l.length) cv') hkx; have hkr := (hxk1 w1.heap.size (by have := HZ.out; omega)).trans hkr; obtain ⟨x0, x1, x2⟩ := cells3 hx1; obtain ⟨wd, we, wf, t1, t2, t3, ⟨d0, g0⟩, ⟨d1, g1⟩, ⟨d2, g2⟩, hx4, hxk, HZ4, hxb⟩ := set3 wc w1.heap.size 26 _ _ _ (.slice pm p.ms.length cm) (.slice gv (p.mv.length + l.length) cv') (.slice pr p.rs.length cr) hkr
  obtain ⟨r0, r1, r2⟩ := cells3 hx4; have hbf : Below w.heap.size w wf := hxb w w.heap.size HZ.out.1 (hxb1 w w.heap.size (by have := HZ.out; omega) (HB.out.trans (HBB.out.mono HB.out.size))); have HBF := Lib.hid hbf
  have hof := own_same HW2.out (w' := wf) (fun g' hg' => by
    have h := (HW2.out.lt g' hg').1; have := HZ.out; exact (hxk g' (by omega)).trans (hxk1 g' (by omega)))
  have HRD := Lib.hid (show RdP wf pm gv pr (onF p l) from ⟨(HP0.out.below hbf).ms, rdI_at hof (by show (p.mv ++ l).length = _; rw [List.length_append]), (HP0.out.below hbf).rs⟩); clear hown2 hgrow2 hat2 hkx hkr hx1 hxk1 hxb1 hx4 hxk hxb hof hbf HW1 HW2 HN1 HN2; go_wp2; refine bodyPost_ret (v := .agg #[.slice pm p.ms.length cm, .slice gv (p.mv.length + l.length) cv', .slice pr p.rs.length cr]) ?_ rfl ⟨gv, cv', by rw [show (onF p l).mv.length = p.mv.length + l.length from List.length_append], HRD.out, HBF.out⟩; simp [results, Tryz.results49, go_sem, r0, r1, r2]
end Go.Proofs.YtlednchfifphgabGreatDoor
end

section
namespace Go.Proofs.YtlednchfifphgabGreatDoor
open Go Go.RowKit Go.Proofs
set_option linter.unusedVariables false
set_option linter.unusedSimpArgs false
attribute [local go_sem] imax2 imin2

end Go.Proofs.YtlednchfifphgabGreatDoor
end

section
namespace Go.Proofs.YtlednchfifphgabGreatDoor
open Go Go.RowKit Go.Proofs
set_option linter.unusedVariables false
set_option linter.unusedSimpArgs false
attribute [local go_sem] imax2 imin2

end Go.Proofs.YtlednchfifphgabGreatDoor
end

section
namespace Go.Proofs.YtlednchfifphgabGreatDoor
open Go Go.RowKit Go.Proofs
set_option linter.unusedVariables false
set_option linter.unusedSimpArgs false

set_option maxRecDepth 100000 in
theorem l_plain (q : Option Addr) (c : Nat) (ls : List (Int × Int)) (many : Int) (n : Nat) (w : World) (hn : ls.length = n) (hn2 : n ≤ 1000) (hr : RdS w q ls) (hp : ∀ i, i < ls.length → -5000 ≤ (gm ls i).1 ∧ (gm ls i).1 ≤ (gm ls i).2 ∧ (gm ls i).2 ≤ 5000) (hm : (n : Int) = many) :
    Calls Tryz.prog 45 #[.slice q n c, .int .i64 many] w fun e w' => e = .returned (.bool true) ∧ Below w.heap.size w w' := by
  subst hm; have HP := Lib.hid (show ∀ i, i < n → -5000 ≤ (gm ls i).1 ∧ (gm ls i).1 ≤ (gm ls i).2 ∧ (gm ls i).2 ≤ 5000 from fun i hi => hp i (by rw [hn]; exact hi)); have HR := Lib.hid hr; have HN := Lib.hid hn; have heq : ((n : Int) == (n : Int)) = true := by simp
  clear hp hr hn
  go_enter Tryz.func45, Tryz.ntmps45
  go_wp2
  go_loopw [5] (fun i wr => ∃ k : Nat, k ≤ n ∧ i = .int .i64 k ∧ ∃ d, wr = w.drewN d) (fun i _ => n - (intOf i).toNat)
  case atStart => exact ⟨0, Nat.zero_le _, rfl, 0, rfl⟩
  case round =>
    obtain ⟨k, hk, rfl, d, hwr⟩ := hrel; have HW := Lib.hid hwr
    by_cases hlt : k < n
    · have hki : (k : Int) < (n : Int) := by omega
      obtain ⟨b, off, rfl, hc⟩ := HR.out.at (by rw [HN.out]; exact hlt); obtain ⟨e0, e1⟩ := hc k (by rw [HN.out]; exact hlt); have d0 : wr.cell? ⟨b, off + k * 2, none⟩ = some (.int .i64 (gm ls k).1) := by rw [hwr]; exact e0
      have d1 : wr.cell? ⟨b, off + k * 2 + 1, none⟩ = some (.int .i64 (gm ls k).2) := by rw [hwr]; exact e1
      obtain ⟨g1, g2, g3⟩ := HP.out k hlt; obtain ⟨A, hA⟩ : ∃ A, (gm ls k).1 = A := ⟨_, rfl⟩; obtain ⟨B, hB⟩ : ∃ B, (gm ls k).2 = B := ⟨_, rfl⟩; rw [hA] at d0 g1 g2; rw [hB] at d1 g2 g3; have t1 : decide (A < -5000) = false := decide_eq_false (by omega); have t2 : decide (A > B) = false := decide_eq_false (by omega); have t2b : decide (B < A) = false := decide_eq_false (by omega); have t3 : decide (B > 5000) = false := decide_eq_false (by omega); have t3b : decide (5000 < B) = false := decide_eq_false (by omega); clear hc e0 e1 hA hB hwr; go_wp2
      go_quiet (fail)
      go_wp2; go_roundw
      case rel => exact ⟨k + 1, by omega, by go_num, by rw [HW.out]; first | exact ⟨_, rfl⟩ | (rw [drew_add]; exact ⟨_, rfl⟩)⟩
      case measure => simp [intOf]; omega
    · obtain rfl : k = n := by omega
      have hki : ¬ (k : Int) < (k : Int) := by omega
      go_wp2; go_ret; exact ⟨rfl, by first | exact below_drewN (Below.refl _ _) _ | (rw [HW.out]; exact below_drewN (Below.refl _ _) _)⟩
end Go.Proofs.YtlednchfifphgabGreatDoor
end

section
namespace Go.Proofs.YtlednchfifphgabGreatDoor
open Go Go.RowKit Go.Proofs
set_option linter.unusedVariables false
set_option linter.unusedSimpArgs false
attribute [local go_sem] imax2 imin2

theorem r_Far (n : Int) (w : World) : Calls Tryz.prog 24 #[.int .i64 n] w fun e w' => e = .returned (.bool (inB n (-5000) 5000)) ∧ Below w.heap.size w w' := by
  go_enter Tryz.func24, Tryz.ntmps24
  (go_wp2_with fail); refine (r_in _ _ _ _).mono ?_
  rintro e wn ⟨rfl, rfl⟩; go_wp2; go_ret; exact ⟨rfl, Below.refl _ _⟩
theorem r_Limit (n : Int) (w : World) : Calls Tryz.prog 25 #[.int .i64 n] w fun e w' => e = .returned (.bool (inB n 0 5000)) ∧ Below w.heap.size w w' := by
  go_enter Tryz.func25, Tryz.ntmps25
  (go_wp2_with fail); refine (r_in _ _ _ _).mono ?_
  rintro e wn ⟨rfl, rfl⟩; go_wp2; go_ret; exact ⟨rfl, Below.refl _ _⟩
theorem on_known {p : Pc} (hpo : PieceOk p) (ht : truthsF p ≠ []) (h8 : p.mv.length < 8) {mo : Int} (hmo : -300 ≤ mo ∧ mo ≤ 300) : PieceOk (onF p [mo]) ∧ truthsF (onF p [mo]) ≠ [] := by
  refine ⟨onF_piece hpo (by simp; omega) (fun i hi => ?_), by rw [onF_truths hpo]; exact ht⟩; have hi' : i < 1 := hi; obtain rfl : i = 0 := by omega
  exact hmo
set_option maxHeartbeats 1600000 in
set_option maxRecDepth 100000 in
theorem l_near (pm pv pr : Option Addr) (cm cv cr : Nat) (p : Pc) (a : Nat) (mo want lim : Int) (w : World) (hp : RdP w pm pv pr p) (hpo : PieceOk p) (ht : truthsF p ≠ []) (ha : a ≤ p.ms.length) (h8 : p.mv.length < 8) (hmo : -300 ≤ mo ∧ mo ≤ 300) (hwl : -5000 ≤ want ∧ want ≤ 5000 ∧ 0 ≤ lim ∧ lim ≤ 5000) :
    Calls Tryz.prog 37 #[.agg #[.slice pm p.ms.length cm, .slice pv p.mv.length cv, .slice pr p.rs.length cr], .int .i64 (a : Int), .int .i64 mo, .int .i64 want, .int .i64 lim] w fun e w' => e = .returned (.bool (aimedB p a want lim mo)) ∧ Below w.heap.size w w' := by
  obtain ⟨w1, e1, HS1, k0, k1, k2, b1⟩ := box3 w (.slice pm p.ms.length cm) (.slice pv p.mv.length cv) (.slice pr p.rs.length cr) 26; obtain ⟨w2, e2, HS2, g0, _, b2⟩ := box1 w1 (.int .i64 mo) 3
  have hmr : RdI w2 (some ⟨w1.heap.size, 0, none⟩) [mo] := .inr ⟨w1.heap.size, 0, rfl, fun i hi => by
    have hi' : i < 1 := hi; obtain rfl : i = 0 := by omega
    exact g0⟩
  have b12 := b1.trans (b2.mono b1.size); have hn4 := hpo.n4; obtain ⟨hq1, hq2⟩ := on_known hpo ht h8 hmo; have HON := Lib.hid (show Calls Tryz.prog 49 #[.agg #[.slice pm p.ms.length cm, .slice pv p.mv.length cv, .slice pr p.rs.length cr], .slice (some ⟨w1.heap.size, 0, none⟩) 1 1] w2 (OnPost pm pr cm cr p [mo] w2) from r_On pm pv pr cm cv cr p _ 1 [mo] w2 (hp.below b12) hmr (by omega) (by simp))
  have HKN := Lib.hid (fun pv2 cv2 W (h : RdP W pm pv2 pr (onF p [mo])) => show Calls Tryz.prog 61 #[.agg #[.slice pm p.ms.length cm, .slice pv2 (onF p [mo]).mv.length cv2, .slice pr p.rs.length cr]] W (SpOk (knownF (onF p [mo])) W) from
    (c_Known pm pv2 pr cm cv2 cr (onF p [mo]) W h (by
      have h1 := hq1.n4; have h2 := hq1.m8; have h3 := hq1.r6; exact ⟨by omega, by omega, by omega⟩)).mono fun _ _ => spans_ok (pieceB_iff.2 hq1) hq2)
  have j0 := (b2.cell (lt_of_cellq k0)).trans k0; have HB := Lib.hid b12; have HKL := Lib.hid (show (knownF (onF p [mo])).length = p.ms.length + 1 from knownF_len _)
  have HKP := Lib.hid (show ∀ i, i < (knownF (onF p [mo])).length → -5000 ≤ (gm (knownF (onF p [mo])) i).1 ∧ (gm (knownF (onF p [mo])) i).1 ≤ (gm (knownF (onF p [mo])) i).2 ∧ (gm (knownF (onF p [mo])) i).2 ≤ 5000 from fun i hi => by
    rw [knownF_len] at hi; have := known_plain hq1 hq2 i (by omega); omega)
  have HAK := Lib.hid (aim_known p hpo a ha mo); have HAB := Lib.hid (show aimedB p a want lim mo = (decide (want - lim ≤ (aimSp p a mo).1) && decide ((aimSp p a mo).2 ≤ want + lim)) from rfl); have hw1 : IntKind.i64.wrap (want - lim) = want - lim := w64 _ (by omega) (by omega); have hw2 : IntKind.i64.wrap (want + lim) = want + lim := w64 _ (by omega) (by omega); have hai : (a : Int) < (p.ms.length : Int) + 1 := by omega
  have ha0 : (0 : Int) ≤ (a : Int) := by omega
  have ha1 : a < p.ms.length + 1 := by omega
  clear hp hpo ht b1 b2 b12 hmr g0 hq1 hq2
  go_enter Tryz.func37, Tryz.ntmps37
  (go_wp2_with fail); refine HON.out.mono ?_
  clear e1 e2 k0 k1 k2; rintro e wn ⟨pv2, cv2, rfl, hr2, bq⟩; have HP2 := Lib.hid hr2; clear hr2 HON
  skip; replace HB := Lib.hid (HB.out.trans (bq.mono HB.out.size)); have j0 := (bq.cell (lt_of_cellq j0)).trans j0; clear bq
  (go_wp2_with fail); refine (HKN.out _ _ _ HP2.out).mono ?_
  rintro e wn ⟨q, c, rfl, hr, bq⟩; rw [HKL.out]
  skip; replace HB := Lib.hid (HB.out.trans (bq.mono HB.out.size)); have j0 := (bq.cell (lt_of_cellq j0)).trans j0; clear bq
  have HR := Lib.hid hr; obtain ⟨b, off, rfl, hc⟩ := hr.at (i := a) (by rw [HKL.out]; omega); obtain ⟨d0, d1⟩ := hc a (by rw [HKL.out]; omega); rw [HAK.out] at d0 d1
  have HPL := Lib.hid (fun W (h : Below wn.heap.size wn W) => show Calls Tryz.prog 45 #[.slice (some ⟨b, off, none⟩) (p.ms.length + 1) c, .int .i64 ((p.ms.length : Int) + 1)] W fun e w' => e = .returned (.bool true) ∧ Below W.heap.size W w' from
    l_plain (some ⟨b, off, none⟩) c (knownF (onF p [mo])) _ (p.ms.length + 1) W HKL.out (by omega) (HR.out.below h) HKP.out (by omega))
  obtain ⟨L, hL⟩ : ∃ x, (aimSp p a mo).1 = x := ⟨_, rfl⟩; obtain ⟨U, hU⟩ : ∃ x, (aimSp p a mo).2 = x := ⟨_, rfl⟩; rw [hL] at d0 HAB; rw [hU] at d1 HAB; clear hr hc hL hU HKN HP2; have hwp : IntKind.i64.wrap ((p.ms.length : Int) + 1) = (p.ms.length : Int) + 1 := w64 _ (by omega) (by omega)
  by_cases h1 : want - lim ≤ L
  case neg =>
    have h1' : decide (L ≥ want - lim) = false := decide_eq_false h1; have h1b : decide (want - lim ≤ L) = false := decide_eq_false h1; have H := Lib.hid (show aimedB p a want lim mo = false by rw [HAB.out, h1b]; rfl)
    (go_wp2_with fail); refine (HPL.out _ (Below.refl _ _)).mono ?_
    rintro e wx ⟨rfl, bq⟩; have d0 := (bq.cell (lt_of_cellq d0)).trans d0; have d1 := (bq.cell (lt_of_cellq d1)).trans d1
    skip; replace HB := Lib.hid (HB.out.trans (bq.mono HB.out.size)); clear bq
    go_wp2; go_ret; exact ⟨by rw [H.out]; rfl, HB.out⟩
  have h1' : decide (L ≥ want - lim) = true := decide_eq_true h1; have h1b : decide (want - lim ≤ L) = true := decide_eq_true h1
  by_cases h2 : U ≤ want + lim
  case neg =>
    have h2' : decide (U ≤ want + lim) = false := decide_eq_false h2; have H := Lib.hid (show aimedB p a want lim mo = false by rw [HAB.out, h1b, h2']; rfl)
    (go_wp2_with fail); refine (HPL.out _ (Below.refl _ _)).mono ?_
    rintro e wx ⟨rfl, bq⟩; have d0 := (bq.cell (lt_of_cellq d0)).trans d0; have d1 := (bq.cell (lt_of_cellq d1)).trans d1
    skip; replace HB := Lib.hid (HB.out.trans (bq.mono HB.out.size)); clear bq
    go_wp2; go_ret; exact ⟨by rw [H.out]; rfl, HB.out⟩
  have h2' : decide (U ≤ want + lim) = true := decide_eq_true h2; have H := Lib.hid (show aimedB p a want lim mo = true by rw [HAB.out, h1b, h2']; rfl)
  (go_wp2_with fail); refine (HPL.out _ (Below.refl _ _)).mono ?_
  rintro e wx ⟨rfl, bq⟩; have d0 := (bq.cell (lt_of_cellq d0)).trans d0; have d1 := (bq.cell (lt_of_cellq d1)).trans d1
  skip; replace HB := Lib.hid (HB.out.trans (bq.mono HB.out.size)); clear bq
  go_wp2; go_ret; exact ⟨by rw [H.out]; rfl, HB.out⟩
end Go.Proofs.YtlednchfifphgabGreatDoor
end

section
namespace Go.Proofs.YtlednchfifphgabGreatDoor
open Go Go.RowKit Go.Proofs
set_option linter.unusedVariables false
set_option linter.unusedSimpArgs false
attribute [local go_sem] imax2 imin2

set_option maxHeartbeats 6400000 in
set_option maxRecDepth 100000 in
theorem law_Aimed (pm pv pr : Option Addr) (cm cv cr : Nat) (p : Pc) (n want lim mo : Int) (m : Int) (w : World) (hp : RdP w pm pv pr p) (hm : MaxL m w) (hi : ItoaG w) :
    Calls Tryz.prog 8 #[.agg #[.slice pm p.ms.length cm, .slice pv p.mv.length cv, .slice pr p.rs.length cr], .int .i64 n, .int .i64 want, .int .i64 lim, .int .i64 mo] w (LawPost w) := by
  obtain ⟨w1, e1, HS1, k0, k1, k2, b1⟩ := box3 w (.slice pm p.ms.length cm) (.slice pv p.mv.length cv) (.slice pr p.rs.length cr) 26; have HP := Lib.hid (hp.below b1); have HM := Lib.hid hm; have HI := Lib.hid hi; have HB := Lib.hid b1; clear hp hm hi b1
  go_enter Tryz.func8, Tryz.ntmps8
  (go_wp2_with fail); refine (c_short pm pv pr cm cv cr p _).mono ?_
  clear e1
  rcases hs : shortB p with _ | _
  · rintro e wn ⟨rfl, bq⟩; replace HB := Lib.hid (HB.out.trans (bq.mono HB.out.size)); clear bq
    (go_wp2_with fail); refine (c_known m _ (HM.out.below HB.out) (HI.out.below HB.out)).mono ?_; rintro e wn ⟨rfl, bq⟩; have HFK := Lib.hid (HB.out.trans (bq.mono HB.out.size)); clear bq; go_wp2; go_ret; exact ⟨rfl, HFK.out⟩
  rintro e wn ⟨rfl, bq⟩; replace HB := Lib.hid (HB.out.trans (bq.mono HB.out.size)); replace HP := Lib.hid (HP.out.below bq); have k0 := (bq.cell (lt_of_cellq k0)).trans k0; have k1 := (bq.cell (lt_of_cellq k1)).trans k1; have k2 := (bq.cell (lt_of_cellq k2)).trans k2; clear bq; have HLN := Lib.hid (short_len hs); clear hs
  (go_wp2_with fail); refine (r_Piece pm pv pr cm cv cr p _ HP.out HLN.out).mono ?_
  rcases h1 : pieceB p with _ | _
  · rintro e wn ⟨rfl, bq⟩; replace HB := Lib.hid (HB.out.trans (bq.mono HB.out.size)); clear bq
    (go_wp2_with fail); refine (c_known m _ (HM.out.below HB.out) (HI.out.below HB.out)).mono ?_; rintro e wn ⟨rfl, bq⟩; have HFK := Lib.hid (HB.out.trans (bq.mono HB.out.size)); clear bq; go_wp2; go_ret; exact ⟨rfl, HFK.out⟩
  rintro e wn ⟨rfl, bq⟩; replace HB := Lib.hid (HB.out.trans (bq.mono HB.out.size)); replace HP := Lib.hid (HP.out.below bq); have k0 := (bq.cell (lt_of_cellq k0)).trans k0; have k1 := (bq.cell (lt_of_cellq k1)).trans k1; have k2 := (bq.cell (lt_of_cellq k2)).trans k2; clear bq; have HPO := Lib.hid (pieceB_iff.1 h1); have HP1 := Lib.hid h1; clear h1
  (go_wp2_with fail); refine (r_Last pm cm p.ms.length _ _ n _).mono ?_
  rcases h4 : inB n 1 p.ms.length with _ | _
  · rintro e wn ⟨rfl, bq⟩; replace HB := Lib.hid (HB.out.trans (bq.mono HB.out.size)); clear bq
    (go_wp2_with fail); refine (c_known m _ (HM.out.below HB.out) (HI.out.below HB.out)).mono ?_; rintro e wn ⟨rfl, bq⟩; have HFK := Lib.hid (HB.out.trans (bq.mono HB.out.size)); clear bq; go_wp2; go_ret; exact ⟨rfl, HFK.out⟩
  rintro e wn ⟨rfl, bq⟩; replace HB := Lib.hid (HB.out.trans (bq.mono HB.out.size)); replace HP := Lib.hid (HP.out.below bq); have k0 := (bq.cell (lt_of_cellq k0)).trans k0; have k1 := (bq.cell (lt_of_cellq k1)).trans k1; have k2 := (bq.cell (lt_of_cellq k2)).trans k2; clear bq
  (go_wp2_with fail); refine (r_Far want _).mono ?_
  rcases h5 : inB want (-5000) 5000 with _ | _
  · rintro e wn ⟨rfl, bq⟩; replace HB := Lib.hid (HB.out.trans (bq.mono HB.out.size)); clear bq
    (go_wp2_with fail); refine (c_known m _ (HM.out.below HB.out) (HI.out.below HB.out)).mono ?_; rintro e wn ⟨rfl, bq⟩; have HFK := Lib.hid (HB.out.trans (bq.mono HB.out.size)); clear bq; go_wp2; go_ret; exact ⟨rfl, HFK.out⟩
  rintro e wn ⟨rfl, bq⟩; replace HB := Lib.hid (HB.out.trans (bq.mono HB.out.size)); replace HP := Lib.hid (HP.out.below bq); have k0 := (bq.cell (lt_of_cellq k0)).trans k0; have k1 := (bq.cell (lt_of_cellq k1)).trans k1; have k2 := (bq.cell (lt_of_cellq k2)).trans k2; clear bq
  (go_wp2_with fail); refine (r_Limit lim _).mono ?_
  rcases h6 : inB lim 0 5000 with _ | _
  · rintro e wn ⟨rfl, bq⟩; replace HB := Lib.hid (HB.out.trans (bq.mono HB.out.size)); clear bq
    (go_wp2_with fail); refine (c_known m _ (HM.out.below HB.out) (HI.out.below HB.out)).mono ?_; rintro e wn ⟨rfl, bq⟩; have HFK := Lib.hid (HB.out.trans (bq.mono HB.out.size)); clear bq; go_wp2; go_ret; exact ⟨rfl, HFK.out⟩
  rintro e wn ⟨rfl, bq⟩; replace HB := Lib.hid (HB.out.trans (bq.mono HB.out.size)); replace HP := Lib.hid (HP.out.below bq); have k0 := (bq.cell (lt_of_cellq k0)).trans k0; have k1 := (bq.cell (lt_of_cellq k1)).trans k1; have k2 := (bq.cell (lt_of_cellq k2)).trans k2; clear bq; have HFN := Lib.hid (show ((inB n 1 p.ms.length && inB want (-5000) 5000) && inB lim 0 5000) = true by rw [h4, h5, h6]; rfl); obtain ⟨a, rfl⟩ : ∃ a : Nat, n = (a : Int) := ⟨n.toNat, by have := inB_iff.1 h4; omega⟩; have HAL := Lib.hid (show a ≤ p.ms.length by have := inB_iff.1 h4; omega); have HWL := Lib.hid (show -5000 ≤ want ∧ want ≤ 5000 ∧ 0 ≤ lim ∧ lim ≤ 5000 by have := inB_iff.1 h5; have := inB_iff.1 h6; omega); clear h4 h5 h6
  by_cases h7 : p.mv.length < 8
  case neg =>
    have h7' : decide ((p.mv.length : Int) ≥ 8) = true := decide_eq_true (by omega); have h7b : (8 : Int) ≤ (p.mv.length : Int) := by omega
    (go_wp2_with fail); refine (c_known m _ (HM.out.below HB.out) (HI.out.below HB.out)).mono ?_; rintro e wn ⟨rfl, bq⟩; have HFK := Lib.hid (HB.out.trans (bq.mono HB.out.size)); clear bq; go_wp2; go_ret; exact ⟨rfl, HFK.out⟩
  have h7' : decide ((p.mv.length : Int) ≥ 8) = false := decide_eq_false (by omega)
  by_cases hm0 : mo < -300
  · (go_wp2_with fail); refine (c_known m _ (HM.out.below HB.out) (HI.out.below HB.out)).mono ?_; rintro e wn ⟨rfl, bq⟩; have HFK := Lib.hid (HB.out.trans (bq.mono HB.out.size)); clear bq; go_wp2; go_ret; exact ⟨rfl, HFK.out⟩
  have hm0' : decide (mo < -300) = false := decide_eq_false hm0
  by_cases hml : mo > 300
  · (go_wp2_with fail); refine (c_known m _ (HM.out.below HB.out) (HI.out.below HB.out)).mono ?_; rintro e wn ⟨rfl, bq⟩; have HFK := Lib.hid (HB.out.trans (bq.mono HB.out.size)); clear bq; go_wp2; go_ret; exact ⟨rfl, HFK.out⟩
  have hml' : decide (mo > 300) = false := decide_eq_false hml; have hmlb : decide (300 < mo) = false := decide_eq_false hml; have HMO := Lib.hid (show -300 ≤ mo ∧ mo ≤ 300 by omega); have H8 := Lib.hid h7; have HKA := Lib.hid (fun W (h : RdP W pm pv pr p) => c_Aim pm pv pr cm cv cr p (a : Int) want lim W h HLN.out); have HKT := Lib.hid (fun W (h : RdP W pm pv pr p) => c_Truths pm pv pr cm cv cr p W h HLN.out); clear h7
  by_cases ht : truthsF p = []
  · have HK1 := Lib.hid (fun W (h : RdP W pm pv pr p) => show Calls Tryz.prog 33 #[.agg #[.slice pm p.ms.length cm, .slice pv p.mv.length cv, .slice pr p.rs.length cr], .int .i64 (a : Int), .int .i64 want, .int .i64 lim] W fun e w' => e = .returned (.tuple #[.int .i64 0, .int .i64 7]) ∧ Below W.heap.size W w' by
      have hh := HKA.out W h; have he : errF p true = 7 := err_rule (by rw [HP1.out]; rfl) ht; unfold AimPost aimOut aimErr at hh; rw [HFN.out, he] at hh; exact hh)
    have HK2 := Lib.hid (fun W (h : RdP W pm pv pr p) => show Calls Tryz.prog 36 #[.agg #[.slice pm p.ms.length cm, .slice pv p.mv.length cv, .slice pr p.rs.length cr]] W fun e w' => e = .returned (.tuple #[.int .i64 0, .int .i64 0]) ∧ Below W.heap.size W w' by
      have hh := HKT.out W h; rw [HP1.out, ht] at hh; exact hh)
    clear HKA HKT ht
    (go_wp2_with fail); refine (HK1.out _ HP.out).mono ?_
    rintro e wn ⟨rfl, bq⟩; replace HB := Lib.hid (HB.out.trans (bq.mono HB.out.size)); replace HP := Lib.hid (HP.out.below bq); have k0 := (bq.cell (lt_of_cellq k0)).trans k0; have k1 := (bq.cell (lt_of_cellq k1)).trans k1; have k2 := (bq.cell (lt_of_cellq k2)).trans k2; clear bq
    (go_wp2_with fail); refine (HK2.out _ HP.out).mono ?_
    rintro e wn ⟨rfl, bq⟩; replace HB := Lib.hid (HB.out.trans (bq.mono HB.out.size)); clear bq
    (go_wp2_with fail); refine (c_known m _ (HM.out.below HB.out) (HI.out.below HB.out)).mono ?_; rintro e wn ⟨rfl, bq⟩; have HFK := Lib.hid (HB.out.trans (bq.mono HB.out.size)); clear bq; go_wp2; go_ret; exact ⟨rfl, HFK.out⟩
  have he : errF p true = 0 := err_good HP1.out rfl ht; have HNR := Lib.hid (fun (mv : Int) (hmv : -300 ≤ mv ∧ mv ≤ 300) W (h : RdP W pm pv pr p) => l_near pm pv pr cm cv cr p a mv want lim W h HPO.out ht HAL.out H8.out hmv HWL.out); have HN1 := Lib.hid (HNR.out mo HMO.out)
  rcases haf : aimF p a want lim with _ | mv
  · have HK1 := Lib.hid (fun W (h : RdP W pm pv pr p) => show Calls Tryz.prog 33 #[.agg #[.slice pm p.ms.length cm, .slice pv p.mv.length cv, .slice pr p.rs.length cr], .int .i64 (a : Int), .int .i64 want, .int .i64 lim] W fun e w' => e = .returned (.tuple #[.int .i64 0, .int .i64 5]) ∧ Below W.heap.size W w' by
      have hh := HKA.out W h; unfold AimPost aimOut aimErr at hh; rw [HFN.out, if_pos he, if_pos he, Int.toNat_natCast, haf] at hh; exact hh)
    have hno : aimedB p a want lim mo = false := aimTo_none 301 haf mo (by omega); rw [hno] at HN1; clear HKA HKT haf ht he hno HNR
    (go_wp2_with fail); refine (HK1.out _ HP.out).mono ?_
    rintro e wn ⟨rfl, bq⟩; replace HB := Lib.hid (HB.out.trans (bq.mono HB.out.size)); replace HP := Lib.hid (HP.out.below bq); have k0 := (bq.cell (lt_of_cellq k0)).trans k0; have k1 := (bq.cell (lt_of_cellq k1)).trans k1; have k2 := (bq.cell (lt_of_cellq k2)).trans k2; clear bq
    (go_wp2_with fail); refine (HN1.out _ HP.out).mono ?_
    rintro e wn ⟨rfl, bq⟩; replace HB := Lib.hid (HB.out.trans (bq.mono HB.out.size)); clear bq
    (go_wp2_with fail); refine (c_known m _ (HM.out.below HB.out) (HI.out.below HB.out)).mono ?_; rintro e wn ⟨rfl, bq⟩; have HFK := Lib.hid (HB.out.trans (bq.mono HB.out.size)); clear bq; go_wp2; go_ret; exact ⟨rfl, HFK.out⟩
  obtain ⟨ha1, ha2, ha3⟩ := aimTo_some 301 haf; have hmr : -300 ≤ mv ∧ mv ≤ 300 := by omega
  have HK1 := Lib.hid (fun W (h : RdP W pm pv pr p) => show Calls Tryz.prog 33 #[.agg #[.slice pm p.ms.length cm, .slice pv p.mv.length cv, .slice pr p.rs.length cr], .int .i64 (a : Int), .int .i64 want, .int .i64 lim] W fun e w' => e = .returned (.tuple #[.int .i64 mv, .int .i64 0]) ∧ Below W.heap.size W w' by
    have hh := HKA.out W h; unfold AimPost aimOut aimErr at hh; rw [HFN.out, if_pos he, if_pos he, Int.toNat_natCast, haf] at hh; exact hh)
  have HN2 := Lib.hid (HNR.out mv hmr); rw [ha1] at HN2; have v1 : decide (mv < -300) = false := decide_eq_false (by omega); have v2 : decide (mv > 300) = false := decide_eq_false (by omega); have v2b : decide (300 < mv) = false := decide_eq_false (by omega); have hwn : IntKind.i64.wrap (-mv) = -mv := w64 _ (by omega) (by omega); have hwm : IntKind.i64.wrap (-mo) = -mo := w64 _ (by omega) (by omega); obtain ⟨A, hA⟩ : ∃ A : Int, max mv (-mv) = A := ⟨_, rfl⟩; obtain ⟨M, hM⟩ : ∃ M : Int, max mo (-mo) = M := ⟨_, rfl⟩; have hAN : A = (mv.natAbs : Int) := by omega
  have hMN : M = (mo.natAbs : Int) := by omega
  rcases hbb : aimedB p a want lim mo with _ | _
  · rw [hbb] at HN1
    clear HKA HKT haf ht he ha1 ha2 ha3 HNR hAN hMN hbb hmr
    (go_wp2_with fail); refine (HK1.out _ HP.out).mono ?_
    rintro e wn ⟨rfl, bq⟩; replace HB := Lib.hid (HB.out.trans (bq.mono HB.out.size)); replace HP := Lib.hid (HP.out.below bq); have k0 := (bq.cell (lt_of_cellq k0)).trans k0; have k1 := (bq.cell (lt_of_cellq k1)).trans k1; have k2 := (bq.cell (lt_of_cellq k2)).trans k2; clear bq
    (go_wp2_with fail); refine (HN1.out _ HP.out).mono ?_
    rintro e wn ⟨rfl, bq⟩; replace HB := Lib.hid (HB.out.trans (bq.mono HB.out.size)); replace HP := Lib.hid (HP.out.below bq); have k0 := (bq.cell (lt_of_cellq k0)).trans k0; have k1 := (bq.cell (lt_of_cellq k1)).trans k1; have k2 := (bq.cell (lt_of_cellq k2)).trans k2; clear bq
    (go_wp2_with fail); refine (HN2.out _ HP.out).mono ?_
    rintro e wn ⟨rfl, bq⟩; replace HB := Lib.hid (HB.out.trans (bq.mono HB.out.size)); clear bq
    (go_wp2_with fail); refine (c_known m _ (HM.out.below HB.out) (HI.out.below HB.out)).mono ?_; rintro e wn ⟨rfl, bq⟩; have HFK := Lib.hid (HB.out.trans (bq.mono HB.out.size)); clear bq; go_wp2; go_ret; exact ⟨rfl, HFK.out⟩
  · rw [hbb] at HN1
    have h3 := ha3 mo hbb
    by_cases hgt : M > A
    · have x1 : decide (M > A) = true := decide_eq_true hgt
      clear HKA HKT haf ht he ha1 ha2 ha3 HNR hAN hMN hbb hmr h3
      (go_wp2_with fail); refine (HK1.out _ HP.out).mono ?_
      rintro e wn ⟨rfl, bq⟩; replace HB := Lib.hid (HB.out.trans (bq.mono HB.out.size)); replace HP := Lib.hid (HP.out.below bq); have k0 := (bq.cell (lt_of_cellq k0)).trans k0; have k1 := (bq.cell (lt_of_cellq k1)).trans k1; have k2 := (bq.cell (lt_of_cellq k2)).trans k2; clear bq
      (go_wp2_with fail); refine (HN1.out _ HP.out).mono ?_
      rintro e wn ⟨rfl, bq⟩; replace HB := Lib.hid (HB.out.trans (bq.mono HB.out.size)); replace HP := Lib.hid (HP.out.below bq); have k0 := (bq.cell (lt_of_cellq k0)).trans k0; have k1 := (bq.cell (lt_of_cellq k1)).trans k1; have k2 := (bq.cell (lt_of_cellq k2)).trans k2; clear bq
      (go_wp2_with fail); refine (HN2.out _ HP.out).mono ?_
      rintro e wn ⟨rfl, bq⟩; replace HB := Lib.hid (HB.out.trans (bq.mono HB.out.size)); clear bq
      (go_wp2_with fail); refine (c_known m _ (HM.out.below HB.out) (HI.out.below HB.out)).mono ?_; rintro e wn ⟨rfl, bq⟩; have HFK := Lib.hid (HB.out.trans (bq.mono HB.out.size)); clear bq; go_wp2; go_ret; exact ⟨rfl, HFK.out⟩
    · have hMA : M = A := by omega
      have x1 : decide (M > A) = false := decide_eq_false hgt; have x2 : (M == A) = true := by rw [beq_iff_eq]; exact hMA
      by_cases hn0 : mv ≥ 0
      · have x3 : decide (mv ≥ 0) = true := decide_eq_true hn0
        clear HKA HKT haf ht he ha1 ha2 ha3 HNR hAN hMN hbb hmr h3 hMA hgt
        (go_wp2_with fail); refine (HK1.out _ HP.out).mono ?_
        rintro e wn ⟨rfl, bq⟩; replace HB := Lib.hid (HB.out.trans (bq.mono HB.out.size)); replace HP := Lib.hid (HP.out.below bq); have k0 := (bq.cell (lt_of_cellq k0)).trans k0; have k1 := (bq.cell (lt_of_cellq k1)).trans k1; have k2 := (bq.cell (lt_of_cellq k2)).trans k2; clear bq
        (go_wp2_with fail); refine (HN1.out _ HP.out).mono ?_
        rintro e wn ⟨rfl, bq⟩; replace HB := Lib.hid (HB.out.trans (bq.mono HB.out.size)); replace HP := Lib.hid (HP.out.below bq); have k0 := (bq.cell (lt_of_cellq k0)).trans k0; have k1 := (bq.cell (lt_of_cellq k1)).trans k1; have k2 := (bq.cell (lt_of_cellq k2)).trans k2; clear bq
        (go_wp2_with fail); refine (HN2.out _ HP.out).mono ?_
        rintro e wn ⟨rfl, bq⟩; replace HB := Lib.hid (HB.out.trans (bq.mono HB.out.size)); clear bq
        (go_wp2_with fail); refine (c_known m _ (HM.out.below HB.out) (HI.out.below HB.out)).mono ?_; rintro e wn ⟨rfl, bq⟩; have HFK := Lib.hid (HB.out.trans (bq.mono HB.out.size)); clear bq; go_wp2; go_ret; exact ⟨rfl, HFK.out⟩
      · have x3 : decide (mv ≥ 0) = false := decide_eq_false hn0
        have x4 : decide (mo ≤ 0) = true := decide_eq_true (by omega); clear HKA HKT haf ht he ha1 ha2 ha3 HNR hAN hMN hbb hmr h3 hMA hgt
        (go_wp2_with fail); refine (HK1.out _ HP.out).mono ?_
        rintro e wn ⟨rfl, bq⟩; replace HB := Lib.hid (HB.out.trans (bq.mono HB.out.size)); replace HP := Lib.hid (HP.out.below bq); have k0 := (bq.cell (lt_of_cellq k0)).trans k0; have k1 := (bq.cell (lt_of_cellq k1)).trans k1; have k2 := (bq.cell (lt_of_cellq k2)).trans k2; clear bq
        (go_wp2_with fail); refine (HN1.out _ HP.out).mono ?_
        rintro e wn ⟨rfl, bq⟩; replace HB := Lib.hid (HB.out.trans (bq.mono HB.out.size)); replace HP := Lib.hid (HP.out.below bq); have k0 := (bq.cell (lt_of_cellq k0)).trans k0; have k1 := (bq.cell (lt_of_cellq k1)).trans k1; have k2 := (bq.cell (lt_of_cellq k2)).trans k2; clear bq
        (go_wp2_with fail); refine (HN2.out _ HP.out).mono ?_
        rintro e wn ⟨rfl, bq⟩; replace HB := Lib.hid (HB.out.trans (bq.mono HB.out.size)); clear bq
        (go_wp2_with fail); refine (c_known m _ (HM.out.below HB.out) (HI.out.below HB.out)).mono ?_; rintro e wn ⟨rfl, bq⟩; have HFK := Lib.hid (HB.out.trans (bq.mono HB.out.size)); clear bq; go_wp2; go_ret; exact ⟨rfl, HFK.out⟩
end Go.Proofs.YtlednchfifphgabGreatDoor
end

section
namespace Go.Proofs.YtlednchfifphgabGreatDoor
open Go Go.ChangeShapes Go.WideShapes Go.ChangeAt Go.RowKit Go.Proofs
set_option linter.unusedVariables false

set_option maxRecDepth 100000 in
theorem slackAimed_lifted (os : Os) (started : os.Started) (H : Type) (enc : TypeId × Value → H) :
    ReturnsInHanded {} Tryz.checked os 8 .any (fun w args => (Rows.slackAimedSpec.pre enc Tryz.prog Tryz.f8 [] false w args ∧ laidMetH Tryz.prog lay5 w) ∧ sizedMet enc Tryz.prog Tryz.f8 (OpenSpec.ofChange Rows.slackAimedSpec) false w args)
      (Rows.slackAimedSpec.post enc Tryz.prog Tryz.f8 false true false false) := by
  refine returns_listed (C := Tryz.checked) (X := fun w _ => laidMetH Tryz.prog lay5 w) (fun _ _ _ hh h => h.of_heap hh) ownT started (by kernel_rfl) Tryz.func8
    (ChangeSpec.witness_shaped (enc := enc) (C := Tryz.checked) (os := os) (X := fun w _ => laidMetH Tryz.prog lay5 w) false (World.laidAll Tryz.prog os lay5) #[.agg #[.slice none 0 0, .slice none 0 0, .slice none 0 0], .int .i64 0, .int .i64 0, .int .i64 0, .int .i64 0] 12 (World.laidAll_os _ _ _)
      (World.shaped_of_ZipB (by kernel_rfl) (by kernel_rfl)) (by kernel_rfl) (by kernel_rfl) (by kernel_rfl)
      (by rw [MakeChecks.laidMetH_plain _ _ _ (by kernel_rfl)]; exact laidMet_laidAll _ (by kernel_rfl) (by kernel_rfl))) ?_
  intro W base args ds gs before hval0 hW hX hSh; have hval : ∀ (j : Nat) t v, Tryz.f8.params[j]? = some t → args[j]? = some v → Value.okWide Tryz.prog W .any base t v := hval0; have hW' := hW; obtain ⟨p, q, hA0, hV, rfl, _, _⟩ := hW; have hA : DataW.TrodAll enc Tryz.prog W 0 (fun _ => true) true Tryz.f8.params.toList args.toList ds p := hA0; rw [Tryz.params8] at hA hval; obtain ⟨v0, vs0, d0, ds0, p0, q0, hargs, rfl, rfl, h0, r0⟩ := trodAll_cons hA; obtain ⟨v1, vs1, d1, ds1, p1, q1, rfl, rfl, rfl, h1, r1⟩ := trodAll_cons r0; obtain ⟨v2, vs2, d2, ds2, p2, q2, rfl, rfl, rfl, h2, r2⟩ := trodAll_cons r1; obtain ⟨v3, vs3, d3, ds3, p3, q3, rfl, rfl, rfl, h3, r3⟩ := trodAll_cons r2; obtain ⟨v4, vs4, d4, ds4, p4, q4, rfl, rfl, rfl, h4, r4⟩ := trodAll_cons r3; obtain ⟨rfl, rfl, rfl⟩ := trodAll_nil r4; obtain rfl : args = #[v0, v1, v2, v3, v4] := by cases args; simp_all
  obtain ⟨rfl, rfl⟩ := trodVars_none hV; obtain ⟨pm0, pv0, pr0, cm0, cv0, cr0, p0, rfl, rd0⟩ := op_piece (hval 0 26 v0 rfl rfl) h0; obtain ⟨a1, rfl, la1, ua1⟩ := op_int (hval 1 3 v1 rfl rfl) h1; obtain ⟨a2, rfl, la2, ua2⟩ := op_int (hval 2 3 v2 rfl rfl) h2; obtain ⟨a3, rfl, la3, ua3⟩ := op_int (hval 3 3 v3 rfl rfl) h3; obtain ⟨a4, rfl, la4, ua4⟩ := op_int (hval 4 3 v4 rfl rfl) h4; clear hA0 hval0; obtain ⟨m, hm⟩ := maxLen_of hSh; have hit := itoaG_of (pow10_of hX); refine (law_Aimed pm0 pv0 pr0 cm0 cv0 cr0 p0 a1 a2 a3 a4 m W rd0 hm hit).mono fun e W' ⟨he, bel⟩ => ?_
  subst he; exact ⟨_, rfl, _, _, _, [], _, [], hW', trodAll_mk1 (shut_bool Tryz.underlying4 _), (trodAll_cons_mk (Below.trod laidOutT (by kernel_rfl) (of_decide_eq_true (by kernel_rfl)) h0 bel (trod_lt h0)) (trodAll_cons_mk (Below.trod laidOutT (by kernel_rfl) (of_decide_eq_true (by kernel_rfl)) h1 bel (trod_lt h1)) (trodAll_cons_mk (Below.trod laidOutT (by kernel_rfl) (of_decide_eq_true (by kernel_rfl)) h2 bel (trod_lt h2)) (trodAll_cons_mk (Below.trod laidOutT (by kernel_rfl) (of_decide_eq_true (by kernel_rfl)) h3 bel (trod_lt h3)) (trodAll_cons_mk (Below.trod laidOutT (by kernel_rfl) (of_decide_eq_true (by kernel_rfl)) h4 bel (trod_lt h4)) trodAll_mk0))))), rfl, bel.frame _, fun h => by cases h⟩
theorem slackAimed_wf : Rows.slackAimedRow.wf (OpenSpec.ofChange Rows.slackAimedSpec) = true := by kernel_rfl
theorem slackAimed_inPlace : (Rows.slackAimedRow.inPlace == Tryz.prog.inPlace 8) = true := by kernel_rfl
theorem slackAimed_unfollowed : (Rows.slackAimedRow.unfollowed == Tryz.prog.unfollowed 8) = true := by kernel_rfl
theorem slackAimed_recurses : (Rows.slackAimedRow.recurses == Tryz.prog.recurses 8) = true := by kernel_rfl
theorem slackAimed_named : (Rows.slackAimedRow.named == Tryz.prog.varsNamed 8) = true := by kernel_rfl
theorem slackAimed_goes : false = Rows.slackAimedRow.goesBy Tryz.prog := by kernel_rfl
theorem slackAimed_func : Tryz.prog.funcNamed Rows.slackAimedRow.func = some 8 := by kernel_rfl
theorem slackAimed_text : Rows.slackAimedRow.wfByText (OpenSpec.ofChange Rows.slackAimedSpec) = true := by kernel_rfl
theorem slackAimed_closed : joinedFacts Tryz.prog 8 Tryz.f8 Rows.slackAimedSpec Rows.slackAimedRow = true :=
  (and_t (and_t (and_t (and_t (and_t (and_t (and_t (and_t (and_t (and_t (and_t (and_t (and_t (and_t (and_t (and_t (and_t (and_t (and_t (and_t (and_t (and_t (and_t (and_t (and_t (and_t (and_t (and_t (and_t (and_t (and_t slackAimed_wf tLaidOut) tMaps) (by kernel_rfl)) (by kernel_rfl)) (by kernel_rfl)) (by kernel_rfl)) (by kernel_rfl)) (by kernel_rfl)) slackAimed_inPlace) slackAimed_unfollowed) slackAimed_recurses) slackAimed_named) (by kernel_rfl)) (by kernel_rfl)) (by kernel_rfl)) (by kernel_rfl)) (by kernel_rfl)) (by kernel_rfl)) (by kernel_rfl)) (by kernel_rfl)) (by kernel_rfl)) (by kernel_rfl)) (by kernel_rfl)) tHeard) tMayEnter) (eq_t (α := Bool) tFinal.symm)) (eq_t tMake)) (by kernel_rfl)) (by kernel_rfl)) (by kernel_rfl)) (by kernel_rfl))
theorem slackAimed_wrap : Func.isWrapper Tryz.prog Tryz.f8 Rows.slackAimedRow.wrapper Rows.slackAimedRow.mainSum := by unfold Func.isWrapper; rw [if_neg (of_decide_eq_false (by kernel_rfl))]; exact ⟨rfl, rfl⟩
theorem slackAimed_row : Rows.SlackAimedSaid :=
  OpenClaim.holds_of_wide 8 Tryz.f8 rfl rfl rfl rfl rfl rfl rfl ⟨rfl, rfl, rfl, rfl, rfl⟩ rfl rfl rfl rfl rfl slackAimed_func Tryz.func8 slackAimed_closed (of_decide_eq_true (by kernel_rfl)) slackAimed_wrap (fun os started H enc _ => slackAimed_lifted os started H enc)
theorem slackAimed_plain : ∀ (j : Nat) t, Tryz.f8.params[j]? = some t → Tryz.prog.wantsStandIn t = false := fun j t ht => by
  rw [Tryz.params8] at ht; have hm : t ∈ [26, 3, 3, 3, 3] := by simpa using Array.mem_of_getElem? ht
  have hall : ([26, 3, 3, 3, 3].all fun u => !Tryz.prog.wantsStandIn u) = true := by kernel_rfl
  exact (show Tryz.prog.wantsStandIn t = false by simpa using List.all_eq_true.1 hall t hm)
theorem slackAimed_holds : Rows.SlackAimedCardSaid :=
  Claim7.holds_tied_plain_at .later [] [.data, .data, .data, .data, .pinned] true (true, "be822bbd39a17464ee6526ca2e9d32d2a3a9815fece3866167cb0f3f46fef96e") true slackAimed_row (fun _ h => by cases h) slackAimed_text (fun _ h => by cases h) slackAimed_row_tie rfl ⟨rfl, rfl⟩ tMainIs rfl
    (fun f fn hf hfn => by
      obtain rfl : f = 8 := Option.some.inj (slackAimed_func.symm.trans hf) |>.symm
      obtain rfl : fn = Tryz.f8 := (Option.some.inj (Tryz.func8.symm.trans hfn)).symm; exact ⟨tLooks, slackAimed_plain⟩)
    slackAimed_goes
#print axioms slackAimed_holds
end Go.Proofs.YtlednchfifphgabGreatDoor
end
