/-
  Plain laws of bounds, of lost motion, and of a crank that is turned on and back (no program in sight).
  Plain laws of truths: a reading more, a play that is known, how many are left (no program in sight).
  What a reading, and a hand, read as.
  A move made in two parts: what the moves are then, and where the arbors are (no program in sight).
  A negation in a quiet walk.
  A drawn region whose cells are known: its beginning, in short words.
  The document's move of all arbors, and where all arbors are: contracts.
  A piece with some moves more, or with one reading more, in the document's words: contracts.
  The document's places before the first move and after each one: contract.
  Whether plays are a truth, in the document's words: contract.
  All truths, in the document's words: contract.
  Where all arbors are after all moves, in each of some truths: contract.
  The least and the greatest number at each place of some lists: contracts.
  What the laws ask: a piece's truths, or its error; contracts.
  The stage's theorem: what is known of a piece (the walk).
  The laws' word on plain spans: contract.
  One reading more never makes bounds wider (the walk).
  The law SlackMore: its card. Conditions: none of the input; the tables of the library that the row lists are as the program lays them (the tie is given).
-/
import Derived.Test.YtlednchfifphgaaGreatDoorGA
import Derived.Test.YtlednchfifphgaaGreatDoorGZ
import Derived.Test.YtlednchfifphgaaGreatDoorGH
import Derived.Test.YtlednchfifphgaaGreatDoorGG
import Derived.Test.YtlednchfifphgaaGreatDoorGL
import Derived.Test.YtlednchfifphgaaGreatDoorGD
import Derived.Deep.Upon
import Derived.Deep.AppendLies
import Derived.Deep.RegionLaw
import Derived.StillTailTactics
import Derived.OwnWalk
import Derived.Maps.AppendAt
import Derived.Test.YtlednchfifphgaaGreatDoorGJ
import Derived.Test.YtlednchfifphgaaGreatDoorGM
import Derived.Test.YtlednchfifphgaaGreatDoorGN
import Derived.Test.YtlednchfifphgaaGreatDoorGY
import Derived.BigQuiet
import Derived.Test.YtlednchfifphgaaGreatDoorCards
section
namespace Go.Proofs.YtlednchfifphgaaGreatDoor
set_option linter.unusedVariables false

theorem known_plain {p : Pc} (hp : PieceOk p) (h : truthsF p ≠ []) (a : Nat) (ha : a ≤ p.ms.length) : -2800 ≤ (gm (knownF p) a).1 ∧ (gm (knownF p) a).1 ≤ (gm (knownF p) a).2 ∧ (gm (knownF p) a).2 ≤ 2400 := by
  rw [knownF_at p a ha]; refine ovF_in _ _ _ h fun pl hpl => ?_
  have hk := truth_plays hp hpl; have := place_range hp hk p.mv.length a (Nat.le_refl _) (by rw [hk.len]; exact ha); exact ⟨this.1, Int.le_refl _, this.2⟩
theorem proved_plain {p : Pc} (hp : PieceOk p) (h : truthsF p ≠ []) (i : Nat) (hi : i < p.ms.length) : 0 ≤ (gm (provedF p) i).1 ∧ (gm (provedF p) i).1 ≤ (gm (provedF p) i).2 ∧ (gm (provedF p) i).2 ≤ 100 := by
  rw [provedF_at p i hi]; refine ovF_in _ _ _ h fun pl hpl => ?_
  have hk := truth_plays hp hpl; have := hk.in' i (by rw [hk.len]; exact hi); exact ⟨this.1, Int.le_refl _, this.2⟩

end Go.Proofs.YtlednchfifphgaaGreatDoor
end

section
namespace Go.Proofs.YtlednchfifphgaaGreatDoor
set_option linter.unusedVariables false

def moreF (p : Pc) (r : Rd) : Pc := { p with rs := p.rs ++ [r] }
theorem moreF_fits (p : Pc) (r : Rd) (pl : List Int) : fitsB (moreF p r) pl = (fitsB p pl && agreeB pl p.mv r) := by
  unfold fitsB; show (withinB p pl && (p.rs ++ [r]).all (agreeB pl p.mv)) = _; rw [List.all_append, List.all_cons, List.all_nil, Bool.and_true, Bool.and_assoc]
theorem moreF_truths (p : Pc) (r : Rd) : truthsF (moreF p r) = (truthsF p).filter fun pl => agreeB pl p.mv r := by
  unfold truthsF; rw [List.filter_filter]; show (prodF p.ms).filter _ = _
  congr 1
  funext pl
  rw [moreF_fits, Bool.and_comm]
theorem more_fewer (p : Pc) (r : Rd) : (truthsF (moreF p r)).length ≤ (truthsF p).length := by
  rw [moreF_truths]; exact List.length_filter_le _ _
theorem ov_narrow {p q : Pc} (of og : List Int → Int × Int) (hs : ∀ pl ∈ truthsF q, pl ∈ truthsF p ∧ og pl = of pl) (h : truthsF q ≠ []) : (ovF p of).1 ≤ (ovF q og).1 ∧ (ovF q og).2 ≤ (ovF p of).2 := by
  obtain ⟨a, ha, ea⟩ := ovF_low og h; obtain ⟨b, hb, eb⟩ := ovF_high og h; obtain ⟨a1, a2⟩ := hs a ha; obtain ⟨b1, b2⟩ := hs b hb; have h1 := ovF_mem of a1; have h2 := ovF_mem of b1; rw [ea, eb, a2, b2]; exact ⟨h1.1, h2.2⟩
theorem more_known (p : Pc) (r : Rd) (h : truthsF (moreF p r) ≠ []) (a : Nat) (ha : a ≤ p.ms.length) : (gm (knownF p) a).1 ≤ (gm (knownF (moreF p r)) a).1 ∧ (gm (knownF (moreF p r)) a).2 ≤ (gm (knownF p) a).2 := by
  rw [knownF_at p a ha, knownF_at (moreF p r) a ha]; refine ov_narrow _ _ (fun pl hpl => ?_) h; rw [moreF_truths] at hpl; exact ⟨(List.mem_filter.1 hpl).1, rfl⟩
theorem more_proved (p : Pc) (r : Rd) (h : truthsF (moreF p r) ≠ []) (i : Nat) (hi : i < p.ms.length) : (gm (provedF p) i).1 ≤ (gm (provedF (moreF p r)) i).1 ∧ (gm (provedF (moreF p r)) i).2 ≤ (gm (provedF p) i).2 := by
  rw [provedF_at p i hi, provedF_at (moreF p r) i hi]; refine ov_narrow _ _ (fun pl hpl => ?_) h; rw [moreF_truths] at hpl; exact ⟨(List.mem_filter.1 hpl).1, rfl⟩
end Go.Proofs.YtlednchfifphgaaGreatDoor
end

section
namespace Go.Proofs.YtlednchfifphgaaGreatDoor
open Go Go.ChangeShapes Go.WideShapes Go.ChangeAt Go.RowKit Go.Proofs
set_option linter.unusedVariables false
section
variable {H : Type} {enc : TypeId × Value → H} {W : World}
set_option maxRecDepth 100000 in
theorem op_reading {base : Nat} {v : Value} {d : DataW H} {ps : List MemPlace} (hv : Value.okWide Tryz.prog W .any base 68 v) (h : DataW.Trod enc Tryz.prog W 0 (fun _ => true) true 68 v d ps) :
    ∃ r : Rd, v = .agg #[.int .i64 r.aft, .int .i64 r.arb, .int .i64 r.seen, .int .i64 r.off] := by
  obtain ⟨v0, v1, v2, v3, y0, y1, y2, y3, n, rfl, _, _, h0, h1, h2, h3⟩ := Joins.open_agg4 Tryz.underlying68 (by kernel_rfl) tc_read hv h; obtain ⟨a, rfl, _⟩ := int_ofT h0; obtain ⟨b, rfl, _⟩ := int_ofT h1; obtain ⟨c, rfl, _⟩ := int_ofT h2; obtain ⟨e, rfl, _⟩ := int_ofT h3; exact ⟨⟨a, b, c, e⟩, rfl⟩
end
end Go.Proofs.YtlednchfifphgaaGreatDoor
end

section
namespace Go.Proofs.YtlednchfifphgaaGreatDoor
set_option linter.unusedVariables false

end Go.Proofs.YtlednchfifphgaaGreatDoor
end

section
namespace Go.Proofs.YtlednchfifphgaaGreatDoor
open Go Go.RowKit
set_option linter.unusedVariables false
end Go.Proofs.YtlednchfifphgaaGreatDoor
end

section
namespace Go.Proofs.YtlednchfifphgaaGreatDoor
open Go Go.RowKit
set_option linter.unusedVariables false
section
variable {P : Program} {ops : Array Oper} {Q : Exit → Act → World → Prop} {id : Nat} {a : Act} {w : World}
theorem cl7 {a0 a1 a2 a3 a4 a5 a6 : Addr} {v0 v1 v2 v3 v4 v5 v6 : Value} (h0 : w.cell? a0 = some v0) (h1 : w.cell? a1 = some v1) (h2 : w.cell? a2 = some v2) (h3 : w.cell? a3 = some v3) (h4 : w.cell? a4 = some v4) (h5 : w.cell? a5 = some v5) (h6 : w.cell? a6 = some v6) : ∀ w', Below w.heap.size w w' → w'.cell? a0 = some v0 ∧ w'.cell? a1 = some v1 ∧ w'.cell? a2 = some v2 ∧ w'.cell? a3 = some v3 ∧ w'.cell? a4 = some v4 ∧ w'.cell? a5 = some v5 ∧ w'.cell? a6 = some v6 := fun w' hb => ⟨(hb.cell (lt_of_cellq h0)).trans h0, (hb.cell (lt_of_cellq h1)).trans h1, (hb.cell (lt_of_cellq h2)).trans h2, (hb.cell (lt_of_cellq h3)).trans h3, (hb.cell (lt_of_cellq h4)).trans h4, (hb.cell (lt_of_cellq h5)).trans h5, (hb.cell (lt_of_cellq h6)).trans h6⟩
theorem held7 {a0 a1 a2 a3 a4 a5 a6 : Addr} {v0 v1 v2 v3 v4 v5 v6 : Value} (h0 : w.cell? a0 = some v0) (h1 : w.cell? a1 = some v1) (h2 : w.cell? a2 = some v2) (h3 : w.cell? a3 = some v3) (h4 : w.cell? a4 = some v4) (h5 : w.cell? a5 = some v5) (h6 : w.cell? a6 = some v6)
    (k : ∀ W0, Below w.heap.size w W0 → wpAnyH P .any ops Q (fun w' => w'.cell? a0 = some v0 ∧ w'.cell? a1 = some v1 ∧ w'.cell? a2 = some v2 ∧ w'.cell? a3 = some v3 ∧ w'.cell? a4 = some v4 ∧ w'.cell? a5 = some v5 ∧ w'.cell? a6 = some v6) ops.size (Array.replicate ops.size false) a W0)
    (hm : P.follows .mixedOrders = true := by kernel_rfl) : (Code.region id ops true).wp P Q a w :=
  wp_region_held_drew (S := fun w' => w'.cell? a0 = some v0 ∧ w'.cell? a1 = some v1 ∧ w'.cell? a2 = some v2 ∧ w'.cell? a3 = some v3 ∧ w'.cell? a4 = some v4 ∧ w'.cell? a5 = some v5 ∧ w'.cell? a6 = some v6) hm (cl7 h0 h1 h2 h3 h4 h5 h6 _ (Below.refl _ _).drew) (fun _ => k _ (Below.refl _ _).drew)
end
end Go.Proofs.YtlednchfifphgaaGreatDoor
end

section
namespace Go.Proofs.YtlednchfifphgaaGreatDoor
open Go Go.RowKit Go.Proofs
set_option linter.unusedVariables false
set_option linter.unusedSimpArgs false
attribute [local go_sem] imax2 imin2

theorem run_append_src {P : Program} (w : World) (base : Nat) (t ty e : TypeId) (i : TypeInfo) (z : Value) (size bytes : Nat) (ht : P.underlying t = some (.slice e)) (hi : P.info? e = some i) (hz : i.zero = some z)
    (hsize : i.size = size) (hby : i.bytes = bytes) (hzs : z.cells.size = size) (hsz : 0 < size)
    (v : Value) (n : Nat) (xs : List Value) (hown : w.ownsRow base e size v n xs)
    (po : Option Addr) (m c : Nat) (news : List Value) (hl : news.length = m * size) (hnews : m = 0 ∨ ∃ ad, po = some ad ∧ ∀ j u, news[j]? = some u → w.cell? (ad.add j) = some u) (h1 : ∀ u ∈ news, u.oneCell' = true)
    (h63 : n + m ≤ maxLen) (hbytes : (n + m) * bytes ≤ 140737488355328) (hbase : base ≤ w.heap.size) :
    ∃ v' w', (Builtin.append_ #[t, t] ty #[v, .slice po m c]).run P w = .ok v' w' ∧ w'.ownsRow base e size v' (n + m) (xs ++ news) ∧ w.grownBy w' v.ownBlock ∧ (v'.ownBlock = v.ownBlock ∨ v'.ownBlock = some w.heap.size) := by
  by_cases hm : m = 0
  · subst hm
    have hn : news = [] := List.length_eq_zero_iff.1 (by rw [hl, Nat.zero_mul]); subst hn
    have hs : Src P i.size t (.slice po 0 c) 0 [] w := by
      cases po with
      | none => exact Src.ofNil w ht c
      | some a => exact Src.ofSlice w ht a 0 c [] (by simp) (by intro j u hu; simp at hu) (by intro u hu; cases hu)
    rcases hown.2 with ⟨rfl, rfl⟩ | ⟨g, cap, cur, rfl, hb, hg, hnc, hrest⟩
    · exact ⟨_, w, run_append_nothing w t t ty e i ht hi none 0 0 (Nat.le_refl _) _ hs, by simpa using hown, World.grownBy.refl _ _, .inl rfl⟩
    · exact ⟨_, w, run_append_nothing w t t ty e i ht hi (some ⟨g, 0, none⟩) n cap hnc _ hs, by simpa using hown, World.grownBy.refl _ _, .inl rfl⟩
  · obtain ⟨ad, rfl, hc⟩ := hnews.resolve_left hm
    obtain ⟨v', w', hr, h2, h3, _, h5⟩ := run_append_own_at (P := P) w base t ty e i z size bytes ht hi hz hsize hby hzs hsz v n xs hown ad m c news hl hc h1 h63 hbytes hbase; exact ⟨v', w', hr, h2, h3, h5⟩
theorem step_append_src {P : Program} (w : World) {ops : Array Oper} {o : Oper} {a : Act} {K : Act → World → Prop} {Q : Exit → Act → World → Prop} {E : Prop} (hgd : o.guard = none) (s x : Operand) (t : TypeId)
    (ho : o.op = .call { callee := .builtin .append, args := #[s, x], argTypes := #[t, t] })
    (base : Nat) (e : TypeId) (i : TypeInfo) (z : Value) (size bytes : Nat) (ht : P.underlying t = some (.slice e)) (hi : P.info? e = some i) (hz : i.zero = some z)
    (hsize : i.size = size) (hby : i.bytes = bytes) (hzs : z.cells.size = size) (hsz : 0 < size)
    (v : Value) (n : Nat) (xs : List Value) (hs : a.eval s = v) (hown : w.ownsRow base e size v n xs)
    (po : Option Addr) (m c : Nat) (news : List Value) (hx : a.eval x = .slice po m c) (hl : news.length = m * size) (hnews : m = 0 ∨ ∃ ad, po = some ad ∧ ∀ j u, news[j]? = some u → w.cell? (ad.add j) = some u) (h1 : ∀ u ∈ news, u.oneCell' = true)
    (h63 : n + m ≤ maxLen) (hbytes : (n + m) * bytes ≤ 140737488355328) (hbase : base ≤ w.heap.size)
    (h : ∀ v' w', w'.ownsRow base e size v' (n + m) (xs ++ news) → w.grownBy w' v.ownBlock → (v'.ownBlock = v.ownBlock ∨ v'.ownBlock = some w.heap.size) → K (a.put o.dst v') w') :
    if Region.wanted o (yielded ops a.tmps) = true then Oper.wp P o a w K Q else E := by
  have hw : Region.wanted o (yielded ops a.tmps) = true := by simp [Region.wanted, hgd]
  rw [if_pos hw]; obtain ⟨v', w', hr, h2, h3, h5⟩ := run_append_src (P := P) w base t o.type e i z size bytes ht hi hz hsize hby hzs hsz v n xs hown po m c news hl hnews h1 h63 hbytes hbase; unfold Oper.wp execOp; simp only [ho, resolve, invoke, builtin, Sem.run_bind, Sem.run_pure, Result.andThen_ok, List.map_toArray, List.map_cons, List.map_nil, hs, hx, hr]; exact h v' w' h2 h3 h5
def ElV (w : World) (B : Nat) (css : List (List Int)) (hs : List Value) : Prop := hs.length = css.length ∧ ∀ i, i < css.length → ∃ v, hs[i]? = some v ∧ w.ownsRow B 3 1 v (gl css i).length (inV (gl css i))
theorem ElV.below {w w' : World} {B : Nat} {css : List (List Int)} {hs : List Value} (h : ElV w B css hs) (hb : Below w.heap.size w w') : ElV w' B css hs := by
  refine ⟨h.1, fun i hi => ?_⟩; obtain ⟨v, e1, e2⟩ := h.2 i hi; exact ⟨v, e1, own_kept e2 hb⟩
theorem ElV.mono {w : World} {B B' : Nat} {css : List (List Int)} {hs : List Value} (h : ElV w B css hs) (hB : B' ≤ B) : ElV w B' css hs := by
  refine ⟨h.1, fun i hi => ?_⟩; obtain ⟨v, e1, e2⟩ := h.2 i hi; exact ⟨v, e1, own_mono e2 hB⟩
theorem ElV.grown {w w' : World} {B B' n size e : Nat} {css : List (List Int)} {hs xs : List Value} {v : Value} (h : ElV w B css hs) (ho : w.ownsRow B' e size v n xs) (he : e ≠ 3) (hg : w.grownBy w' v.ownBlock) : ElV w' B css hs := by
  refine ⟨h.1, fun i hi => ?_⟩; obtain ⟨u, e1, e2⟩ := h.2 i hi; exact ⟨u, e1, e2.kept hg (own_apart e2 ho (Ne.symm he))⟩
def OwLs (w : World) (B : Nat) (v : Value) (ls : List (List Int)) : Prop := ∃ hs, w.ownsRow B 23 1 v ls.length hs ∧ ElV w B ls hs
theorem OwLs.nil (w : World) (B : Nat) : OwLs w B (.slice none 0 0) [] := ⟨[], World.ownsRow_nil _ _ _ _, rfl, fun i hi => by simp at hi⟩
theorem OwLs.below {w w' : World} {B : Nat} {v : Value} {ls : List (List Int)} (h : OwLs w B v ls) (hb : Below w.heap.size w w') : OwLs w' B v ls := by
  obtain ⟨hs, h1, h2⟩ := h; exact ⟨hs, own_kept h1 hb, h2.below hb⟩
theorem OwLs.mono {w : World} {B B' : Nat} {v : Value} {ls : List (List Int)} (h : OwLs w B v ls) (hB : B' ≤ B) : OwLs w B' v ls := by
  obtain ⟨hs, h1, h2⟩ := h; exact ⟨hs, own_mono h1 hB, h2.mono hB⟩
theorem OwLs.read {w : World} {B : Nat} {v : Value} {ls : List (List Int)} (h : OwLs w B v ls) : ∃ q c, v = .slice q ls.length c ∧ RdLs w q ls := by
  obtain ⟨hs, h1, h2⟩ := h
  rcases h1.2 with ⟨rfl, h0⟩ | ⟨g, cap, cur, rfl, hrest⟩
  · have : ls = [] := List.length_eq_zero_iff.1 h0
    subst this; exact ⟨none, 0, rfl, .inl rfl⟩
  · refine ⟨some ⟨g, 0, none⟩, cap, rfl, .inr ⟨g, 0, rfl, fun i hi => ?_⟩⟩
    obtain ⟨u, e1, e2⟩ := h2.2 i hi; obtain ⟨q, c, hu, hr⟩ := rd_of_own e2; subst hu; have h3 := h1.cells (g := g) rfl i _ e1; rw [add_new] at h3; exact ⟨q, c, by rw [Nat.zero_add]; exact h3, hr⟩
end Go.Proofs.YtlednchfifphgaaGreatDoor
end

section
namespace Go.Proofs.YtlednchfifphgaaGreatDoor
open Go Go.RowKit Go.Proofs
set_option linter.unusedVariables false
set_option linter.unusedSimpArgs false
attribute [local go_sem] imax2 imin2

theorem add_lit0 (b off j : Nat) : (⟨b, off, none⟩ : Addr).add j = ⟨b, off + j, none⟩ := by unfold Addr.add; split <;> simp_all
theorem rdV_length : ∀ l : List Rd, (rdV l).length = l.length * 4 := by
  intro l
  induction l with
  | nil => rfl
  | cons x l ih => simp only [rdV, List.length_cons, ih]; omega
theorem rdV_cells : ∀ l : List Rd, ∀ u ∈ rdV l, u.oneCell' = true := by
  intro l
  induction l with
  | nil => intro u hu; cases hu
  | cons x l ih =>
    intro u hu; simp only [rdV, List.mem_cons] at hu
    rcases hu with rfl | rfl | rfl | rfl | hu
    · rfl
    · rfl
    · rfl
    · rfl
    · exact ih u hu
theorem news_reads {w : World} {q : Option Addr} {xs : List Rd} (h : RdR w q xs) : xs.length = 0 ∨ ∃ ad, q = some ad ∧ ∀ i u, (rdV xs)[i]? = some u → w.cell? (ad.add i) = some u := by
  rcases h with rfl | ⟨b, off, rfl, hc⟩
  · exact .inl rfl
  · refine .inr ⟨_, rfl, fun i u hu => ?_⟩
    have hi : i < xs.length * 4 := by have := (List.getElem?_eq_some_iff.1 hu).1; rw [rdV_length] at this; exact this
    have hj : i / 4 < xs.length := by omega
    obtain ⟨g0, g1, g2, g3⟩ := rdV_get xs (i / 4) hj; obtain ⟨c0, c1, c2, c3⟩ := hc (i / 4) hj; rw [add_lit0]; have hr : i % 4 = 0 ∨ i % 4 = 1 ∨ i % 4 = 2 ∨ i % 4 = 3 := by omega
    rcases hr with hr | hr | hr | hr
    · have e : i = i / 4 * 4 := by omega
      rw [e] at hu ⊢; rw [g0] at hu; cases hu; exact c0
    · have e : i = i / 4 * 4 + 1 := by omega
      rw [e] at hu ⊢; rw [g1] at hu; cases hu; exact c1
    · have e : i = i / 4 * 4 + 2 := by omega
      rw [e] at hu ⊢; rw [g2] at hu; cases hu; exact c2
    · have e : i = i / 4 * 4 + 3 := by omega
      rw [e] at hu ⊢; rw [g3] at hu; cases hu; exact c3

end Go.Proofs.YtlednchfifphgaaGreatDoor
end

section
namespace Go.Proofs.YtlednchfifphgaaGreatDoor
open Go Go.RowKit Go.Proofs
set_option linter.unusedVariables false
set_option linter.unusedSimpArgs false
attribute [local go_sem] imax2 imin2

end Go.Proofs.YtlednchfifphgaaGreatDoor
end

section
namespace Go.Proofs.YtlednchfifphgaaGreatDoor
open Go Go.RowKit Go.Proofs
set_option linter.unusedVariables false
set_option linter.unusedSimpArgs false
attribute [local go_sem] imax2 imin2

end Go.Proofs.YtlednchfifphgaaGreatDoor
end

section
namespace Go.Proofs.YtlednchfifphgaaGreatDoor
open Go Go.RowKit Go.Proofs
set_option linter.unusedVariables false
set_option linter.unusedSimpArgs false
attribute [local go_sem] imax2 imin2

def ElR (w : World) (css : List (List Int)) (hs : List Value) : Prop := hs.length = css.length ∧ ∀ i, i < css.length → ∃ q c, hs[i]? = some (.slice q (gl css i).length c) ∧ RdI w q (gl css i)
theorem ElR.read {w w' : World} {B : Nat} {v : Value} {css : List (List Int)} {hs : List Value} (h : ElR w css hs) (ho : w'.ownsRow B 23 1 v css.length hs) (hb : Below w.heap.size w w') : ∃ q c, v = .slice q css.length c ∧ RdLs w' q css := by
  rcases ho.2 with ⟨rfl, h0⟩ | ⟨g, cap, cur, rfl, hrest⟩
  · have : css = [] := List.length_eq_zero_iff.1 h0
    subst this; exact ⟨none, 0, rfl, .inl rfl⟩
  · refine ⟨some ⟨g, 0, none⟩, cap, rfl, .inr ⟨g, 0, rfl, fun i hi => ?_⟩⟩
    obtain ⟨q, c, e1, e2⟩ := h.2 i hi; have h3 := ho.cells (g := g) rfl i _ e1; rw [add_new] at h3; exact ⟨q, c, by rw [Nat.zero_add]; exact h3, e2.below hb⟩
end Go.Proofs.YtlednchfifphgaaGreatDoor
end

section
namespace Go.Proofs.YtlednchfifphgaaGreatDoor
open Go Go.RowKit Go.Proofs
set_option linter.unusedVariables false
set_option linter.unusedSimpArgs false
attribute [local go_sem] imax2 imin2

end Go.Proofs.YtlednchfifphgaaGreatDoor
end

section
namespace Go.Proofs.YtlednchfifphgaaGreatDoor
open Go Go.RowKit Go.Proofs
set_option linter.unusedVariables false
set_option linter.unusedSimpArgs false
attribute [local go_sem] imax2 imin2

end Go.Proofs.YtlednchfifphgaaGreatDoor
end

section
namespace Go.Proofs.YtlednchfifphgaaGreatDoor
open Go Go.RowKit Go.Proofs
set_option linter.unusedVariables false
set_option linter.unusedSimpArgs false

def LAskNo (er : Int) (w : World) (e : Ending) (w' : World) : Prop := e = .returned (.tuple #[.slice none 0 0, .int .i64 er]) ∧ Below w.heap.size w w'
end Go.Proofs.YtlednchfifphgaaGreatDoor
end

section
namespace Go.Proofs.YtlednchfifphgaaGreatDoor
open Go Go.RowKit Go.Proofs
set_option linter.unusedVariables false
set_option linter.unusedSimpArgs false
attribute [local go_sem] imax2 imin2

def SpOk (L : List (Int × Int)) (w : World) (e : Ending) (w' : World) : Prop := ∃ q c, e = .returned (.tuple #[.slice q L.length c, .int .i64 0]) ∧ RdS w' q L ∧ Below w.heap.size w w'
theorem spans_rule {p : Pc} {L : List (Int × Int)} {w w' : World} {e : Ending} (h1 : pieceB p = true) (ht : truthsF p = []) (h : SpansPost p L w e w') : LAskNo 7 w e w' := by
  rcases h with ⟨h | h | h, hb⟩
  · rw [h1] at h; cases h.1
  · exact ⟨h.2.2, hb⟩
  · exact absurd ht h.2.1
theorem spans_ok {p : Pc} {L : List (Int × Int)} {w w' : World} {e : Ending} (h1 : pieceB p = true) (ht : truthsF p ≠ []) (h : SpansPost p L w e w') : SpOk L w e w' := by
  rcases h with ⟨h | h | ⟨_, _, g, c, he, ho⟩, hb⟩
  · rw [h1] at h; cases h.1
  · exact absurd h.2.1 ht
  · exact ⟨_, c, he, rdS_at ho rfl, hb⟩
end Go.Proofs.YtlednchfifphgaaGreatDoor
end

section
namespace Go.Proofs.YtlednchfifphgaaGreatDoor
open Go Go.RowKit Go.Proofs
set_option linter.unusedVariables false
set_option linter.unusedSimpArgs false

set_option maxRecDepth 100000 in
theorem l_plain (q : Option Addr) (c : Nat) (ls : List (Int × Int)) (many : Int) (n : Nat) (w : World) (hn : ls.length = n) (hn2 : n ≤ 1000) (hr : RdS w q ls) (hp : ∀ i, i < ls.length → -5000 ≤ (gm ls i).1 ∧ (gm ls i).1 ≤ (gm ls i).2 ∧ (gm ls i).2 ≤ 5000) (hm : (n : Int) = many) :
    Calls Tryz.prog 37 #[.slice q n c, .int .i64 many] w fun e w' => e = .returned (.bool true) ∧ Below w.heap.size w w' := by
  subst hm; have HP := Lib.hid (show ∀ i, i < n → -5000 ≤ (gm ls i).1 ∧ (gm ls i).1 ≤ (gm ls i).2 ∧ (gm ls i).2 ≤ 5000 from fun i hi => hp i (by rw [hn]; exact hi)); have HR := Lib.hid hr; have HN := Lib.hid hn; have heq : ((n : Int) == (n : Int)) = true := by simp
  clear hp hr hn
  go_enter Tryz.func37, Tryz.ntmps37
  go_wp2
  go_loopw [5] (fun i wr => ∃ k : Nat, k ≤ n ∧ i = .int .i64 k ∧ ∃ d, wr = w.drewN d) (fun i _ => n - (intOf i).toNat)
  case atStart => exact ⟨0, Nat.zero_le _, rfl, 0, rfl⟩
  case round =>
    obtain ⟨k, hk, rfl, d, hwr⟩ := hrel; have HW := Lib.hid hwr
    by_cases hlt : k < n
    · have hki : (k : Int) < (n : Int) := by omega
      obtain ⟨b, off, rfl, hc⟩ := HR.out.at (by rw [HN.out]; exact hlt); obtain ⟨e0, e1⟩ := hc k (by rw [HN.out]; exact hlt); have d0 : wr.cell? ⟨b, off + k * 2, none⟩ = some (.int .i64 (gm ls k).1) := by rw [hwr]; exact e0
      have d1 : wr.cell? ⟨b, off + k * 2 + 1, none⟩ = some (.int .i64 (gm ls k).2) := by rw [hwr]; exact e1
      obtain ⟨g1, g2, g3⟩ := HP.out k hlt; obtain ⟨A, hA⟩ : ∃ A, (gm ls k).1 = A := ⟨_, rfl⟩; obtain ⟨B, hB⟩ : ∃ B, (gm ls k).2 = B := ⟨_, rfl⟩; rw [hA] at d0 g1 g2; rw [hB] at d1 g2 g3; have t1 : decide (A < -5000) = false := decide_eq_false (by omega); have t2 : decide (A > B) = false := decide_eq_false (by omega); have t2b : decide (B < A) = false := decide_eq_false (by omega); have t3 : decide (B > 5000) = false := decide_eq_false (by omega); have t3b : decide (5000 < B) = false := decide_eq_false (by omega); clear hc e0 e1 hA hB hwr; go_wp2
      go_quiet (fail)
      go_wp2; go_roundw
      case rel => exact ⟨k + 1, by omega, by go_num, by rw [HW.out]; first | exact ⟨_, rfl⟩ | (rw [drew_add]; exact ⟨_, rfl⟩)⟩
      case measure => simp [intOf]; omega
    · obtain rfl : k = n := by omega
      have hki : ¬ (k : Int) < (k : Int) := by omega
      go_wp2; go_ret; exact ⟨rfl, by first | exact below_drewN (Below.refl _ _) _ | (rw [HW.out]; exact below_drewN (Below.refl _ _) _)⟩
end Go.Proofs.YtlednchfifphgaaGreatDoor
end

section
namespace Go.Proofs.YtlednchfifphgaaGreatDoor
open Go Go.RowKit Go.Proofs
set_option linter.unusedVariables false
set_option linter.unusedSimpArgs false
attribute [local go_sem] imax2 imin2

theorem spans_rule' {p : Pc} {L : List (Int × Int)} {w w' : World} {e : Ending} (h1 : pieceB p = true) (ht : truthsF p = []) (h : SpansPost p L w e w') : e = .returned (.tuple #[.slice none 0 0, .int .i64 7]) ∧ Below w.heap.size w w' := spans_rule h1 ht h
set_option maxHeartbeats 12800000 in
set_option maxRecDepth 100000 in
theorem law_More (pm pv pr : Option Addr) (cm cv cr : Nat) (p : Pc) (r : Rd) (m : Int) (w : World) (hp : RdP w pm pv pr p) (hm : MaxL m w) (hi : ItoaG w) :
    Calls Tryz.prog 12 #[.agg #[.slice pm p.ms.length cm, .slice pv p.mv.length cv, .slice pr p.rs.length cr], .agg #[.int .i64 r.aft, .int .i64 r.arb, .int .i64 r.seen, .int .i64 r.off]] w (LawPost w) := by
  obtain ⟨i0, hi0, hz0, hz1, hz2⟩ := info_parts infR; obtain ⟨w0, e0, HS0, k0, k1, k2, b0⟩ := box3 w (.slice pm p.ms.length cm) (.slice pv p.mv.length cv) (.slice pr p.rs.length cr) 26; obtain ⟨w1, e1, HS1, q0, q1, q2, q3, b1⟩ := box4 w0 (.int .i64 r.aft) (.int .i64 r.arb) (.int .i64 r.seen) (.int .i64 r.off) 68; have k0 := (b1.cell (lt_of_cellq k0)).trans k0; have k1 := (b1.cell (lt_of_cellq k1)).trans k1; have k2 := (b1.cell (lt_of_cellq k2)).trans k2; have b01 := b0.trans (b1.mono b0.size); have HP := Lib.hid (hp.below b01); have HP0 := Lib.hid hp; have HM := Lib.hid hm; have HI := Lib.hid hi; have HB := Lib.hid b01; have HZ0 := Lib.hid (show w.heap.size < w0.heap.size by have := HS0.out; omega); clear hp hm hi b0 b1 b01
  go_enter Tryz.func12, Tryz.ntmps12
  (go_wp2_with fail); refine (c_short pm pv pr cm cv cr p _).mono ?_
  clear e0 e1
  rcases hs : shortB p with _ | _
  · rintro e wn ⟨rfl, bq⟩; replace HB := Lib.hid (HB.out.trans (bq.mono HB.out.size)); clear bq
    (go_wp2_with fail); refine (c_known m _ (HM.out.below HB.out) (HI.out.below HB.out)).mono ?_; rintro e wn ⟨rfl, bq⟩; have HFK := Lib.hid (HB.out.trans (bq.mono HB.out.size)); clear bq; go_wp2; go_ret; exact ⟨rfl, HFK.out⟩
  rintro e wn ⟨rfl, bq⟩; replace HB := Lib.hid (HB.out.trans (bq.mono HB.out.size)); replace HP := Lib.hid (HP.out.below bq); have k0 := (bq.cell (lt_of_cellq k0)).trans k0; have k1 := (bq.cell (lt_of_cellq k1)).trans k1; have k2 := (bq.cell (lt_of_cellq k2)).trans k2; have q0 := (bq.cell (lt_of_cellq q0)).trans q0; have q1 := (bq.cell (lt_of_cellq q1)).trans q1; have q2 := (bq.cell (lt_of_cellq q2)).trans q2; have q3 := (bq.cell (lt_of_cellq q3)).trans q3; clear bq; have HLN := Lib.hid (short_len hs); clear hs
  (go_wp2_with fail); refine (r_Piece pm pv pr cm cv cr p _ HP.out HLN.out).mono ?_
  rcases h1 : pieceB p with _ | _
  · rintro e wn ⟨rfl, bq⟩; replace HB := Lib.hid (HB.out.trans (bq.mono HB.out.size)); clear bq
    (go_wp2_with fail); refine (c_known m _ (HM.out.below HB.out) (HI.out.below HB.out)).mono ?_; rintro e wn ⟨rfl, bq⟩; have HFK := Lib.hid (HB.out.trans (bq.mono HB.out.size)); clear bq; go_wp2; go_ret; exact ⟨rfl, HFK.out⟩
  rintro e wn ⟨rfl, bq⟩; replace HB := Lib.hid (HB.out.trans (bq.mono HB.out.size)); replace HP := Lib.hid (HP.out.below bq); have k0 := (bq.cell (lt_of_cellq k0)).trans k0; have k1 := (bq.cell (lt_of_cellq k1)).trans k1; have k2 := (bq.cell (lt_of_cellq k2)).trans k2; have q0 := (bq.cell (lt_of_cellq q0)).trans q0; have q1 := (bq.cell (lt_of_cellq q1)).trans q1; have q2 := (bq.cell (lt_of_cellq q2)).trans q2; have q3 := (bq.cell (lt_of_cellq q3)).trans q3; clear bq; have HPO := Lib.hid (pieceB_iff.1 h1); have HP1 := Lib.hid h1; clear h1; have hr6 : p.rs.length ≤ 6 := HPO.out.r6; have kx := alloc_new wn (.cells #[.slice pm p.ms.length cm, .slice pv p.mv.length cv, .slice pr p.rs.length cr] 26); obtain ⟨w3, e3, HS3, _, _, _, bq⟩ := box3 wn (.slice pm p.ms.length cm) (.slice pv p.mv.length cv) (.slice pr p.rs.length cr) 26; rw [e3] at kx; go_upto_region 4 with (fail); have hbw := HB.out.size
  skip; replace HB := Lib.hid (HB.out.trans (bq.mono HB.out.size)); replace HP := Lib.hid (HP.out.below bq); have k0 := (bq.cell (lt_of_cellq k0)).trans k0; have k1 := (bq.cell (lt_of_cellq k1)).trans k1; have k2 := (bq.cell (lt_of_cellq k2)).trans k2; have q0 := (bq.cell (lt_of_cellq q0)).trans q0; have q1 := (bq.cell (lt_of_cellq q1)).trans q1; have q2 := (bq.cell (lt_of_cellq q2)).trans q2; have q3 := (bq.cell (lt_of_cellq q3)).trans q3; clear bq
  have HKX := Lib.hid kx; have HZ := Lib.hid (show w.heap.size < w0.heap.size ∧ w0.heap.size < wn.heap.size ∧ wn.heap.size < w3.heap.size from ⟨HZ0.out, lt_of_cellq (a := ⟨w0.heap.size, 0, none⟩) (by assumption), block_lt HKX.out⟩); obtain ⟨B, hB⟩ : ∃ B, wn.heap.size = B := ⟨_, rfl⟩; rw [hB] at HZ HKX ⊢; clear e3 kx hB hbw; have HSB := Lib.hid (cl7 k0 k1 k2 q0 q1 q2 q3); refine held7 k0 k1 k2 q0 q1 q2 q3 (fun W0 HB0 => ?_); refine tk 0 rfl (by exact HSB.out _ HB0) ?_; (try simp only [Act.put, ptL]); refine tk 1 rfl (by exact HSB.out _ HB0) ?_; (try simp only [Act.put, ptL]); refine tk 3 rfl (by exact HSB.out _ HB0) ?_; (try simp only [Act.put, ptL]); refine rz2 2 4 rfl rfl ?ordA ?ordB
  case' ordA =>
    intro K hK; refine step_append_src _ rfl _ _ 24 rfl w3.heap.size 68 i0 _ 4 32 Tryz.underlying24 hi0 hz0 hz1 hz2 rfl (by decide) (.slice none 0 0) 0 [] rfl (World.ownsRow_nil _ _ _ _) pr p.rs.length cr (rdV p.rs) rfl (by rw [rdV_length]) (news_reads (HP.out.rs.below HB0)) (rdV_cells _) (by unfold maxLen; omega) (by omega) HB0.size ?_; intro v1 wa hown1 hgrow1 hat1; have hba : Below w3.heap.size w3 wa := HB0.grown hgrow1 HB0.size (fun j hj => by simp [Value.ownBlock] at hj); refine kz hK (by exact HSB.out _ hba) ?_; clear hK K; (try simp only [Act.put, ptL]); refine rz1 4 rfl (fun K hK => ?_); go_simp; refine kz hK (by exact HSB.out _ (hba.alloc hba.size _)) ?_; clear hK K; (try simp only [Act.put, ptL]); have g1 := hown1.alloc (.cells #[.int .i64 r.aft, .int .i64 r.arb, .int .i64 r.seen, .int .i64 r.off] 68); have g2 := hba.alloc hba.size (.cells #[.int .i64 r.aft, .int .i64 r.arb, .int .i64 r.seen, .int .i64 r.off] 68)
    have g3 : ∀ j u, ([.int .i64 r.aft, .int .i64 r.arb, .int .i64 r.seen, .int .i64 r.off] : List Value)[j]? = some u → (wa.alloc (.cells #[.int .i64 r.aft, .int .i64 r.arb, .int .i64 r.seen, .int .i64 r.off] 68)).cell? ((⟨wa.heap.size, 0, none⟩ : Addr).add j) = some u := news_of wa _ _; obtain ⟨G, hG⟩ : ∃ G, wa.heap.size = G := ⟨_, rfl⟩; obtain ⟨W2, hW2⟩ : ∃ W2, wa.alloc (.cells #[.int .i64 r.aft, .int .i64 r.arb, .int .i64 r.seen, .int .i64 r.off] 68) = W2 := ⟨_, rfl⟩; rw [hW2] at g1 g2 g3; rw [hG] at g3; rw [hW2, hG]; clear hown1 hgrow1 hat1 hba hG hW2
  case' ordB =>
    intro K hK; go_simp; refine kz hK (by exact HSB.out _ (HB0.alloc HB0.size _)) ?_; clear hK K; (try simp only [Act.put, ptL]); have bl := HB0.alloc HB0.size (.cells #[.int .i64 r.aft, .int .i64 r.arb, .int .i64 r.seen, .int .i64 r.off] 68); have hn0 : ∀ j u, ([.int .i64 r.aft, .int .i64 r.arb, .int .i64 r.seen, .int .i64 r.off] : List Value)[j]? = some u → (W0.alloc (.cells #[.int .i64 r.aft, .int .i64 r.arb, .int .i64 r.seen, .int .i64 r.off] 68)).cell? ((⟨W0.heap.size, 0, none⟩ : Addr).add j) = some u := news_of W0 _ _; refine rz1 2 rfl (fun K hK => ?_); refine step_append_src _ rfl _ _ 24 rfl w3.heap.size 68 i0 _ 4 32 Tryz.underlying24 hi0 hz0 hz1 hz2 rfl (by decide) (.slice none 0 0) 0 [] rfl (World.ownsRow_nil _ _ _ _) pr p.rs.length cr (rdV p.rs) rfl (by rw [rdV_length]) (news_reads (HP.out.rs.below bl)) (rdV_cells _) (by unfold maxLen; omega) (by omega) bl.size ?_; intro v1 W2 hown1 hgrow1 hat1
    have g1 := hown1; have g2 : Below w3.heap.size w3 W2 := bl.grown hgrow1 bl.size (fun j hj => by simp [Value.ownBlock] at hj); have g3 : ∀ j u, ([.int .i64 r.aft, .int .i64 r.arb, .int .i64 r.seen, .int .i64 r.off] : List Value)[j]? = some u → W2.cell? ((⟨W0.heap.size, 0, none⟩ : Addr).add j) = some u := fun j u hj => (hgrow1.cell_far _ (lt_of_cellq (hn0 j u hj)) (by simp [Value.ownBlock])).trans (hn0 j u hj)
    refine kz hK (by exact HSB.out _ g2) ?_; clear hK K; (try simp only [Act.put, ptL]); obtain ⟨G, hG⟩ : ∃ G, W0.heap.size = G := ⟨_, rfl⟩; rw [hG] at g3; rw [hG]; clear hown1 hgrow1 hat1 bl hG hn0
  all_goals
    rw [Nat.zero_add, List.nil_append] at g1; refine rz1 5 rfl (fun K hK => ?_); refine step_append_src _ rfl _ _ 24 rfl w3.heap.size 68 i0 _ 4 32 Tryz.underlying24 hi0 hz0 hz1 hz2 rfl (by decide) v1 p.rs.length _ rfl g1 (some ⟨G, 0, none⟩) 1 1 [.int .i64 r.aft, .int .i64 r.arb, .int .i64 r.seen, .int .i64 r.off] rfl rfl (.inr ⟨_, rfl, g3⟩) (by intro u hu; simp at hu; rcases hu with rfl | rfl | rfl | rfl <;> rfl) (by unfold maxLen; omega) (by omega) g2.size ?_; intro v2 W3 hown2 hgrow2 hat2; have g4 : Below w3.heap.size w3 W3 := g2.grown hgrow2 g2.size (fun j hj => (g1.lt j hj).1); refine kz hK (by exact HSB.out _ g4) ?_; clear hK K; (try simp only [Act.put, ptL]); obtain ⟨gv, cv', rfl⟩ := own_anyE hown2; refine tk 6 rfl (by exact HSB.out _ g4) ?_; (try simp only [Act.put, ptL]); have hkx := (g4.block _ (block_lt HKX.out)).trans HKX.out; obtain ⟨wc, s1, c1, f1, hx1, hxk1, HZ1, hxb1⟩ := put3_2 W3 B 26 _ _ _ (.slice gv (p.rs.length + 1) cv') hkx
    have hq : ∀ j, wc.cell? ⟨w.heap.size, j, none⟩ = W3.cell? ⟨w.heap.size, j, none⟩ := fun j => World.cell?_of_block (a := ⟨w.heap.size, j, none⟩) (hxk1 w.heap.size (by have := HZ.out; omega))
    have hq2 : ∀ j, wc.cell? ⟨w0.heap.size, j, none⟩ = W3.cell? ⟨w0.heap.size, j, none⟩ := fun j => World.cell?_of_block (a := ⟨w0.heap.size, j, none⟩) (hxk1 w0.heap.size (by have := HZ.out; omega))
    have hSc : wc.cell? ⟨w.heap.size, 0, none⟩ = some (.slice pm p.ms.length cm) ∧ wc.cell? ⟨w.heap.size, 1, none⟩ = some (.slice pv p.mv.length cv) ∧ wc.cell? ⟨w.heap.size, 2, none⟩ = some (.slice pr p.rs.length cr) ∧ wc.cell? ⟨w0.heap.size, 0, none⟩ = some (.int .i64 r.aft) ∧ wc.cell? ⟨w0.heap.size, 1, none⟩ = some (.int .i64 r.arb) ∧ wc.cell? ⟨w0.heap.size, 2, none⟩ = some (.int .i64 r.seen) ∧ wc.cell? ⟨w0.heap.size, 3, none⟩ = some (.int .i64 r.off) := by
      rw [hq, hq, hq, hq2, hq2, hq2, hq2]; exact HSB.out _ g4
    refine rz1 7 rfl (fun K hK => ?_); go_simp; refine kz hK (by exact hSc) ?_; clear hK K; (try simp only [Act.put, ptL]); refine wpAnyH_done (by kernel_rfl) ?_ _; obtain ⟨k0, k1, k2, _⟩ := hSc; obtain ⟨x0, x1, x2⟩ := cells3 hx1; have hbf : Below w.heap.size w wc := hxb1 w w.heap.size (by have := HZ.out; omega) (HB.out.trans (g4.mono HB.out.size)); have hof := own_same hown2 (w' := wc) (fun g' hg' => hxk1 g' (by have h := (hown2.lt g' hg').1; have := HZ.out; omega)); have HX := Lib.hid (show RdP wc pm pv gv (moreF p r) from ⟨(HP0.out.below hbf).ms, (HP0.out.below hbf).mv, rdR_at (by rw [show rdV (moreF p r).rs = rdV p.rs ++ [.int .i64 r.aft, .int .i64 r.arb, .int .i64 r.seen, .int .i64 r.off] from rdV_append p.rs _]; exact hof) (by show (p.rs ++ _).length = _; rw [List.length_append]; rfl)⟩); replace HP := Lib.hid (HP0.out.below hbf); replace HB := Lib.hid hbf; have hml : (moreF p r).rs.length = p.rs.length + 1 := List.length_append
    have HLX := Lib.hid (show LenOk (moreF p r) from ⟨HLN.out.ms, HLN.out.mv, by rw [hml]; omega⟩)
    have HXP := Lib.hid (fun W (h : RdP W pm pv gv (moreF p r)) => show Calls Tryz.prog 16 #[.agg #[.slice pm p.ms.length cm, .slice pv p.mv.length cv, .slice gv (p.rs.length + 1) cv']] W fun e w' => e = .returned (.bool (pieceB (moreF p r))) ∧ Below W.heap.size W w' by
      have h' := r_Piece pm pv gv cm cv cv' (moreF p r) W h HLX.out; rw [hml] at h'; exact h')
    have HXT := Lib.hid (fun W (h : RdP W pm pv gv (moreF p r)) => show Calls Tryz.prog 36 #[.agg #[.slice pm p.ms.length cm, .slice pv p.mv.length cv, .slice gv (p.rs.length + 1) cv']] W fun e w' => e = .returned (.tuple #[.int .i64 (if pieceB (moreF p r) = true then ((truthsF (moreF p r)).length : Int) else 0), .int .i64 (if pieceB (moreF p r) = true then 0 else 2)]) ∧ Below W.heap.size W w' by
      have h' := c_Truths pm pv gv cm cv cv' (moreF p r) W h HLX.out; rw [hml] at h'; exact h')
    have HXK := Lib.hid (fun W (h : RdP W pm pv gv (moreF p r)) => show Calls Tryz.prog 22 #[.agg #[.slice pm p.ms.length cm, .slice pv p.mv.length cv, .slice gv (p.rs.length + 1) cv']] W (SpansPost (moreF p r) (knownF (moreF p r)) W) by
      have h' := c_Known pm pv gv cm cv cv' (moreF p r) W h HLX.out; rw [hml] at h'; exact h')
    have HXL := Lib.hid (fun W (h : RdP W pm pv gv (moreF p r)) => show Calls Tryz.prog 23 #[.agg #[.slice pm p.ms.length cm, .slice pv p.mv.length cv, .slice gv (p.rs.length + 1) cv']] W (SpansPost (moreF p r) (provedF (moreF p r)) W) by
      have h' := c_Plays pm pv gv cm cv cv' (moreF p r) W h HLX.out; rw [hml] at h'; exact h')
    have HPT := Lib.hid (fun W (h : RdP W pm pv pr p) => show Calls Tryz.prog 36 #[.agg #[.slice pm p.ms.length cm, .slice pv p.mv.length cv, .slice pr p.rs.length cr]] W fun e w' => e = .returned (.tuple #[.int .i64 ((truthsF p).length : Int), .int .i64 0]) ∧ Below W.heap.size W w' by
      have h' := c_Truths pm pv pr cm cv cr p W h HLN.out; simp only [HP1.out, if_true] at h'; exact h')
    clear hx1 hxk1 hxb1 hof hown2 hgrow2 hat2 g1 g2 g3 g4 HB0 hbf hq hq2 HSB hkx s1 c1 f1 hml q0 q1 q2 q3
    (go_wp2_with fail); refine (HXP.out _ HX.out).mono ?_
    rcases hx1 : pieceB (moreF p r) with _ | _
    · rintro e wn ⟨rfl, bq⟩; replace HB := Lib.hid (HB.out.trans (bq.mono HB.out.size)); clear bq
      (go_wp2_with fail); refine (c_known m _ (HM.out.below HB.out) (HI.out.below HB.out)).mono ?_; rintro e wn ⟨rfl, bq⟩; have HFK := Lib.hid (HB.out.trans (bq.mono HB.out.size)); clear bq; go_wp2; go_ret; exact ⟨rfl, HFK.out⟩
    have HX1 := Lib.hid hx1; rw [hx1] at HXT; clear hx1; rintro e wn ⟨rfl, bq⟩; replace HB := Lib.hid (HB.out.trans (bq.mono HB.out.size)); replace HP := Lib.hid (HP.out.below bq); replace HX := Lib.hid (HX.out.below bq); have k0 := (bq.cell (lt_of_cellq k0)).trans k0; have k1 := (bq.cell (lt_of_cellq k1)).trans k1; have k2 := (bq.cell (lt_of_cellq k2)).trans k2; have x0 := (bq.cell (lt_of_cellq x0)).trans x0; have x1 := (bq.cell (lt_of_cellq x1)).trans x1; have x2 := (bq.cell (lt_of_cellq x2)).trans x2; clear bq; have hxt : (if true = true then ((truthsF (moreF p r)).length : Int) else 0) = ((truthsF (moreF p r)).length : Int) := if_pos rfl; have hxe : (if true = true then (0 : Int) else 2) = 0 := if_pos rfl; rw [hxt, hxe] at HXT; clear hxt hxe; have HTS := Lib.hid (moreF_truths p r); have HMF := Lib.hid (more_fewer p r)
    by_cases htx : truthsF (moreF p r) = []
    · have HTX := Lib.hid htx
      by_cases ht : truthsF p = []
      · have HT := Lib.hid ht
        rw [htx] at HXT; rw [ht] at HPT; clear ht htx
        (go_wp2_with fail); refine (HPT.out _ HP.out).mono ?_
        rintro e wn ⟨rfl, bq⟩; replace HB := Lib.hid (HB.out.trans (bq.mono HB.out.size)); replace HP := Lib.hid (HP.out.below bq); replace HX := Lib.hid (HX.out.below bq); have k0 := (bq.cell (lt_of_cellq k0)).trans k0; have k1 := (bq.cell (lt_of_cellq k1)).trans k1; have k2 := (bq.cell (lt_of_cellq k2)).trans k2; have x0 := (bq.cell (lt_of_cellq x0)).trans x0; have x1 := (bq.cell (lt_of_cellq x1)).trans x1; have x2 := (bq.cell (lt_of_cellq x2)).trans x2; clear bq
        (go_wp2_with fail); refine (HXT.out _ HX.out).mono ?_
        rintro e wn ⟨rfl, bq⟩; replace HB := Lib.hid (HB.out.trans (bq.mono HB.out.size)); replace HP := Lib.hid (HP.out.below bq); replace HX := Lib.hid (HX.out.below bq); have k0 := (bq.cell (lt_of_cellq k0)).trans k0; have k1 := (bq.cell (lt_of_cellq k1)).trans k1; have k2 := (bq.cell (lt_of_cellq k2)).trans k2; have x0 := (bq.cell (lt_of_cellq x0)).trans x0; have x1 := (bq.cell (lt_of_cellq x1)).trans x1; have x2 := (bq.cell (lt_of_cellq x2)).trans x2; clear bq
        (go_wp2_with fail); refine ((c_Known pm pv pr cm cv cr p _ HP.out HLN.out).mono fun _ _ => spans_rule' HP1.out HT.out).mono ?_
        rintro e wn ⟨rfl, bq⟩; replace HB := Lib.hid (HB.out.trans (bq.mono HB.out.size)); replace HP := Lib.hid (HP.out.below bq); replace HX := Lib.hid (HX.out.below bq); have k0 := (bq.cell (lt_of_cellq k0)).trans k0; have k1 := (bq.cell (lt_of_cellq k1)).trans k1; have k2 := (bq.cell (lt_of_cellq k2)).trans k2; have x0 := (bq.cell (lt_of_cellq x0)).trans x0; have x1 := (bq.cell (lt_of_cellq x1)).trans x1; have x2 := (bq.cell (lt_of_cellq x2)).trans x2; clear bq
        (go_wp2_with fail); refine ((HXK.out _ HX.out).mono fun _ _ => spans_rule' HX1.out HTX.out).mono ?_
        rintro e wn ⟨rfl, bq⟩; replace HB := Lib.hid (HB.out.trans (bq.mono HB.out.size)); replace HP := Lib.hid (HP.out.below bq); replace HX := Lib.hid (HX.out.below bq); have k0 := (bq.cell (lt_of_cellq k0)).trans k0; have k1 := (bq.cell (lt_of_cellq k1)).trans k1; have k2 := (bq.cell (lt_of_cellq k2)).trans k2; have x0 := (bq.cell (lt_of_cellq x0)).trans x0; have x1 := (bq.cell (lt_of_cellq x1)).trans x1; have x2 := (bq.cell (lt_of_cellq x2)).trans x2; clear bq
        (go_wp2_with fail); refine ((c_Plays pm pv pr cm cv cr p _ HP.out HLN.out).mono fun _ _ => spans_rule' HP1.out HT.out).mono ?_
        rintro e wn ⟨rfl, bq⟩; replace HB := Lib.hid (HB.out.trans (bq.mono HB.out.size)); replace HP := Lib.hid (HP.out.below bq); replace HX := Lib.hid (HX.out.below bq); have k0 := (bq.cell (lt_of_cellq k0)).trans k0; have k1 := (bq.cell (lt_of_cellq k1)).trans k1; have k2 := (bq.cell (lt_of_cellq k2)).trans k2; have x0 := (bq.cell (lt_of_cellq x0)).trans x0; have x1 := (bq.cell (lt_of_cellq x1)).trans x1; have x2 := (bq.cell (lt_of_cellq x2)).trans x2; clear bq
        (go_wp2_with fail); refine ((HXL.out _ HX.out).mono fun _ _ => spans_rule' HX1.out HTX.out).mono ?_
        rintro e wn ⟨rfl, bq⟩; replace HB := Lib.hid (HB.out.trans (bq.mono HB.out.size)); clear bq
        (go_wp2_with fail); refine (c_known m _ (HM.out.below HB.out) (HI.out.below HB.out)).mono ?_; rintro e wn ⟨rfl, bq⟩; have HFK := Lib.hid (HB.out.trans (bq.mono HB.out.size)); clear bq; go_wp2; go_ret; exact ⟨rfl, HFK.out⟩
      · have HT := Lib.hid ht
        rw [htx] at HXT; have hgt : decide (((([] : List (List Int)).length : Nat) : Int) > ((truthsF p).length : Int)) = false := decide_eq_false (by simp); have hgt2 : ¬ ((truthsF p).length : Int) < 0 := by omega
        clear ht htx
        (go_wp2_with fail); refine (HPT.out _ HP.out).mono ?_
        rintro e wn ⟨rfl, bq⟩; replace HB := Lib.hid (HB.out.trans (bq.mono HB.out.size)); replace HP := Lib.hid (HP.out.below bq); replace HX := Lib.hid (HX.out.below bq); have k0 := (bq.cell (lt_of_cellq k0)).trans k0; have k1 := (bq.cell (lt_of_cellq k1)).trans k1; have k2 := (bq.cell (lt_of_cellq k2)).trans k2; have x0 := (bq.cell (lt_of_cellq x0)).trans x0; have x1 := (bq.cell (lt_of_cellq x1)).trans x1; have x2 := (bq.cell (lt_of_cellq x2)).trans x2; clear bq
        (go_wp2_with fail); refine (HXT.out _ HX.out).mono ?_
        rintro e wn ⟨rfl, bq⟩; replace HB := Lib.hid (HB.out.trans (bq.mono HB.out.size)); replace HP := Lib.hid (HP.out.below bq); replace HX := Lib.hid (HX.out.below bq); have k0 := (bq.cell (lt_of_cellq k0)).trans k0; have k1 := (bq.cell (lt_of_cellq k1)).trans k1; have k2 := (bq.cell (lt_of_cellq k2)).trans k2; have x0 := (bq.cell (lt_of_cellq x0)).trans x0; have x1 := (bq.cell (lt_of_cellq x1)).trans x1; have x2 := (bq.cell (lt_of_cellq x2)).trans x2; clear bq
        (go_wp2_with fail); refine ((c_Known pm pv pr cm cv cr p _ HP.out HLN.out).mono fun _ _ => spans_ok HP1.out HT.out).mono ?_
        rintro e wn ⟨q1, c1, rfl, r1, bq⟩; clear r1
        skip; replace HB := Lib.hid (HB.out.trans (bq.mono HB.out.size)); replace HP := Lib.hid (HP.out.below bq); replace HX := Lib.hid (HX.out.below bq); have k0 := (bq.cell (lt_of_cellq k0)).trans k0; have k1 := (bq.cell (lt_of_cellq k1)).trans k1; have k2 := (bq.cell (lt_of_cellq k2)).trans k2; have x0 := (bq.cell (lt_of_cellq x0)).trans x0; have x1 := (bq.cell (lt_of_cellq x1)).trans x1; have x2 := (bq.cell (lt_of_cellq x2)).trans x2; clear bq
        (go_wp2_with fail); refine ((HXK.out _ HX.out).mono fun _ _ => spans_rule' HX1.out HTX.out).mono ?_
        rintro e wn ⟨rfl, bq⟩; replace HB := Lib.hid (HB.out.trans (bq.mono HB.out.size)); replace HP := Lib.hid (HP.out.below bq); replace HX := Lib.hid (HX.out.below bq); have k0 := (bq.cell (lt_of_cellq k0)).trans k0; have k1 := (bq.cell (lt_of_cellq k1)).trans k1; have k2 := (bq.cell (lt_of_cellq k2)).trans k2; have x0 := (bq.cell (lt_of_cellq x0)).trans x0; have x1 := (bq.cell (lt_of_cellq x1)).trans x1; have x2 := (bq.cell (lt_of_cellq x2)).trans x2; clear bq
        (go_wp2_with fail); refine ((c_Plays pm pv pr cm cv cr p _ HP.out HLN.out).mono fun _ _ => spans_ok HP1.out HT.out).mono ?_
        rintro e wn ⟨q2, c2, rfl, r2, bq⟩; clear r2
        skip; replace HB := Lib.hid (HB.out.trans (bq.mono HB.out.size)); replace HP := Lib.hid (HP.out.below bq); replace HX := Lib.hid (HX.out.below bq); have k0 := (bq.cell (lt_of_cellq k0)).trans k0; have k1 := (bq.cell (lt_of_cellq k1)).trans k1; have k2 := (bq.cell (lt_of_cellq k2)).trans k2; have x0 := (bq.cell (lt_of_cellq x0)).trans x0; have x1 := (bq.cell (lt_of_cellq x1)).trans x1; have x2 := (bq.cell (lt_of_cellq x2)).trans x2; clear bq
        (go_wp2_with fail); refine ((HXL.out _ HX.out).mono fun _ _ => spans_rule' HX1.out HTX.out).mono ?_
        rintro e wn ⟨rfl, bq⟩; replace HB := Lib.hid (HB.out.trans (bq.mono HB.out.size)); clear bq
        (go_wp2_with fail); refine (c_known m _ (HM.out.below HB.out) (HI.out.below HB.out)).mono ?_; rintro e wn ⟨rfl, bq⟩; have HFK := Lib.hid (HB.out.trans (bq.mono HB.out.size)); clear bq; go_wp2; go_ret; exact ⟨rfl, HFK.out⟩
    have HTX := Lib.hid htx; have HT := Lib.hid (show truthsF p ≠ [] from fun h => htx (by rw [HTS.out, h]; rfl)); have hgt : decide (((truthsF (moreF p r)).length : Int) > ((truthsF p).length : Int)) = false := decide_eq_false (by have := HMF.out; omega); have hgt2 : decide (((truthsF p).length : Int) < ((truthsF (moreF p r)).length : Int)) = false := decide_eq_false (by have := HMF.out; omega); clear htx
    (go_wp2_with fail); refine (HPT.out _ HP.out).mono ?_
    rintro e wn ⟨rfl, bq⟩; replace HB := Lib.hid (HB.out.trans (bq.mono HB.out.size)); replace HP := Lib.hid (HP.out.below bq); replace HX := Lib.hid (HX.out.below bq); have k0 := (bq.cell (lt_of_cellq k0)).trans k0; have k1 := (bq.cell (lt_of_cellq k1)).trans k1; have k2 := (bq.cell (lt_of_cellq k2)).trans k2; have x0 := (bq.cell (lt_of_cellq x0)).trans x0; have x1 := (bq.cell (lt_of_cellq x1)).trans x1; have x2 := (bq.cell (lt_of_cellq x2)).trans x2; clear bq
    (go_wp2_with fail); refine (HXT.out _ HX.out).mono ?_
    rintro e wn ⟨rfl, bq⟩; replace HB := Lib.hid (HB.out.trans (bq.mono HB.out.size)); replace HP := Lib.hid (HP.out.below bq); replace HX := Lib.hid (HX.out.below bq); have k0 := (bq.cell (lt_of_cellq k0)).trans k0; have k1 := (bq.cell (lt_of_cellq k1)).trans k1; have k2 := (bq.cell (lt_of_cellq k2)).trans k2; have x0 := (bq.cell (lt_of_cellq x0)).trans x0; have x1 := (bq.cell (lt_of_cellq x1)).trans x1; have x2 := (bq.cell (lt_of_cellq x2)).trans x2; clear bq
    (go_wp2_with fail); refine ((c_Known pm pv pr cm cv cr p _ HP.out HLN.out).mono fun _ _ => spans_ok HP1.out HT.out).mono ?_
    rintro e wn ⟨qa, ca, rfl, ra, bq⟩; rw [knownF_len]; have RA := Lib.hid ra; clear ra
    skip; replace HB := Lib.hid (HB.out.trans (bq.mono HB.out.size)); replace HP := Lib.hid (HP.out.below bq); replace HX := Lib.hid (HX.out.below bq); have k0 := (bq.cell (lt_of_cellq k0)).trans k0; have k1 := (bq.cell (lt_of_cellq k1)).trans k1; have k2 := (bq.cell (lt_of_cellq k2)).trans k2; have x0 := (bq.cell (lt_of_cellq x0)).trans x0; have x1 := (bq.cell (lt_of_cellq x1)).trans x1; have x2 := (bq.cell (lt_of_cellq x2)).trans x2; clear bq
    (go_wp2_with fail); refine ((HXK.out _ HX.out).mono fun _ _ => spans_ok HX1.out HTX.out).mono ?_
    rintro e wn ⟨qb, cb, rfl, rb, bq⟩; rw [knownF_len, show (moreF p r).ms.length = p.ms.length from rfl]; have RB := Lib.hid rb; clear rb
    skip; replace HB := Lib.hid (HB.out.trans (bq.mono HB.out.size)); replace HP := Lib.hid (HP.out.below bq); replace HX := Lib.hid (HX.out.below bq); replace RA := Lib.hid (RA.out.below bq); have k0 := (bq.cell (lt_of_cellq k0)).trans k0; have k1 := (bq.cell (lt_of_cellq k1)).trans k1; have k2 := (bq.cell (lt_of_cellq k2)).trans k2; have x0 := (bq.cell (lt_of_cellq x0)).trans x0; have x1 := (bq.cell (lt_of_cellq x1)).trans x1; have x2 := (bq.cell (lt_of_cellq x2)).trans x2; clear bq
    (go_wp2_with fail); refine ((c_Plays pm pv pr cm cv cr p _ HP.out HLN.out).mono fun _ _ => spans_ok HP1.out HT.out).mono ?_
    rintro e wn ⟨qc, cc, rfl, rc, bq⟩; rw [provedF_len]; have RC := Lib.hid rc; clear rc
    skip; replace HB := Lib.hid (HB.out.trans (bq.mono HB.out.size)); replace HP := Lib.hid (HP.out.below bq); replace HX := Lib.hid (HX.out.below bq); replace RA := Lib.hid (RA.out.below bq); replace RB := Lib.hid (RB.out.below bq); have k0 := (bq.cell (lt_of_cellq k0)).trans k0; have k1 := (bq.cell (lt_of_cellq k1)).trans k1; have k2 := (bq.cell (lt_of_cellq k2)).trans k2; have x0 := (bq.cell (lt_of_cellq x0)).trans x0; have x1 := (bq.cell (lt_of_cellq x1)).trans x1; have x2 := (bq.cell (lt_of_cellq x2)).trans x2; clear bq
    (go_wp2_with fail); refine ((HXL.out _ HX.out).mono fun _ _ => spans_ok HX1.out HTX.out).mono ?_
    rintro e wn ⟨qd, cd, rfl, rd, bq⟩; rw [provedF_len, show (moreF p r).ms.length = p.ms.length from rfl]; have RD := Lib.hid rd; clear rd
    skip; replace HB := Lib.hid (HB.out.trans (bq.mono HB.out.size)); replace RA := Lib.hid (RA.out.below bq); replace RB := Lib.hid (RB.out.below bq); replace RC := Lib.hid (RC.out.below bq); have k0 := (bq.cell (lt_of_cellq k0)).trans k0; clear bq
    have HPX := Lib.hid (pieceB_iff.1 HX1.out); have hn4 : p.ms.length ≤ 4 := HPO.out.n4; clear k1 k2 x0 x1 x2; have HKN := Lib.hid (fun a ha => known_plain HPO.out HT.out a ha); have HKX' := Lib.hid (fun a (ha : a ≤ p.ms.length) => known_plain HPX.out HTX.out a ha); have HVN := Lib.hid (fun a ha => proved_plain HPO.out HT.out a ha); have HVX := Lib.hid (fun a (ha : a < p.ms.length) => proved_plain HPX.out HTX.out a ha); have HMK := Lib.hid (fun a ha => more_known p r HTX.out a ha); have HMP := Lib.hid (fun a ha => more_proved p r HTX.out a ha); have hk1 : (knownF p).length = p.ms.length + 1 := knownF_len p; have hk2 : (knownF (moreF p r)).length = p.ms.length + 1 := knownF_len (moreF p r); have hk3 : (provedF p).length = p.ms.length := provedF_len p; have hk4 : (provedF (moreF p r)).length = p.ms.length := provedF_len (moreF p r); have HPL1 := Lib.hid (fun W (h : RdS W qa (knownF p)) => l_plain qa ca (knownF p) ((p.ms.length : Int) + 1) (p.ms.length + 1) W hk1 (by omega) h (fun i hi => by have := HKN.out i (by omega); omega) (by omega))
    have HPL2 := Lib.hid (fun W (h : RdS W qb (knownF (moreF p r))) => l_plain qb cb (knownF (moreF p r)) ((p.ms.length : Int) + 1) (p.ms.length + 1) W hk2 (by omega) h (fun i hi => by have := HKX'.out i (by omega); omega) (by omega)); have HPL3 := Lib.hid (fun W (h : RdS W qc (provedF p)) => l_plain qc cc (provedF p) (p.ms.length : Int) p.ms.length W hk3 (by omega) h (fun i hi => by have := HVN.out i (by omega); omega) rfl); have HPL4 := Lib.hid (fun W (h : RdS W qd (provedF (moreF p r))) => l_plain qd cd (provedF (moreF p r)) (p.ms.length : Int) p.ms.length W hk4 (by omega) h (fun i hi => by have := HVX.out i (by omega); omega) rfl); have HKL := Lib.hid (And.intro hk1 (And.intro hk2 (And.intro hk3 hk4))); clear hk1 hk2 hk3 hk4
    (go_wp2_with fail); refine (HPL1.out _ RA.out).mono ?_
    rintro e wn ⟨rfl, bq⟩; replace HB := Lib.hid (HB.out.trans (bq.mono HB.out.size)); replace RA := Lib.hid (RA.out.below bq); replace RB := Lib.hid (RB.out.below bq); replace RC := Lib.hid (RC.out.below bq); replace RD := Lib.hid (RD.out.below bq); have k0 := (bq.cell (lt_of_cellq k0)).trans k0; clear bq
    (go_wp2_with fail); refine (HPL2.out _ RB.out).mono ?_
    rintro e wn ⟨rfl, bq⟩; replace HB := Lib.hid (HB.out.trans (bq.mono HB.out.size)); replace RA := Lib.hid (RA.out.below bq); replace RB := Lib.hid (RB.out.below bq); replace RC := Lib.hid (RC.out.below bq); replace RD := Lib.hid (RD.out.below bq); have k0 := (bq.cell (lt_of_cellq k0)).trans k0; clear bq
    (go_wp2_with fail); refine (HPL3.out _ RC.out).mono ?_
    rintro e wn ⟨rfl, bq⟩; replace HB := Lib.hid (HB.out.trans (bq.mono HB.out.size)); replace RA := Lib.hid (RA.out.below bq); replace RB := Lib.hid (RB.out.below bq); replace RC := Lib.hid (RC.out.below bq); replace RD := Lib.hid (RD.out.below bq); have k0 := (bq.cell (lt_of_cellq k0)).trans k0; clear bq
    (go_wp2_with fail); refine (HPL4.out _ RD.out).mono ?_
    rintro e wn ⟨rfl, bq⟩; replace HB := Lib.hid (HB.out.trans (bq.mono HB.out.size)); replace RA := Lib.hid (RA.out.below bq); replace RB := Lib.hid (RB.out.below bq); replace RC := Lib.hid (RC.out.below bq); replace RD := Lib.hid (RD.out.below bq); clear bq; clear k0; go_wp2
    go_loopw [18] (fun i wr => ∃ k : Nat, k ≤ p.ms.length + 1 ∧ i = .int .i64 k ∧ ∃ d, wr = wn.drewN d) (fun i _ => p.ms.length + 1 - (intOf i).toNat)
    case atStart => exact ⟨0, Nat.zero_le _, rfl, 0, rfl⟩
    case round =>
      obtain ⟨k, hk, rfl, d, hwr⟩ := hrel; have HW := Lib.hid hwr
      by_cases hlt : k < p.ms.length + 1
      · have hki : (k : Int) < (p.ms.length : Int) + 1 := by omega
        obtain ⟨ba, oa, rfl, hca⟩ := RA.out.at (i := k) (by rw [HKL.out.1]; exact hlt); obtain ⟨bb, ob, rfl, hcb⟩ := RB.out.at (i := k) (by rw [HKL.out.2.1]; exact hlt); obtain ⟨ea0, ea1⟩ := hca k (by rw [HKL.out.1]; exact hlt); obtain ⟨eb0, eb1⟩ := hcb k (by rw [HKL.out.2.1]; exact hlt); have d0 : wr.cell? ⟨ba, oa + k * 2, none⟩ = some (.int .i64 (gm (knownF p) k).1) := by rw [hwr]; exact ea0
        have d1 : wr.cell? ⟨ba, oa + k * 2 + 1, none⟩ = some (.int .i64 (gm (knownF p) k).2) := by rw [hwr]; exact ea1
        have d2 : wr.cell? ⟨bb, ob + k * 2, none⟩ = some (.int .i64 (gm (knownF (moreF p r)) k).1) := by rw [hwr]; exact eb0
        have d3 : wr.cell? ⟨bb, ob + k * 2 + 1, none⟩ = some (.int .i64 (gm (knownF (moreF p r)) k).2) := by rw [hwr]; exact eb1
        obtain ⟨hm1, hm2⟩ := HMK.out k (by omega); obtain ⟨A0, hA0⟩ : ∃ x, (gm (knownF p) k).1 = x := ⟨_, rfl⟩; obtain ⟨A1, hA1⟩ : ∃ x, (gm (knownF p) k).2 = x := ⟨_, rfl⟩; obtain ⟨B0, hB0⟩ : ∃ x, (gm (knownF (moreF p r)) k).1 = x := ⟨_, rfl⟩; obtain ⟨B1, hB1⟩ : ∃ x, (gm (knownF (moreF p r)) k).2 = x := ⟨_, rfl⟩; rw [hA0] at d0 hm1; rw [hA1] at d1 hm2; rw [hB0] at d2 hm1; rw [hB1] at d3 hm2; have t1 : decide (B0 < A0) = false := decide_eq_false (by omega); have t2 : decide (B1 > A1) = false := decide_eq_false (by omega); have t2b : decide (A1 < B1) = false := decide_eq_false (by omega); clear hca hcb ea0 ea1 eb0 eb1 hA0 hA1 hB0 hB1 hm1 hm2 hwr; go_wp2
        go_quiet (fail)
        go_wp2; go_roundw
        case rel => exact ⟨k + 1, by omega, by go_num, by rw [HW.out]; first | exact ⟨_, rfl⟩ | (rw [drew_add]; exact ⟨_, rfl⟩)⟩
        case measure => simp [intOf]; omega
      · obtain rfl : k = p.ms.length + 1 := by omega
        have hki : ¬ (((p.ms.length + 1 : Nat)) : Int) < (p.ms.length : Int) + 1 := by omega
        replace RC := Lib.hid (show RdS wr qc (provedF p) by rw [hwr]; exact RC.out.below (below_drewN (Below.refl _ _) _)); replace RD := Lib.hid (show RdS wr qd (provedF (moreF p r)) by rw [hwr]; exact RD.out.below (below_drewN (Below.refl _ _) _)); replace HB := Lib.hid (show Below w.heap.size w wr by rw [hwr]; exact below_drewN HB.out _); clear hwr HW; obtain ⟨wn, rfl⟩ : ∃ wn : World, wn = wr := ⟨_, rfl⟩; go_wp2
        go_loopw [19] (fun i wr => ∃ k : Nat, k ≤ p.ms.length ∧ i = .int .i64 k ∧ ∃ d, wr = wn.drewN d) (fun i _ => p.ms.length - (intOf i).toNat)
        case atStart => exact ⟨0, Nat.zero_le _, rfl, 0, rfl⟩
        case round =>
          obtain ⟨k, hk, rfl, d, hwr⟩ := hrel; have HW := Lib.hid hwr
          by_cases hlt : k < p.ms.length
          · have hki : (k : Int) < (p.ms.length : Int) := by omega
            obtain ⟨ba, oa, rfl, hca⟩ := RC.out.at (i := k) (by rw [HKL.out.2.2.1]; exact hlt); obtain ⟨bb, ob, rfl, hcb⟩ := RD.out.at (i := k) (by rw [HKL.out.2.2.2]; exact hlt); obtain ⟨ea0, ea1⟩ := hca k (by rw [HKL.out.2.2.1]; exact hlt); obtain ⟨eb0, eb1⟩ := hcb k (by rw [HKL.out.2.2.2]; exact hlt); have d0 : wr.cell? ⟨ba, oa + k * 2, none⟩ = some (.int .i64 (gm (provedF p) k).1) := by rw [hwr]; exact ea0
            have d1 : wr.cell? ⟨ba, oa + k * 2 + 1, none⟩ = some (.int .i64 (gm (provedF p) k).2) := by rw [hwr]; exact ea1
            have d2 : wr.cell? ⟨bb, ob + k * 2, none⟩ = some (.int .i64 (gm (provedF (moreF p r)) k).1) := by rw [hwr]; exact eb0
            have d3 : wr.cell? ⟨bb, ob + k * 2 + 1, none⟩ = some (.int .i64 (gm (provedF (moreF p r)) k).2) := by rw [hwr]; exact eb1
            obtain ⟨hm1, hm2⟩ := HMP.out k (by omega); obtain ⟨A0, hA0⟩ : ∃ x, (gm (provedF p) k).1 = x := ⟨_, rfl⟩; obtain ⟨A1, hA1⟩ : ∃ x, (gm (provedF p) k).2 = x := ⟨_, rfl⟩; obtain ⟨B0, hB0⟩ : ∃ x, (gm (provedF (moreF p r)) k).1 = x := ⟨_, rfl⟩; obtain ⟨B1, hB1⟩ : ∃ x, (gm (provedF (moreF p r)) k).2 = x := ⟨_, rfl⟩; rw [hA0] at d0 hm1; rw [hA1] at d1 hm2; rw [hB0] at d2 hm1; rw [hB1] at d3 hm2; have t1 : decide (B0 < A0) = false := decide_eq_false (by omega); have t2 : decide (B1 > A1) = false := decide_eq_false (by omega); have t2b : decide (A1 < B1) = false := decide_eq_false (by omega); clear hca hcb ea0 ea1 eb0 eb1 hA0 hA1 hB0 hB1 hm1 hm2 hwr; go_wp2
            go_quiet (fail)
            go_wp2; go_roundw
            case rel => exact ⟨k + 1, by omega, by go_num, by rw [HW.out]; first | exact ⟨_, rfl⟩ | (rw [drew_add]; exact ⟨_, rfl⟩)⟩
            case measure => simp [intOf]; omega
          · obtain rfl : k = p.ms.length := by omega
            have hki : ¬ (p.ms.length : Int) < (p.ms.length : Int) := by omega
            replace HB := Lib.hid (show Below w.heap.size w wr by rw [hwr]; exact below_drewN HB.out _); clear hwr HW
            (go_wp2_with fail); refine (c_known m _ (HM.out.below HB.out) (HI.out.below HB.out)).mono ?_; rintro e wn ⟨rfl, bq⟩; have HFK := Lib.hid (HB.out.trans (bq.mono HB.out.size)); clear bq; go_wp2; go_ret; exact ⟨rfl, HFK.out⟩
end Go.Proofs.YtlednchfifphgaaGreatDoor
end

section
namespace Go.Proofs.YtlednchfifphgaaGreatDoor
open Go Go.ChangeShapes Go.WideShapes Go.ChangeAt Go.RowKit Go.Proofs
set_option linter.unusedVariables false

set_option maxRecDepth 100000 in
theorem slackMore_lifted (os : Os) (started : os.Started) (H : Type) (enc : TypeId × Value → H) :
    ReturnsInHanded {} Tryz.checked os 12 .any (fun w args => (Rows.slackMoreSpec.pre enc Tryz.prog Tryz.f12 [] false w args ∧ laidMetH Tryz.prog lay5 w) ∧ sizedMet enc Tryz.prog Tryz.f12 (OpenSpec.ofChange Rows.slackMoreSpec) false w args)
      (Rows.slackMoreSpec.post enc Tryz.prog Tryz.f12 false true false false) := by
  refine returns_listed (C := Tryz.checked) (X := fun w _ => laidMetH Tryz.prog lay5 w) (fun _ _ _ hh h => h.of_heap hh) ownT started (by kernel_rfl) Tryz.func12
    (ChangeSpec.witness_shaped (enc := enc) (C := Tryz.checked) (os := os) (X := fun w _ => laidMetH Tryz.prog lay5 w) false (World.laidAll Tryz.prog os lay5) #[.agg #[.slice none 0 0, .slice none 0 0, .slice none 0 0], .agg #[.int .i64 0, .int .i64 0, .int .i64 0, .int .i64 0]] 12 (World.laidAll_os _ _ _)
      (World.shaped_of_ZipB (by kernel_rfl) (by kernel_rfl)) (by kernel_rfl) (by kernel_rfl) (by kernel_rfl)
      (by rw [MakeChecks.laidMetH_plain _ _ _ (by kernel_rfl)]; exact laidMet_laidAll _ (by kernel_rfl) (by kernel_rfl))) ?_
  intro W base args ds gs before hval0 hW hX hSh; have hval : ∀ (j : Nat) t v, Tryz.f12.params[j]? = some t → args[j]? = some v → Value.okWide Tryz.prog W .any base t v := hval0; have hW' := hW; obtain ⟨p, q, hA0, hV, rfl, _, _⟩ := hW; have hA : DataW.TrodAll enc Tryz.prog W 0 (fun _ => true) true Tryz.f12.params.toList args.toList ds p := hA0; rw [Tryz.params12] at hA hval; obtain ⟨v0, vs0, d0, ds0, p0, q0, hargs, rfl, rfl, h0, r0⟩ := trodAll_cons hA; obtain ⟨v1, vs1, d1, ds1, p1, q1, rfl, rfl, rfl, h1, r1⟩ := trodAll_cons r0; obtain ⟨rfl, rfl, rfl⟩ := trodAll_nil r1; obtain rfl : args = #[v0, v1] := by cases args; simp_all
  obtain ⟨rfl, rfl⟩ := trodVars_none hV; obtain ⟨pm0, pv0, pr0, cm0, cv0, cr0, p0, rfl, rd0⟩ := op_piece (hval 0 26 v0 rfl rfl) h0; obtain ⟨rg1, rfl⟩ := op_reading (hval 1 68 v1 rfl rfl) h1; clear hA0 hval0; obtain ⟨m, hm⟩ := maxLen_of hSh; have hit := itoaG_of (pow10_of hX); refine (law_More pm0 pv0 pr0 cm0 cv0 cr0 p0 rg1 m W rd0 hm hit).mono fun e W' ⟨he, bel⟩ => ?_
  subst he; exact ⟨_, rfl, _, _, _, [], _, [], hW', trodAll_mk1 (shut_bool Tryz.underlying4 _), (trodAll_cons_mk (Below.trod laidOutT (by kernel_rfl) (of_decide_eq_true (by kernel_rfl)) h0 bel (trod_lt h0)) (trodAll_cons_mk (Below.trod laidOutT (by kernel_rfl) (of_decide_eq_true (by kernel_rfl)) h1 bel (trod_lt h1)) trodAll_mk0)), rfl, bel.frame _, fun h => by cases h⟩
theorem slackMore_wf : Rows.slackMoreRow.wf (OpenSpec.ofChange Rows.slackMoreSpec) = true := by kernel_rfl
theorem slackMore_inPlace : (Rows.slackMoreRow.inPlace == Tryz.prog.inPlace 12) = true := by kernel_rfl
theorem slackMore_unfollowed : (Rows.slackMoreRow.unfollowed == Tryz.prog.unfollowed 12) = true := by kernel_rfl
theorem slackMore_recurses : (Rows.slackMoreRow.recurses == Tryz.prog.recurses 12) = true := by kernel_rfl
theorem slackMore_named : (Rows.slackMoreRow.named == Tryz.prog.varsNamed 12) = true := by kernel_rfl
theorem slackMore_goes : false = Rows.slackMoreRow.goesBy Tryz.prog := by kernel_rfl
theorem slackMore_func : Tryz.prog.funcNamed Rows.slackMoreRow.func = some 12 := by kernel_rfl
theorem slackMore_text : Rows.slackMoreRow.wfByText (OpenSpec.ofChange Rows.slackMoreSpec) = true := by kernel_rfl
theorem slackMore_closed : joinedFacts Tryz.prog 12 Tryz.f12 Rows.slackMoreSpec Rows.slackMoreRow = true :=
  (and_t (and_t (and_t (and_t (and_t (and_t (and_t (and_t (and_t (and_t (and_t (and_t (and_t (and_t (and_t (and_t (and_t (and_t (and_t (and_t (and_t (and_t (and_t (and_t (and_t (and_t (and_t (and_t (and_t (and_t (and_t slackMore_wf tLaidOut) tMaps) (by kernel_rfl)) (by kernel_rfl)) (by kernel_rfl)) (by kernel_rfl)) (by kernel_rfl)) (by kernel_rfl)) slackMore_inPlace) slackMore_unfollowed) slackMore_recurses) slackMore_named) (by kernel_rfl)) (by kernel_rfl)) (by kernel_rfl)) (by kernel_rfl)) (by kernel_rfl)) (by kernel_rfl)) (by kernel_rfl)) (by kernel_rfl)) (by kernel_rfl)) (by kernel_rfl)) (by kernel_rfl)) tHeard) tMayEnter) (eq_t (α := Bool) tFinal.symm)) (eq_t tMake)) (by kernel_rfl)) (by kernel_rfl)) (by kernel_rfl)) (by kernel_rfl))
theorem slackMore_wrap : Func.isWrapper Tryz.prog Tryz.f12 Rows.slackMoreRow.wrapper Rows.slackMoreRow.mainSum := by unfold Func.isWrapper; rw [if_neg (of_decide_eq_false (by kernel_rfl))]; exact ⟨rfl, rfl⟩
theorem slackMore_row : Rows.SlackMoreSaid :=
  OpenClaim.holds_of_wide 12 Tryz.f12 rfl rfl rfl rfl rfl rfl rfl ⟨rfl, rfl, rfl, rfl, rfl⟩ rfl rfl rfl rfl rfl slackMore_func Tryz.func12 slackMore_closed (of_decide_eq_true (by kernel_rfl)) slackMore_wrap (fun os started H enc _ => slackMore_lifted os started H enc)
theorem slackMore_plain : ∀ (j : Nat) t, Tryz.f12.params[j]? = some t → Tryz.prog.wantsStandIn t = false := fun j t ht => by
  rw [Tryz.params12] at ht; have hm : t ∈ [26, 68] := by simpa using Array.mem_of_getElem? ht
  have hall : ([26, 68].all fun u => !Tryz.prog.wantsStandIn u) = true := by kernel_rfl
  exact (show Tryz.prog.wantsStandIn t = false by simpa using List.all_eq_true.1 hall t hm)
theorem slackMore_holds : Rows.SlackMoreCardSaid :=
  Claim7.holds_tied_plain_at .later [] [.data, .data, .data, .data, .pinned] true (true, "ce0818d0c59e3fa5e3ee8c8a0f2895fb96dd737b57a340924acb54004d6cceea") true slackMore_row (fun _ h => by cases h) slackMore_text (fun _ h => by cases h) slackMore_row_tie rfl ⟨rfl, rfl⟩ tMainIs rfl
    (fun f fn hf hfn => by
      obtain rfl : f = 12 := Option.some.inj (slackMore_func.symm.trans hf) |>.symm
      obtain rfl : fn = Tryz.f12 := (Option.some.inj (Tryz.func12.symm.trans hfn)).symm; exact ⟨tLooks, slackMore_plain⟩)
    slackMore_goes
#print axioms slackMore_holds
end Go.Proofs.YtlednchfifphgaaGreatDoor
end
