/-
  Plain laws of bounds, of lost motion, and of a crank that is turned on and back (no program in sight).
  Plain laws of truths: a reading more, a play that is known, how many are left (no program in sight).
  What the references do, step by step: hulls, all plays mesh by mesh, lists of meshes; no program in sight.
  A move made in two parts: what the moves are then, and where the arbors are (no program in sight).
  A negation in a quiet walk.
  A drawn region whose cells are known: its beginning, in short words.
  The document's move of all arbors, and where all arbors are: contracts.
  The document's places before the first move and after each one: contract.
  Whether plays are a truth, in the document's words: contract.
  All truths, in the document's words: contract.
  Where all arbors are after all moves, in each of some truths: contract.
  How many truths are left, and which arbor should be read, in the document's words: contracts.
  The least and the greatest number at each place of some lists: contracts.
  What the laws ask: a piece's truths, or its error; contracts.
  The stage's theorem: what is known of a piece (the walk).
  A piece with some moves more, or with one reading more, in the document's words: contracts.
  By how much the crank can be turned before an arbor moves (the walk).
  The theorem of lost motion (the walk).
  The laws' word on plain spans: contract.
  What is a place, and a limit, in the document's words; whether an arbor surely is near to a place after a move more, in the law's words: contracts.
  Four moves more, and the windows that begin within an arbor's bounds: plain.
  The theorem of arbors that are read (the walk; printed by ref.py).
  The law SlackLeft: its card. Conditions: none of the input; the tables of the library that the row lists are as the program lays them (the tie is given).
-/
import Derived.Test.YtlednchfifphgabGreatDoorGA
import Derived.Test.YtlednchfifphgabGreatDoorGC
import Derived.Test.YtlednchfifphgabGreatDoorGH
import Derived.Test.YtlednchfifphgabGreatDoorGG
import Derived.Test.YtlednchfifphgabGreatDoorGL
import Derived.Test.YtlednchfifphgabGreatDoorGD
import Derived.Deep.Upon
import Derived.Deep.AppendLies
import Derived.Deep.RegionLaw
import Derived.StillTailTactics
import Derived.OwnWalk
import Derived.Maps.AppendAt
import Derived.Test.YtlednchfifphgabGreatDoorGJ
import Derived.Test.YtlednchfifphgabGreatDoorGM
import Derived.Test.YtlednchfifphgabGreatDoorGN
import Derived.Test.YtlednchfifphgabGreatDoorGQ
import Derived.BigQuiet
import Derived.Test.YtlednchfifphgabGreatDoorGX
import Derived.Test.YtlednchfifphgabGreatDoorGY
import Derived.Test.YtlednchfifphgabGreatDoorGZ
import Derived.Test.YtlednchfifphgabGreatDoorCards
section
namespace Go.Proofs.YtlednchfifphgabGreatDoor
set_option linter.unusedVariables false

theorem known_true {p : Pc} {pl : List Int} (h : pl ∈ truthsF p) (a : Nat) (ha : a ≤ p.ms.length) : (gm (knownF p) a).1 ≤ gi (endF p pl) a ∧ gi (endF p pl) a ≤ (gm (knownF p) a).2 := by
  rw [knownF_at p a ha]; exact ovF_mem (fun pl => just (gi (endF p pl) a)) h
theorem known_plain {p : Pc} (hp : PieceOk p) (h : truthsF p ≠ []) (a : Nat) (ha : a ≤ p.ms.length) : -2800 ≤ (gm (knownF p) a).1 ∧ (gm (knownF p) a).1 ≤ (gm (knownF p) a).2 ∧ (gm (knownF p) a).2 ≤ 2400 := by
  rw [knownF_at p a ha]; refine ovF_in _ _ _ h fun pl hpl => ?_
  have hk := truth_plays hp hpl; have := place_range hp hk p.mv.length a (Nat.le_refl _) (by rw [hk.len]; exact ha); exact ⟨this.1, Int.le_refl _, this.2⟩
end Go.Proofs.YtlednchfifphgabGreatDoor
end

section
namespace Go.Proofs.YtlednchfifphgabGreatDoor
set_option linter.unusedVariables false

def moreF (p : Pc) (r : Rd) : Pc := { p with rs := p.rs ++ [r] }
def withF (p : Pc) (a s o : Int) : Pc := moreF p ⟨p.mv.length, a, s, o⟩
theorem moreF_fits (p : Pc) (r : Rd) (pl : List Int) : fitsB (moreF p r) pl = (fitsB p pl && agreeB pl p.mv r) := by
  unfold fitsB; show (withinB p pl && (p.rs ++ [r]).all (agreeB pl p.mv)) = _; rw [List.all_append, List.all_cons, List.all_nil, Bool.and_true, Bool.and_assoc]
theorem moreF_truths (p : Pc) (r : Rd) : truthsF (moreF p r) = (truthsF p).filter fun pl => agreeB pl p.mv r := by
  unfold truthsF; rw [List.filter_filter]; show (prodF p.ms).filter _ = _
  congr 1
  funext pl
  rw [moreF_fits, Bool.and_comm]
theorem gr_app (a b : List Rd) (i : Nat) (h : i < a.length) : gr (a ++ b) i = gr a i := by
  unfold gr; rw [List.getD_eq_getElem?_getD, List.getD_eq_getElem?_getD, List.getElem?_append_left h]
theorem gr_end (a : List Rd) (r : Rd) : gr (a ++ [r]) a.length = r := by
  unfold gr; rw [List.getD_eq_getElem?_getD, List.getElem?_append_right (Nat.le_refl _), Nat.sub_self]; rfl
def ReadOk (p : Pc) (r : Rd) : Prop := (0 ≤ r.aft ∧ r.aft ≤ p.mv.length) ∧ (1 ≤ r.arb ∧ r.arb ≤ p.ms.length) ∧ (-5000 ≤ r.seen ∧ r.seen ≤ 5000) ∧ (0 ≤ r.off ∧ r.off ≤ 50)
theorem moreF_piece {p : Pc} (hp : PieceOk p) {r : Rd} (h6 : p.rs.length < 6) (hr : ReadOk p r) : PieceOk (moreF p r) := by
  refine ⟨hp.n1, hp.n4, hp.m8, by simp [moreF]; omega, hp.mesh, hp.move, fun i hi => ?_⟩; have hi' : i < (p.rs ++ [r]).length := hi; rw [List.length_append, List.length_singleton] at hi'; show _ ∧ _
  by_cases h1 : i < p.rs.length
  · have : gr (moreF p r).rs i = gr p.rs i := gr_app _ _ _ h1
    rw [this]; exact hp.read i h1
  · obtain rfl : i = p.rs.length := by omega
    have : gr (moreF p r).rs p.rs.length = r := gr_end _ _; rw [this]; exact hr
theorem with_agree (p : Pc) (a s o : Int) (pl : List Int) : agreeB pl p.mv ⟨p.mv.length, a, s, o⟩ = inB (gi (endF p pl) a.toNat) (s - o) (s + o) := by
  unfold agreeB endF; simp
theorem withF_truths (p : Pc) (a s o : Int) : truthsF (withF p a s o) = (truthsF p).filter fun pl => inB (gi (endF p pl) a.toNat) (s - o) (s + o) := by
  unfold withF; rw [moreF_truths]; exact List.filter_congr fun pl _ => with_agree p a s o pl
theorem maxN_is {l : List Nat} (h : l ≠ []) : maxN l ∈ l := by
  induction l with
  | nil => exact absurd rfl h
  | cons y r ih =>
    unfold maxN
    by_cases hr : r = []
    · subst hr; simp [maxN]
    · have := ih hr
      by_cases hh : maxN r ≤ y
      · rw [Nat.max_eq_left hh]; exact List.mem_cons_self
      · rw [Nat.max_eq_right (by omega)]; exact List.mem_cons_of_mem _ this
theorem withF_count (p : Pc) (a : Nat) (s o : Int) : (truthsF (withF p a s o)).length = cntF p a (s - o) (s + o) := by
  rw [withF_truths, Int.toNat_natCast]; rfl
theorem cnt_le_left (p : Pc) (a : Nat) (lo o : Int) : cntF p a lo (lo + 2 * o) ≤ leftF p a o := by
  by_cases h : ((truthsF p).filter fun pl => inB (gi (endF p pl) a) lo (lo + 2 * o)) = []
  · unfold cntF; rw [h]; exact Nat.zero_le _
  · -- the least place of the window
    have key : ∀ l : List (List Int), l ≠ [] → ∃ x ∈ l, ∀ y ∈ l, gi (endF p x) a ≤ gi (endF p y) a := by
      intro l
      induction l with
      | nil => intro h; exact absurd rfl h
      | cons z r ih =>
        intro _
        by_cases hr : r = []
        · subst hr; exact ⟨z, List.mem_cons_self, fun y hy => by rw [List.mem_singleton.1 hy]; exact Int.le_refl _⟩
        · obtain ⟨x, hx, hm⟩ := ih hr
          by_cases hz : gi (endF p z) a ≤ gi (endF p x) a
          · exact ⟨z, List.mem_cons_self, fun y hy => by
              rcases List.mem_cons.1 hy with rfl | hy
              · exact Int.le_refl _
              · have := hm y hy; omega⟩
          · exact ⟨x, List.mem_cons_of_mem _ hx, fun y hy => by
              rcases List.mem_cons.1 hy with rfl | hy
              · omega
              · exact hm y hy⟩
    obtain ⟨x, hx, hm⟩ := key _ h; obtain ⟨hx1, hx2⟩ := List.mem_filter.1 hx; have hx3 := inB_iff.1 hx2; refine Nat.le_trans ?_ (maxN_mem (List.mem_map.2 ⟨x, hx1, rfl⟩)); unfold cntF; rw [← List.countP_eq_length_filter, ← List.countP_eq_length_filter]; refine List.countP_mono_left fun y hy hy2 => ?_
    have h3 := hm y (List.mem_filter.2 ⟨hy, hy2⟩); have h4 := inB_iff.1 hy2; exact inB_iff.2 (by omega)
theorem left_is {p : Pc} (h : truthsF p ≠ []) (a : Nat) (o : Int) : ∃ pl ∈ truthsF p, leftF p a o = cntF p a (gi (endF p pl) a) (gi (endF p pl) a + 2 * o) := by
  have := maxN_is (l := (truthsF p).map fun pl => cntF p a (gi (endF p pl) a) (gi (endF p pl) a + 2 * o)) (by simpa using h); obtain ⟨pl, hpl, e⟩ := List.mem_map.1 this; exact ⟨pl, hpl, e.symm⟩
theorem near_sums {p : Pc} (hp : PieceOk p) {x y : List Int} (hx : x ∈ truthsF p) (hy : y ∈ truthsF p) : ∀ k, k ≤ p.ms.length → sumT x k - sumT y k ≤ 4 * k := by
  intro k
  induction k with
  | zero => intro _; simp [sumT]
  | succ k ih =>
    intro hk; have h0 := ih (by omega); obtain ⟨a1, a2⟩ := mem_truthsF.1 hx; obtain ⟨b1, b2⟩ := mem_truthsF.1 hy; unfold fitsB at a2 b2; rw [Bool.and_eq_true] at a2 b2; have h1 := withinB_iff.1 a2.1 k (by omega); have h2 := withinB_iff.1 b2.1 k (by omega); have h3 := hp.mesh k (by omega); simp only [sumT]; omega
theorem near_places {p : Pc} (hp : PieceOk p) {x y : List Int} (hx : x ∈ truthsF p) (hy : y ∈ truthsF p) (k : Nat) (hk : k ≤ p.ms.length) : ∀ i, gi (runF x p.mv i) k - gi (runF y p.mv i) k ≤ 16 := by
  have h1 := near_sums hp hy hx k hk; have hn := hp.n4; have lx := (truth_plays hp hx).len; have ly := (truth_plays hp hy).len; intro i
  induction i with
  | zero =>
    show gi (begF x) k - gi (begF y) k ≤ 16; rw [begF_at x k (by omega), begF_at y k (by omega)]; omega
  | succ i ih =>
    have z1 := runF_zero x p.mv i; have z2 := runF_zero y p.mv i; show gi (mvF x (runF x p.mv i) (gi p.mv i)) k - gi (mvF y (runF y p.mv i) (gi p.mv i)) k ≤ 16
    by_cases hm : 0 ≤ gi p.mv i
    · rw [mvF_on hm k (by omega), mvF_on hm k (by omega), z1, z2]; omega
    · rw [mvF_back hm k (by omega), mvF_back hm k (by omega), z1, z2]; omega
theorem known_narrow {p : Pc} (hp : PieceOk p) (h : truthsF p ≠ []) (a : Nat) (ha : a ≤ p.ms.length) : (gm (knownF p) a).2 - (gm (knownF p) a).1 ≤ 16 := by
  obtain ⟨x, hx, ex⟩ := ovF_low (p := p) (fun pl => just (gi (endF p pl) a)) h; obtain ⟨y, hy, ey⟩ := ovF_high (p := p) (fun pl => just (gi (endF p pl) a)) h; rw [knownF_at p a ha, ex, ey]; exact near_places hp hy hx a ha p.mv.length
end Go.Proofs.YtlednchfifphgabGreatDoor
end

section
namespace Go.Proofs.YtlednchfifphgabGreatDoor
set_option linter.unusedVariables false

theorem prodF_count (ms : List (Int × Int)) (h : ∀ i, i < ms.length → (gm ms i).2 - (gm ms i).1 ≤ 4) : (prodF ms).length ≤ 5 ^ ms.length := by
  induction ms with
  | nil => simp [prodF]
  | cons m r ih =>
    have h0 := h 0 (by simp); have e0 : gm (m :: r) 0 = m := rfl; rw [e0] at h0
    have ih' := ih fun i hi => by
      have := h (i + 1) (by simp; omega); exact this
    have : (prodF (m :: r)).length = (rng m.1 m.2).length * (prodF r).length := by
      show ((rng m.1 m.2).flatMap fun n => (prodF r).map (n :: ·)).length = _; rw [List.length_flatMap]; simp [List.map_const']
    rw [this, rng_len, List.length_cons, Nat.pow_succ, Nat.mul_comm (5 ^ r.length) 5]; exact Nat.mul_le_mul (by omega) ih'
theorem maxN_last (l : List Nat) (x : Nat) : maxN (l ++ [x]) = max (maxN l) x := by
  induction l with
  | nil => simp [maxN]
  | cons y r ih => simp only [List.cons_append, maxN, ih]; omega
end Go.Proofs.YtlednchfifphgabGreatDoor
end

section
namespace Go.Proofs.YtlednchfifphgabGreatDoor
set_option linter.unusedVariables false

end Go.Proofs.YtlednchfifphgabGreatDoor
end

section
namespace Go.Proofs.YtlednchfifphgabGreatDoor
open Go Go.RowKit
set_option linter.unusedVariables false
end Go.Proofs.YtlednchfifphgabGreatDoor
end

section
namespace Go.Proofs.YtlednchfifphgabGreatDoor
open Go Go.RowKit
set_option linter.unusedVariables false
section
variable {P : Program} {ops : Array Oper} {Q : Exit → Act → World → Prop} {id : Nat} {a : Act} {w : World}
theorem cl3 {a0 a1 a2 : Addr} {v0 v1 v2 : Value} (h0 : w.cell? a0 = some v0) (h1 : w.cell? a1 = some v1) (h2 : w.cell? a2 = some v2) : ∀ w', Below w.heap.size w w' → w'.cell? a0 = some v0 ∧ w'.cell? a1 = some v1 ∧ w'.cell? a2 = some v2 := fun w' hb => ⟨(hb.cell (lt_of_cellq h0)).trans h0, (hb.cell (lt_of_cellq h1)).trans h1, (hb.cell (lt_of_cellq h2)).trans h2⟩
theorem held3 {a0 a1 a2 : Addr} {v0 v1 v2 : Value} (h0 : w.cell? a0 = some v0) (h1 : w.cell? a1 = some v1) (h2 : w.cell? a2 = some v2)
    (k : ∀ W0, Below w.heap.size w W0 → wpAnyH P .any ops Q (fun w' => w'.cell? a0 = some v0 ∧ w'.cell? a1 = some v1 ∧ w'.cell? a2 = some v2) ops.size (Array.replicate ops.size false) a W0)
    (hm : P.follows .mixedOrders = true := by kernel_rfl) : (Code.region id ops true).wp P Q a w :=
  wp_region_held_drew (S := fun w' => w'.cell? a0 = some v0 ∧ w'.cell? a1 = some v1 ∧ w'.cell? a2 = some v2) hm (cl3 h0 h1 h2 _ (Below.refl _ _).drew) (fun _ => k _ (Below.refl _ _).drew)
end
end Go.Proofs.YtlednchfifphgabGreatDoor
end

section
namespace Go.Proofs.YtlednchfifphgabGreatDoor
open Go Go.RowKit Go.Proofs
set_option linter.unusedVariables false
set_option linter.unusedSimpArgs false
attribute [local go_sem] imax2 imin2

theorem run_append_src {P : Program} (w : World) (base : Nat) (t ty e : TypeId) (i : TypeInfo) (z : Value) (size bytes : Nat) (ht : P.underlying t = some (.slice e)) (hi : P.info? e = some i) (hz : i.zero = some z)
    (hsize : i.size = size) (hby : i.bytes = bytes) (hzs : z.cells.size = size) (hsz : 0 < size)
    (v : Value) (n : Nat) (xs : List Value) (hown : w.ownsRow base e size v n xs)
    (po : Option Addr) (m c : Nat) (news : List Value) (hl : news.length = m * size) (hnews : m = 0 ∨ ∃ ad, po = some ad ∧ ∀ j u, news[j]? = some u → w.cell? (ad.add j) = some u) (h1 : ∀ u ∈ news, u.oneCell' = true)
    (h63 : n + m ≤ maxLen) (hbytes : (n + m) * bytes ≤ 140737488355328) (hbase : base ≤ w.heap.size) :
    ∃ v' w', (Builtin.append_ #[t, t] ty #[v, .slice po m c]).run P w = .ok v' w' ∧ w'.ownsRow base e size v' (n + m) (xs ++ news) ∧ w.grownBy w' v.ownBlock ∧ (v'.ownBlock = v.ownBlock ∨ v'.ownBlock = some w.heap.size) := by
  by_cases hm : m = 0
  · subst hm
    have hn : news = [] := List.length_eq_zero_iff.1 (by rw [hl, Nat.zero_mul]); subst hn
    have hs : Src P i.size t (.slice po 0 c) 0 [] w := by
      cases po with
      | none => exact Src.ofNil w ht c
      | some a => exact Src.ofSlice w ht a 0 c [] (by simp) (by intro j u hu; simp at hu) (by intro u hu; cases hu)
    rcases hown.2 with ⟨rfl, rfl⟩ | ⟨g, cap, cur, rfl, hb, hg, hnc, hrest⟩
    · exact ⟨_, w, run_append_nothing w t t ty e i ht hi none 0 0 (Nat.le_refl _) _ hs, by simpa using hown, World.grownBy.refl _ _, .inl rfl⟩
    · exact ⟨_, w, run_append_nothing w t t ty e i ht hi (some ⟨g, 0, none⟩) n cap hnc _ hs, by simpa using hown, World.grownBy.refl _ _, .inl rfl⟩
  · obtain ⟨ad, rfl, hc⟩ := hnews.resolve_left hm
    obtain ⟨v', w', hr, h2, h3, _, h5⟩ := run_append_own_at (P := P) w base t ty e i z size bytes ht hi hz hsize hby hzs hsz v n xs hown ad m c news hl hc h1 h63 hbytes hbase; exact ⟨v', w', hr, h2, h3, h5⟩
theorem step_append_src {P : Program} (w : World) {ops : Array Oper} {o : Oper} {a : Act} {K : Act → World → Prop} {Q : Exit → Act → World → Prop} {E : Prop} (hgd : o.guard = none) (s x : Operand) (t : TypeId)
    (ho : o.op = .call { callee := .builtin .append, args := #[s, x], argTypes := #[t, t] })
    (base : Nat) (e : TypeId) (i : TypeInfo) (z : Value) (size bytes : Nat) (ht : P.underlying t = some (.slice e)) (hi : P.info? e = some i) (hz : i.zero = some z)
    (hsize : i.size = size) (hby : i.bytes = bytes) (hzs : z.cells.size = size) (hsz : 0 < size)
    (v : Value) (n : Nat) (xs : List Value) (hs : a.eval s = v) (hown : w.ownsRow base e size v n xs)
    (po : Option Addr) (m c : Nat) (news : List Value) (hx : a.eval x = .slice po m c) (hl : news.length = m * size) (hnews : m = 0 ∨ ∃ ad, po = some ad ∧ ∀ j u, news[j]? = some u → w.cell? (ad.add j) = some u) (h1 : ∀ u ∈ news, u.oneCell' = true)
    (h63 : n + m ≤ maxLen) (hbytes : (n + m) * bytes ≤ 140737488355328) (hbase : base ≤ w.heap.size)
    (h : ∀ v' w', w'.ownsRow base e size v' (n + m) (xs ++ news) → w.grownBy w' v.ownBlock → (v'.ownBlock = v.ownBlock ∨ v'.ownBlock = some w.heap.size) → K (a.put o.dst v') w') :
    if Region.wanted o (yielded ops a.tmps) = true then Oper.wp P o a w K Q else E := by
  have hw : Region.wanted o (yielded ops a.tmps) = true := by simp [Region.wanted, hgd]
  rw [if_pos hw]; obtain ⟨v', w', hr, h2, h3, h5⟩ := run_append_src (P := P) w base t o.type e i z size bytes ht hi hz hsize hby hzs hsz v n xs hown po m c news hl hnews h1 h63 hbytes hbase; unfold Oper.wp execOp; simp only [ho, resolve, invoke, builtin, Sem.run_bind, Sem.run_pure, Result.andThen_ok, List.map_toArray, List.map_cons, List.map_nil, hs, hx, hr]; exact h v' w' h2 h3 h5
def ElV (w : World) (B : Nat) (css : List (List Int)) (hs : List Value) : Prop := hs.length = css.length ∧ ∀ i, i < css.length → ∃ v, hs[i]? = some v ∧ w.ownsRow B 3 1 v (gl css i).length (inV (gl css i))
theorem ElV.below {w w' : World} {B : Nat} {css : List (List Int)} {hs : List Value} (h : ElV w B css hs) (hb : Below w.heap.size w w') : ElV w' B css hs := by
  refine ⟨h.1, fun i hi => ?_⟩; obtain ⟨v, e1, e2⟩ := h.2 i hi; exact ⟨v, e1, own_kept e2 hb⟩
theorem ElV.mono {w : World} {B B' : Nat} {css : List (List Int)} {hs : List Value} (h : ElV w B css hs) (hB : B' ≤ B) : ElV w B' css hs := by
  refine ⟨h.1, fun i hi => ?_⟩; obtain ⟨v, e1, e2⟩ := h.2 i hi; exact ⟨v, e1, own_mono e2 hB⟩
theorem ElV.grown {w w' : World} {B B' n size e : Nat} {css : List (List Int)} {hs xs : List Value} {v : Value} (h : ElV w B css hs) (ho : w.ownsRow B' e size v n xs) (he : e ≠ 3) (hg : w.grownBy w' v.ownBlock) : ElV w' B css hs := by
  refine ⟨h.1, fun i hi => ?_⟩; obtain ⟨u, e1, e2⟩ := h.2 i hi; exact ⟨u, e1, e2.kept hg (own_apart e2 ho (Ne.symm he))⟩
def OwLs (w : World) (B : Nat) (v : Value) (ls : List (List Int)) : Prop := ∃ hs, w.ownsRow B 23 1 v ls.length hs ∧ ElV w B ls hs
theorem OwLs.nil (w : World) (B : Nat) : OwLs w B (.slice none 0 0) [] := ⟨[], World.ownsRow_nil _ _ _ _, rfl, fun i hi => by simp at hi⟩
theorem OwLs.below {w w' : World} {B : Nat} {v : Value} {ls : List (List Int)} (h : OwLs w B v ls) (hb : Below w.heap.size w w') : OwLs w' B v ls := by
  obtain ⟨hs, h1, h2⟩ := h; exact ⟨hs, own_kept h1 hb, h2.below hb⟩
theorem OwLs.mono {w : World} {B B' : Nat} {v : Value} {ls : List (List Int)} (h : OwLs w B v ls) (hB : B' ≤ B) : OwLs w B' v ls := by
  obtain ⟨hs, h1, h2⟩ := h; exact ⟨hs, own_mono h1 hB, h2.mono hB⟩
theorem OwLs.read {w : World} {B : Nat} {v : Value} {ls : List (List Int)} (h : OwLs w B v ls) : ∃ q c, v = .slice q ls.length c ∧ RdLs w q ls := by
  obtain ⟨hs, h1, h2⟩ := h
  rcases h1.2 with ⟨rfl, h0⟩ | ⟨g, cap, cur, rfl, hrest⟩
  · have : ls = [] := List.length_eq_zero_iff.1 h0
    subst this; exact ⟨none, 0, rfl, .inl rfl⟩
  · refine ⟨some ⟨g, 0, none⟩, cap, rfl, .inr ⟨g, 0, rfl, fun i hi => ?_⟩⟩
    obtain ⟨u, e1, e2⟩ := h2.2 i hi; obtain ⟨q, c, hu, hr⟩ := rd_of_own e2; subst hu; have h3 := h1.cells (g := g) rfl i _ e1; rw [add_new] at h3; exact ⟨q, c, by rw [Nat.zero_add]; exact h3, hr⟩
end Go.Proofs.YtlednchfifphgabGreatDoor
end

section
namespace Go.Proofs.YtlednchfifphgabGreatDoor
open Go Go.RowKit Go.Proofs
set_option linter.unusedVariables false
set_option linter.unusedSimpArgs false
attribute [local go_sem] imax2 imin2

end Go.Proofs.YtlednchfifphgabGreatDoor
end

section
namespace Go.Proofs.YtlednchfifphgabGreatDoor
open Go Go.RowKit Go.Proofs
set_option linter.unusedVariables false
set_option linter.unusedSimpArgs false
attribute [local go_sem] imax2 imin2

end Go.Proofs.YtlednchfifphgabGreatDoor
end

section
namespace Go.Proofs.YtlednchfifphgabGreatDoor
open Go Go.RowKit Go.Proofs
set_option linter.unusedVariables false
set_option linter.unusedSimpArgs false
attribute [local go_sem] imax2 imin2

def ElR (w : World) (css : List (List Int)) (hs : List Value) : Prop := hs.length = css.length ∧ ∀ i, i < css.length → ∃ q c, hs[i]? = some (.slice q (gl css i).length c) ∧ RdI w q (gl css i)
theorem ElR.read {w w' : World} {B : Nat} {v : Value} {css : List (List Int)} {hs : List Value} (h : ElR w css hs) (ho : w'.ownsRow B 23 1 v css.length hs) (hb : Below w.heap.size w w') : ∃ q c, v = .slice q css.length c ∧ RdLs w' q css := by
  rcases ho.2 with ⟨rfl, h0⟩ | ⟨g, cap, cur, rfl, hrest⟩
  · have : css = [] := List.length_eq_zero_iff.1 h0
    subst this; exact ⟨none, 0, rfl, .inl rfl⟩
  · refine ⟨some ⟨g, 0, none⟩, cap, rfl, .inr ⟨g, 0, rfl, fun i hi => ?_⟩⟩
    obtain ⟨q, c, e1, e2⟩ := h.2 i hi; have h3 := ho.cells (g := g) rfl i _ e1; rw [add_new] at h3; exact ⟨q, c, by rw [Nat.zero_add]; exact h3, e2.below hb⟩
theorem take_len_le (ms : List (Int × Int)) (k : Nat) (h4 : ms.length ≤ 4) (h : ∀ i, i < ms.length → (gm ms i).2 - (gm ms i).1 ≤ 4) : (prodF (ms.take k)).length ≤ 625 := by
  have h1 := prodF_count (ms.take k) (fun i hi => by
    rw [List.length_take] at hi; have e : gm (ms.take k) i = gm ms i := by unfold gm; rw [List.getD_eq_getElem?_getD, List.getD_eq_getElem?_getD, List.getElem?_take, if_pos (by omega)]
    rw [e]; exact h i (by omega))
  have h2 : (5 : Nat) ^ (ms.take k).length ≤ 5 ^ 4 := Nat.pow_le_pow_right (by omega) (by rw [List.length_take]; omega); omega
end Go.Proofs.YtlednchfifphgabGreatDoor
end

section
namespace Go.Proofs.YtlednchfifphgabGreatDoor
open Go Go.RowKit Go.Proofs
set_option linter.unusedVariables false
set_option linter.unusedSimpArgs false
attribute [local go_sem] imax2 imin2

end Go.Proofs.YtlednchfifphgabGreatDoor
end

section
namespace Go.Proofs.YtlednchfifphgabGreatDoor
open Go Go.RowKit Go.Proofs
set_option linter.unusedVariables false
set_option linter.unusedSimpArgs false
attribute [local go_sem] imax2 imin2

theorem truthsFew {p : Pc} (hpo : PieceOk p) : (truthsF p).length ≤ 625 := by
  have h1 := List.length_filter_le (fitsB p) (prodF p.ms); have h2 := take_len_le p.ms p.ms.length hpo.n4 (fun i hi => (hpo.mesh i hi).2.2.2); rw [List.take_length] at h2; exact Nat.le_trans h1 h2
end Go.Proofs.YtlednchfifphgabGreatDoor
end

section
namespace Go.Proofs.YtlednchfifphgabGreatDoor
open Go Go.RowKit Go.Proofs
set_option linter.unusedVariables false
set_option linter.unusedSimpArgs false
attribute [local go_sem] imax2 imin2

end Go.Proofs.YtlednchfifphgabGreatDoor
end

section
namespace Go.Proofs.YtlednchfifphgabGreatDoor
open Go Go.RowKit Go.Proofs
set_option linter.unusedVariables false
set_option linter.unusedSimpArgs false

end Go.Proofs.YtlednchfifphgabGreatDoor
end

section
namespace Go.Proofs.YtlednchfifphgabGreatDoor
open Go Go.RowKit Go.Proofs
set_option linter.unusedVariables false
set_option linter.unusedSimpArgs false
attribute [local go_sem] imax2 imin2

def SpOk (L : List (Int × Int)) (w : World) (e : Ending) (w' : World) : Prop := ∃ q c, e = .returned (.tuple #[.slice q L.length c, .int .i64 0]) ∧ RdS w' q L ∧ Below w.heap.size w w'
theorem spans_ok {p : Pc} {L : List (Int × Int)} {w w' : World} {e : Ending} (h1 : pieceB p = true) (ht : truthsF p ≠ []) (h : SpansPost p L w e w') : SpOk L w e w' := by
  rcases h with ⟨h | h | ⟨_, _, g, c, he, ho⟩, hb⟩
  · rw [h1] at h; cases h.1
  · exact absurd h.2.1 ht
  · exact ⟨_, c, he, rdS_at ho rfl, hb⟩
end Go.Proofs.YtlednchfifphgabGreatDoor
end

section
namespace Go.Proofs.YtlednchfifphgabGreatDoor
open Go Go.RowKit Go.Proofs
set_option linter.unusedVariables false
set_option linter.unusedSimpArgs false
attribute [local go_sem] imax2 imin2

theorem add_lit0 (b off j : Nat) : (⟨b, off, none⟩ : Addr).add j = ⟨b, off + j, none⟩ := by unfold Addr.add; split <;> simp_all
theorem rdV_length : ∀ l : List Rd, (rdV l).length = l.length * 4 := by
  intro l
  induction l with
  | nil => rfl
  | cons x l ih => simp only [rdV, List.length_cons, ih]; omega
theorem rdV_cells : ∀ l : List Rd, ∀ u ∈ rdV l, u.oneCell' = true := by
  intro l
  induction l with
  | nil => intro u hu; cases hu
  | cons x l ih =>
    intro u hu; simp only [rdV, List.mem_cons] at hu
    rcases hu with rfl | rfl | rfl | rfl | hu
    · rfl
    · rfl
    · rfl
    · rfl
    · exact ih u hu
theorem news_reads {w : World} {q : Option Addr} {xs : List Rd} (h : RdR w q xs) : xs.length = 0 ∨ ∃ ad, q = some ad ∧ ∀ i u, (rdV xs)[i]? = some u → w.cell? (ad.add i) = some u := by
  rcases h with rfl | ⟨b, off, rfl, hc⟩
  · exact .inl rfl
  · refine .inr ⟨_, rfl, fun i u hu => ?_⟩
    have hi : i < xs.length * 4 := by have := (List.getElem?_eq_some_iff.1 hu).1; rw [rdV_length] at this; exact this
    have hj : i / 4 < xs.length := by omega
    obtain ⟨g0, g1, g2, g3⟩ := rdV_get xs (i / 4) hj; obtain ⟨c0, c1, c2, c3⟩ := hc (i / 4) hj; rw [add_lit0]; have hr : i % 4 = 0 ∨ i % 4 = 1 ∨ i % 4 = 2 ∨ i % 4 = 3 := by omega
    rcases hr with hr | hr | hr | hr
    · have e : i = i / 4 * 4 := by omega
      rw [e] at hu ⊢; rw [g0] at hu; cases hu; exact c0
    · have e : i = i / 4 * 4 + 1 := by omega
      rw [e] at hu ⊢; rw [g1] at hu; cases hu; exact c1
    · have e : i = i / 4 * 4 + 2 := by omega
      rw [e] at hu ⊢; rw [g2] at hu; cases hu; exact c2
    · have e : i = i / 4 * 4 + 3 := by omega
      rw [e] at hu ⊢; rw [g3] at hu; cases hu; exact c3

def WithPost (pm pv : Option Addr) (cm cv : Nat) (p : Pc) (r : Rd) (w : World) (e : Ending) (w' : World) : Prop :=
  ∃ pr cr, e = .returned (.agg #[.slice pm p.ms.length cm, .slice pv p.mv.length cv, .slice pr (moreF p r).rs.length cr]) ∧ RdP w' pm pv pr (moreF p r) ∧ Below w.heap.size w w'
set_option maxHeartbeats 1600000 in
set_option maxRecDepth 100000 in
theorem r_With (pm pv pr : Option Addr) (cm cv cr : Nat) (p : Pc) (a s o : Int) (w : World) (hp : RdP w pm pv pr p) (h1 : p.rs.length ≤ 1000) :
    Calls Tryz.prog 54 #[.agg #[.slice pm p.ms.length cm, .slice pv p.mv.length cv, .slice pr p.rs.length cr], .int .i64 a, .int .i64 s, .int .i64 o] w (WithPost pm pv cm cv p ⟨p.mv.length, a, s, o⟩ w) := by
  obtain ⟨i0, hi0, hz0, hz1, hz2⟩ := info_parts infR; obtain ⟨w1, e1, HS1, k0, k1, k2, b1⟩ := box3 w (.slice pm p.ms.length cm) (.slice pv p.mv.length cv) (.slice pr p.rs.length cr) 26; have kr := alloc_new w1 (.cells #[.slice none 0 0, .slice none 0 0, .slice none 0 0] 26); obtain ⟨w2, e2, HS2, _, _, _, b2⟩ := box3 w1 (.slice none 0 0) (.slice none 0 0) (.slice none 0 0) 26; rw [e2] at kr; have kx := alloc_new w2 (.cells #[.slice pm p.ms.length cm, .slice pv p.mv.length cv, .slice pr p.rs.length cr] 26); obtain ⟨w3, e3, HS3, _, _, _, b3⟩ := box3 w2 (.slice pm p.ms.length cm) (.slice pv p.mv.length cv) (.slice pr p.rs.length cr) 26; rw [e3] at kx; have kr := (b3.block _ (block_lt kr)).trans kr; have b23 := b2.trans (b3.mono b2.size); have b13 := b1.trans (b23.mono b1.size); have j0 := (b2.cell (lt_of_cellq k0)).trans k0; have j1 := (b2.cell (lt_of_cellq k1)).trans k1; have j2 := (b2.cell (lt_of_cellq k2)).trans k2
  have k0 := (b23.cell (lt_of_cellq k0)).trans k0; have k1 := (b23.cell (lt_of_cellq k1)).trans k1; have k2 := (b23.cell (lt_of_cellq k2)).trans k2; have HB := Lib.hid b13; have HP0 := Lib.hid hp; have HP3 := Lib.hid (hp.rs.below b13); have HKR := Lib.hid kr; have HKX := Lib.hid kx; have HZ := Lib.hid (show w.heap.size < w1.heap.size ∧ w1.heap.size < w2.heap.size ∧ w2.heap.size < w3.heap.size from ⟨by have := HS1.out; omega, by have := HS2.out; omega, by have := HS3.out; omega⟩); clear hp b1 b2 b3 b23 b13 kr kx
  go_enter Tryz.func54, Tryz.ntmps54
  go_upto_region 2 with (fail); clear e1 e2 e3 j0 j1 j2; have HSB := Lib.hid (cl3 k0 k1 k2); refine held3 k0 k1 k2 (fun W0 HB0 => ?_); refine tk 0 rfl (by exact HSB.out _ HB0) ?_; (try simp only [Act.put, ptL]); refine tk 1 rfl (by exact HSB.out _ HB0) ?_; (try simp only [Act.put, ptL]); refine tk 3 rfl (by exact HSB.out _ HB0) ?_; (try simp only [Act.put, ptL]); refine tk 4 rfl (by exact HSB.out _ HB0) ?_; (try simp only [Act.put, ptL]); refine tk 5 rfl (by exact HSB.out _ HB0) ?_; (try simp only [Act.put, ptL]); refine tk 6 rfl (by exact HSB.out _ HB0) ?_; (try simp only [Act.put, ptL]); refine tk 7 rfl (by exact HSB.out _ HB0) ?_; (try simp only [Act.put, ptL]); refine tk 8 rfl (by exact HSB.out _ HB0) ?_; (try simp only [Act.put, ptL]); refine tk 9 rfl (by exact HSB.out _ HB0) ?_; (try simp only [Act.put, ptL]); refine rz2 2 10 rfl rfl ?ordA ?ordB
  case' ordA =>
    intro K hK; refine step_append_src _ rfl _ _ 24 rfl w3.heap.size 116 i0 _ 4 32 Tryz.underlying24 hi0 hz0 hz1 hz2 rfl (by decide) (.slice none 0 0) 0 [] rfl (World.ownsRow_nil _ _ _ _) pr p.rs.length cr (rdV p.rs) rfl (by rw [rdV_length]) (news_reads (HP3.out.below HB0)) (rdV_cells _) (by unfold maxLen; omega) (by omega) HB0.size ?_; intro v1 wa hown1 hgrow1 hat1; have hba : Below w3.heap.size w3 wa := HB0.grown hgrow1 HB0.size (fun j hj => by simp [Value.ownBlock] at hj); refine kz hK (by exact HSB.out _ hba) ?_; clear hK K; (try simp only [Act.put, ptL]); refine rz1 10 rfl (fun K hK => ?_); go_simp; refine kz hK (by exact HSB.out _ (hba.alloc hba.size _)) ?_; clear hK K; (try simp only [Act.put, ptL]); have g1 := hown1.alloc (.cells #[.int .i64 p.mv.length, .int .i64 a, .int .i64 s, .int .i64 o] 116); have g2 := hba.alloc hba.size (.cells #[.int .i64 p.mv.length, .int .i64 a, .int .i64 s, .int .i64 o] 116)
    have g3 : ∀ j u, ([.int .i64 p.mv.length, .int .i64 a, .int .i64 s, .int .i64 o] : List Value)[j]? = some u → (wa.alloc (.cells #[.int .i64 p.mv.length, .int .i64 a, .int .i64 s, .int .i64 o] 116)).cell? ((⟨wa.heap.size, 0, none⟩ : Addr).add j) = some u := news_of wa _ _; obtain ⟨G, hG⟩ : ∃ G, wa.heap.size = G := ⟨_, rfl⟩; obtain ⟨W2, hW2⟩ : ∃ W2, wa.alloc (.cells #[.int .i64 p.mv.length, .int .i64 a, .int .i64 s, .int .i64 o] 116) = W2 := ⟨_, rfl⟩; rw [hW2] at g1 g2 g3; rw [hG] at g3; rw [hW2, hG]; clear hown1 hgrow1 hat1 hba hG hW2
  case' ordB =>
    intro K hK; go_simp; refine kz hK (by exact HSB.out _ (HB0.alloc HB0.size _)) ?_; clear hK K; (try simp only [Act.put, ptL]); have bl := HB0.alloc HB0.size (.cells #[.int .i64 p.mv.length, .int .i64 a, .int .i64 s, .int .i64 o] 116); have hn0 : ∀ j u, ([.int .i64 p.mv.length, .int .i64 a, .int .i64 s, .int .i64 o] : List Value)[j]? = some u → (W0.alloc (.cells #[.int .i64 p.mv.length, .int .i64 a, .int .i64 s, .int .i64 o] 116)).cell? ((⟨W0.heap.size, 0, none⟩ : Addr).add j) = some u := news_of W0 _ _; refine rz1 2 rfl (fun K hK => ?_); refine step_append_src _ rfl _ _ 24 rfl w3.heap.size 116 i0 _ 4 32 Tryz.underlying24 hi0 hz0 hz1 hz2 rfl (by decide) (.slice none 0 0) 0 [] rfl (World.ownsRow_nil _ _ _ _) pr p.rs.length cr (rdV p.rs) rfl (by rw [rdV_length]) (news_reads (HP3.out.below bl)) (rdV_cells _) (by unfold maxLen; omega) (by omega) bl.size ?_; intro v1 W2 hown1 hgrow1 hat1; have g1 := hown1
    have g2 : Below w3.heap.size w3 W2 := bl.grown hgrow1 bl.size (fun j hj => by simp [Value.ownBlock] at hj); have g3 : ∀ j u, ([.int .i64 p.mv.length, .int .i64 a, .int .i64 s, .int .i64 o] : List Value)[j]? = some u → W2.cell? ((⟨W0.heap.size, 0, none⟩ : Addr).add j) = some u := fun j u hj => (hgrow1.cell_far _ (lt_of_cellq (hn0 j u hj)) (by simp [Value.ownBlock])).trans (hn0 j u hj)
    refine kz hK (by exact HSB.out _ g2) ?_; clear hK K; (try simp only [Act.put, ptL]); obtain ⟨G, hG⟩ : ∃ G, W0.heap.size = G := ⟨_, rfl⟩; rw [hG] at g3; rw [hG]; clear hown1 hgrow1 hat1 bl hG hn0
  all_goals
    rw [Nat.zero_add, List.nil_append] at g1; refine rz1 11 rfl (fun K hK => ?_); refine step_append_src _ rfl _ _ 24 rfl w3.heap.size 116 i0 _ 4 32 Tryz.underlying24 hi0 hz0 hz1 hz2 rfl (by decide) v1 p.rs.length _ rfl g1 (some ⟨G, 0, none⟩) 1 1 [.int .i64 p.mv.length, .int .i64 a, .int .i64 s, .int .i64 o] rfl rfl (.inr ⟨_, rfl, g3⟩) (by intro u hu; simp at hu; rcases hu with rfl | rfl | rfl | rfl <;> rfl) (by unfold maxLen; omega) (by omega) g2.size ?_; intro v2 W3 hown2 hgrow2 hat2; have g4 : Below w3.heap.size w3 W3 := g2.grown hgrow2 g2.size (fun j hj => (g1.lt j hj).1); refine kz hK (by exact HSB.out _ g4) ?_; clear hK K; (try simp only [Act.put, ptL]); obtain ⟨gv, cv', rfl⟩ := own_anyE hown2; refine tk 12 rfl (by exact HSB.out _ g4) ?_; (try simp only [Act.put, ptL]); have hkx := (g4.block _ (block_lt HKX.out)).trans HKX.out; have hkr := (g4.block _ (block_lt HKR.out)).trans HKR.out
    obtain ⟨wc, s1, c1, f1, hx1, hxk1, HZ1, hxb1⟩ := put3_2 W3 w2.heap.size 26 _ _ _ (.slice gv (p.rs.length + 1) cv') hkx; have hq : ∀ j, wc.cell? ⟨w.heap.size, j, none⟩ = W3.cell? ⟨w.heap.size, j, none⟩ := fun j => World.cell?_of_block (a := ⟨w.heap.size, j, none⟩) (hxk1 w.heap.size (by have := HZ.out; omega))
    refine rz1 13 rfl (fun K hK => ?_); go_simp; refine kz hK (by exact (by rw [hq, hq, hq]; exact HSB.out _ g4)) ?_; clear hK K; (try simp only [Act.put, ptL]); refine wpAnyH_done (by kernel_rfl) ?_ _; have hkr := (hxk1 w1.heap.size (by have := HZ.out; omega)).trans hkr; obtain ⟨x0, x1, x2⟩ := cells3 hx1; obtain ⟨wd, we, wf, t1, t2, t3, ⟨d0, q0⟩, ⟨d1, q1⟩, ⟨d2, q2⟩, hx4, hxk, HZ4, hxb⟩ := set3 wc w1.heap.size 26 _ _ _ (.slice pm p.ms.length cm) (.slice pv p.mv.length cv) (.slice gv (p.rs.length + 1) cv') hkr; obtain ⟨r0, r1, r2⟩ := cells3 hx4; have hbf : Below w.heap.size w wf := hxb w w.heap.size (by have := HZ.out; omega) (hxb1 w w.heap.size (by have := HZ.out; omega) (HB.out.trans (g4.mono HB.out.size))); have HBF := Lib.hid hbf
    have hof := own_same hown2 (w' := wf) (fun g' hg' => by
      have h := (hown2.lt g' hg').1; have := HZ.out; exact (hxk g' (by omega)).trans (hxk1 g' (by omega)))
    have HRD := Lib.hid (show RdP wf pm pv gv (moreF p ⟨p.mv.length, a, s, o⟩) from ⟨(HP0.out.below hbf).ms, (HP0.out.below hbf).mv, rdR_at (by rw [show rdV (moreF p ⟨p.mv.length, a, s, o⟩).rs = rdV p.rs ++ [.int .i64 p.mv.length, .int .i64 a, .int .i64 s, .int .i64 o] from rdV_append p.rs _]; exact hof) (by show (p.rs ++ _).length = _; rw [List.length_append]; rfl)⟩); clear g1 g2 g3 g4 hown2 hgrow2 hat2 hkx hkr hx1 hxk1 hxb1 hx4 hxk hxb hof hbf hq HB0 HSB k0 k1 k2; go_wp2; refine bodyPost_ret (v := .agg #[.slice pm p.ms.length cm, .slice pv p.mv.length cv, .slice gv (p.rs.length + 1) cv']) ?_ rfl ⟨gv, cv', by rw [show (moreF p ⟨p.mv.length, a, s, o⟩).rs.length = p.rs.length + 1 from List.length_append], HRD.out, HBF.out⟩; simp [results, Tryz.results54, go_sem, r0, r1, r2]
end Go.Proofs.YtlednchfifphgabGreatDoor
end

section
namespace Go.Proofs.YtlednchfifphgabGreatDoor
open Go Go.RowKit Go.Proofs
set_option linter.unusedVariables false
set_option linter.unusedSimpArgs false
attribute [local go_sem] imax2 imin2

end Go.Proofs.YtlednchfifphgabGreatDoor
end

section
namespace Go.Proofs.YtlednchfifphgabGreatDoor
open Go Go.RowKit Go.Proofs
set_option linter.unusedVariables false
set_option linter.unusedSimpArgs false
attribute [local go_sem] imax2 imin2

end Go.Proofs.YtlednchfifphgabGreatDoor
end

section
namespace Go.Proofs.YtlednchfifphgabGreatDoor
open Go Go.RowKit Go.Proofs
set_option linter.unusedVariables false
set_option linter.unusedSimpArgs false

set_option maxRecDepth 100000 in
theorem l_plain (q : Option Addr) (c : Nat) (ls : List (Int × Int)) (many : Int) (n : Nat) (w : World) (hn : ls.length = n) (hn2 : n ≤ 1000) (hr : RdS w q ls) (hp : ∀ i, i < ls.length → -5000 ≤ (gm ls i).1 ∧ (gm ls i).1 ≤ (gm ls i).2 ∧ (gm ls i).2 ≤ 5000) (hm : (n : Int) = many) :
    Calls Tryz.prog 45 #[.slice q n c, .int .i64 many] w fun e w' => e = .returned (.bool true) ∧ Below w.heap.size w w' := by
  subst hm; have HP := Lib.hid (show ∀ i, i < n → -5000 ≤ (gm ls i).1 ∧ (gm ls i).1 ≤ (gm ls i).2 ∧ (gm ls i).2 ≤ 5000 from fun i hi => hp i (by rw [hn]; exact hi)); have HR := Lib.hid hr; have HN := Lib.hid hn; have heq : ((n : Int) == (n : Int)) = true := by simp
  clear hp hr hn
  go_enter Tryz.func45, Tryz.ntmps45
  go_wp2
  go_loopw [5] (fun i wr => ∃ k : Nat, k ≤ n ∧ i = .int .i64 k ∧ ∃ d, wr = w.drewN d) (fun i _ => n - (intOf i).toNat)
  case atStart => exact ⟨0, Nat.zero_le _, rfl, 0, rfl⟩
  case round =>
    obtain ⟨k, hk, rfl, d, hwr⟩ := hrel; have HW := Lib.hid hwr
    by_cases hlt : k < n
    · have hki : (k : Int) < (n : Int) := by omega
      obtain ⟨b, off, rfl, hc⟩ := HR.out.at (by rw [HN.out]; exact hlt); obtain ⟨e0, e1⟩ := hc k (by rw [HN.out]; exact hlt); have d0 : wr.cell? ⟨b, off + k * 2, none⟩ = some (.int .i64 (gm ls k).1) := by rw [hwr]; exact e0
      have d1 : wr.cell? ⟨b, off + k * 2 + 1, none⟩ = some (.int .i64 (gm ls k).2) := by rw [hwr]; exact e1
      obtain ⟨g1, g2, g3⟩ := HP.out k hlt; obtain ⟨A, hA⟩ : ∃ A, (gm ls k).1 = A := ⟨_, rfl⟩; obtain ⟨B, hB⟩ : ∃ B, (gm ls k).2 = B := ⟨_, rfl⟩; rw [hA] at d0 g1 g2; rw [hB] at d1 g2 g3; have t1 : decide (A < -5000) = false := decide_eq_false (by omega); have t2 : decide (A > B) = false := decide_eq_false (by omega); have t2b : decide (B < A) = false := decide_eq_false (by omega); have t3 : decide (B > 5000) = false := decide_eq_false (by omega); have t3b : decide (5000 < B) = false := decide_eq_false (by omega); clear hc e0 e1 hA hB hwr; go_wp2
      go_quiet (fail)
      go_wp2; go_roundw
      case rel => exact ⟨k + 1, by omega, by go_num, by rw [HW.out]; first | exact ⟨_, rfl⟩ | (rw [drew_add]; exact ⟨_, rfl⟩)⟩
      case measure => simp [intOf]; omega
    · obtain rfl : k = n := by omega
      have hki : ¬ (k : Int) < (k : Int) := by omega
      go_wp2; go_ret; exact ⟨rfl, by first | exact below_drewN (Below.refl _ _) _ | (rw [HW.out]; exact below_drewN (Below.refl _ _) _)⟩
end Go.Proofs.YtlednchfifphgabGreatDoor
end

section
namespace Go.Proofs.YtlednchfifphgabGreatDoor
open Go Go.RowKit Go.Proofs
set_option linter.unusedVariables false
set_option linter.unusedSimpArgs false
attribute [local go_sem] imax2 imin2

theorem r_Far (n : Int) (w : World) : Calls Tryz.prog 24 #[.int .i64 n] w fun e w' => e = .returned (.bool (inB n (-5000) 5000)) ∧ Below w.heap.size w w' := by
  go_enter Tryz.func24, Tryz.ntmps24
  (go_wp2_with fail); refine (r_in _ _ _ _).mono ?_
  rintro e wn ⟨rfl, rfl⟩; go_wp2; go_ret; exact ⟨rfl, Below.refl _ _⟩
end Go.Proofs.YtlednchfifphgabGreatDoor
end

section
namespace Go.Proofs.YtlednchfifphgabGreatDoor
set_option linter.unusedVariables false

def winTo (p : Pc) (a : Nat) (o lo : Int) (k : Nat) : Nat := maxN ((List.range k).map fun (j : Nat) => cntF p a (lo + (j : Int)) (lo + (j : Int) + 2 * o))
theorem winTo_zero (p : Pc) (a : Nat) (o lo : Int) : winTo p a o lo 0 = 0 := rfl
theorem winTo_succ (p : Pc) (a : Nat) (o lo : Int) (k : Nat) : winTo p a o lo (k + 1) = max (winTo p a o lo k) (cntF p a (lo + (k : Int)) (lo + (k : Int) + 2 * o)) := by
  unfold winTo; rw [List.range_succ, List.map_append]; exact maxN_last _ _
theorem winTo_all {p : Pc} (ht : truthsF p ≠ []) (a : Nat) (ha : a ≤ p.ms.length) (o : Int) {k : Nat} (hk : (k : Int) = (gm (knownF p) a).2 - (gm (knownF p) a).1 + 1) : winTo p a o (gm (knownF p) a).1 k = leftF p a o := by
  apply Nat.le_antisymm
  · refine maxN_le fun x hx => ?_
    obtain ⟨j, _, rfl⟩ := List.mem_map.1 hx; exact cnt_le_left p a _ o
  · obtain ⟨pl, hpl, he⟩ := left_is ht a o
    rw [he]; have h := known_true hpl a ha; refine maxN_mem (List.mem_map.2 ⟨(gi (endF p pl) a - (gm (knownF p) a).1).toNat, List.mem_range.2 (by omega), ?_⟩); have : (gm (knownF p) a).1 + (((gi (endF p pl) a - (gm (knownF p) a).1).toNat : Nat) : Int) = gi (endF p pl) a := by omega
    rw [this]
theorem winTo_le (p : Pc) (a : Nat) (o lo : Int) (k : Nat) : winTo p a o lo k ≤ (truthsF p).length := maxN_le fun x hx => by
  obtain ⟨j, _, rfl⟩ := List.mem_map.1 hx; exact cnt_le _ _ _ _
end Go.Proofs.YtlednchfifphgabGreatDoor
end

section
namespace Go.Proofs.YtlednchfifphgabGreatDoor
open Go Go.RowKit Go.Proofs
set_option linter.unusedVariables false
set_option linter.unusedSimpArgs false
attribute [local go_sem] imax2 imin2

theorem with_ok {p : Pc} (hpo : PieceOk p) (h6 : p.rs.length < 6) {a : Nat} (h1 : 1 ≤ a) (ha : a ≤ p.ms.length) {s o : Int} (hs : -5000 ≤ s ∧ s ≤ 5000) (ho : 0 ≤ o ∧ o ≤ 50) : PieceOk (moreF p ⟨p.mv.length, a, s, o⟩) :=
  moreF_piece hpo h6 ⟨⟨by simp, by simp⟩, ⟨by simp; omega, by simp; omega⟩, hs, ho⟩
theorem with_truths (pm pv pr : Option Addr) (cm cv cr : Nat) (p : Pc) (a : Nat) (s o : Int) (W : World) (hpo : PieceOk p) (h6 : p.rs.length < 6) (h1 : 1 ≤ a) (ha : a ≤ p.ms.length) (hs : -5000 ≤ s ∧ s ≤ 5000) (ho : 0 ≤ o ∧ o ≤ 50) (hp : RdP W pm pv pr (moreF p ⟨p.mv.length, a, s, o⟩)) :
    Calls Tryz.prog 36 #[.agg #[.slice pm p.ms.length cm, .slice pv p.mv.length cv, .slice pr (moreF p ⟨p.mv.length, a, s, o⟩).rs.length cr]] W fun e w' => e = .returned (.tuple #[.int .i64 (cntF p a (s - o) (s + o) : Int), .int .i64 0]) ∧ Below W.heap.size W w' := by
  have hok := with_ok hpo h6 h1 ha hs ho
  have h := c_Truths pm pv pr cm cv cr (moreF p ⟨p.mv.length, a, s, o⟩) W hp (by
    have h1 := hok.n4; have h2 := hok.m8; have h3 := hok.r6; exact ⟨by omega, by omega, by omega⟩)
  rw [if_pos (pieceB_iff.2 hok), if_pos (pieceB_iff.2 hok)] at h; have e : (truthsF (moreF p ⟨p.mv.length, a, s, o⟩)).length = cntF p a (s - o) (s + o) := withF_count p a s o; rw [e] at h; exact h
set_option maxHeartbeats 3200000 in
set_option maxRecDepth 100000 in
theorem l_left (pm pv pr : Option Addr) (cm cv cr : Nat) (p : Pc) (a : Nat) (o : Int) (w : World) (hp : RdP w pm pv pr p) (hpo : PieceOk p) (ht : truthsF p ≠ []) (h6 : p.rs.length < 6) (h1 : 1 ≤ a) (ha : a ≤ p.ms.length) (ho : 0 ≤ o ∧ o ≤ 50) :
    Calls Tryz.prog 53 #[.agg #[.slice pm p.ms.length cm, .slice pv p.mv.length cv, .slice pr p.rs.length cr], .int .i64 (a : Int), .int .i64 o] w fun e w' => e = .returned (.int .i64 (leftF p a o : Int)) ∧ Below w.heap.size w w' := by
  obtain ⟨w1, e1, HS1, k0, k1, k2, b1⟩ := box3 w (.slice pm p.ms.length cm) (.slice pv p.mv.length cv) (.slice pr p.rs.length cr) 26; have HP := Lib.hid (hp.below b1); have HB := Lib.hid b1
  have HKN := Lib.hid (fun W (h : RdP W pm pv pr p) => show Calls Tryz.prog 61 #[.agg #[.slice pm p.ms.length cm, .slice pv p.mv.length cv, .slice pr p.rs.length cr]] W (SpOk (knownF p) W) from
    (c_Known pm pv pr cm cv cr p W h (by
      have h1 := hpo.n4; have h2 := hpo.m8; have h3 := hpo.r6; exact ⟨by omega, by omega, by omega⟩)).mono fun _ _ => spans_ok (pieceB_iff.2 hpo) ht)
  have hn4 := hpo.n4; have HKL := Lib.hid (show (knownF p).length = p.ms.length + 1 from knownF_len _)
  have HKP := Lib.hid (show ∀ i, i < (knownF p).length → -5000 ≤ (gm (knownF p) i).1 ∧ (gm (knownF p) i).1 ≤ (gm (knownF p) i).2 ∧ (gm (knownF p) i).2 ≤ 5000 from fun i hi => by
    rw [knownF_len] at hi; have := known_plain hpo ht i (by omega); omega)
  have HKR := Lib.hid (known_plain hpo ht a ha); have hnw := known_narrow hpo ht a ha; have HTW := Lib.hid (fun pr2 cr2 s W (hs : -5000 ≤ s ∧ s ≤ 5000) h => with_truths pm pv pr2 cm cv cr2 p a s o W hpo h6 h1 ha hs ho h); have HWA := Lib.hid (fun (k : Nat) (hk : (k : Int) = (gm (knownF p) a).2 - (gm (knownF p) a).1 + 1) => winTo_all ht a ha o hk); have HWS := Lib.hid (fun lo k => winTo_succ p a o lo k); have HWZ := Lib.hid (fun lo => winTo_zero p a o lo); have HR6 := Lib.hid h6; have htl := truthsFew hpo; have HWL := Lib.hid (fun lo k => winTo_le p a o lo k); have hai : (a : Int) < (p.ms.length : Int) + 1 := by omega
  have ha0 : (0 : Int) ≤ (a : Int) := by omega
  have ha1 : a < p.ms.length + 1 := by omega
  clear hp b1 hpo ht
  go_enter Tryz.func53, Tryz.ntmps53
  (go_wp2_with fail); refine (HKN.out _ HP.out).mono ?_
  clear e1; rintro e wn ⟨q, c, rfl, hr, bq⟩; rw [HKL.out]
  skip; replace HB := Lib.hid (HB.out.trans (bq.mono HB.out.size)); replace HP := Lib.hid (HP.out.below bq); have k0 := (bq.cell (lt_of_cellq k0)).trans k0; have k1 := (bq.cell (lt_of_cellq k1)).trans k1; have k2 := (bq.cell (lt_of_cellq k2)).trans k2; clear bq
  have HR := Lib.hid hr; obtain ⟨b, off, rfl, hc⟩ := hr.at (i := a) (by rw [HKL.out]; omega); obtain ⟨d0, d1⟩ := hc a (by rw [HKL.out]; omega)
  have HPL := Lib.hid (fun W (h : Below wn.heap.size wn W) => show Calls Tryz.prog 45 #[.slice (some ⟨b, off, none⟩) (p.ms.length + 1) c, .int .i64 ((p.ms.length : Int) + 1)] W fun e w' => e = .returned (.bool true) ∧ Below W.heap.size W w' from
    l_plain (some ⟨b, off, none⟩) c (knownF p) _ (p.ms.length + 1) W HKL.out (by omega) (HR.out.below h) HKP.out (by omega))
  obtain ⟨hk1, hk2, hk3⟩ := HKR.out; obtain ⟨L, hL⟩ : ∃ x, (gm (knownF p) a).1 = x := ⟨_, rfl⟩; obtain ⟨U, hU⟩ : ∃ x, (gm (knownF p) a).2 = x := ⟨_, rfl⟩; rw [hL] at d0 hk1 hk2 hnw HWA; rw [hU] at d1 hk2 hk3 hnw HWA; have hwp : IntKind.i64.wrap ((p.ms.length : Int) + 1) = (p.ms.length : Int) + 1 := w64 _ (by omega) (by omega); have hwd : IntKind.i64.wrap (U - L) = U - L := w64 _ (by omega) (by omega); have hgt : decide (U - L > 64) = false := decide_eq_false (by omega); have hgtb : decide (64 < U - L) = false := decide_eq_false (by omega); have HKX := Lib.hid (And.intro hk1 (And.intro hk2 hk3)); clear hr hc hL hU HKN HKR hnw; go_wp2; have HSB := Lib.hid (cl3 k0 d0 d1); refine held3 k0 d0 d1 (fun W0 HB0 => ?_); refine tk 0 rfl (by exact HSB.out _ HB0) ?_; (try simp only [Act.put, ptL]); refine tk 1 rfl (by exact HSB.out _ HB0) ?_; (try simp only [Act.put, ptL]); refine tk 2 rfl (by exact HSB.out _ HB0) ?_; (try simp only [Act.put, ptL]); refine tk 3 rfl (by exact HSB.out _ HB0) ?_; (try simp only [Act.put, ptL]); refine tk 4 rfl (by exact HSB.out _ HB0) ?_; (try simp only [Act.put, ptL]); refine tk 5 rfl (by exact HSB.out _ HB0) ?_; (try simp only [Act.put, ptL]); refine tk 6 rfl (by exact HSB.out _ HB0) ?_; (try simp only [Act.put, ptL]); refine tk 7 rfl (by exact HSB.out _ HB0) ?_; (try simp only [Act.put, ptL])
  refine rz1 8 rfl ?_; intro K hK; go_simp; refine (HPL.out W0 HB0).mono ?_; rintro e W1 ⟨rfl, ba⟩; have HB1 := HB0.trans (ba.mono HB0.size); clear ba; refine kz hK (by exact HSB.out _ HB1) ?_; clear hK K; (try simp only [Act.put, ptL]); refine tk 9 rfl (by exact HSB.out _ HB1) ?_; (try simp only [Act.put, ptL]); refine tk 10 rfl (by exact HSB.out _ HB1) ?_; (try simp only [Act.put, ptL]); refine tk 11 rfl (by exact HSB.out _ HB1) ?_; (try simp only [Act.put, ptL]); refine tk 12 rfl (by exact HSB.out _ HB1) ?_; (try simp only [Act.put, ptL]); refine tk 13 rfl (by exact HSB.out _ HB1) ?_; (try simp only [Act.put, ptL]); refine tk 14 rfl (by exact HSB.out _ HB1) ?_; (try simp only [Act.put, ptL]); refine tk 15 rfl (by exact HSB.out _ HB1) ?_; (try simp only [Act.put, ptL]); refine tk 16 rfl (by exact HSB.out _ HB1) ?_; (try simp only [Act.put, ptL]); refine tk 17 rfl (by exact HSB.out _ HB1) ?_; (try simp only [Act.put, ptL]); refine tk 18 rfl (by exact HSB.out _ HB1) ?_; (try simp only [Act.put, ptL]); refine tk 19 rfl (by exact HSB.out _ HB1) ?_; (try simp only [Act.put, ptL]); refine tk 20 rfl (by exact HSB.out _ HB1) ?_; (try simp only [Act.put, ptL]); refine tk 21 rfl (by exact HSB.out _ HB1) ?_; (try simp only [Act.put, ptL]); refine tk 22 rfl (by exact HSB.out _ HB1) ?_; (try simp only [Act.put, ptL]); refine tk 23 rfl (by exact HSB.out _ HB1) ?_; (try simp only [Act.put, ptL]); refine tk 24 rfl (by exact HSB.out _ HB1) ?_; (try simp only [Act.put, ptL])
  refine wpAnyH_done (by kernel_rfl) ?_ _; have k1 := (HB1.cell (lt_of_cellq k1)).trans k1; have k2 := (HB1.cell (lt_of_cellq k2)).trans k2; obtain ⟨k0, d0, d1⟩ := HSB.out _ HB1; replace HB := Lib.hid (HB.out.trans (HB1.mono HB.out.size)); replace HP := Lib.hid (HP.out.below HB1); clear HSB HB0 HB1 HPL HR; obtain ⟨wm, hwm⟩ : ∃ wm : World, wm = W1 := ⟨_, rfl⟩; subst hwm; go_wp2
  go_loopw [9, 10] (fun v i wr => ∃ j : Nat, (j : Int) ≤ U - L + 1 ∧ i = .int .i64 (L + (j : Int)) ∧ v = .int .i64 (winTo p a o L j : Int) ∧ Hid (Below wm.heap.size wm wr)) (fun _ i _ => (U + 1 - intOf i).toNat)
  case atStart => exact ⟨0, by have := HKX.out; omega, by simp, by rw [HWZ.out]; rfl, Lib.hid (Below.refl _ _)⟩
  case round =>
    obtain ⟨j, hj, rfl, rfl, HN⟩ := hrel; have d0 := (HN.out.cell (lt_of_cellq d0)).trans d0; have d1 := (HN.out.cell (lt_of_cellq d1)).trans d1; have k0 := (HN.out.cell (lt_of_cellq k0)).trans k0; have k1 := (HN.out.cell (lt_of_cellq k1)).trans k1; have k2 := (HN.out.cell (lt_of_cellq k2)).trans k2; have HPN := Lib.hid (HP.out.below HN.out); obtain ⟨hk1, hk2, hk3⟩ := HKX.out
    by_cases hlt : L + (j : Int) ≤ U
    · have hwj : IntKind.i64.wrap (L + (j : Int) + 1) = L + ((j + 1 : Nat) : Int) := by rw [w64 _ (by omega) (by omega)]; omega
      have hws : IntKind.i64.wrap (L + (j : Int) + o) = L + (j : Int) + o := w64 _ (by omega) (by omega); have HST := Lib.hid (HWS.out L j); have HWI := Lib.hid (r_With pm pv pr cm cv cr p (a : Int) (L + (j : Int) + o) o wr HPN.out (by have := HR6.out; omega)); have HTR := Lib.hid (fun pr2 cr2 W h => HTW.out pr2 cr2 (L + (j : Int) + o) W (by omega) h); have e1 : L + (j : Int) + o - o = L + (j : Int) := by omega
      have e2 : L + (j : Int) + o + o = L + (j : Int) + 2 * o := by omega
      rw [e1, e2] at HTR; have hcl := cnt_le p a (L + (j : Int)) (L + (j : Int) + 2 * o); obtain ⟨C, hC⟩ : ∃ C, cntF p a (L + (j : Int)) (L + (j : Int) + 2 * o) = C := ⟨_, rfl⟩; rw [hC] at HTR HST hcl; have c1 : decide ((C : Int) < 0) = false := decide_eq_false (by omega); have HMX := Lib.hid (show max (winTo p a o L j : Int) (C : Int) = (winTo p a o L (j + 1) : Int) by rw [HST.out]; omega); obtain ⟨A1, hA1⟩ : ∃ A1 : Int, (winTo p a o L j : Int) = A1 := ⟨_, rfl⟩; obtain ⟨A2, hA2⟩ : ∃ A2 : Int, (C : Int) = A2 := ⟨_, rfl⟩; rw [hA1, hA2] at HMX; rw [hA2] at HTR c1; rw [hA1]; clear e1 e2 hC hA1 hA2 HST hcl
      (go_wp2_with fail); refine HWI.out.mono ?_
      rintro e wx ⟨pr2, cr2, rfl, hp2, bq⟩; have HX := Lib.hid (HN.out.trans (bq.mono HN.out.size)); have HP2 := Lib.hid hp2; clear bq hp2
      (go_wp2_with fail); refine (HTR.out _ _ _ HP2.out).mono ?_
      rintro e wy ⟨rfl, bq⟩; have HY := Lib.hid (HX.out.trans (bq.mono HX.out.size)); clear bq HP2 k0 k1 k2 d0 d1; go_wp2; go_roundw
      case rel => exact ⟨j + 1, by omega, by go_num, by rw [HMX.out], HY⟩
      case measure => simp [intOf]; omega
    · have hje : (j : Int) = U - L + 1 := by omega
      have hlt' : decide (L + (j : Int) ≤ U) = false := decide_eq_false hlt; rw [HWA.out j hje]; clear hlt hje hj; go_wp2; go_ret; exact ⟨rfl, HB.out.trans (HN.out.mono HB.out.size)⟩
set_option maxHeartbeats 6400000 in
set_option maxRecDepth 100000 in
theorem law_Left (pm pv pr : Option Addr) (cm cv cr : Nat) (p : Pc) (o other seen : Int) (m : Int) (w : World) (hp : RdP w pm pv pr p) (hm : MaxL m w) (hi : ItoaG w) :
    Calls Tryz.prog 12 #[.agg #[.slice pm p.ms.length cm, .slice pv p.mv.length cv, .slice pr p.rs.length cr], .int .i64 o, .int .i64 other, .int .i64 seen] w (LawPost w) := by
  obtain ⟨w1, e1, HS1, k0, k1, k2, b1⟩ := box3 w (.slice pm p.ms.length cm) (.slice pv p.mv.length cv) (.slice pr p.rs.length cr) 26; have HP := Lib.hid (hp.below b1); have HM := Lib.hid hm; have HI := Lib.hid hi; have HB := Lib.hid b1; clear hp hm hi b1
  go_enter Tryz.func12, Tryz.ntmps12
  (go_wp2_with fail); refine (c_short pm pv pr cm cv cr p _).mono ?_
  clear e1
  rcases hs : shortB p with _ | _
  · rintro e wn ⟨rfl, bq⟩; replace HB := Lib.hid (HB.out.trans (bq.mono HB.out.size)); clear bq
    (go_wp2_with fail); refine (c_known m _ (HM.out.below HB.out) (HI.out.below HB.out)).mono ?_; rintro e wn ⟨rfl, bq⟩; have HFK := Lib.hid (HB.out.trans (bq.mono HB.out.size)); clear bq; go_wp2; go_ret; exact ⟨rfl, HFK.out⟩
  rintro e wn ⟨rfl, bq⟩; replace HB := Lib.hid (HB.out.trans (bq.mono HB.out.size)); replace HP := Lib.hid (HP.out.below bq); have k0 := (bq.cell (lt_of_cellq k0)).trans k0; have k1 := (bq.cell (lt_of_cellq k1)).trans k1; have k2 := (bq.cell (lt_of_cellq k2)).trans k2; clear bq; have HLN := Lib.hid (short_len hs); clear hs
  (go_wp2_with fail); refine (r_Piece pm pv pr cm cv cr p _ HP.out HLN.out).mono ?_
  rcases h1 : pieceB p with _ | _
  · rintro e wn ⟨rfl, bq⟩; replace HB := Lib.hid (HB.out.trans (bq.mono HB.out.size)); clear bq
    (go_wp2_with fail); refine (c_known m _ (HM.out.below HB.out) (HI.out.below HB.out)).mono ?_; rintro e wn ⟨rfl, bq⟩; have HFK := Lib.hid (HB.out.trans (bq.mono HB.out.size)); clear bq; go_wp2; go_ret; exact ⟨rfl, HFK.out⟩
  rintro e wn ⟨rfl, bq⟩; replace HB := Lib.hid (HB.out.trans (bq.mono HB.out.size)); replace HP := Lib.hid (HP.out.below bq); have k0 := (bq.cell (lt_of_cellq k0)).trans k0; have k1 := (bq.cell (lt_of_cellq k1)).trans k1; have k2 := (bq.cell (lt_of_cellq k2)).trans k2; clear bq; have HPO := Lib.hid (pieceB_iff.1 h1); have HP1 := Lib.hid h1; clear h1
  by_cases h6 : p.rs.length < 6
  case neg =>
    have h6' : decide ((p.rs.length : Int) ≥ 6) = true := decide_eq_true (by omega); have h6b : (6 : Int) ≤ (p.rs.length : Int) := by omega
    (go_wp2_with fail); refine (c_known m _ (HM.out.below HB.out) (HI.out.below HB.out)).mono ?_; rintro e wn ⟨rfl, bq⟩; have HFK := Lib.hid (HB.out.trans (bq.mono HB.out.size)); clear bq; go_wp2; go_ret; exact ⟨rfl, HFK.out⟩
  have h6' : decide ((p.rs.length : Int) ≥ 6) = false := decide_eq_false (by omega)
  by_cases ho0 : o < 0
  · (go_wp2_with fail); refine (c_known m _ (HM.out.below HB.out) (HI.out.below HB.out)).mono ?_; rintro e wn ⟨rfl, bq⟩; have HFK := Lib.hid (HB.out.trans (bq.mono HB.out.size)); clear bq; go_wp2; go_ret; exact ⟨rfl, HFK.out⟩
  have ho0' : decide (o < 0) = false := decide_eq_false ho0
  by_cases ho1 : o > 50
  · (go_wp2_with fail); refine (c_known m _ (HM.out.below HB.out) (HI.out.below HB.out)).mono ?_; rintro e wn ⟨rfl, bq⟩; have HFK := Lib.hid (HB.out.trans (bq.mono HB.out.size)); clear bq; go_wp2; go_ret; exact ⟨rfl, HFK.out⟩
  have ho1' : decide (o > 50) = false := decide_eq_false ho1; have ho1b : decide (50 < o) = false := decide_eq_false ho1
  (go_wp2_with fail); refine (r_Last pm cm p.ms.length _ _ other _).mono ?_
  rcases h4 : inB other 1 p.ms.length with _ | _
  · rintro e wn ⟨rfl, bq⟩; replace HB := Lib.hid (HB.out.trans (bq.mono HB.out.size)); clear bq
    (go_wp2_with fail); refine (c_known m _ (HM.out.below HB.out) (HI.out.below HB.out)).mono ?_; rintro e wn ⟨rfl, bq⟩; have HFK := Lib.hid (HB.out.trans (bq.mono HB.out.size)); clear bq; go_wp2; go_ret; exact ⟨rfl, HFK.out⟩
  rintro e wn ⟨rfl, bq⟩; replace HB := Lib.hid (HB.out.trans (bq.mono HB.out.size)); replace HP := Lib.hid (HP.out.below bq); have k0 := (bq.cell (lt_of_cellq k0)).trans k0; have k1 := (bq.cell (lt_of_cellq k1)).trans k1; have k2 := (bq.cell (lt_of_cellq k2)).trans k2; clear bq
  (go_wp2_with fail); refine (r_Far seen _).mono ?_
  rcases h5 : inB seen (-5000) 5000 with _ | _
  · rintro e wn ⟨rfl, bq⟩; replace HB := Lib.hid (HB.out.trans (bq.mono HB.out.size)); clear bq
    (go_wp2_with fail); refine (c_known m _ (HM.out.below HB.out) (HI.out.below HB.out)).mono ?_; rintro e wn ⟨rfl, bq⟩; have HFK := Lib.hid (HB.out.trans (bq.mono HB.out.size)); clear bq; go_wp2; go_ret; exact ⟨rfl, HFK.out⟩
  rintro e wn ⟨rfl, bq⟩; replace HB := Lib.hid (HB.out.trans (bq.mono HB.out.size)); replace HP := Lib.hid (HP.out.below bq); have k0 := (bq.cell (lt_of_cellq k0)).trans k0; have k1 := (bq.cell (lt_of_cellq k1)).trans k1; have k2 := (bq.cell (lt_of_cellq k2)).trans k2; clear bq; obtain ⟨ot, rfl⟩ : ∃ a : Nat, other = (a : Int) := ⟨other.toNat, by have := inB_iff.1 h4; omega⟩; have HOT := Lib.hid (show 1 ≤ ot ∧ ot ≤ p.ms.length by have := inB_iff.1 h4; omega); have HSN := Lib.hid (inB_iff.1 h5); have HOR := Lib.hid (show 0 ≤ o ∧ o ≤ 50 by omega); have H6 := Lib.hid h6; have HOI := Lib.hid (show inB o 0 50 = true from inB_iff.2 (by omega)); clear h4 h5 h6 ho0 ho1; have HKA := Lib.hid (fun W (h : RdP W pm pv pr p) => c_Look pm pv pr cm cv cr p o W h HLN.out)
  have HKT := Lib.hid (fun W (h : RdP W pm pv pr p) => show Calls Tryz.prog 36 #[.agg #[.slice pm p.ms.length cm, .slice pv p.mv.length cv, .slice pr p.rs.length cr]] W fun e w' => e = .returned (.tuple #[.int .i64 ((truthsF p).length : Int), .int .i64 0]) ∧ Below W.heap.size W w' by
    have hh := c_Truths pm pv pr cm cv cr p W h HLN.out; rw [if_pos HP1.out, if_pos HP1.out] at hh; exact hh)
  by_cases ht : truthsF p = []
  · have HK1 := Lib.hid (fun W (h : RdP W pm pv pr p) => show Calls Tryz.prog 51 #[.agg #[.slice pm p.ms.length cm, .slice pv p.mv.length cv, .slice pr p.rs.length cr], .int .i64 o] W fun e w' => e = .returned (.tuple #[.int .i64 0, .int .i64 0, .int .i64 7]) ∧ Below W.heap.size W w' by
      have hh := HKA.out W h; have he : errF p (inB o 0 50) = 7 := err_rule (by rw [HP1.out, HOI.out]; rfl) ht; have hl : lookErr p o = 7 := by unfold lookErr; rw [he]; rfl
      unfold LookPost at hh; rw [hl] at hh; exact hh)
    have HK2 := Lib.hid (fun W (h : RdP W pm pv pr p) => show Calls Tryz.prog 36 #[.agg #[.slice pm p.ms.length cm, .slice pv p.mv.length cv, .slice pr p.rs.length cr]] W fun e w' => e = .returned (.tuple #[.int .i64 0, .int .i64 0]) ∧ Below W.heap.size W w' by
      have hh := HKT.out W h; rw [ht] at hh; exact hh)
    clear HKA HKT ht
    (go_wp2_with fail); refine (HK1.out _ HP.out).mono ?_
    rintro e wn ⟨rfl, bq⟩; replace HB := Lib.hid (HB.out.trans (bq.mono HB.out.size)); replace HP := Lib.hid (HP.out.below bq); have k0 := (bq.cell (lt_of_cellq k0)).trans k0; have k1 := (bq.cell (lt_of_cellq k1)).trans k1; have k2 := (bq.cell (lt_of_cellq k2)).trans k2; clear bq
    (go_wp2_with fail); refine (HK2.out _ HP.out).mono ?_
    rintro e wn ⟨rfl, bq⟩; replace HB := Lib.hid (HB.out.trans (bq.mono HB.out.size)); clear bq
    (go_wp2_with fail); refine (c_known m _ (HM.out.below HB.out) (HI.out.below HB.out)).mono ?_; rintro e wn ⟨rfl, bq⟩; have HFK := Lib.hid (HB.out.trans (bq.mono HB.out.size)); clear bq; go_wp2; go_ret; exact ⟨rfl, HFK.out⟩
  have he : errF p (inB o 0 50) = 0 := err_good HP1.out HOI.out ht
  by_cases hone : (truthsF p).length = 1
  · have HK1 := Lib.hid (fun W (h : RdP W pm pv pr p) => show Calls Tryz.prog 51 #[.agg #[.slice pm p.ms.length cm, .slice pv p.mv.length cv, .slice pr p.rs.length cr], .int .i64 o] W fun e w' => e = .returned (.tuple #[.int .i64 0, .int .i64 0, .int .i64 5]) ∧ Below W.heap.size W w' by
      have hh := HKA.out W h; have hl : lookErr p o = 5 := by unfold lookErr; rw [if_pos he, if_pos hone]
      unfold LookPost at hh; rw [hl] at hh; exact hh)
    have HK2 := Lib.hid (fun W (h : RdP W pm pv pr p) => show Calls Tryz.prog 36 #[.agg #[.slice pm p.ms.length cm, .slice pv p.mv.length cv, .slice pr p.rs.length cr]] W fun e w' => e = .returned (.tuple #[.int .i64 1, .int .i64 0]) ∧ Below W.heap.size W w' by
      have hh := HKT.out W h; rw [hone] at hh; exact hh)
    clear HKA HKT ht he hone
    (go_wp2_with fail); refine (HK1.out _ HP.out).mono ?_
    rintro e wn ⟨rfl, bq⟩; replace HB := Lib.hid (HB.out.trans (bq.mono HB.out.size)); replace HP := Lib.hid (HP.out.below bq); have k0 := (bq.cell (lt_of_cellq k0)).trans k0; have k1 := (bq.cell (lt_of_cellq k1)).trans k1; have k2 := (bq.cell (lt_of_cellq k2)).trans k2; clear bq
    (go_wp2_with fail); refine (HK2.out _ HP.out).mono ?_
    rintro e wn ⟨rfl, bq⟩; replace HB := Lib.hid (HB.out.trans (bq.mono HB.out.size)); clear bq
    (go_wp2_with fail); refine (c_known m _ (HM.out.below HB.out) (HI.out.below HB.out)).mono ?_; rintro e wn ⟨rfl, bq⟩; have HFK := Lib.hid (HB.out.trans (bq.mono HB.out.size)); clear bq; go_wp2; go_ret; exact ⟨rfl, HFK.out⟩
  have hll := look_law p o p.ms.length HPO.out.n1; have hlf : lookF p o = lookTo p o p.ms.length := rfl; rw [← hlf] at hll; obtain ⟨hl1, hl2, hl3, hl4⟩ := hll; obtain ⟨A, hA⟩ : ∃ A : Nat, (lookF p o).1 = A := ⟨_, rfl⟩; obtain ⟨N, hN⟩ : ∃ N : Nat, (lookF p o).2 = N := ⟨_, rfl⟩
  have HK1 := Lib.hid (fun W (h : RdP W pm pv pr p) => show Calls Tryz.prog 51 #[.agg #[.slice pm p.ms.length cm, .slice pv p.mv.length cv, .slice pr p.rs.length cr], .int .i64 o] W fun e w' => e = .returned (.tuple #[.int .i64 (A : Int), .int .i64 (N : Int), .int .i64 0]) ∧ Below W.heap.size W w' by
    have hh := HKA.out W h; have hl : lookErr p o = 0 := by unfold lookErr; rw [if_pos he, if_neg hone]
    unfold LookPost at hh; rw [hl, if_pos rfl, if_pos rfl, hA, hN] at hh; exact hh)
  rw [hA] at hl1 hl2 hl3 hl4; rw [hN] at hl3 hl4
  have h2T : 2 ≤ (truthsF p).length := by
    have := List.length_pos_iff.2 ht; omega
  have c2 : decide (((truthsF p).length : Int) < 2) = false := decide_eq_false (by omega)
  have HLS := Lib.hid (fun W => show Calls Tryz.prog 34 #[.agg #[.slice pm p.ms.length cm, .slice pv p.mv.length cv, .slice pr p.rs.length cr], .int .i64 (A : Int)] W fun e w' => e = .returned (.bool true) ∧ Below W.heap.size W w' by
    have h := r_Last pm cm p.ms.length (.slice pv p.mv.length cv) (.slice pr p.rs.length cr) (A : Int) W; rw [inB_iff.2 (show 1 ≤ (A : Int) ∧ (A : Int) ≤ (p.ms.length : Int) by omega)] at h; exact h)
  have HL1 := Lib.hid (fun W (h : RdP W pm pv pr p) => show Calls Tryz.prog 53 #[.agg #[.slice pm p.ms.length cm, .slice pv p.mv.length cv, .slice pr p.rs.length cr], .int .i64 (A : Int), .int .i64 o] W fun e w' => e = .returned (.int .i64 (N : Int)) ∧ Below W.heap.size W w' by
    have h := l_left pm pv pr cm cv cr p A o W h HPO.out ht H6.out hl1 hl2 HOR.out; rw [← hl3] at h; exact h)
  obtain ⟨Y, hY⟩ : ∃ Y : Nat, leftF p ot o = Y := ⟨_, rfl⟩
  have HL2 := Lib.hid (fun W (h : RdP W pm pv pr p) => show Calls Tryz.prog 53 #[.agg #[.slice pm p.ms.length cm, .slice pv p.mv.length cv, .slice pr p.rs.length cr], .int .i64 (ot : Int), .int .i64 o] W fun e w' => e = .returned (.int .i64 (Y : Int)) ∧ Below W.heap.size W w' by
    have h := l_left pm pv pr cm cv cr p ot o W h HPO.out ht H6.out HOT.out.1 HOT.out.2 HOR.out; rw [hY] at h; exact h)
  have HWI := Lib.hid (fun W (h : RdP W pm pv pr p) => r_With pm pv pr cm cv cr p (A : Int) seen o W h (by have := H6.out; omega)); have HTR := Lib.hid (fun pr2 cr2 W h => with_truths pm pv pr2 cm cv cr2 p A seen o W HPO.out H6.out hl1 hl2 HSN.out HOR.out h); have hcl := cnt_le_left p A (seen - o) o; have e2 : seen - o + 2 * o = seen + o := by omega
  rw [e2, ← hl3] at hcl; obtain ⟨X, hX⟩ : ∃ X : Nat, cntF p A (seen - o) (seen + o) = X := ⟨_, rfl⟩; rw [hX] at HTR hcl; have c3 : decide ((X : Int) > (N : Int)) = false := decide_eq_false (by omega); have c3b : decide ((N : Int) < (X : Int)) = false := decide_eq_false (by omega); have c4 : ((N : Int) != (N : Int)) = false := by simp
  have h4 := hl4 ot HOT.out.1 HOT.out.2; rw [hY] at h4; obtain ⟨TL, hTL⟩ : ∃ TL : Int, ((truthsF p).length : Int) = TL := ⟨_, rfl⟩; obtain ⟨NI, hNI⟩ : ∃ NI : Int, (N : Int) = NI := ⟨_, rfl⟩; obtain ⟨XI, hXI⟩ : ∃ XI : Int, (X : Int) = XI := ⟨_, rfl⟩; obtain ⟨YI, hYI⟩ : ∃ YI : Int, (Y : Int) = YI := ⟨_, rfl⟩; rw [hTL] at HKT c2; rw [hNI] at HK1 HL1 c3 c3b c4; rw [hXI] at HTR c3 c3b; rw [hYI] at HL2
  by_cases hgt : YI > NI
  · have c5 : decide (YI > NI) = true := decide_eq_true hgt
    clear HKA ht he hone hlf hl1 hl2 hl3 hl4 hA hN h2T hY hcl e2 hX h4 hTL hNI hXI hYI hgt
    (go_wp2_with fail); refine (HK1.out _ HP.out).mono ?_
    rintro e wn ⟨rfl, bq⟩; replace HB := Lib.hid (HB.out.trans (bq.mono HB.out.size)); replace HP := Lib.hid (HP.out.below bq); have k0 := (bq.cell (lt_of_cellq k0)).trans k0; have k1 := (bq.cell (lt_of_cellq k1)).trans k1; have k2 := (bq.cell (lt_of_cellq k2)).trans k2; clear bq
    (go_wp2_with fail); refine (HKT.out _ HP.out).mono ?_
    rintro e wn ⟨rfl, bq⟩; replace HB := Lib.hid (HB.out.trans (bq.mono HB.out.size)); replace HP := Lib.hid (HP.out.below bq); have k0 := (bq.cell (lt_of_cellq k0)).trans k0; have k1 := (bq.cell (lt_of_cellq k1)).trans k1; have k2 := (bq.cell (lt_of_cellq k2)).trans k2; clear bq
    (go_wp2_with fail); refine (HLS.out _).mono ?_
    rintro e wn ⟨rfl, bq⟩; replace HB := Lib.hid (HB.out.trans (bq.mono HB.out.size)); replace HP := Lib.hid (HP.out.below bq); have k0 := (bq.cell (lt_of_cellq k0)).trans k0; have k1 := (bq.cell (lt_of_cellq k1)).trans k1; have k2 := (bq.cell (lt_of_cellq k2)).trans k2; clear bq
    (go_wp2_with fail); refine (HL1.out _ HP.out).mono ?_
    rintro e wn ⟨rfl, bq⟩; replace HB := Lib.hid (HB.out.trans (bq.mono HB.out.size)); replace HP := Lib.hid (HP.out.below bq); have k0 := (bq.cell (lt_of_cellq k0)).trans k0; have k1 := (bq.cell (lt_of_cellq k1)).trans k1; have k2 := (bq.cell (lt_of_cellq k2)).trans k2; clear bq
    (go_wp2_with fail); refine (HWI.out _ HP.out).mono ?_
    rintro e wn ⟨pr2, cr2, rfl, hp2, bq⟩; have HP2 := Lib.hid hp2; clear hp2
    skip; replace HB := Lib.hid (HB.out.trans (bq.mono HB.out.size)); replace HP := Lib.hid (HP.out.below bq); have k0 := (bq.cell (lt_of_cellq k0)).trans k0; have k1 := (bq.cell (lt_of_cellq k1)).trans k1; have k2 := (bq.cell (lt_of_cellq k2)).trans k2; clear bq
    (go_wp2_with fail); refine (HTR.out _ _ _ HP2.out).mono ?_
    rintro e wn ⟨rfl, bq⟩; replace HB := Lib.hid (HB.out.trans (bq.mono HB.out.size)); replace HP := Lib.hid (HP.out.below bq); have k0 := (bq.cell (lt_of_cellq k0)).trans k0; have k1 := (bq.cell (lt_of_cellq k1)).trans k1; have k2 := (bq.cell (lt_of_cellq k2)).trans k2; clear bq
    (go_wp2_with fail); refine (HL2.out _ HP.out).mono ?_
    rintro e wn ⟨rfl, bq⟩; replace HB := Lib.hid (HB.out.trans (bq.mono HB.out.size)); clear bq
    (go_wp2_with fail); refine (c_known m _ (HM.out.below HB.out) (HI.out.below HB.out)).mono ?_; rintro e wn ⟨rfl, bq⟩; have HFK := Lib.hid (HB.out.trans (bq.mono HB.out.size)); clear bq; go_wp2; go_ret; exact ⟨rfl, HFK.out⟩
  · have c5 : decide (YI > NI) = false := decide_eq_false hgt
    have c6 : (YI == NI) = true := by rw [beq_iff_eq]; omega
    have c7 : decide ((ot : Int) ≥ (A : Int)) = true := decide_eq_true (by omega); have c7b : A ≤ ot := by omega
    clear HKA ht he hone hlf hl1 hl2 hl3 hl4 hA hN h2T hY hcl e2 hX h4 hTL hNI hXI hYI hgt
    (go_wp2_with fail); refine (HK1.out _ HP.out).mono ?_
    rintro e wn ⟨rfl, bq⟩; replace HB := Lib.hid (HB.out.trans (bq.mono HB.out.size)); replace HP := Lib.hid (HP.out.below bq); have k0 := (bq.cell (lt_of_cellq k0)).trans k0; have k1 := (bq.cell (lt_of_cellq k1)).trans k1; have k2 := (bq.cell (lt_of_cellq k2)).trans k2; clear bq
    (go_wp2_with fail); refine (HKT.out _ HP.out).mono ?_
    rintro e wn ⟨rfl, bq⟩; replace HB := Lib.hid (HB.out.trans (bq.mono HB.out.size)); replace HP := Lib.hid (HP.out.below bq); have k0 := (bq.cell (lt_of_cellq k0)).trans k0; have k1 := (bq.cell (lt_of_cellq k1)).trans k1; have k2 := (bq.cell (lt_of_cellq k2)).trans k2; clear bq
    (go_wp2_with fail); refine (HLS.out _).mono ?_
    rintro e wn ⟨rfl, bq⟩; replace HB := Lib.hid (HB.out.trans (bq.mono HB.out.size)); replace HP := Lib.hid (HP.out.below bq); have k0 := (bq.cell (lt_of_cellq k0)).trans k0; have k1 := (bq.cell (lt_of_cellq k1)).trans k1; have k2 := (bq.cell (lt_of_cellq k2)).trans k2; clear bq
    (go_wp2_with fail); refine (HL1.out _ HP.out).mono ?_
    rintro e wn ⟨rfl, bq⟩; replace HB := Lib.hid (HB.out.trans (bq.mono HB.out.size)); replace HP := Lib.hid (HP.out.below bq); have k0 := (bq.cell (lt_of_cellq k0)).trans k0; have k1 := (bq.cell (lt_of_cellq k1)).trans k1; have k2 := (bq.cell (lt_of_cellq k2)).trans k2; clear bq
    (go_wp2_with fail); refine (HWI.out _ HP.out).mono ?_
    rintro e wn ⟨pr2, cr2, rfl, hp2, bq⟩; have HP2 := Lib.hid hp2; clear hp2
    skip; replace HB := Lib.hid (HB.out.trans (bq.mono HB.out.size)); replace HP := Lib.hid (HP.out.below bq); have k0 := (bq.cell (lt_of_cellq k0)).trans k0; have k1 := (bq.cell (lt_of_cellq k1)).trans k1; have k2 := (bq.cell (lt_of_cellq k2)).trans k2; clear bq
    (go_wp2_with fail); refine (HTR.out _ _ _ HP2.out).mono ?_
    rintro e wn ⟨rfl, bq⟩; replace HB := Lib.hid (HB.out.trans (bq.mono HB.out.size)); replace HP := Lib.hid (HP.out.below bq); have k0 := (bq.cell (lt_of_cellq k0)).trans k0; have k1 := (bq.cell (lt_of_cellq k1)).trans k1; have k2 := (bq.cell (lt_of_cellq k2)).trans k2; clear bq
    (go_wp2_with fail); refine (HL2.out _ HP.out).mono ?_
    rintro e wn ⟨rfl, bq⟩; replace HB := Lib.hid (HB.out.trans (bq.mono HB.out.size)); clear bq
    (go_wp2_with fail); refine (c_known m _ (HM.out.below HB.out) (HI.out.below HB.out)).mono ?_; rintro e wn ⟨rfl, bq⟩; have HFK := Lib.hid (HB.out.trans (bq.mono HB.out.size)); clear bq; go_wp2; go_ret; exact ⟨rfl, HFK.out⟩
end Go.Proofs.YtlednchfifphgabGreatDoor
end

section
namespace Go.Proofs.YtlednchfifphgabGreatDoor
open Go Go.ChangeShapes Go.WideShapes Go.ChangeAt Go.RowKit Go.Proofs
set_option linter.unusedVariables false

set_option maxRecDepth 100000 in
theorem slackLeft_lifted (os : Os) (started : os.Started) (H : Type) (enc : TypeId × Value → H) :
    ReturnsInHanded {} Tryz.checked os 12 .any (fun w args => (Rows.slackLeftSpec.pre enc Tryz.prog Tryz.f12 [] false w args ∧ laidMetH Tryz.prog lay5 w) ∧ sizedMet enc Tryz.prog Tryz.f12 (OpenSpec.ofChange Rows.slackLeftSpec) false w args)
      (Rows.slackLeftSpec.post enc Tryz.prog Tryz.f12 false true false false) := by
  refine returns_listed (C := Tryz.checked) (X := fun w _ => laidMetH Tryz.prog lay5 w) (fun _ _ _ hh h => h.of_heap hh) ownT started (by kernel_rfl) Tryz.func12
    (ChangeSpec.witness_shaped (enc := enc) (C := Tryz.checked) (os := os) (X := fun w _ => laidMetH Tryz.prog lay5 w) false (World.laidAll Tryz.prog os lay5) #[.agg #[.slice none 0 0, .slice none 0 0, .slice none 0 0], .int .i64 0, .int .i64 0, .int .i64 0] 12 (World.laidAll_os _ _ _)
      (World.shaped_of_ZipB (by kernel_rfl) (by kernel_rfl)) (by kernel_rfl) (by kernel_rfl) (by kernel_rfl)
      (by rw [MakeChecks.laidMetH_plain _ _ _ (by kernel_rfl)]; exact laidMet_laidAll _ (by kernel_rfl) (by kernel_rfl))) ?_
  intro W base args ds gs before hval0 hW hX hSh; have hval : ∀ (j : Nat) t v, Tryz.f12.params[j]? = some t → args[j]? = some v → Value.okWide Tryz.prog W .any base t v := hval0; have hW' := hW; obtain ⟨p, q, hA0, hV, rfl, _, _⟩ := hW; have hA : DataW.TrodAll enc Tryz.prog W 0 (fun _ => true) true Tryz.f12.params.toList args.toList ds p := hA0; rw [Tryz.params12] at hA hval; obtain ⟨v0, vs0, d0, ds0, p0, q0, hargs, rfl, rfl, h0, r0⟩ := trodAll_cons hA; obtain ⟨v1, vs1, d1, ds1, p1, q1, rfl, rfl, rfl, h1, r1⟩ := trodAll_cons r0; obtain ⟨v2, vs2, d2, ds2, p2, q2, rfl, rfl, rfl, h2, r2⟩ := trodAll_cons r1; obtain ⟨v3, vs3, d3, ds3, p3, q3, rfl, rfl, rfl, h3, r3⟩ := trodAll_cons r2; obtain ⟨rfl, rfl, rfl⟩ := trodAll_nil r3; obtain rfl : args = #[v0, v1, v2, v3] := by cases args; simp_all
  obtain ⟨rfl, rfl⟩ := trodVars_none hV; obtain ⟨pm0, pv0, pr0, cm0, cv0, cr0, p0, rfl, rd0⟩ := op_piece (hval 0 26 v0 rfl rfl) h0; obtain ⟨a1, rfl, la1, ua1⟩ := op_int (hval 1 3 v1 rfl rfl) h1; obtain ⟨a2, rfl, la2, ua2⟩ := op_int (hval 2 3 v2 rfl rfl) h2; obtain ⟨a3, rfl, la3, ua3⟩ := op_int (hval 3 3 v3 rfl rfl) h3; clear hA0 hval0; obtain ⟨m, hm⟩ := maxLen_of hSh; have hit := itoaG_of (pow10_of hX); refine (law_Left pm0 pv0 pr0 cm0 cv0 cr0 p0 a1 a2 a3 m W rd0 hm hit).mono fun e W' ⟨he, bel⟩ => ?_
  subst he; exact ⟨_, rfl, _, _, _, [], _, [], hW', trodAll_mk1 (shut_bool Tryz.underlying4 _), (trodAll_cons_mk (Below.trod laidOutT (by kernel_rfl) (of_decide_eq_true (by kernel_rfl)) h0 bel (trod_lt h0)) (trodAll_cons_mk (Below.trod laidOutT (by kernel_rfl) (of_decide_eq_true (by kernel_rfl)) h1 bel (trod_lt h1)) (trodAll_cons_mk (Below.trod laidOutT (by kernel_rfl) (of_decide_eq_true (by kernel_rfl)) h2 bel (trod_lt h2)) (trodAll_cons_mk (Below.trod laidOutT (by kernel_rfl) (of_decide_eq_true (by kernel_rfl)) h3 bel (trod_lt h3)) trodAll_mk0)))), rfl, bel.frame _, fun h => by cases h⟩
theorem slackLeft_wf : Rows.slackLeftRow.wf (OpenSpec.ofChange Rows.slackLeftSpec) = true := by kernel_rfl
theorem slackLeft_inPlace : (Rows.slackLeftRow.inPlace == Tryz.prog.inPlace 12) = true := by kernel_rfl
theorem slackLeft_unfollowed : (Rows.slackLeftRow.unfollowed == Tryz.prog.unfollowed 12) = true := by kernel_rfl
theorem slackLeft_recurses : (Rows.slackLeftRow.recurses == Tryz.prog.recurses 12) = true := by kernel_rfl
theorem slackLeft_named : (Rows.slackLeftRow.named == Tryz.prog.varsNamed 12) = true := by kernel_rfl
theorem slackLeft_goes : false = Rows.slackLeftRow.goesBy Tryz.prog := by kernel_rfl
theorem slackLeft_func : Tryz.prog.funcNamed Rows.slackLeftRow.func = some 12 := by kernel_rfl
theorem slackLeft_text : Rows.slackLeftRow.wfByText (OpenSpec.ofChange Rows.slackLeftSpec) = true := by kernel_rfl
theorem slackLeft_closed : joinedFacts Tryz.prog 12 Tryz.f12 Rows.slackLeftSpec Rows.slackLeftRow = true :=
  (and_t (and_t (and_t (and_t (and_t (and_t (and_t (and_t (and_t (and_t (and_t (and_t (and_t (and_t (and_t (and_t (and_t (and_t (and_t (and_t (and_t (and_t (and_t (and_t (and_t (and_t (and_t (and_t (and_t (and_t (and_t slackLeft_wf tLaidOut) tMaps) (by kernel_rfl)) (by kernel_rfl)) (by kernel_rfl)) (by kernel_rfl)) (by kernel_rfl)) (by kernel_rfl)) slackLeft_inPlace) slackLeft_unfollowed) slackLeft_recurses) slackLeft_named) (by kernel_rfl)) (by kernel_rfl)) (by kernel_rfl)) (by kernel_rfl)) (by kernel_rfl)) (by kernel_rfl)) (by kernel_rfl)) (by kernel_rfl)) (by kernel_rfl)) (by kernel_rfl)) (by kernel_rfl)) tHeard) tMayEnter) (eq_t (α := Bool) tFinal.symm)) (eq_t tMake)) (by kernel_rfl)) (by kernel_rfl)) (by kernel_rfl)) (by kernel_rfl))
theorem slackLeft_wrap : Func.isWrapper Tryz.prog Tryz.f12 Rows.slackLeftRow.wrapper Rows.slackLeftRow.mainSum := by unfold Func.isWrapper; rw [if_neg (of_decide_eq_false (by kernel_rfl))]; exact ⟨rfl, rfl⟩
theorem slackLeft_row : Rows.SlackLeftSaid :=
  OpenClaim.holds_of_wide 12 Tryz.f12 rfl rfl rfl rfl rfl rfl rfl ⟨rfl, rfl, rfl, rfl, rfl⟩ rfl rfl rfl rfl rfl slackLeft_func Tryz.func12 slackLeft_closed (of_decide_eq_true (by kernel_rfl)) slackLeft_wrap (fun os started H enc _ => slackLeft_lifted os started H enc)
theorem slackLeft_plain : ∀ (j : Nat) t, Tryz.f12.params[j]? = some t → Tryz.prog.wantsStandIn t = false := fun j t ht => by
  rw [Tryz.params12] at ht; have hm : t ∈ [26, 3, 3, 3] := by simpa using Array.mem_of_getElem? ht
  have hall : ([26, 3, 3, 3].all fun u => !Tryz.prog.wantsStandIn u) = true := by kernel_rfl
  exact (show Tryz.prog.wantsStandIn t = false by simpa using List.all_eq_true.1 hall t hm)
theorem slackLeft_holds : Rows.SlackLeftCardSaid :=
  Claim7.holds_tied_plain_at .later [] [.data, .data, .data, .data, .pinned] true (true, "be822bbd39a17464ee6526ca2e9d32d2a3a9815fece3866167cb0f3f46fef96e") true slackLeft_row (fun _ h => by cases h) slackLeft_text (fun _ h => by cases h) slackLeft_row_tie rfl ⟨rfl, rfl⟩ tMainIs rfl
    (fun f fn hf hfn => by
      obtain rfl : f = 12 := Option.some.inj (slackLeft_func.symm.trans hf) |>.symm
      obtain rfl : fn = Tryz.f12 := (Option.some.inj (Tryz.func12.symm.trans hfn)).symm; exact ⟨tLooks, slackLeft_plain⟩)
    slackLeft_goes
#print axioms slackLeft_holds
end Go.Proofs.YtlednchfifphgabGreatDoor
end
