/-
  Plain laws of chains of arbors (no program in sight): where all arbors are before the first move, and after a move.
  Base words of these seats' walks: what slices that are only read hold; regions that draw their order; boxes; owned rows.
  A piece whose list of moves lies within its capacity.
  A move made in two parts: what the moves are then, and where the arbors are (no program in sight).
  The theorem of moves in parts (the walk).
  The law SlackParts: its card. Conditions: none of the input; the tables of the library that the row lists are as the program lays them (the tie is given).
-/
import Derived.Test.YtlednchfifphgaaGreatDoorGA
import Derived.Test.YtlednchfifphgaaGreatDoorProg
import Derived.WalkKit
import Derived.WalkSpells
import Derived.WalkLawsBesides
import Derived.Handy
import Derived.Deep.QuietTactic
import Derived.BigQuiet
import Derived.Outline
import Derived.Below
import Derived.Lib.Hide
import Derived.Maps.RangeWalk
import Derived.StillTailTactics
import Derived.WalkMore
import Derived.Deep.RegionHeld3
import Derived.Deep.Cut
import Derived.RangeFuncBox
import Derived.Test.YtlednchfifphgaaGreatDoorGZ
import Derived.Test.YtlednchfifphgaaGreatDoorGH
import Derived.Test.YtlednchfifphgaaGreatDoorGX2
import Derived.Test.YtlednchfifphgaaGreatDoorGY
import Derived.Test.YtlednchfifphgaaGreatDoorGL
import Derived.Deep.AppendLies
import Derived.Test.YtlednchfifphgaaGreatDoorCards
section
namespace Go.Proofs.YtlednchfifphgaaGreatDoor

theorem mvF_still {pl pc : List Int} (hc : Chain pl pc) : mvF pl pc 0 = pc := by
  refine gi_ext (by rw [mvF_len, hc.len]) fun i hi => ?_
  rw [mvF_len] at hi; rw [mvF_on (Int.le_refl 0) i (by omega)]; have := hc.low i (by omega); omega
theorem mvF_parts {pl pc : List Int} (hp : Pos pl) (hc : Chain pl pc) {a b : Int} (h : (0 ≤ a ∧ 0 ≤ b) ∨ (a ≤ 0 ∧ b ≤ 0)) : mvF pl (mvF pl pc a) b = mvF pl pc (a + b) := by
  by_cases ha0 : a = 0
  · subst ha0; rw [mvF_still hc, Int.zero_add]
  by_cases hb0 : b = 0
  · subst hb0; rw [mvF_still (mvF_chain hp hc a), Int.add_zero]
  refine gi_ext (by rw [mvF_len, mvF_len]) fun i hi => ?_
  rw [mvF_len] at hi
  rcases h with ⟨h1, h2⟩ | ⟨h1, h2⟩
  · rw [mvF_on h2 i (by omega), mvF_zero, mvF_on h1 i (by omega), mvF_on (show 0 ≤ a + b by omega) i (by omega)]
    omega
  · rw [mvF_back (show ¬ 0 ≤ b by omega) i (by omega), mvF_zero, mvF_back (show ¬ 0 ≤ a by omega) i (by omega), mvF_back (show ¬ 0 ≤ a + b by omega) i (by omega)]
    omega

theorem runF_congr (pl : List Int) {mv mv' : List Int} : ∀ k, (∀ i, i < k → gi mv i = gi mv' i) → runF pl mv k = runF pl mv' k := by
  intro k
  induction k with
  | zero => intro _; rfl
  | succ k ih => intro h; simp only [runF]; rw [ih fun i hi => h i (by omega), h k (by omega)]
end Go.Proofs.YtlednchfifphgaaGreatDoor
end

section
namespace Go.Proofs.YtlednchfifphgaaGreatDoor
open Go Go.RowKit Go.Proofs
set_option linter.unusedVariables false

section
variable {P : Program} {C : World → Prop} {K : Act → Prop} {a : Act} {ops : Array Oper} {Q : Act → Prop} {o : Oper} {rest : List Oper}

variable {d : Nat} {x y : Operand} {t t' ty : TypeId} {pos : String} {af : Array Edge} {g : Option (Nat × Bool)} {m n : Int}

variable {z : Operand} {l : Int} {ats : Array TypeId}
end


section
variable {P : Program} {ops : Array Oper} {C : World → Prop} {Q : Act → Prop} {rest : List Oper} {a : Act} {d : Nat} {x y : Operand} {ty t t' : TypeId} {pos : String} {af : Array Edge} {g : Option (Nat × Bool)}
end
theorem inV_length (a : List Int) : (inV a).length = a.length := by simp [inV]
section
variable {P : Program} {ops : Array Oper} {md : Region.Mode} {C : World → Prop}

end
end Go.Proofs.YtlednchfifphgaaGreatDoor
end

section
namespace Go.Proofs.YtlednchfifphgaaGreatDoor
open Go Go.ChangeShapes Go.WideShapes Go.ChangeAt Go.RowKit Go.Proofs
set_option linter.unusedVariables false
section
variable {H : Type} {enc : TypeId × Value → H} {W : World}
theorem rd_intsC {fuel : Nat} {cs : List Value} {x : DataW H × List MemPlace} (h : DataW.trod enc Tryz.prog W 0 (fun _ => true) true fuel 23 cs = some x) :
    ∃ p cap xs, cs = [.slice p (List.length xs) cap] ∧ RdI W p xs ∧ xs.length ≤ cap := by
  rcases open_ints Tryz.underlying23 Tryz.underlying3 tc_int h with ⟨hcs, _⟩ | ⟨a, l, c, zs, hcs, _, hl, hm, hz, _, hcell, _⟩
  · exact ⟨none, 0, [], hcs, .inl rfl, by simp⟩
  · have hzl : zs.length = c := by simpa using hz
    have hxl : (zs.take l).length = l := by rw [List.length_take]; omega
    refine ⟨some a, c, zs.take l, by rw [hxl]; exact hcs, ?_, by omega⟩
    rcases Nat.eq_zero_or_pos l with h0 | h0
    · left; rw [h0]; rfl
    · obtain ⟨b, off, spot⟩ := a
      have hc := hcell 0 (by omega); have hspot : spot = none := by simpa [Addr.add] using World.cell?_spot hc
      subst hspot; refine .inr ⟨b, off, rfl, fun i hi => ?_⟩; rw [hxl] at hi; have := hcell i (by omega); rw [add_plainT] at this; rw [this]; unfold gi; rw [List.getD_eq_getElem?_getD, List.getD_eq_getElem?_getD, List.getElem?_take, if_pos hi]
set_option maxRecDepth 100000 in
theorem op_pieceC {base : Nat} {v : Value} {d : DataW H} {ps : List MemPlace} (hv : Value.okWide Tryz.prog W .any base 26 v) (h : DataW.Trod enc Tryz.prog W 0 (fun _ => true) true 26 v d ps) :
    ∃ (pm pv pr : Option Addr) (cm cv cr : Nat) (p : Pc), v = .agg #[.slice pm p.ms.length cm, .slice pv p.mv.length cv, .slice pr p.rs.length cr] ∧ RdP W pm pv pr p ∧ p.mv.length ≤ cv := by
  obtain ⟨v0, v1, v2, y0, y1, y2, n, rfl, _, _, h0, h1, h2⟩ := Joins.open_agg3 Tryz.underlying26 (by kernel_rfl) tc_piece hv h; obtain ⟨pm, cm, ms, rfl, r0, _⟩ := rd_meshes h0; obtain ⟨pv, cv, mv, e1, r1, hc⟩ := rd_intsC h1; obtain rfl : v1 = .slice pv mv.length cv := by simpa using e1
  obtain ⟨pr, cr, rs, rfl, r2, _⟩ := rd_reads h2; exact ⟨pm, pv, pr, cm, cv, cr, ⟨ms, mv, rs⟩, rfl, ⟨r0, r1, r2⟩, hc⟩
end
end Go.Proofs.YtlednchfifphgaaGreatDoor
end

section
namespace Go.Proofs.YtlednchfifphgaaGreatDoor
set_option linter.unusedVariables false

theorem gi_left (a b : List Int) (i : Nat) (h : i < a.length) : gi (a ++ b) i = gi a i := by
  unfold gi; rw [List.getD_eq_getElem?_getD, List.getElem?_append_left h, ← List.getD_eq_getElem?_getD]
theorem gi_right (a b : List Int) (i : Nat) (h : a.length ≤ i) : gi (a ++ b) i = gi b (i - a.length) := by
  unfold gi; rw [List.getD_eq_getElem?_getD, List.getElem?_append_right h, ← List.getD_eq_getElem?_getD]
theorem gi_take (a : List Int) (k i : Nat) (h : i < k) : gi (a.take k) i = gi a i := by
  unfold gi; rw [List.getD_eq_getElem?_getD, List.getElem?_take, if_pos h, ← List.getD_eq_getElem?_getD]
theorem gi_drop (a : List Int) (k i : Nat) : gi (a.drop k) i = gi a (k + i) := by
  unfold gi; rw [List.getD_eq_getElem?_getD, List.getElem?_drop, ← List.getD_eq_getElem?_getD]
def twoF (mv : List Int) (k : Nat) (a : Int) : List Int := mv.take k ++ [a, gi mv k - a] ++ mv.drop (k + 1)
theorem two_len {mv : List Int} {k : Nat} (hk : k < mv.length) (a : Int) : (twoF mv k a).length = mv.length + 1 := by
  unfold twoF; simp; omega
theorem two_low {mv : List Int} {k : Nat} (hk : k < mv.length) (a : Int) {i : Nat} (hi : i < k) : gi (twoF mv k a) i = gi mv i := by
  have h1 : (mv.take k).length = k := by rw [List.length_take]; omega
  unfold twoF; rw [List.append_assoc, gi_left _ _ _ (by omega), gi_take _ _ _ hi]
theorem two_one {mv : List Int} {k : Nat} (hk : k < mv.length) (a : Int) : gi (twoF mv k a) k = a := by
  have h1 : (mv.take k).length = k := by rw [List.length_take]; omega
  unfold twoF; rw [List.append_assoc, gi_right _ _ _ (by omega), h1, Nat.sub_self]; rfl
theorem two_two {mv : List Int} {k : Nat} (hk : k < mv.length) (a : Int) : gi (twoF mv k a) (k + 1) = gi mv k - a := by
  have h1 : (mv.take k).length = k := by rw [List.length_take]; omega
  unfold twoF; rw [List.append_assoc, gi_right _ _ _ (by omega), h1, show k + 1 - k = 1 by omega]; rfl
theorem two_high {mv : List Int} {k : Nat} (hk : k < mv.length) (a : Int) {i : Nat} (hi : k < i) : gi (twoF mv k a) (i + 1) = gi mv i := by
  have h1 : (mv.take k ++ [a, gi mv k - a]).length = k + 2 := by rw [List.length_append, List.length_take]; simp; omega
  unfold twoF; rw [gi_right _ _ _ (by omega), h1, gi_drop, show k + 1 + (i + 1 - (k + 2)) = i by omega]
def Parts (b a : Int) : Prop := min 0 b ≤ a ∧ a ≤ max 0 b
theorem two_piece {p : Pc} (h : PieceOk p) {k : Nat} (hk : k < p.mv.length) (h7 : p.mv.length < 8) {a : Int} (ha : Parts (gi p.mv k) a) : PieceOk ⟨p.ms, twoF p.mv k a, []⟩ := by
  refine ⟨h.n1, h.n4, ?_, by simp, h.mesh, fun i hi => ?_, fun i hi => by simp at hi⟩
  · show (twoF p.mv k a).length ≤ 8
    rw [two_len hk]; omega
  · have hi' : i < p.mv.length + 1 := by rw [← two_len hk a]; exact hi
    have hm := h.move k hk; unfold Parts at ha; show -300 ≤ gi (twoF p.mv k a) i ∧ gi (twoF p.mv k a) i ≤ 300
    rcases Nat.lt_trichotomy i k with h1 | h1 | h1
    · rw [two_low hk a h1]; exact h.move i (by omega)
    · subst h1; rw [two_one hk]; omega
    · obtain ⟨j, rfl⟩ : ∃ j, i = j + 1 := ⟨i - 1, by omega⟩
      by_cases hj : j = k
      · subst hj; rw [two_two hk]; omega
      · rw [two_high hk a (show k < j by omega)]; exact h.move j (by omega)
theorem two_ok {p : Pc} {pl : List Int} {k : Nat} {a : Int} (h : (pieceB p && playsB p pl && withinB p pl) = true) (hk : k < p.mv.length) (h7 : p.mv.length < 8) (ha : Parts (gi p.mv k) a) :
    (pieceB ⟨p.ms, twoF p.mv k a, []⟩ && playsB ⟨p.ms, twoF p.mv k a, []⟩ pl && withinB ⟨p.ms, twoF p.mv k a, []⟩ pl) = true := by
  rw [Bool.and_eq_true, Bool.and_eq_true] at h ⊢; exact ⟨⟨pieceB_iff.2 (two_piece (pieceB_iff.1 h.1.1) hk h7 ha), h.1.2⟩, h.2⟩
theorem two_before {pl mv : List Int} {k : Nat} (hk : k < mv.length) (a : Int) {i : Nat} (hi : i ≤ k) : runF pl (twoF mv k a) i = runF pl mv i := runF_congr pl i fun j hj => two_low hk a (by omega)
theorem two_after {pl mv : List Int} (hp : Pos pl) {k : Nat} (hk : k < mv.length) {a : Int} (ha : Parts (gi mv k) a) : ∀ i, k < i → runF pl (twoF mv k a) (i + 1) = runF pl mv i := by
  intro i hi
  induction i with
  | zero => omega
  | succ i ih =>
    by_cases h : i = k
    · subst h
      show mvF pl (mvF pl (runF pl (twoF mv i a) i) (gi (twoF mv i a) i)) (gi (twoF mv i a) (i + 1)) = mvF pl (runF pl mv i) (gi mv i); rw [two_before hk a (Nat.le_refl _), two_one hk, two_two hk, mvF_parts hp (runF_chain hp mv i) (by unfold Parts at ha; omega)]
      congr 1; omega
    · show mvF pl (runF pl (twoF mv k a) (i + 1)) (gi (twoF mv k a) (i + 1)) = mvF pl (runF pl mv i) (gi mv i)
      rw [ih (by omega), two_high hk a (by omega)]
end Go.Proofs.YtlednchfifphgaaGreatDoor
end

section
namespace Go.Proofs.YtlednchfifphgaaGreatDoor
open Go Go.RowKit Go.Proofs
set_option linter.unusedVariables false
set_option linter.unusedSimpArgs false
attribute [local go_sem] imax2 imin2

theorem step_append_any {P : Program} (w : World) {ops : Array Oper} {o : Oper} {a : Act} {K : Act → World → Prop} {Q : Exit → Act → World → Prop} {E : Prop} (hgd : o.guard = none) (s x : Operand) (t : TypeId)
    (ho : o.op = .call { callee := .builtin .append, args := #[s, x], argTypes := #[t, t] })
    (base : Nat) (e : TypeId) (i : TypeInfo) (z : Value) (size bytes : Nat) (ht : P.underlying t = some (.slice e)) (hi : P.info? e = some i) (hz : i.zero = some z)
    (hsize : i.size = size) (hby : i.bytes = bytes) (hzs : z.cells.size = size) (hsz : 0 < size)
    (v : Value) (n : Nat) (xs : List Value) (hs : a.eval s = v) (hown : w.ownsRow base e size v n xs)
    (ad : Addr) (m c : Nat) (news : List Value) (hx : a.eval x = .slice (some ad) m c) (hl : news.length = m * size) (hnews : ∀ j u, news[j]? = some u → w.cell? (ad.add j) = some u) (h1 : ∀ u ∈ news, u.oneCell' = true)
    (h63 : n + m ≤ maxLen) (hbytes : (n + m) * bytes ≤ 140737488355328) (hbase : base ≤ w.heap.size)
    (h : ∀ v' w', w'.ownsRow base e size v' (n + m) (xs ++ news) → w.grownBy w' v.ownBlock → (v'.ownBlock = v.ownBlock ∨ v'.ownBlock = some w.heap.size) → K (a.put o.dst v') w') :
    if Region.wanted o (yielded ops a.tmps) = true then Oper.wp P o a w K Q else E := by
  have hw : Region.wanted o (yielded ops a.tmps) = true := by simp [Region.wanted, hgd]
  rw [if_pos hw]; obtain ⟨v', w', hr, h2, h3, _, h5⟩ := run_append_own_at (P := P) w base t o.type e i z size bytes ht hi hz hsize hby hzs hsz v n xs hown ad m c news hl hnews h1 h63 hbytes hbase; unfold Oper.wp execOp; simp only [ho, resolve, invoke, builtin, Sem.run_bind, Sem.run_pure, Result.andThen_ok, List.map_toArray, List.map_cons, List.map_nil, hs, hx, hr]; exact h v' w' h2 h3 h5

theorem add_off (b off j : Nat) : (⟨b, off, none⟩ : Addr).add j = ⟨b, off + j, none⟩ := by unfold Addr.add; split <;> simp_all
theorem inV_one (xs : List Int) : ∀ u ∈ inV xs, u.oneCell' = true := by intro u hu; simp [inV] at hu; obtain ⟨x, _, rfl⟩ := hu; rfl
set_option maxHeartbeats 1600000 in
set_option maxRecDepth 100000 in
theorem law_Parts (pm pv pr : Option Addr) (cm cv cr : Nat) (p : Pc) (q : Option Addr) (cq : Nat) (pl : List Int) (mo pa : Int) (m : Int) (w : World) (hp : RdP w pm pv pr p) (hcv : p.mv.length ≤ cv) (hq : RdI w q pl) (hm : MaxL m w) (hi : ItoaG w) :
    Calls Tryz.prog 4 #[.agg #[.slice pm p.ms.length cm, .slice pv p.mv.length cv, .slice pr p.rs.length cr], .slice q pl.length cq, .int .i64 mo, .int .i64 pa] w (LawPost w) := by
  obtain ⟨w1, e1, HS1, k0, k1, k2, b1⟩ := box3 w (.slice pm p.ms.length cm) (.slice pv p.mv.length cv) (.slice pr p.rs.length cr) 26; have HP := Lib.hid (hp.below b1); have HQ := Lib.hid (hq.below b1); have HM := Lib.hid hm; have HI := Lib.hid hi; have HB := Lib.hid b1; have HP0 := Lib.hid hp; have HQ0 := Lib.hid hq; clear hp hq hm hi b1
  go_enter Tryz.func4, Tryz.ntmps4
  (go_wp2_with fail); refine (c_short pm pv pr cm cv cr p _).mono ?_
  clear e1
  rcases hs : shortB p with _ | _
  · rintro e wn ⟨rfl, bq⟩; replace HB := Lib.hid (HB.out.trans (bq.mono HB.out.size)); clear bq
    (go_wp2_with fail); refine (c_known m _ (HM.out.below HB.out) (HI.out.below HB.out)).mono ?_; rintro e wn ⟨rfl, bq⟩; have HFK := Lib.hid (HB.out.trans (bq.mono HB.out.size)); clear bq; go_wp2; go_ret; exact ⟨rfl, HFK.out⟩
  rintro e wn ⟨rfl, bq⟩; replace HB := Lib.hid (HB.out.trans (bq.mono HB.out.size)); replace HP := Lib.hid (HP.out.below bq); replace HQ := Lib.hid (HQ.out.below bq); have k0 := (bq.cell (lt_of_cellq k0)).trans k0; have k1 := (bq.cell (lt_of_cellq k1)).trans k1; have k2 := (bq.cell (lt_of_cellq k2)).trans k2; clear bq; have HLN := Lib.hid (short_len hs); clear hs
  by_cases h6 : pl.length ≤ 6
  case neg =>
    have h6' : (pl.length : Int) > 6 := by omega
    (go_wp2_with fail); refine (c_known m _ (HM.out.below HB.out) (HI.out.below HB.out)).mono ?_; rintro e wn ⟨rfl, bq⟩; have HFK := Lib.hid (HB.out.trans (bq.mono HB.out.size)); clear bq; go_wp2; go_ret; exact ⟨rfl, HFK.out⟩
  have h6' : decide ((pl.length : Int) > 6) = false := decide_eq_false (by omega)
  (go_wp2_with fail); refine (r_Piece pm pv pr cm cv cr p _ HP.out HLN.out).mono ?_
  rcases h1 : pieceB p with _ | _
  · rintro e wn ⟨rfl, bq⟩; replace HB := Lib.hid (HB.out.trans (bq.mono HB.out.size)); clear bq
    (go_wp2_with fail); refine (c_known m _ (HM.out.below HB.out) (HI.out.below HB.out)).mono ?_; rintro e wn ⟨rfl, bq⟩; have HFK := Lib.hid (HB.out.trans (bq.mono HB.out.size)); clear bq; go_wp2; go_ret; exact ⟨rfl, HFK.out⟩
  rintro e wn ⟨rfl, bq⟩; replace HB := Lib.hid (HB.out.trans (bq.mono HB.out.size)); replace HP := Lib.hid (HP.out.below bq); replace HQ := Lib.hid (HQ.out.below bq); have k0 := (bq.cell (lt_of_cellq k0)).trans k0; have k1 := (bq.cell (lt_of_cellq k1)).trans k1; have k2 := (bq.cell (lt_of_cellq k2)).trans k2; clear bq
  (go_wp2_with fail); refine (r_Plays pm pv pr cm cv cr p q cq pl _ HQ.out (by omega)).mono ?_
  rcases h2 : playsB p pl with _ | _
  · rintro e wn ⟨rfl, bq⟩; replace HB := Lib.hid (HB.out.trans (bq.mono HB.out.size)); clear bq
    (go_wp2_with fail); refine (c_known m _ (HM.out.below HB.out) (HI.out.below HB.out)).mono ?_; rintro e wn ⟨rfl, bq⟩; have HFK := Lib.hid (HB.out.trans (bq.mono HB.out.size)); clear bq; go_wp2; go_ret; exact ⟨rfl, HFK.out⟩
  rintro e wn ⟨rfl, bq⟩; replace HB := Lib.hid (HB.out.trans (bq.mono HB.out.size)); replace HP := Lib.hid (HP.out.below bq); replace HQ := Lib.hid (HQ.out.below bq); have k0 := (bq.cell (lt_of_cellq k0)).trans k0; have k1 := (bq.cell (lt_of_cellq k1)).trans k1; have k2 := (bq.cell (lt_of_cellq k2)).trans k2; clear bq; have HPO := Lib.hid (And.intro (pieceB_iff.1 h1) (playsB_iff.1 h2)); have HLL := Lib.hid (show pl.length ≤ p.ms.length by rw [HPO.out.2.len]; exact Nat.le_refl _)
  (go_wp2_with fail); refine (r_Within pm pv pr cm cv cr p q cq pl _ HP.out.ms HQ.out HLL.out HLN.out.ms).mono ?_
  rcases h3 : withinB p pl with _ | _
  · rintro e wn ⟨rfl, bq⟩; replace HB := Lib.hid (HB.out.trans (bq.mono HB.out.size)); clear bq
    (go_wp2_with fail); refine (c_known m _ (HM.out.below HB.out) (HI.out.below HB.out)).mono ?_; rintro e wn ⟨rfl, bq⟩; have HFK := Lib.hid (HB.out.trans (bq.mono HB.out.size)); clear bq; go_wp2; go_ret; exact ⟨rfl, HFK.out⟩
  rintro e wn ⟨rfl, bq⟩; replace HB := Lib.hid (HB.out.trans (bq.mono HB.out.size)); replace HP := Lib.hid (HP.out.below bq); replace HQ := Lib.hid (HQ.out.below bq); have k0 := (bq.cell (lt_of_cellq k0)).trans k0; have k1 := (bq.cell (lt_of_cellq k1)).trans k1; have k2 := (bq.cell (lt_of_cellq k2)).trans k2; clear bq; have HOK := Lib.hid (show (pieceB p && playsB p pl && withinB p pl) = true by rw [h1, h2, h3]; rfl); have hm8 := (piece_len HPO.out.1).2.1; clear h1 h2 h3
  by_cases h7 : p.mv.length < 8
  case neg =>
    have h7' : decide ((p.mv.length : Int) ≥ 8) = true := decide_eq_true (by omega); have h7b : (8 : Int) ≤ (p.mv.length : Int) := by omega
    (go_wp2_with fail); refine (c_known m _ (HM.out.below HB.out) (HI.out.below HB.out)).mono ?_; rintro e wn ⟨rfl, bq⟩; have HFK := Lib.hid (HB.out.trans (bq.mono HB.out.size)); clear bq; go_wp2; go_ret; exact ⟨rfl, HFK.out⟩
  have h7' : decide ((p.mv.length : Int) ≥ 8) = false := decide_eq_false (by omega)
  by_cases hm0 : mo < 0
  · (go_wp2_with fail); refine (c_known m _ (HM.out.below HB.out) (HI.out.below HB.out)).mono ?_; rintro e wn ⟨rfl, bq⟩; have HFK := Lib.hid (HB.out.trans (bq.mono HB.out.size)); clear bq; go_wp2; go_ret; exact ⟨rfl, HFK.out⟩
  have hm0' : decide (mo < 0) = false := decide_eq_false hm0
  by_cases hml : mo ≥ (p.mv.length : Int)
  · (go_wp2_with fail); refine (c_known m _ (HM.out.below HB.out) (HI.out.below HB.out)).mono ?_; rintro e wn ⟨rfl, bq⟩; have HFK := Lib.hid (HB.out.trans (bq.mono HB.out.size)); clear bq; go_wp2; go_ret; exact ⟨rfl, HFK.out⟩
  have hml' : decide (mo ≥ (p.mv.length : Int)) = false := decide_eq_false hml; obtain ⟨k, rfl⟩ : ∃ k : Nat, mo = (k : Int) := ⟨mo.toNat, by omega⟩; have hk : k < p.mv.length := by omega
  obtain ⟨b, off, rfl, hc⟩ := HP.out.mv.at hk; have y0 := hc k hk; have HKL := Lib.hid hk; have HBY := Lib.hid (HPO.out.1.move k hk); obtain ⟨by', hby⟩ : ∃ y, gi p.mv k = y := ⟨_, rfl⟩; have HGY := Lib.hid hby
  have hby1 := HBY.out; rw [hby] at y0 hby1; have HC := Lib.hid hc; clear hc hby
  by_cases ha1 : pa < min 0 by'
  · have ha1' : decide (pa < min 0 by') = true := decide_eq_true ha1
    (go_wp2_with fail); refine (c_known m _ (HM.out.below HB.out) (HI.out.below HB.out)).mono ?_; rintro e wn ⟨rfl, bq⟩; have HFK := Lib.hid (HB.out.trans (bq.mono HB.out.size)); clear bq; go_wp2; go_ret; exact ⟨rfl, HFK.out⟩
  have ha1' : decide (pa < min 0 by') = false := decide_eq_false ha1
  by_cases ha2 : pa > max 0 by'
  · have ha2' : decide (pa > max 0 by') = true := decide_eq_true ha2
    (go_wp2_with fail); refine (c_known m _ (HM.out.below HB.out) (HI.out.below HB.out)).mono ?_; rintro e wn ⟨rfl, bq⟩; have HFK := Lib.hid (HB.out.trans (bq.mono HB.out.size)); clear bq; go_wp2; go_ret; exact ⟨rfl, HFK.out⟩
  have ha2' : decide (pa > max 0 by') = false := decide_eq_false ha2; have HPA := Lib.hid (show Parts (gi p.mv k) pa from by rw [HGY.out]; unfold Parts; omega); have HCV := Lib.hid hcv; clear hcv; go_upto_region 6 with (fail); obtain ⟨w2, e2, HS2, x0, x1, x2, b2⟩ := box3 wn (.slice pm p.ms.length cm) (.slice (some ⟨b, off, none⟩) p.mv.length cv) (.slice pr p.rs.length cr) 26; have hx2 : w2.heap[wn.heap.size]? = some (.cells #[.slice pm p.ms.length cm, .slice (some ⟨b, off, none⟩) p.mv.length cv, .slice pr p.rs.length cr] 26) := by rw [← e2]; exact alloc_new wn _
  obtain ⟨w3, e3, c3, f3, hx3, hxk3, HZ3, hxb3⟩ := put3_2 w2 wn.heap.size 26 _ _ _ (.slice none 0 0) hx2; go_upto_region 8 with (fail); have b3 : Below wn.heap.size wn w3 := hxb3 wn wn.heap.size (Nat.le_refl _) b2; replace HB := Lib.hid (HB.out.trans (b3.mono HB.out.size)); replace HP := Lib.hid (HP.out.below b3); replace HQ := Lib.hid (HQ.out.below b3); replace HC := Lib.hid (show ∀ i, i < p.mv.length → w3.cell? ⟨b, off + i, none⟩ = some (.int .i64 (gi p.mv i)) from fun i hi => (b3.cell (lt_of_cellq (HC.out i hi))).trans (HC.out i hi)); have y1 := (b3.cell (lt_of_cellq k1)).trans k1; have y0 := (b3.cell (lt_of_cellq k0)).trans k0; have y2 := (b3.cell (lt_of_cellq k2)).trans k2; have HBW := Lib.hid (show w.heap.size + 1 ≤ wn.heap.size from lt_of_cellq k0); have HBL := Lib.hid (show wn.heap.size < w3.heap.size from block_lt hx3); obtain ⟨B, hB⟩ : ∃ B, wn.heap.size = B := ⟨_, rfl⟩; rw [hB] at hx3 HBW HBL ⊢
  have HX3 := Lib.hid hx3; clear k0 k1 k2 x0 x1 x2 b2 b3 hx2 e2 e3 c3 f3 hxk3 HZ3 hxb3 HS2 hB hx3; refine wp_region_held_drew (S := fun w' => w'.cell? ⟨w.heap.size, 1, none⟩ = some (.slice (some ⟨b, off, none⟩) p.mv.length cv)) (by kernel_rfl) (by (try dsimp only); exact ((Below.refl w3.heap.size w3).drew.cell (lt_of_cellq y1)).trans y1) (fun hHeld => ?_); refine wpAnyH_gen (fun W0 hW0 => ?_); have bd : Below w3.heap.size w3 W0 := by rw [hW0]; exact (Below.refl _ _).drew
  have hS0 := (bd.cell (lt_of_cellq y1)).trans y1; clear hW0 hHeld; have hcv := HCV.out; have hkl := HKL.out; have hl1 : ¬ (k : Int) < 0 := by omega
  have hl2 : (k : Int) ≤ (cv : Int) := by omega
  have hwk : IntKind.i64.wrap ((k : Int) + 1) = (k : Int) + 1 := w64 _ (by omega) (by omega); have hwy : IntKind.i64.wrap (by' - pa) = by' - pa := w64 _ (by omega) (by omega); have hl3 : ¬ (k : Int) + 1 < 0 := by omega
  have hl4 : (k : Int) + 1 ≤ (p.mv.length : Int) := by omega
  have hl5 : (0 : Int) ≤ (k : Int) + 1 := by omega
  obtain ⟨ad, had, hade⟩ : ∃ ad : Addr, (if cv = k + 1 then some (⟨b, off, none⟩ : Addr) else some ⟨b, off + (k + 1), none⟩) = some ad ∧ (k + 1 < p.mv.length → ad = ⟨b, off + (k + 1), none⟩) := by
    by_cases h : cv = k + 1
    · exact ⟨_, by rw [if_pos h], fun h2 => by omega⟩
    · exact ⟨_, by rw [if_neg h], fun _ => rfl⟩
  have HADE := Lib.hid hade; clear hade; refine tk 0 rfl (by exact hS0) ?_; simp only [Act.put, ptL]; refine tk 1 rfl (by exact hS0) ?_; simp only [Act.put, ptL]; refine tk 2 rfl (by exact hS0) ?_; simp only [Act.put, ptL]; refine tk 3 rfl (by exact hS0) ?_; simp only [Act.put, ptL]; refine tk 5 rfl (by exact hS0) ?_; simp only [Act.put, ptL]; refine tk 6 rfl (by exact hS0) ?_; simp only [Act.put, ptL]; refine tk 7 rfl (by exact hS0) ?_; simp only [Act.put, ptL]; refine tk 8 rfl (by exact hS0) ?_; simp only [Act.put, ptL]; refine tk 11 rfl (by exact hS0) ?_; simp only [Act.put, ptL]; refine tk 12 rfl (by exact hS0) ?_; simp only [Act.put, ptL]; refine tk 13 rfl (by exact hS0) ?_; simp only [Act.put, ptL]; refine tk 14 rfl (by exact hS0) ?_; simp only [Act.put, ptL]; refine tk 15 rfl (by exact hS0) ?_; simp only [Act.put, ptL]; obtain ⟨i0, hi0, hz0, hz1, hz2⟩ := info_parts infI; have HIL := Lib.hid (show (inV (p.mv.take k)).length = k * 1 by rw [inV_length, List.length_take]; omega)
  have HTK := Lib.hid (show ∀ j u, (inV (p.mv.take k))[j]? = some u → w3.cell? ((⟨b, off, none⟩ : Addr).add j) = some u from fun j u hj => by
    have hj' : j < k := by have := (List.getElem?_eq_some_iff.1 hj).1; rw [HIL.out] at this; omega
    rw [inV_get _ j (by rw [List.length_take]; omega), gi_take _ _ _ hj'] at hj
    cases hj
    rw [add_off]; exact HC.out j (by omega))
  refine wpAnyH_ready (rs := [4, 9]) (by kernel_rfl) (by simp) ?_; refine AllReadyH.cons rfl ?ordA (AllReadyH.cons rfl ?ordB AllReadyH.nil)
  case' ordA =>
    intro K hK; refine step_append_any _ rfl _ _ 23 rfl w3.heap.size 3 i0 _ 1 8 Tryz.underlying23 hi0 hz0 hz1 hz2 rfl (by decide) (.slice none 0 0) 0 [] rfl (World.ownsRow_nil _ _ _ _) ⟨b, off, none⟩ k cv (inV (p.mv.take k)) rfl HIL.out (fun j u hj => (bd.cell (lt_of_cellq (HTK.out j u hj))).trans (HTK.out j u hj)) (inV_one _) (by unfold maxLen; omega) (by omega) (bd.size) ?_; intro v1 wa hown1 hgrow1 hat1; have ba : Below w3.heap.size w3 wa := bd.grown hgrow1 bd.size (fun j hj => by simp [Value.ownBlock] at hj); refine kz hK (by exact (ba.cell (lt_of_cellq y1)).trans y1) ?_; clear hK K; (try simp only [Act.put, ptL]); refine rz1 9 rfl ?_; intro K hK; go_simp; refine kz hK (by exact ((ba.alloc ba.size _).cell (lt_of_cellq y1)).trans y1) ?_; clear hK K; (try simp only [Act.put, ptL]); have h_1 := hown1.alloc (.cells #[.int .i64 pa, .int .i64 (by' - pa)] 3); have h_2 := ba.alloc ba.size (.cells #[.int .i64 pa, .int .i64 (by' - pa)] 3)
    have h_3 : ∀ j u, ([.int .i64 pa, .int .i64 (by' - pa)] : List Value)[j]? = some u → (wa.alloc (.cells #[.int .i64 pa, .int .i64 (by' - pa)] 3)).cell? ((⟨wa.heap.size, 0, none⟩ : Addr).add j) = some u := news_of wa _ _; have h_4 : w3.heap.size ≤ wa.heap.size := ba.size; obtain ⟨G, hG⟩ : ∃ G, wa.heap.size = G := ⟨_, rfl⟩; obtain ⟨W2, hW2⟩ : ∃ W2, wa.alloc (.cells #[.int .i64 pa, .int .i64 (by' - pa)] 3) = W2 := ⟨_, rfl⟩; rw [hW2] at h_1 h_2 h_3; rw [hG] at h_3 h_4; rw [hW2, hG]; clear hown1 hgrow1 hat1 ba hG hW2 bd hS0
  case' ordB =>
    intro K hK; go_simp; refine kz hK (by exact ((bd.alloc bd.size _).cell (lt_of_cellq y1)).trans y1) ?_; clear hK K; (try simp only [Act.put, ptL]); have bl := bd.alloc bd.size (.cells #[.int .i64 pa, .int .i64 (by' - pa)] 3); have h_4 : w3.heap.size ≤ W0.heap.size := bd.size; have hn0 : ∀ j u, ([.int .i64 pa, .int .i64 (by' - pa)] : List Value)[j]? = some u → (W0.alloc (.cells #[.int .i64 pa, .int .i64 (by' - pa)] 3)).cell? ((⟨W0.heap.size, 0, none⟩ : Addr).add j) = some u := news_of W0 _ _; refine rz1 4 rfl ?_; intro K hK; refine step_append_any _ rfl _ _ 23 rfl w3.heap.size 3 i0 _ 1 8 Tryz.underlying23 hi0 hz0 hz1 hz2 rfl (by decide) (.slice none 0 0) 0 [] rfl (World.ownsRow_nil _ _ _ _) ⟨b, off, none⟩ k cv (inV (p.mv.take k)) rfl HIL.out (fun j u hj => (bl.cell (lt_of_cellq (HTK.out j u hj))).trans (HTK.out j u hj)) (inV_one _) (by unfold maxLen; omega) (by omega) (bl.size) ?_; intro v1 W2 hown1 hgrow1 hat1
    have h_1 := hown1; have h_2 : Below w3.heap.size w3 W2 := bl.grown hgrow1 bl.size (fun j hj => by simp [Value.ownBlock] at hj); have h_3 : ∀ j u, ([.int .i64 pa, .int .i64 (by' - pa)] : List Value)[j]? = some u → W2.cell? ((⟨W0.heap.size, 0, none⟩ : Addr).add j) = some u := fun j u hj => (hgrow1.cell_far _ (lt_of_cellq (hn0 j u hj)) (by simp [Value.ownBlock])).trans (hn0 j u hj)
    refine kz hK (by exact (h_2.cell (lt_of_cellq y1)).trans y1) ?_; clear hK K; (try simp only [Act.put, ptL]); obtain ⟨G, hG⟩ : ∃ G, W0.heap.size = G := ⟨_, rfl⟩; rw [hG] at h_3 h_4; rw [hG]; clear hown1 hgrow1 hat1 bl hG hn0 bd hS0
  all_goals
    rw [Nat.zero_add, List.nil_append] at h_1; refine rz1 10 rfl ?_; intro K hK; refine step_append_any _ rfl _ _ 23 rfl w3.heap.size 3 i0 _ 1 8 Tryz.underlying23 hi0 hz0 hz1 hz2 rfl (by decide) v1 k _ rfl h_1 ⟨G, 0, none⟩ 2 2 [.int .i64 pa, .int .i64 (by' - pa)] rfl rfl h_3 (by intro u hu; simp at hu; rcases hu with rfl | rfl <;> rfl) (by unfold maxLen; omega) (by omega) h_2.size ?_; intro v2 W3 hown2 hgrow2 hat2; have h_5 : Below w3.heap.size w3 W3 := h_2.grown hgrow2 h_2.size (fun j hj => (h_1.lt j hj).1); refine kz hK (by exact (h_5.cell (lt_of_cellq y1)).trans y1) ?_; clear hK K; (try simp only [Act.put, ptL]); have h_6 : (inV (p.mv.drop (k + 1))).length = (p.mv.length - (k + 1)) * 1 := by rw [inV_length, List.length_drop, Nat.mul_one]
    have h_7 : ∀ j u, (inV (p.mv.drop (k + 1)))[j]? = some u → W3.cell? (ad.add j) = some u := fun j u hj => by
      have hj' : j < p.mv.length - (k + 1) := by have := (List.getElem?_eq_some_iff.1 hj).1; rw [h_6] at this; omega
      rw [inV_get _ j (by rw [List.length_drop]; omega), gi_drop] at hj
      cases hj
      have h := HC.out (k + 1 + j) (by omega); rw [HADE.out (by omega), add_off, Nat.add_assoc]; exact (h_5.cell (lt_of_cellq h)).trans h
    refine rz1 16 rfl ?_; intro K hK; refine step_append_any _ rfl _ _ 23 rfl w3.heap.size 3 i0 _ 1 8 Tryz.underlying23 hi0 hz0 hz1 hz2 rfl (by decide) v2 (k + 2) _ rfl hown2 ad (p.mv.length - (k + 1)) (cv - (k + 1)) (inV (p.mv.drop (k + 1))) (by (try dsimp only [Act.eval]); first | (rw [had]; rfl) | rfl) h_6 h_7 (inV_one _) (by unfold maxLen; omega) (by omega) h_5.size ?_; intro v3 W4 hown3 hgrow3 hat3; have h_8 : Below w3.heap.size w3 W4 := h_5.grown hgrow3 h_5.size (fun j hj => (hown2.lt j hj).1); refine kz hK (by exact (h_8.cell (lt_of_cellq y1)).trans y1) ?_; clear hK K; (try simp only [Act.put, ptL]); obtain ⟨g, cg, rfl, hg1, hg2⟩ := hown3.form (by omega); have h_9 := (h_8.block _ HBL.out).trans HX3.out; obtain ⟨W5, e5, c5, f5, hx5, hxk5, HZ5, hxb5⟩ := put3_1 W4 B 26 _ _ _ (.slice (some ⟨g, 0, none⟩) (k + 2 + (p.mv.length - (k + 1))) cg) h_9; refine tk 17 rfl (by exact (h_8.cell (lt_of_cellq y1)).trans y1) ?_
    (try simp only [Act.put, ptL]); refine rz1 18 rfl ?_; intro K hK; (try go_simp); have h_b : Below w.heap.size w W5 := hxb5 w w.heap.size (by have := HBW.out; omega) (HB.out.trans (h_8.mono HB.out.size)); have hne : w.heap.size ≠ B := by have := HBW.out; omega
    have z0 := (World.cell?_of_block (a := ⟨w.heap.size, 0, none⟩) (hxk5 _ hne)).trans ((h_8.cell (lt_of_cellq y0)).trans y0); have z1 := (World.cell?_of_block (a := ⟨w.heap.size, 1, none⟩) (hxk5 _ hne)).trans ((h_8.cell (lt_of_cellq y1)).trans y1); have z2 := (World.cell?_of_block (a := ⟨w.heap.size, 2, none⟩) (hxk5 _ hne)).trans ((h_8.cell (lt_of_cellq y2)).trans y2); refine kz hK (by exact z1) ?_; clear hK K; (try simp only [Act.put, ptL]); obtain ⟨u0, u1, u2⟩ := cells3 hx5; have h_g : g ≠ B := by have := HBL.out; omega
    have h_o := own_same hown3 (w' := W5) (fun g' hg' => by cases hg'; exact hxk5 _ h_g); have h_l : (twoF p.mv k pa).length = k + 2 + (p.mv.length - (k + 1)) := by rw [two_len HKL.out]; omega
    have h_v : inV (p.mv.take k) ++ [.int .i64 pa, .int .i64 (by' - pa)] ++ inV (p.mv.drop (k + 1)) = inV (twoF p.mv k pa) := by unfold twoF inV; rw [HGY.out]; simp
    rw [h_v] at h_o
    have h_i : RdI W5 (some ⟨g, 0, none⟩) (twoF p.mv k pa) := .inr ⟨g, 0, rfl, fun j hj => by
      have h := h_o.cells (g := g) rfl j _ (inV_get _ j hj)
      rwa [add_off] at h⟩
    rw [← h_l] at u1 ⊢; have HLX := Lib.hid h_l; clear h_l; have HX := Lib.hid (show RdP W5 pm (some ⟨g, 0, none⟩) none ⟨p.ms, twoF p.mv k pa, []⟩ from ⟨(HP0.out.below h_b).ms, h_i, .inl rfl⟩); replace HP := Lib.hid (HP0.out.below h_b); replace HQ := Lib.hid (HQ0.out.below h_b); replace HB := Lib.hid h_b; have HOX := Lib.hid (two_ok HOK.out HKL.out h7 HPA.out); clear h_1 h_2 h_3 h_4 h_5 h_6 h_7 h_8 h_9 h_b h_g h_o h_v h_i hne c5 f5 e5 hx5 hxk5 HZ5 hxb5 hown3 hgrow3 hat3 hown2 hgrow2 hat2 hg1 hg2 y0 y1 y2 HTK HIL had HADE HBW HX3 HC; refine wpAnyH_done (by kernel_rfl) ?_ _; go_upto_region 9 with (fail); have HSB := Lib.hid (show ∀ W', Below W5.heap.size W5 W' → (fun w' => (w'.cell? ⟨w.heap.size, 0, none⟩ = some (.slice pm p.ms.length cm) ∧ w'.cell? ⟨w.heap.size, 1, none⟩ = some (.slice (some ⟨b, off, none⟩) p.mv.length cv) ∧ w'.cell? ⟨w.heap.size, 2, none⟩ = some (.slice pr p.rs.length cr)) ∧ w'.cell? ⟨B, 0, none⟩ = some (.slice pm p.ms.length cm) ∧ w'.cell? ⟨B, 1, none⟩ = some (.slice (some ⟨g, 0, none⟩) (twoF p.mv k pa).length cg) ∧ w'.cell? ⟨B, 2, none⟩ = some (.slice none 0 0)) W' from fun W' hb => ⟨⟨(hb.cell (lt_of_cellq z0)).trans z0, (hb.cell (lt_of_cellq z1)).trans z1, (hb.cell (lt_of_cellq z2)).trans z2⟩, (hb.cell (lt_of_cellq u0)).trans u0, (hb.cell (lt_of_cellq u1)).trans u1, (hb.cell (lt_of_cellq u2)).trans u2⟩)
    refine wp_region_held_drew (S := (fun w' => (w'.cell? ⟨w.heap.size, 0, none⟩ = some (.slice pm p.ms.length cm) ∧ w'.cell? ⟨w.heap.size, 1, none⟩ = some (.slice (some ⟨b, off, none⟩) p.mv.length cv) ∧ w'.cell? ⟨w.heap.size, 2, none⟩ = some (.slice pr p.rs.length cr)) ∧ w'.cell? ⟨B, 0, none⟩ = some (.slice pm p.ms.length cm) ∧ w'.cell? ⟨B, 1, none⟩ = some (.slice (some ⟨g, 0, none⟩) (twoF p.mv k pa).length cg) ∧ w'.cell? ⟨B, 2, none⟩ = some (.slice none 0 0))) (by kernel_rfl) (by (try dsimp only); exact HSB.out _ (Below.refl _ _).drew) (fun hHeld => ?_); refine wpAnyH_gen (fun W6 hW6 => ?_); have HB6 : Below W5.heap.size W5 W6 := by rw [hW6]; exact (Below.refl _ _).drew
    clear hW6 hHeld z0 z1 z2 u0 u1 u2; refine tk 0 rfl (by exact HSB.out _ HB6) ?_; simp only [Act.put, ptL]; refine tk 1 rfl (by exact HSB.out _ HB6) ?_; simp only [Act.put, ptL]; refine tk 3 rfl (by exact HSB.out _ HB6) ?_; simp only [Act.put, ptL]; refine tk 4 rfl (by exact HSB.out _ HB6) ?_; simp only [Act.put, ptL]; have HR1 := Lib.hid (c_lrun pm (some ⟨b, off, none⟩) pr cm cv cr p q cq pl W6 (HP.out.below HB6) (HQ.out.below HB6) HOK.out); refine rz1 2 rfl ?_; intro K hK; go_simp; refine HR1.out.mono ?_; rintro e W7 ⟨⟨ga, ca, rfl, hra⟩, ba⟩; have HB7 := HB6.trans (ba.mono HB6.size); refine kz hK (by exact HSB.out _ HB7) ?_; clear hK K; (try simp only [Act.put, ptL]); have HR2 := Lib.hid (show Calls Tryz.prog 20 #[.agg #[.slice pm p.ms.length cm, .slice (some ⟨g, 0, none⟩) (twoF p.mv k pa).length cg, .slice none 0 0], .slice q pl.length cq] W7 (LRunPost ⟨p.ms, twoF p.mv k pa, []⟩ pl W7) from c_lrun pm (some ⟨g, 0, none⟩) none cm cg 0 ⟨p.ms, twoF p.mv k pa, []⟩ q cq pl W7 (HX.out.below HB7) (HQ.out.below HB7) HOX.out)
    refine rz1 5 rfl ?_; intro K hK; go_simp; refine HR2.out.mono ?_; rintro e W8 ⟨⟨gb, cb, rfl, hrb⟩, bb⟩; have HB8 := HB7.trans (bb.mono HB7.size); refine kz hK (by exact HSB.out _ HB8) ?_; clear hK K; (try simp only [Act.put, ptL]); refine tk 6 rfl (by exact HSB.out _ HB8) ?_; simp only [Act.put, ptL]; refine tk 7 rfl (by exact HSB.out _ HB8) ?_; simp only [Act.put, ptL]; refine wpAnyH_done (by kernel_rfl) ?_ _; replace HB := Lib.hid (HB.out.trans (HB8.mono HB.out.size)); have HRA := Lib.hid (hra.below bb); have HRB := Lib.hid (show RdLs W8 (some ⟨gb, 0, none⟩) (allF pl (twoF p.mv k pa) (twoF p.mv k pa).length) from hrb); have HAR := Lib.hid (show ∀ i, i < p.mv.length + 1 → gl (allF pl p.mv p.mv.length) i = runF pl p.mv i ∧ (runF pl p.mv i).length = pl.length + 1 from fun i hi => ⟨allF_at _ _ _ _ (by omega), (runF_chain HPO.out.2.pos _ _).len⟩); have HBR := Lib.hid (show ∀ i, i < p.mv.length + 2 → gl (allF pl (twoF p.mv k pa) (twoF p.mv k pa).length) i = runF pl (twoF p.mv k pa) i ∧ (runF pl (twoF p.mv k pa) i).length = pl.length + 1 from fun i hi => ⟨allF_at _ _ _ _ (by rw [two_len HKL.out]; omega), (runF_chain HPO.out.2.pos _ _).len⟩)
    have HLO := Lib.hid (show ∀ i, i ≤ k → runF pl p.mv i = runF pl (twoF p.mv k pa) i from fun i hi => (two_before HKL.out pa hi).symm); have HHI := Lib.hid (show ∀ i, k < i → runF pl p.mv i = runF pl (twoF p.mv k pa) (i + 1) from fun i hi => (two_after HPO.out.2.pos HKL.out HPA.out i hi).symm); have HAN := Lib.hid (show (allF pl p.mv p.mv.length).length = p.mv.length + 1 from allF_len _ _ _); have HBN := Lib.hid (show (allF pl (twoF p.mv k pa) (twoF p.mv k pa).length).length = p.mv.length + 2 by rw [allF_len, two_len HKL.out]); have h_t : (twoF p.mv k pa).length = p.mv.length + 1 := two_len HKL.out _; have hpl4 : pl.length ≤ 1000 := by have := (piece_len HPO.out.1).1; have := HPO.out.2.len; omega
    clear ba bb hra hrb HB6 HB7 HB8 HR1 HR2 HSB HX HP HQ HOX HCV HLL HLN HLX; obtain ⟨LA, hLA⟩ : ∃ L, allF pl p.mv p.mv.length = L := ⟨_, rfl⟩; obtain ⟨LB, hLB⟩ : ∃ L, allF pl (twoF p.mv k pa) (twoF p.mv k pa).length = L := ⟨_, rfl⟩; rw [hLA] at HRA HAR HAN; rw [hLB] at HRB HBR HBN; rw [h_t]; obtain ⟨n, hn⟩ : ∃ n, p.mv.length = n := ⟨_, rfl⟩; rw [hn] at HAR HBR HAN HBN ⊢; have hn8 : n ≤ 8 := by omega
    clear hLA hLB hn h_t; have hn0 : (((n : Nat) : Int) + 1 == 0) = false := by rw [beq_eq_false_iff_ne]; omega
    have hn1 : (((n : Nat) : Int) + 1 + 1 == 0) = false := by rw [beq_eq_false_iff_ne]; omega
    go_wp2; clear hn0 hn1
    go_loopw [13] (fun i wr => ∃ j : Nat, j ≤ n + 1 ∧ i = .int .i64 j ∧ ∃ d, wr = W8.drewN d) (fun i _ => n + 1 - (intOf i).toNat)
    case atStart => exact ⟨0, Nat.zero_le _, rfl, 0, rfl⟩
    case round =>
      obtain ⟨j, hj, rfl, dd, hwr⟩ := hrel; have HW := Lib.hid hwr
      by_cases hlt : j < n + 1
      · have hki : (j : Int) < (n : Int) + 1 := by omega
        obtain ⟨b1, off1, hb1, hc1⟩ := HRA.out.at (i := j) (by rw [HAN.out]; exact hlt)
        cases hb1
        obtain ⟨a1, c1, e1, r1⟩ := hc1 j (by rw [HAN.out]; exact hlt); rw [(HAR.out j hlt).1, Nat.zero_add] at e1; rw [(HAR.out j hlt).1] at r1; have hl1 := (HAR.out j hlt).2; rw [hl1] at e1; have f1 : wr.cell? ⟨ga, j, none⟩ = some (.slice a1 (pl.length + 1) c1) := by rw [hwr]; exact e1
        by_cases hjk : k < j
        · have hgt : (j : Int) > (k : Int) := by omega
          have hwj : IntKind.i64.wrap ((j : Int) + 1) = (j : Int) + 1 := w64 _ (by omega) (by omega); obtain ⟨b2, off2, hb2, hc2⟩ := HRB.out.at (i := j + 1) (by rw [HBN.out]; omega)
          cases hb2
          obtain ⟨a2, c2, e2, r2⟩ := hc2 (j + 1) (by rw [HBN.out]; omega); rw [(HBR.out (j + 1) (by omega)).1, Nat.zero_add] at e2; rw [(HBR.out (j + 1) (by omega)).1] at r2; have hl2 := (HBR.out (j + 1) (by omega)).2; rw [hl2] at e2; have f2 : wr.cell? ⟨gb, j + 1, none⟩ = some (.slice a2 (pl.length + 1) c2) := by rw [hwr]; exact e2
          have hE := HHI.out j hjk; rw [← hE] at r2
          have H30 := Lib.hid (fun n' => show Calls Tryz.prog 21 #[.slice a1 (pl.length + 1) c1, .slice a2 (pl.length + 1) c2] (wr.drewN n') fun e w' => e = .returned (.bool true) ∧ ∃ n, w' = (wr.drewN n').drewN n by
            rw [hwr]; have h := c_sameN (c := c1) (d := c2) hl1 hl1 (rdI_drew (n := n') (rdI_drew (n := dd) r1)) (rdI_drew (n := n') (rdI_drew (n := dd) r2)) (by omega); rw [decide_eq_true rfl] at h; exact h)
          clear hc1 e1 r1 hl1 hc2 e2 r2 hl2 hE hwr hjk; go_wp2; refine wp_region_quiet_lit (by kernel_rfl) (by kernel_rfl) ?_; (repeat (first | ((with_reducible first | apply wq_ix Tryz.underlying23 szI | apply wq_ix Tryz.underlying34 szSp | apply wq_ix Tryz.underlying22 szM | apply wq_ix Tryz.underlying24 szR | apply wq_ix Tryz.underlying30 szL | apply wq_ix Tryz.underlying94 szT); (focus rfl); (focus rfl); (focus rfl); (focus omega); (try simp only [Nat.mul_one]); go_frame) | ((with_reducible first | apply wq_ld agI | apply wq_ld agB | apply wq_ld agLI | apply wq_ld agLS | apply wq_ld agLM | apply wq_ld agLR | apply wq_ld agLL | apply wq_ld agLT); (focus rfl); (focus rfl); (focus (rintro _ ⟨_, rfl⟩; first | exact f1 | exact f2)); go_frame) | ((with_reducible first | apply wq_add | apply wq_sub | apply wq_mul | apply wq_rem); (focus rfl); (focus rfl); (focus rfl); (focus omega); (focus omega); go_frame) | ((with_reducible first | apply wq_eql | apply wq_neq | apply wq_lss | apply wq_leq | apply wq_gtr | apply wq_geq | apply wq_max2 | apply wq_min2); (focus rfl); (focus rfl); (focus rfl); go_frame) | ((with_reducible first | apply wq_max3 | apply wq_min3); (focus rfl); (focus rfl); (focus rfl); (focus rfl); go_frame) | go_big_quiet_step ((exact Calls.quiet_of (H30.out _))))); refine wpQuiet_nil ?_; rintro _ ⟨nq, rfl⟩
          go_wp2; go_roundw
          case rel => exact ⟨j + 1, by omega, by go_num, by rw [HW.out]; first | exact ⟨_, rfl⟩ | (rw [drew_add]; exact ⟨_, rfl⟩)⟩
          case measure => simp [intOf]; omega
        · have hgt : ¬ (j : Int) > (k : Int) := by omega
          obtain ⟨b2, off2, hb2, hc2⟩ := HRB.out.at (i := j) (by rw [HBN.out]; omega)
          cases hb2
          obtain ⟨a2, c2, e2, r2⟩ := hc2 j (by rw [HBN.out]; omega); rw [(HBR.out j (by omega)).1, Nat.zero_add] at e2; rw [(HBR.out j (by omega)).1] at r2; have hl2 := (HBR.out j (by omega)).2; rw [hl2] at e2; have f2 : wr.cell? ⟨gb, j, none⟩ = some (.slice a2 (pl.length + 1) c2) := by rw [hwr]; exact e2
          have hE := HLO.out j (by omega); rw [← hE] at r2
          have H30 := Lib.hid (fun n' => show Calls Tryz.prog 21 #[.slice a1 (pl.length + 1) c1, .slice a2 (pl.length + 1) c2] (wr.drewN n') fun e w' => e = .returned (.bool true) ∧ ∃ n, w' = (wr.drewN n').drewN n by
            rw [hwr]; have h := c_sameN (c := c1) (d := c2) hl1 hl1 (rdI_drew (n := n') (rdI_drew (n := dd) r1)) (rdI_drew (n := n') (rdI_drew (n := dd) r2)) (by omega); rw [decide_eq_true rfl] at h; exact h)
          clear hc1 e1 r1 hl1 hc2 e2 r2 hl2 hE hwr hjk; go_wp2; refine wp_region_quiet_lit (by kernel_rfl) (by kernel_rfl) ?_; (repeat (first | ((with_reducible first | apply wq_ix Tryz.underlying23 szI | apply wq_ix Tryz.underlying34 szSp | apply wq_ix Tryz.underlying22 szM | apply wq_ix Tryz.underlying24 szR | apply wq_ix Tryz.underlying30 szL | apply wq_ix Tryz.underlying94 szT); (focus rfl); (focus rfl); (focus rfl); (focus omega); (try simp only [Nat.mul_one]); go_frame) | ((with_reducible first | apply wq_ld agI | apply wq_ld agB | apply wq_ld agLI | apply wq_ld agLS | apply wq_ld agLM | apply wq_ld agLR | apply wq_ld agLL | apply wq_ld agLT); (focus rfl); (focus rfl); (focus (rintro _ ⟨_, rfl⟩; first | exact f1 | exact f2)); go_frame) | ((with_reducible first | apply wq_add | apply wq_sub | apply wq_mul | apply wq_rem); (focus rfl); (focus rfl); (focus rfl); (focus omega); (focus omega); go_frame) | ((with_reducible first | apply wq_eql | apply wq_neq | apply wq_lss | apply wq_leq | apply wq_gtr | apply wq_geq | apply wq_max2 | apply wq_min2); (focus rfl); (focus rfl); (focus rfl); go_frame) | ((with_reducible first | apply wq_max3 | apply wq_min3); (focus rfl); (focus rfl); (focus rfl); (focus rfl); go_frame) | go_big_quiet_step ((exact Calls.quiet_of (H30.out _))))); refine wpQuiet_nil ?_; rintro _ ⟨nq, rfl⟩
          go_wp2; go_roundw
          case rel => exact ⟨j + 1, by omega, by go_num, by rw [HW.out]; first | exact ⟨_, rfl⟩ | (rw [drew_add]; exact ⟨_, rfl⟩)⟩
          case measure => simp [intOf]; omega
      · obtain rfl : j = n + 1 := by omega
        have hki : ¬ (((n + 1 : Nat)) : Int) < (n : Int) + 1 := by omega
        replace HB := Lib.hid (show Below w.heap.size w wr by rw [hwr]; exact below_drewN HB.out _); clear hwr
        (go_wp2_with fail); refine (c_known m _ (HM.out.below HB.out) (HI.out.below HB.out)).mono ?_; rintro e wn ⟨rfl, bq⟩; have HFK := Lib.hid (HB.out.trans (bq.mono HB.out.size)); clear bq; go_wp2; go_ret; exact ⟨rfl, HFK.out⟩
end Go.Proofs.YtlednchfifphgaaGreatDoor
end

section
namespace Go.Proofs.YtlednchfifphgaaGreatDoor
open Go Go.ChangeShapes Go.WideShapes Go.ChangeAt Go.RowKit Go.Proofs
set_option linter.unusedVariables false

set_option maxRecDepth 100000 in
theorem slackParts_lifted (os : Os) (started : os.Started) (H : Type) (enc : TypeId × Value → H) :
    ReturnsInHanded {} Tryz.checked os 4 .any (fun w args => (Rows.slackPartsSpec.pre enc Tryz.prog Tryz.f4 [] false w args ∧ laidMetH Tryz.prog lay5 w) ∧ sizedMet enc Tryz.prog Tryz.f4 (OpenSpec.ofChange Rows.slackPartsSpec) false w args)
      (Rows.slackPartsSpec.post enc Tryz.prog Tryz.f4 false true false false) := by
  refine returns_listed (C := Tryz.checked) (X := fun w _ => laidMetH Tryz.prog lay5 w) (fun _ _ _ hh h => h.of_heap hh) ownT started (by kernel_rfl) Tryz.func4
    (ChangeSpec.witness_shaped (enc := enc) (C := Tryz.checked) (os := os) (X := fun w _ => laidMetH Tryz.prog lay5 w) false (World.laidAll Tryz.prog os lay5) #[.agg #[.slice none 0 0, .slice none 0 0, .slice none 0 0], .slice none 0 0, .int .i64 0, .int .i64 0] 12 (World.laidAll_os _ _ _)
      (World.shaped_of_ZipB (by kernel_rfl) (by kernel_rfl)) (by kernel_rfl) (by kernel_rfl) (by kernel_rfl)
      (by rw [MakeChecks.laidMetH_plain _ _ _ (by kernel_rfl)]; exact laidMet_laidAll _ (by kernel_rfl) (by kernel_rfl))) ?_
  intro W base args ds gs before hval0 hW hX hSh; have hval : ∀ (j : Nat) t v, Tryz.f4.params[j]? = some t → args[j]? = some v → Value.okWide Tryz.prog W .any base t v := hval0; have hW' := hW; obtain ⟨p, q, hA0, hV, rfl, _, _⟩ := hW; have hA : DataW.TrodAll enc Tryz.prog W 0 (fun _ => true) true Tryz.f4.params.toList args.toList ds p := hA0; rw [Tryz.params4] at hA hval; obtain ⟨v0, vs0, d0, ds0, p0, q0, hargs, rfl, rfl, h0, r0⟩ := trodAll_cons hA; obtain ⟨v1, vs1, d1, ds1, p1, q1, rfl, rfl, rfl, h1, r1⟩ := trodAll_cons r0; obtain ⟨v2, vs2, d2, ds2, p2, q2, rfl, rfl, rfl, h2, r2⟩ := trodAll_cons r1; obtain ⟨v3, vs3, d3, ds3, p3, q3, rfl, rfl, rfl, h3, r3⟩ := trodAll_cons r2; obtain ⟨rfl, rfl, rfl⟩ := trodAll_nil r3; obtain rfl : args = #[v0, v1, v2, v3] := by cases args; simp_all
  obtain ⟨rfl, rfl⟩ := trodVars_none hV; obtain ⟨pm0, pv0, pr0, cm0, cv0, cr0, p0, rfl, rd0, hc0⟩ := op_pieceC (hval 0 26 v0 rfl rfl) h0; obtain ⟨b1, c1, xs1, rfl, rd1, hl1⟩ := op_ints (hval 1 23 v1 rfl rfl) h1; obtain ⟨a2, rfl, la2, ua2⟩ := op_int (hval 2 3 v2 rfl rfl) h2; obtain ⟨a3, rfl, la3, ua3⟩ := op_int (hval 3 3 v3 rfl rfl) h3; clear hA0 hval0; obtain ⟨m, hm⟩ := maxLen_of hSh; have hit := itoaG_of (pow10_of hX); refine (law_Parts pm0 pv0 pr0 cm0 cv0 cr0 p0 b1 c1 xs1 a2 a3 m W rd0 hc0 rd1 hm hit).mono fun e W' ⟨he, bel⟩ => ?_
  subst he; exact ⟨_, rfl, _, _, _, [], _, [], hW', trodAll_mk1 (shut_bool Tryz.underlying4 _), (trodAll_cons_mk (Below.trod laidOutT (by kernel_rfl) (of_decide_eq_true (by kernel_rfl)) h0 bel (trod_lt h0)) (trodAll_cons_mk (Below.trod laidOutT (by kernel_rfl) (of_decide_eq_true (by kernel_rfl)) h1 bel (trod_lt h1)) (trodAll_cons_mk (Below.trod laidOutT (by kernel_rfl) (of_decide_eq_true (by kernel_rfl)) h2 bel (trod_lt h2)) (trodAll_cons_mk (Below.trod laidOutT (by kernel_rfl) (of_decide_eq_true (by kernel_rfl)) h3 bel (trod_lt h3)) trodAll_mk0)))), rfl, bel.frame _, fun h => by cases h⟩
theorem slackParts_wf : Rows.slackPartsRow.wf (OpenSpec.ofChange Rows.slackPartsSpec) = true := by kernel_rfl
theorem slackParts_inPlace : (Rows.slackPartsRow.inPlace == Tryz.prog.inPlace 4) = true := by kernel_rfl
theorem slackParts_unfollowed : (Rows.slackPartsRow.unfollowed == Tryz.prog.unfollowed 4) = true := by kernel_rfl
theorem slackParts_recurses : (Rows.slackPartsRow.recurses == Tryz.prog.recurses 4) = true := by kernel_rfl
theorem slackParts_named : (Rows.slackPartsRow.named == Tryz.prog.varsNamed 4) = true := by kernel_rfl
theorem slackParts_goes : false = Rows.slackPartsRow.goesBy Tryz.prog := by kernel_rfl
theorem slackParts_func : Tryz.prog.funcNamed Rows.slackPartsRow.func = some 4 := by kernel_rfl
theorem slackParts_text : Rows.slackPartsRow.wfByText (OpenSpec.ofChange Rows.slackPartsSpec) = true := by kernel_rfl
theorem slackParts_closed : joinedFacts Tryz.prog 4 Tryz.f4 Rows.slackPartsSpec Rows.slackPartsRow = true :=
  (and_t (and_t (and_t (and_t (and_t (and_t (and_t (and_t (and_t (and_t (and_t (and_t (and_t (and_t (and_t (and_t (and_t (and_t (and_t (and_t (and_t (and_t (and_t (and_t (and_t (and_t (and_t (and_t (and_t (and_t (and_t slackParts_wf tLaidOut) tMaps) (by kernel_rfl)) (by kernel_rfl)) (by kernel_rfl)) (by kernel_rfl)) (by kernel_rfl)) (by kernel_rfl)) slackParts_inPlace) slackParts_unfollowed) slackParts_recurses) slackParts_named) (by kernel_rfl)) (by kernel_rfl)) (by kernel_rfl)) (by kernel_rfl)) (by kernel_rfl)) (by kernel_rfl)) (by kernel_rfl)) (by kernel_rfl)) (by kernel_rfl)) (by kernel_rfl)) (by kernel_rfl)) tHeard) tMayEnter) (eq_t (α := Bool) tFinal.symm)) (eq_t tMake)) (by kernel_rfl)) (by kernel_rfl)) (by kernel_rfl)) (by kernel_rfl))
theorem slackParts_wrap : Func.isWrapper Tryz.prog Tryz.f4 Rows.slackPartsRow.wrapper Rows.slackPartsRow.mainSum := by unfold Func.isWrapper; rw [if_neg (of_decide_eq_false (by kernel_rfl))]; exact ⟨rfl, rfl⟩
theorem slackParts_row : Rows.SlackPartsSaid :=
  OpenClaim.holds_of_wide 4 Tryz.f4 rfl rfl rfl rfl rfl rfl rfl ⟨rfl, rfl, rfl, rfl, rfl⟩ rfl rfl rfl rfl rfl slackParts_func Tryz.func4 slackParts_closed (of_decide_eq_true (by kernel_rfl)) slackParts_wrap (fun os started H enc _ => slackParts_lifted os started H enc)
theorem slackParts_plain : ∀ (j : Nat) t, Tryz.f4.params[j]? = some t → Tryz.prog.wantsStandIn t = false := fun j t ht => by
  rw [Tryz.params4] at ht; have hm : t ∈ [26, 23, 3, 3] := by simpa using Array.mem_of_getElem? ht
  have hall : ([26, 23, 3, 3].all fun u => !Tryz.prog.wantsStandIn u) = true := by kernel_rfl
  exact (show Tryz.prog.wantsStandIn t = false by simpa using List.all_eq_true.1 hall t hm)
theorem slackParts_holds : Rows.SlackPartsCardSaid :=
  Claim7.holds_tied_plain_at .later [] [.data, .data, .data, .data, .pinned] true (true, "ce0818d0c59e3fa5e3ee8c8a0f2895fb96dd737b57a340924acb54004d6cceea") true slackParts_row (fun _ h => by cases h) slackParts_text (fun _ h => by cases h) slackParts_row_tie rfl ⟨rfl, rfl⟩ tMainIs rfl
    (fun f fn hf hfn => by
      obtain rfl : f = 4 := Option.some.inj (slackParts_func.symm.trans hf) |>.symm
      obtain rfl : fn = Tryz.f4 := (Option.some.inj (Tryz.func4.symm.trans hfn)).symm; exact ⟨tLooks, slackParts_plain⟩)
    slackParts_goes
#print axioms slackParts_holds
end Go.Proofs.YtlednchfifphgaaGreatDoor
end
